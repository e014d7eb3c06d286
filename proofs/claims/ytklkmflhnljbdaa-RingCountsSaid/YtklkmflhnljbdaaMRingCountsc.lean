/- Own text: merged by wip/tools/pack.py out of what the law RingCounts reaches. -/
import Derived.Test.YtklkmflhnljbdaaMRingCountsb
namespace Go.Proofs.Ytklkmflhnljbdaa.P
open Go.RowKit Go.Proofs.YtklkmflhnljbdaaW.PrintWords Go.Proofs.YtklkmflhnljbdaaW.PrintLast Go.Proofs.YtklkmflhnljbdaaW.PrintMore
attribute [local go_sem] z17 z19 z1m z1n zU zV z18 z1a   -- for this text's walks alone
set_option linter.unusedVariables false
set_option linter.unusedSimpArgs false
mutual
def zq.l0 : Nat → Int → List Bool → List (S37) → List (S37) → Int → Int → Option ((List (S37)) × Int)
 | 0,_,_,_,_,_,_=>none
 | k + 1,x0,x1,x9,x39,x40,x41=>if x41 < x40 then (if 0 ≤ x41 then (if x41 < (x39.length : Int) then (zq.l1 k x0 x1 x9 x41 x39 x40 x41 (x9.length : Int) 0 ((rd_T37 x39 x41).f0) ((rd_T37 x39 x41).f1)) else (none)) else (none)) else (some (x9,0))
def zq.l1 : Nat → Int → List Bool → List (S37) → Int → List (S37) → Int → Int → Int → Int → Int → Int → Option ((List (S37)) × Int)
 | 0,_,_,_,_,_,_,_,_,_,_,_=>none
 | k + 1,x0,x1,x9,x10,x39,x40,x41,x47,x48,x112000,x112001=>if x48 < x47 then (if 0 ≤ x0 then (if 0 ≤ (wrap64 ((shl .i64 x10 x0) + x48)) then (if (wrap64 ((shl .i64 x10 x0) + x48)) < (x1.length : Int) then (if rdOf false x1 (wrap64 ((shl .i64 x10 x0) + x48)) = true then (if 0 ≤ x48 then (if x48 < (x9.length : Int) then ((z1t.f ((rd_T37 x9 x48).f0) ((rd_T37 x9 x48).f1) x112000 x112001).bind fun bt114=>(zq.l1 k x0 x1 (x9.set (x48 : Int).toNat (⟨bt114.1,bt114.2⟩ : S37)) x10 x39 x40 x41 x47 (wrap64 (x48 + 1)) x112000 x112001)) else (none)) else (none)) else (zq.l1 k x0 x1 x9 x10 x39 x40 x41 x47 (wrap64 (x48 + 1)) x112000 x112001)) else (none)) else (none)) else (none)) else (zq.l0 k x0 x1 x9 x39 x40 (wrap64 (x41 + 1)))
end
def zq.f (k : Nat) (a0 : Int) (l1 : List Bool) (l2 : List (S37)) : Option ((List (S37)) × Int):=(z1R.f k a0 l1).bind fun t101=>(if t101 = 0 then ((z1l.f k (l1.length : Int)).bind fun t102=>(if (l2.length : Int) = (wrap64 (t102 - a0)) then ((z14.f k a0 l2).bind fun t103=>(if t103 = true then (if 0 ≤ a0 then (if 0 ≤ (shl .i64 1 a0) then (if (shl .i64 1 a0 : Int).toNat ≤ 17592186044416 then ((zm.f k a0 l2).bind fun t107=>(zq.l0 k a0 l1 (List.replicate (shl .i64 1 a0 : Int).toNat z37) t107 (t107.length : Int) 0)) else (none)) else (none)) else (none)) else (some (([] : List (S37)),5)))) else (some (([] : List (S37)),6)))) else (some (([] : List (S37)),t101)))
theorem zq.z1b : ∀ k,(∀ y0 y1 y2 y3 y4 y5,LeO (zq.l0 k y0 y1 y2 y3 y4 y5) (zq.l0 (k + 1) y0 y1 y2 y3 y4 y5)) ∧ (∀ y0 y1 y2 y3 y4 y5 y6 y7 y8 y9 y10,LeO (zq.l1 k y0 y1 y2 y3 y4 y5 y6 y7 y8 y9 y10) (zq.l1 (k + 1) y0 y1 y2 y3 y4 y5 y6 y7 y8 y9 y10))
 | 0=>⟨fun _ _ _ _ _ _ r h=>by simp [zq.l0] at h,fun _ _ _ _ _ _ _ _ _ _ _ r h=>by simp [zq.l1] at h⟩
 | k + 1=>by
  obtain ⟨ih0,ih1⟩:=zq.z1b k
  refine ⟨?_,?_⟩
  · intro y0 y1 y2 y3 y4 y5
    unfold zq.l0
    repeat' first
    | (with_reducible exact ih0 _ _ _ _ _ _)
    | (with_reducible exact ih1 _ _ _ _ _ _ _ _ _ _ _)
    | (with_reducible exact z1l.mono _ _)
    | (with_reducible exact zm.mono _ _ _)
    | (with_reducible exact z1R.mono _ _ _)
    | (with_reducible exact z14.mono _ _ _)
    | (with_reducible exact LeO.refl _)
    | (with_reducible exact LeO.none _)
    | (with_reducible refine LeO.ite ?_ ?_)
    | (with_reducible refine LeO.bind ?_ (fun _=>?_))
    | exact ih0 _ _ _ _ _ _
    | exact ih1 _ _ _ _ _ _ _ _ _ _ _
    | exact z1l.mono _ _
    | exact zm.mono _ _ _
    | exact z1R.mono _ _ _
    | exact z14.mono _ _ _
    | exact LeO.none _
    | refine LeO.ite ?_ ?_
    | refine LeO.bind ?_ (fun _=>?_)
  · intro y0 y1 y2 y3 y4 y5 y6 y7 y8 y9 y10
    unfold zq.l1
    repeat' first
    | (with_reducible exact ih0 _ _ _ _ _ _)
    | (with_reducible exact ih1 _ _ _ _ _ _ _ _ _ _ _)
    | (with_reducible exact z1l.mono _ _)
    | (with_reducible exact zm.mono _ _ _)
    | (with_reducible exact z1R.mono _ _ _)
    | (with_reducible exact z14.mono _ _ _)
    | (with_reducible exact LeO.refl _)
    | (with_reducible exact LeO.none _)
    | (with_reducible refine LeO.ite ?_ ?_)
    | (with_reducible refine LeO.bind ?_ (fun _=>?_))
    | exact ih0 _ _ _ _ _ _
    | exact ih1 _ _ _ _ _ _ _ _ _ _ _
    | exact z1l.mono _ _
    | exact zm.mono _ _ _
    | exact z1R.mono _ _ _
    | exact z14.mono _ _ _
    | exact LeO.none _
    | refine LeO.ite ?_ ?_
    | refine LeO.bind ?_ (fun _=>?_)
theorem zq.mono : ∀ a0 a1 a2 k,LeO (zq.f k a0 a1 a2) (zq.f (k + 1) a0 a1 a2):=by
 intro a0 a1 a2 k
 obtain ⟨ih0,ih1⟩:=zq.z1b k
 unfold zq.f
 repeat' first
  | (with_reducible exact ih0 _ _ _ _ _ _)
  | (with_reducible exact ih1 _ _ _ _ _ _ _ _ _ _ _)
  | (with_reducible exact z1l.mono _ _)
  | (with_reducible exact zm.mono _ _ _)
  | (with_reducible exact z1R.mono _ _ _)
  | (with_reducible exact z14.mono _ _ _)
  | (with_reducible exact LeO.refl _)
  | (with_reducible exact LeO.none _)
  | (with_reducible refine LeO.ite ?_ ?_)
  | (with_reducible refine LeO.bind ?_ (fun _=>?_))
  | exact ih0 _ _ _ _ _ _
  | exact ih1 _ _ _ _ _ _ _ _ _ _ _
  | exact z1l.mono _ _
  | exact zm.mono _ _ _
  | exact z1R.mono _ _ _
  | exact z14.mono _ _ _
  | exact LeO.none _
  | refine LeO.ite ?_ ?_
  | refine LeO.bind ?_ (fun _=>?_)
def zq.T16 : Bool × List (List Nat × List Nat):=(true,[([],[]),([],[]),([],[]),([],[]),([2,3],[2,3]),([4],[4]),([],[]),([5,6],[5,6]),([0,1,0,1,2,3,4,5,6,7],[0,1]),([8,7,7,0,1,2,3,4,5,6,7],[7,8])])
def zq.B16 : List Nat:=[0,0,0,0,12,28,0,124,255,511]
theorem zq.tab16 : rtab .any (opsOf Try.f16 16) = zq.T16:=by kernel_rfl
theorem zq.bits16 : waitsOk zq.T16.2 zq.B16 = true:=by kernel_rfl
set_option maxHeartbeats 8000000 in
set_option maxRecDepth 100000 in
theorem zq.calls (k : Nat) (a0 : Int) (A1 : Option Addr) (c1 : Nat) (l1 : List Bool) (A2 : Option Addr) (c2 : Nat) (l2 : List (S37)) (r1 : List (S37)) (r2 : Int) (w : World) (hr1 : Kd.C Kd.bool w A1 l1.length l1) (hc1 : l1.length ≤ c1) (hr2 : Kd.C k37 w A2 l2.length l2) (hc2 : l2.length ≤ c2) (h : zq.f k a0 l1 l2 = some (r1,r2)) :
 Calls Try.prog 16 #[.int .i64 a0,.slice A1 l1.length c1,.slice A2 l2.length c2] w fun e w'=>∃ v0_ : Value,e = .returned (.tuple #[v0_,.int .i64 r2]) ∧ Kd.R k37 37 w' w.heap.size (fun _=>True) v0_ r1 ∧ Below w.heap.size w w':=by
 have hu37:=Try.underlying37
 have HR1:=z4.mk hr1
 have HC1:=z4.mk hc1
 clear hr1 hc1
 have HR2:=z4.mk hr2
 have HC2:=z4.mk hc2
 clear hr2 hc2
 have HB:=z4.mk (Below.refl w.heap.size w)
 have H : ((z1R.f k a0 l1).bind fun t101=>(if t101 = 0 then ((z1l.f k (l1.length : Int)).bind fun t102=>(if (l2.length : Int) = (wrap64 (t102 - a0)) then ((z14.f k a0 l2).bind fun t103=>(if t103 = true then (if 0 ≤ a0 then (if 0 ≤ (shl .i64 1 a0) then (if (shl .i64 1 a0 : Int).toNat ≤ 17592186044416 then ((zm.f k a0 l2).bind fun t107=>(zq.l0 k a0 l1 (List.replicate (shl .i64 1 a0 : Int).toNat z37) t107 (t107.length : Int) 0)) else (none)) else (none)) else (none)) else (some (([] : List (S37)),5)))) else (some (([] : List (S37)),6)))) else (some (([] : List (S37)),t101)))) = some (r1,r2):=h
 clear h
 replace H:=Option.bind_eq_some_iff.mp H
 obtain ⟨t101,A40,H⟩:=H
 replace H : (if t101 = 0 then ((z1l.f k (l1.length : Int)).bind fun t102=>(if (l2.length : Int) = (wrap64 (t102 - a0)) then ((z14.f k a0 l2).bind fun t103=>(if t103 = true then (if 0 ≤ a0 then (if 0 ≤ (shl .i64 1 a0) then (if (shl .i64 1 a0 : Int).toNat ≤ 17592186044416 then ((zm.f k a0 l2).bind fun t107=>(zq.l0 k a0 l1 (List.replicate (shl .i64 1 a0 : Int).toNat z37) t107 (t107.length : Int) 0)) else (none)) else (none)) else (none)) else (some (([] : List (S37)),5)))) else (some (([] : List (S37)),6)))) else (some (([] : List (S37)),t101))) = some (r1,r2):=H
 have A4:=z4.mk A40
 clear A40
 by_cases c5 : t101 = 0
 rotate_left
 · rw [if_neg c5] at H
   have c5b0 : (t101 == 0) = false:=beq_eq_false_iff_ne.mpr c5
   have c5b1 : (t101 != 0) = true:=bne_iff_ne.mpr c5
   simp only [Option.some.injEq,Prod.mk.injEq] at H
   obtain ⟨rfl,rfl⟩:=H
   go_enter Try.func16,Try.ntmps16
   go_wp2_with (first|((with_reducible refine zl (f:=56) rfl ?_);refine goesL_ (some 15) rfl rfl Try.func56 zz84 rfl #[.int .i64 a0,.slice A1 l1.length c1] rfl zz44 ?_;(with_reducible refine (z1R.calls k a0 _ _ l1 t101 _ ?side1 ?side2 A4.out).mono ?_);(case side1=>repeat (first|exact HR1.out|(with_reducible refine Kd.zQ ?_ _)|(with_reducible refine Kd.zR ?_ _)|(with_reducible refine Kd.z1c ?_)));(case side2=>exact HC1.out);rintro e w' ⟨rfl,⟨nd,rfl⟩⟩;refine ⟨_,rfl,?_⟩))
   go_ret2
   exact ⟨_,by first|rfl|(simp [zi,zj] <;> rfl)|(simp [*,zi,zj] <;> rfl),by first|exact Kd.z3e _ _ _ _ _|exact Kd.z3N _ _ _ _ _|exact Kd.z3Q _ _ _ _ _|exact Kd.z3O _ _ _ _ _|exact Kd.z3P _ _ _ _ _,by repeat (first|(with_reducible first|exact HB.out|apply zg|apply z6|apply zc)|exact HB.out)⟩
 rw [if_pos c5] at H
 have c5b0 : (t101 == 0) = true:=beq_iff_eq.mpr c5
 have c5b1 : (t101 != 0) = false:=bne_eq_false_iff_eq.mpr c5
 clear c5
 replace H:=Option.bind_eq_some_iff.mp H
 obtain ⟨t102,A60,H⟩:=H
 replace H : (if (l2.length : Int) = (wrap64 (t102 - a0)) then ((z14.f k a0 l2).bind fun t103=>(if t103 = true then (if 0 ≤ a0 then (if 0 ≤ (shl .i64 1 a0) then (if (shl .i64 1 a0 : Int).toNat ≤ 17592186044416 then ((zm.f k a0 l2).bind fun t107=>(zq.l0 k a0 l1 (List.replicate (shl .i64 1 a0 : Int).toNat z37) t107 (t107.length : Int) 0)) else (none)) else (none)) else (none)) else (some (([] : List (S37)),5)))) else (some (([] : List (S37)),6))) = some (r1,r2):=H
 have A6:=z4.mk A60
 clear A60
 by_cases c7 : (l2.length : Int) = (wrap64 (t102 - a0))
 rotate_left
 · rw [if_neg c7] at H
   have c7b0 : ((l2.length : Int) == (wrap64 (t102 - a0))) = false:=beq_eq_false_iff_ne.mpr c7
   have c7b1 : ((l2.length : Int) != (wrap64 (t102 - a0))) = true:=bne_iff_ne.mpr c7
   simp only [Option.some.injEq,Prod.mk.injEq] at H
   obtain ⟨rfl,rfl⟩:=H
   go_enter Try.func16,Try.ntmps16
   go_wp2_with (first|((with_reducible refine zl (f:=56) rfl ?_);refine goesL_ (some 15) rfl rfl Try.func56 zz84 rfl #[.int .i64 a0,.slice A1 l1.length c1] rfl zz44 ?_;(with_reducible refine (z1R.calls k a0 _ _ l1 t101 _ ?side1 ?side2 A4.out).mono ?_);(case side1=>repeat (first|exact HR1.out|(with_reducible refine Kd.zQ ?_ _)|(with_reducible refine Kd.zR ?_ _)|(with_reducible refine Kd.z1c ?_)));(case side2=>exact HC1.out);rintro e w' ⟨rfl,⟨nd,rfl⟩⟩;refine ⟨_,rfl,?_⟩)|((with_reducible refine zl (f:=57) rfl ?_);refine goesL_ (some 25) rfl rfl Try.func57 zz84 rfl #[.int .i64 (l1.length : Int)] rfl zz44 ?_;(with_reducible refine (z1l.calls k (l1.length : Int) t102 _ A6.out).mono ?_);rintro e w' ⟨rfl,⟨nd,rfl⟩⟩;refine ⟨_,rfl,?_⟩))
   go_ret2
   exact ⟨_,by first|rfl|(simp [zi,zj] <;> rfl)|(simp [*,zi,zj] <;> rfl),by first|exact Kd.z3e _ _ _ _ _|exact Kd.z3N _ _ _ _ _|exact Kd.z3Q _ _ _ _ _|exact Kd.z3O _ _ _ _ _|exact Kd.z3P _ _ _ _ _,by repeat (first|(with_reducible first|exact HB.out|apply zg|apply z6|apply zc)|exact HB.out)⟩
 rw [if_pos c7] at H
 have c7b0 : ((l2.length : Int) == (wrap64 (t102 - a0))) = true:=beq_iff_eq.mpr c7
 have c7b1 : ((l2.length : Int) != (wrap64 (t102 - a0))) = false:=bne_eq_false_iff_eq.mpr c7
 clear c7
 replace H:=Option.bind_eq_some_iff.mp H
 obtain ⟨t103,A80,H⟩:=H
 replace H : (if t103 = true then (if 0 ≤ a0 then (if 0 ≤ (shl .i64 1 a0) then (if (shl .i64 1 a0 : Int).toNat ≤ 17592186044416 then ((zm.f k a0 l2).bind fun t107=>(zq.l0 k a0 l1 (List.replicate (shl .i64 1 a0 : Int).toNat z37) t107 (t107.length : Int) 0)) else (none)) else (none)) else (none)) else (some (([] : List (S37)),5))) = some (r1,r2):=H
 have A8:=z4.mk A80
 clear A80
 by_cases c9 : t103 = true
 rotate_left
 · replace c9:=Bool.eq_false_iff.mpr c9
   subst c9
   have H1 : (some (([] : List (S37)),5)) = some (r1,r2):=by rw [if_neg (show ¬ (false = true) by decide)] at H;exact H
   clear H
   have H:=H1
   clear H1
   simp only [Option.some.injEq,Prod.mk.injEq] at H
   obtain ⟨rfl,rfl⟩:=H
   go_enter Try.func16,Try.ntmps16
   go_wp2_with (first|((with_reducible refine zl (f:=56) rfl ?_);refine goesL_ (some 15) rfl rfl Try.func56 zz84 rfl #[.int .i64 a0,.slice A1 l1.length c1] rfl zz44 ?_;(with_reducible refine (z1R.calls k a0 _ _ l1 t101 _ ?side1 ?side2 A4.out).mono ?_);(case side1=>repeat (first|exact HR1.out|(with_reducible refine Kd.zQ ?_ _)|(with_reducible refine Kd.zR ?_ _)|(with_reducible refine Kd.z1c ?_)));(case side2=>exact HC1.out);rintro e w' ⟨rfl,⟨nd,rfl⟩⟩;refine ⟨_,rfl,?_⟩)|((with_reducible refine zl (f:=57) rfl ?_);refine goesL_ (some 25) rfl rfl Try.func57 zz84 rfl #[.int .i64 (l1.length : Int)] rfl zz44 ?_;(with_reducible refine (z1l.calls k (l1.length : Int) t102 _ A6.out).mono ?_);rintro e w' ⟨rfl,⟨nd,rfl⟩⟩;refine ⟨_,rfl,?_⟩)|((with_reducible refine zl (f:=58) rfl ?_);refine goesL_ (some 32) rfl rfl Try.func58 zz84 rfl #[.int .i64 a0,.slice A2 l2.length c2] rfl zz44 ?_;(with_reducible refine (z14.calls k a0 _ _ l2 false _ ?side1 ?side2 A8.out).mono ?_);(case side1=>repeat (first|exact HR2.out|(with_reducible refine Kd.zQ ?_ _)|(with_reducible refine Kd.zR ?_ _)|(with_reducible refine Kd.z1c ?_)));(case side2=>exact HC2.out);rintro e w41 ⟨rfl,hb⟩;refine ⟨_,rfl,?_⟩;have n0_:=z4.mk (z9 zz45 hb);clear HB;have HB:=n0_;clear n0_;(try clear hb);(try clear hb2);(try clear hk);(try clear hi)))
   go_ret2
   exact ⟨_,by first|rfl|(simp [zi,zj] <;> rfl)|(simp [*,zi,zj] <;> rfl),by first|exact Kd.z3e _ _ _ _ _|exact Kd.z3N _ _ _ _ _|exact Kd.z3Q _ _ _ _ _|exact Kd.z3O _ _ _ _ _|exact Kd.z3P _ _ _ _ _,by repeat (first|(with_reducible first|exact HB.out|apply zg|apply z6|apply zc)|exact HB.out)⟩
 subst c9
 have H1 : (if 0 ≤ a0 then (if 0 ≤ (shl .i64 1 a0) then (if (shl .i64 1 a0 : Int).toNat ≤ 17592186044416 then ((zm.f k a0 l2).bind fun t107=>(zq.l0 k a0 l1 (List.replicate (shl .i64 1 a0 : Int).toNat z37) t107 (t107.length : Int) 0)) else (none)) else (none)) else (none)) = some (r1,r2):=by rw [if_pos rfl] at H;exact H
 clear H
 have H:=H1
 clear H1
 by_cases c10 : 0 ≤ a0
 rotate_left
 · rw [if_neg c10] at H
   exact absurd H zz87
 rw [if_pos c10] at H
 have c10b0:=eq_true c10
 have c10b1 : decide (0 ≤ a0) = true:=decide_eq_true c10
 clear c10
 obtain ⟨ji11,hji11⟩ : ∃ j_ : Int,(shl .i64 1 a0) = j_:=⟨_,rfl⟩
 replace H : (if 0 ≤ (ji11) then (if (ji11 : Int).toNat ≤ 17592186044416 then ((zm.f k a0 l2).bind fun t107=>(zq.l0 k a0 l1 (List.replicate (ji11 : Int).toNat z37) t107 (t107.length : Int) 0)) else (none)) else (none)) = some (r1,r2):=by first|(rw [hji11] at H;exact H)|(simp only [hji11] at H ⊢;exact H)
 (try rw [hji11] at A4)
 (try rw [hji11] at A6)
 (try rw [hji11] at A8)
 have hji11_ : (IntKind.i64.wrap (1 * 2 ^ min a0.toNat 64)) = ji11:=hji11
 have hji11z : a0 ≤ 64 → (IntKind.i64.wrap (1 * 2 ^ a0.toNat)) = ji11:=z1L hji11
 have hji11u : (IntKind.i64.wrap (2 ^ min a0.toNat 64)) = ji11:=by have h_:=hji11_;rw [Int.one_mul] at h_;exact h_
 have hji11v : a0 ≤ 64 → (IntKind.i64.wrap (2 ^ a0.toNat)) = ji11:=fun hle_=>by have h_:=hji11z hle_;rw [Int.one_mul] at h_;exact h_
 have hji11y : (wrap64 (1 * 2 ^ min a0.toNat 64)) = ji11:=(zY _).symm.trans hji11_
 have hji11x : a0 ≤ 64 → (wrap64 (1 * 2 ^ a0.toNat)) = ji11:=fun h_=>(zY _).symm.trans (hji11z h_)
 by_cases c12 : 0 ≤ (ji11)
 rotate_left
 · rw [if_neg c12] at H
   exact absurd H zz87
 rw [if_pos c12] at H
 have c12b0:=eq_true c12
 have c12b1 : decide (0 ≤ (ji11)) = true:=decide_eq_true c12
 clear c12
 by_cases c13 : (ji11 : Int).toNat ≤ 17592186044416
 rotate_left
 · rw [if_neg c13] at H
   exact absurd H zz87
 rw [if_pos c13] at H
 have c13b0:=eq_true c13
 have c13b1 : decide ((ji11 : Int).toNat ≤ 17592186044416) = true:=decide_eq_true c13
 clear c13
 obtain ⟨y104,hy104⟩ : ∃ y_ : List (S37),y_ = (List.replicate (ji11 : Int).toNat z37):=⟨_,rfl⟩
 replace H : ((zm.f k a0 l2).bind fun t107=>(zq.l0 k a0 l1 y104 t107 (t107.length : Int) 0)) = some (r1,r2):=by first|(rw [hy104];with_reducible exact H)|(have H2_:=(Option.bind_some _ _).symm.trans H;rw [hy104];with_reducible exact H2_)|(have H2_:=(Option.bind_some _ _).symm.trans H;with_reducible exact H2_)|with_reducible exact H|(rw [hy104];exact H)|exact H
 have Ny104:=z4.mk hy104
 clear hy104
 replace H:=Option.bind_eq_some_iff.mp H
 obtain ⟨t107,A140,H⟩:=H
 replace H : (zq.l0 k a0 l1 y104 t107 (t107.length : Int) 0) = some (r1,r2):=H
 have A14:=z4.mk A140
 clear A140
 have H':=z4.mk H
 clear H
 go_enter Try.func16,Try.ntmps16
 go_wp2_with (first|((with_reducible refine zl (f:=56) rfl ?_);refine goesL_ (some 15) rfl rfl Try.func56 zz84 rfl #[.int .i64 a0,.slice A1 l1.length c1] rfl zz44 ?_;(with_reducible refine (z1R.calls k a0 _ _ l1 t101 _ ?side1 ?side2 A4.out).mono ?_);(case side1=>repeat (first|exact HR1.out|(with_reducible refine Kd.zQ ?_ _)|(with_reducible refine Kd.zR ?_ _)|(with_reducible refine Kd.z1c ?_)));(case side2=>exact HC1.out);rintro e w' ⟨rfl,⟨nd,rfl⟩⟩;refine ⟨_,rfl,?_⟩)|((with_reducible refine zl (f:=57) rfl ?_);refine goesL_ (some 25) rfl rfl Try.func57 zz84 rfl #[.int .i64 (l1.length : Int)] rfl zz44 ?_;(with_reducible refine (z1l.calls k (l1.length : Int) t102 _ A6.out).mono ?_);rintro e w' ⟨rfl,⟨nd,rfl⟩⟩;refine ⟨_,rfl,?_⟩)|((with_reducible refine zl (f:=58) rfl ?_);refine goesL_ (some 32) rfl rfl Try.func58 zz84 rfl #[.int .i64 a0,.slice A2 l2.length c2] rfl zz44 ?_;(with_reducible refine (z14.calls k a0 _ _ l2 true _ ?side1 ?side2 A8.out).mono ?_);(case side1=>repeat (first|exact HR2.out|(with_reducible refine Kd.zQ ?_ _)|(with_reducible refine Kd.zR ?_ _)|(with_reducible refine Kd.z1c ?_)));(case side2=>exact HC2.out);rintro e w15 ⟨rfl,hb⟩;refine ⟨_,rfl,?_⟩;have n0_:=z4.mk (z9 zz45 hb);clear HB;have HB:=n0_;clear n0_;(try clear hb);(try clear hb2);(try clear hk);(try clear hi))|((with_reducible refine zr (N:=36) rfl ?_);refine Kd.z5W k37 _ 37 rfl (N:=36) rfl 23 _ _ rfl ji11 rfl rfl Try.underlying23 (.agg #[(.int .u64 0),(.int .u64 0)]) 16 info37 rfl zz85 zz86 z37 (ok:=fun _=>True) (okp:=fun _=>True) (z1K _ _ _ z37 ) (fun _ hk=>hk) trivial (of_decide_eq_true zz80) (Nat.le_trans (Nat.mul_le_mul_right _ (of_decide_eq_true zz80 : ji11.toNat ≤ 17592186044416)) zz86) (Below.refl _ _) (Nat.le_refl _) ?_;intro v105 w16 ho17 hb hg_ hnew_;clear hg_ hnew_;(first|rw [← Ny104.out] at ho17|(simp only [Int.reduceToNat] at ho17;rw [← Ny104.out] at ho17));have n0_:=z4.mk (Kd.z1e ho17 (ze zz45));have n1_:=z4.mk (z9 zz45 hb);clear HB;have HO106:=n0_;have HB:=n1_;clear n0_ n1_;clear hb ho17)|((with_reducible refine zl (f:=59) rfl ?_);refine goesL_ (some 39) rfl rfl Try.func59 zz84 rfl #[.int .i64 a0,.slice A2 l2.length c2] rfl zz44 ?_;(with_reducible refine (zm.calls k a0 _ _ l2 t107 _ ?side1 ?side2 A14.out).mono ?_);(case side1=>repeat (first|exact (Kd.z1s HR2.out HB.out)|(with_reducible refine Kd.zQ ?_ _)|(with_reducible refine Kd.zR ?_ _)|(with_reducible refine Kd.z1c ?_)));(case side2=>exact HC2.out);rintro e w18 ⟨v108,rfl,ho0,hb⟩;refine ⟨_,rfl,?_⟩;have n0_:=z4.mk (Kd.z1d zz55 (Kd.z1y ho0) hb);have n1_:=z4.mk (Kd.z1e (Kd.z1z ho0 (Kd.R_lt zz55)) (ze zz45));have n2_:=z4.mk (z9 zz45 hb);clear HO106;clear HB;have HO106:=n0_;have HO109:=n1_;have HB:=n2_;clear n0_ n1_ n2_;(try clear hb);(try clear hb2);(try clear hk);(try clear hi);(try clear ho0);obtain ⟨Ao19,co19,eo19⟩:=Kd.z1j HO109.out;subst eo19))
 go_loopg [41] k (fun kq v41 w'=>∃ (x9_1 : List (S37)) (x41_1 : Int),v41 = .int .i64 x41_1 ∧ z4 (zq.l0 kq a0 l1 x9_1 t107 (t107.length : Int) x41_1 = some (r1,r2)) ∧ z4 (kq ≤ k) ∧ z4 (Kd.R k37 37 w' w.heap.size (fun k_=>some k_ ≠ ((.slice Ao19 t107.length co19) : Value).ownBlock) v105 x9_1) ∧ z4 (Kd.R k37 37 w' w.heap.size (fun k_=>some k_ ≠ (v105 : Value).ownBlock) (.slice Ao19 t107.length co19) t107) ∧ z4 (Below w.heap.size w w'))
 case atStart=>exact ⟨(y104),(0),zz81,H',⟨Nat.le_refl _⟩,⟨by (with_reducible repeat (first|apply Kd.zH|apply Kd.zI|apply Kd.zS));exact Kd.z12 HO106.out (fun _ hk=>hk.2)⟩,⟨by (with_reducible repeat (first|apply Kd.zH|apply Kd.zI|apply Kd.zS));exact Kd.z12 HO109.out (fun _ hk=>hk.2)⟩,⟨by repeat (first|(with_reducible first|exact HB.out|apply zg|apply z6|apply zc)|exact HB.out)⟩⟩
 case round =>
  clear H'
  (try clear c1);(try clear c2);(try clear p2);(try clear c5);(try clear c5b0);(try clear c5b1);(try clear p6);(try clear c7);(try clear c7b0);(try clear c7b1);(try clear c9);(try clear c10);(try clear c10b0);(try clear c10b1);(try clear c12);(try clear c12b0);(try clear c12b1);(try clear c13);(try clear c13b0);(try clear c13b1);(try clear c16)
  obtain ⟨x9_1,x41_1,rfl,HA,HK1,HO_9,HO_39,HB⟩:=hrel
  cases gk with
  | zero=>exact absurd HA.out (by simp [zq.l0])
  | succ k1 =>
   have H:=HA.out
   clear HA
   simp only [zq.l0] at H
   by_cases c20 : x41_1 < (t107.length : Int)
   rotate_left
   · rw [if_neg c20] at H
     have c20b0 : decide (x41_1 < (t107.length : Int)) = false:=decide_eq_false c20
     clear c20
     simp only [Option.some.injEq,Prod.mk.injEq] at H
     obtain ⟨rfl,rfl⟩:=H
     go_wp2
     go_ret2
     exact ⟨_,by first|rfl|(simp [zi,zj] <;> rfl)|(simp only [← hji11];first|rfl|(simp [zi,zj] <;> rfl))|(simp [*,zi,zj] <;> rfl),by (with_reducible repeat (first|apply Kd.zH|apply Kd.zI|apply Kd.zS));exact Kd.z12 HO_9.out (fun _ hk=>trivial),by repeat (first|(with_reducible first|exact HB.out|apply zg|apply z6|apply zc)|exact HB.out)⟩
   rw [if_pos c20] at H
   have c20b0 : decide (x41_1 < (t107.length : Int)) = true:=decide_eq_true c20
   clear c20
   by_cases c21 : 0 ≤ x41_1
   rotate_left
   · rw [if_neg c21] at H
     exact absurd H zz87
   rw [if_pos c21] at H
   have c21b0 : decide (0 ≤ x41_1) = true:=decide_eq_true c21
   clear c21
   by_cases c22 : x41_1 < (t107.length : Int)
   rotate_left
   · rw [if_neg c22] at H
     exact absurd H zz87
   rw [if_pos c22] at H
   have c22b0 : decide (x41_1 < (t107.length : Int)) = true:=decide_eq_true c22
   clear c22
   have H':=z4.mk H
   clear H
   have p110 : 0 ≤ (x41_1 : Int):=of_decide_eq_true zz80
   have q110 : x41_1 < (t107.length : Int):=of_decide_eq_true zz80
   obtain ⟨ad110,e110,hx110_0,hx110_1⟩:=z1Y (Kd.zv HO_39.out).2.2 x41_1 p110 q110
   cases e110
   replace p110:=eq_true p110
   replace q110:=eq_true q110
   go_wp2_with (first|((with_reducible refine zr (N:=11) rfl ?_);refine zy ?hg (N:=11) ?hd (cs:=#[.int .u64 0,.int .u64 0]) (t:=37) ?hr ?_;(case hd=>rfl);(case hg=>rfl);(case hr=>first|(go_simp;done)|(go_simp;rfl));intro gb111 hg w23 hbox hb;have n0_:=z4.mk (Kd.zx (Kd.z1r zz67 gb111 (Nat.le_of_eq hg.symm)) hb);have n1_:=z4.mk (Kd.zx (Kd.z1r zz56 gb111 (Nat.le_of_eq hg.symm)) hb);have n2_:=z4.mk (z9 zz45 hb);have n3_:=z4.mk (hbox);have n4_:=z4.mk ((by rw [hg];exact (ze zz45) : w.heap.size ≤ gb111));have n5_:=z4.mk ((by rw [hg];exact (ze zz45) : w.heap.size ≤ gb111));clear HO_9;clear HO_39;clear HB;have HO_9:=n0_;have HO_39:=n1_;have HB:=n2_;have BK111:=n3_;have GW111:=n4_;have GE111:=n5_;clear n0_ n1_ n2_ n3_ n4_ n5_;clear hb hbox hg;have hcz24_0 : w23.cell? ⟨gb111,0,none⟩ = some (.int .u64 0):=(zf BK111.out 0).trans rfl;have hcz24_1 : w23.cell? ⟨gb111,1,none⟩ = some (.int .u64 0):=(zf BK111.out 1).trans rfl;have hfz24_0:=za BK111.out 0;have hfz24_1:=za BK111.out 1;obtain ⟨Ao25,co25,eo25⟩:=Kd.z1j HO_9.out;subst eo25))
   go_loopg [48] k1 (fun kq v48 w'=>∃ (x9_2 : List (S37)) (x48_2 : Int) (x112000_2 : Int) (x112001_2 : Int),v48 = .int .i64 x48_2 ∧ z4 (zq.l1 kq a0 l1 x9_2 x41_1 t107 (t107.length : Int) x41_1 (x9_1.length : Int) x48_2 x112000_2 x112001_2 = some (r1,r2)) ∧ z4 (kq ≤ k1) ∧ z4 (Kd.R k37 37 w' w.heap.size (fun k_=>some k_ ≠ ((.slice (some ad110) t107.length co19) : Value).ownBlock ∧ k_ ≠ gb111) (.slice Ao25 x9_1.length co25) x9_2) ∧ z4 (Kd.R k37 37 w' w.heap.size (fun k_=>some k_ ≠ ((.slice Ao25 x9_1.length co25) : Value).ownBlock ∧ k_ ≠ gb111) (.slice (some ad110) t107.length co19) t107) ∧ z4 (w'.heap[gb111]? = some (.cells #[.int .u64 x112000_2,.int .u64 x112001_2] 37 (0,0))) ∧ z4 (Below w.heap.size w w'))
   case atStart=>exact ⟨(x9_1),(0),((rd_T37 t107 x41_1).f0),((rd_T37 t107 x41_1).f1),zz81,H',⟨Nat.le_refl _⟩,⟨by (with_reducible repeat (first|apply Kd.zH|apply Kd.zI|apply Kd.zS));exact Kd.z12 (Kd.z1O (p:=⟨gb111,1,none⟩) (Kd.z1O (p:=⟨gb111,0,none⟩) (Kd.z12 HO_9.out (fun k_ hk=>(⟨hk,hk.2⟩ : _ ∧ k_ ≠ gb111))) (fun _ hk=>hk.2) (.int .u64 ((rd_T37 t107 x41_1).f0))) (fun _ hk=>hk.2) (.int .u64 ((rd_T37 t107 x41_1).f1))) (fun _ hk=>⟨hk.1.1,hk.1.2⟩)⟩,⟨by (with_reducible repeat (first|apply Kd.zH|apply Kd.zI|apply Kd.zS));exact Kd.z12 (Kd.z1O (p:=⟨gb111,1,none⟩) (Kd.z1O (p:=⟨gb111,0,none⟩) (Kd.z12 HO_39.out (fun k_ hk=>(⟨hk,hk.2⟩ : _ ∧ k_ ≠ gb111))) (fun _ hk=>hk.2) (.int .u64 ((rd_T37 t107 x41_1).f0))) (fun _ hk=>hk.2) (.int .u64 ((rd_T37 t107 x41_1).f1))) (fun _ hk=>⟨hk.1.1,hk.1.2⟩)⟩,⟨by (with_reducible repeat (first|refine z8 ?_ _|refine zb ?_|refine z7 ?_ _));refine zX (cs:=#[.int .u64 ((rd_T37 t107 x41_1).f0),.int .u64 0]) ?_ 1 _ rfl;(with_reducible repeat (first|refine z8 ?_ _|refine zb ?_|refine z7 ?_ _));refine zX (cs:=#[.int .u64 0,.int .u64 0]) ?_ 0 _ rfl;(with_reducible repeat (first|refine z8 ?_ _|refine zb ?_|refine z7 ?_ _));exact BK111.out⟩,⟨by repeat (first|(with_reducible first|exact HB.out|apply zg|apply z6|apply zc|refine zd ?_ GE111.out)|exact HB.out)⟩⟩
   case round =>
    clear H'
    (try clear c1);(try clear p1);(try clear q1);(try clear hx1);(try clear c2);(try clear p2);(try clear c5);(try clear c5b0);(try clear c5b1);(try clear p6);(try clear c7);(try clear c7b0);(try clear c7b1);(try clear c9);(try clear c10);(try clear c10b0);(try clear c10b1);(try clear p11);(try clear q11);(try clear hx11);(try clear c12);(try clear c12b0);(try clear c12b1);(try clear c13);(try clear c13b0);(try clear c13b1);(try clear c16);(try clear c20);(try clear c20b0);(try clear c21);(try clear c21b0);(try clear c22);(try clear c22b0);(try clear hcz24_0);(try clear hcz24_1);(try clear hfz24_0);(try clear hfz24_1);(try clear hx110_0);(try clear hx110_1);(try clear p110);(try clear p2);(try clear p6);(try clear q110)
    obtain ⟨x9_2,x48_2,x112000_2,x112001_2,rfl,HA,HK2,HO_9,HO_39,BK111,HB⟩:=hrel
    have hl9_2:=(Kd.zv HO_9.out).1
    rw [hl9_2] at HO_9
    (try simp only [hl9_2])
    (try simp only [hl9_2] at BK111)
    (try simp only [hl9_2] at HO_39)
    cases gk with
    | zero=>exact absurd HA.out (by simp [zq.l1])
    | succ k2 =>
     have H:=HA.out
     clear HA
     simp only [zq.l1] at H
     by_cases c26 : x48_2 < (x9_1.length : Int)
     rotate_left
     · rw [if_neg c26] at H
       have c26b0 : decide (x48_2 < (x9_1.length : Int)) = false:=decide_eq_false c26
       have c26b9 : decide (x48_2 < (x9_2.length : Int)) = false:=by rw [← hl9_2];exact c26b0
       clear c26
       have H':=z4.mk H
       clear H
       go_wp2
       (try simp only [← hl9_2])
       go_roundg k2
       case measure=>have:=HK1.out;have:=HK2.out;omega
       case rel=>exact ⟨(x9_2),(wrap64 (x41_1 + 1)),zz81,H',⟨by have:=HK1.out;have:=HK2.out;omega⟩,⟨by (try simp only [hl9_2]);(with_reducible repeat (first|apply Kd.zH|apply Kd.zI|apply Kd.zS));exact Kd.z12 HO_9.out (fun _ hk=>hk.1)⟩,⟨by (try simp only [hl9_2]);(with_reducible repeat (first|apply Kd.zH|apply Kd.zI|apply Kd.zS));exact Kd.z12 HO_39.out (fun _ hk=>hk.1)⟩,⟨by repeat (first|(with_reducible first|exact HB.out|apply zg|apply z6|apply zc|refine zd ?_ GE111.out)|exact HB.out)⟩⟩
     rw [if_pos c26] at H
     have c26b0 : decide (x48_2 < (x9_1.length : Int)) = true:=decide_eq_true c26
     have c26b9 : decide (x48_2 < (x9_2.length : Int)) = true:=by rw [← hl9_2];exact c26b0
     clear c26
     by_cases c27 : 0 ≤ a0
     rotate_left
     · rw [if_neg c27] at H
       exact absurd H zz87
     rw [if_pos c27] at H
     have c27b0:=eq_true c27
     have c27b1 : decide (0 ≤ a0) = true:=decide_eq_true c27
     clear c27
     obtain ⟨ji28,hji28⟩ : ∃ j_ : Int,(shl .i64 x41_1 a0) = j_:=⟨_,rfl⟩
     replace H : (if 0 ≤ (wrap64 ((ji28) + x48_2)) then (if (wrap64 ((ji28) + x48_2)) < (l1.length : Int) then (if rdOf false l1 (wrap64 ((ji28) + x48_2)) = true then (if 0 ≤ x48_2 then (if x48_2 < (x9_2.length : Int) then ((z1t.f ((rd_T37 x9_2 x48_2).f0) ((rd_T37 x9_2 x48_2).f1) x112000_2 x112001_2).bind fun bt114=>(zq.l1 k2 a0 l1 (x9_2.set (x48_2 : Int).toNat (⟨bt114.1,bt114.2⟩ : S37)) x41_1 t107 (t107.length : Int) x41_1 (x9_1.length : Int) (wrap64 (x48_2 + 1)) x112000_2 x112001_2)) else (none)) else (none)) else (zq.l1 k2 a0 l1 x9_2 x41_1 t107 (t107.length : Int) x41_1 (x9_1.length : Int) (wrap64 (x48_2 + 1)) x112000_2 x112001_2)) else (none)) else (none)) = some (r1,r2):=by first|(rw [hji28] at H;exact H)|(simp only [hji28] at H ⊢;exact H)
     have hji28_ : (IntKind.i64.wrap (x41_1 * 2 ^ min a0.toNat 64)) = ji28:=hji28
     have hji28z : a0 ≤ 64 → (IntKind.i64.wrap (x41_1 * 2 ^ a0.toNat)) = ji28:=z1L hji28
     have hji28y : (wrap64 (x41_1 * 2 ^ min a0.toNat 64)) = ji28:=(zY _).symm.trans hji28_
     have hji28x : a0 ≤ 64 → (wrap64 (x41_1 * 2 ^ a0.toNat)) = ji28:=fun h_=>(zY _).symm.trans (hji28z h_)
     obtain ⟨ji29,hji29⟩ : ∃ j_ : Int,(wrap64 ((ji28) + x48_2)) = j_:=⟨_,rfl⟩
     replace H : (if 0 ≤ (ji29) then (if (ji29) < (l1.length : Int) then (if rdOf false l1 (ji29) = true then (if 0 ≤ x48_2 then (if x48_2 < (x9_2.length : Int) then ((z1t.f ((rd_T37 x9_2 x48_2).f0) ((rd_T37 x9_2 x48_2).f1) x112000_2 x112001_2).bind fun bt114=>(zq.l1 k2 a0 l1 (x9_2.set (x48_2 : Int).toNat (⟨bt114.1,bt114.2⟩ : S37)) x41_1 t107 (t107.length : Int) x41_1 (x9_1.length : Int) (wrap64 (x48_2 + 1)) x112000_2 x112001_2)) else (none)) else (none)) else (zq.l1 k2 a0 l1 x9_2 x41_1 t107 (t107.length : Int) x41_1 (x9_1.length : Int) (wrap64 (x48_2 + 1)) x112000_2 x112001_2)) else (none)) else (none)) = some (r1,r2):=by first|(rw [hji29] at H;exact H)|(simp only [hji29] at H ⊢;exact H)
     have hji29w : (IntKind.i64.wrap ((ji28) + x48_2)) = ji29:=(zY _).trans hji29
     by_cases c30 : 0 ≤ (ji29)
     rotate_left
     · rw [if_neg c30] at H
       exact absurd H zz87
     rw [if_pos c30] at H
     have c30b0 : decide (0 ≤ (ji29)) = true:=decide_eq_true c30
     clear c30
     by_cases c31 : (ji29) < (l1.length : Int)
     rotate_left
     · rw [if_neg c31] at H
       exact absurd H zz87
     rw [if_pos c31] at H
     have c31b0 : decide ((ji29) < (l1.length : Int)) = true:=decide_eq_true c31
     clear c31
     obtain ⟨bq32,hbq32⟩ : ∃ b_ : Bool,b_ = (rdOf false l1 (ji29)):=⟨_,rfl⟩
     replace H : (if bq32 = true then (if 0 ≤ x48_2 then (if x48_2 < (x9_2.length : Int) then ((z1t.f ((rd_T37 x9_2 x48_2).f0) ((rd_T37 x9_2 x48_2).f1) x112000_2 x112001_2).bind fun bt114=>(zq.l1 k2 a0 l1 (x9_2.set (x48_2 : Int).toNat (⟨bt114.1,bt114.2⟩ : S37)) x41_1 t107 (t107.length : Int) x41_1 (x9_1.length : Int) (wrap64 (x48_2 + 1)) x112000_2 x112001_2)) else (none)) else (none)) else (zq.l1 k2 a0 l1 x9_2 x41_1 t107 (t107.length : Int) x41_1 (x9_1.length : Int) (wrap64 (x48_2 + 1)) x112000_2 x112001_2)) = some (r1,r2):=by rw [← hbq32] at H;exact H
     have Nbq32:=z4.mk hbq32
     clear hbq32
     by_cases c33 : bq32 = true
     rotate_left
     · replace c33:=Bool.eq_false_iff.mpr c33
       subst c33
       have H1 : (zq.l1 k2 a0 l1 x9_2 x41_1 t107 (t107.length : Int) x41_1 (x9_1.length : Int) (wrap64 (x48_2 + 1)) x112000_2 x112001_2) = some (r1,r2):=by rw [if_neg (show ¬ (false = true) by decide)] at H;exact H
       clear H
       have H:=H1
       clear H1
       have H':=z4.mk H
       clear H
       have p112 : 0 ≤ ((ji29) : Int):=of_decide_eq_true zz80
       have q112 : (ji29) < (l1.length : Int):=of_decide_eq_true zz80
       obtain ⟨ad112,e112,hx112_0⟩:=Kd.z3C HR1.out (ji29) p112 q112
       (try rw [← Nbq32.out] at hx112_0)
       cases e112
       replace hx112_0:=(HB.out.cell (World.block_lt_of_cell? w _ hx112_0)).trans hx112_0
       replace p112:=eq_true p112
       replace q112:=eq_true q112
       go_wp2
       (try simp only [← hl9_2])
       go_roundg k2
       case measure=>have:=HK1.out;have:=HK2.out;omega
       case rel=>exact ⟨(x9_2),(wrap64 (x48_2 + 1)),(x112000_2),(x112001_2),zz81,H',⟨by have:=HK1.out;have:=HK2.out;omega⟩,⟨by (try simp only [hl9_2]);(with_reducible repeat (first|apply Kd.zH|apply Kd.zI|apply Kd.zS));exact HO_9.out⟩,⟨by (try simp only [hl9_2]);(with_reducible repeat (first|apply Kd.zH|apply Kd.zI|apply Kd.zS));exact HO_39.out⟩,⟨by (try simp only [hl9_2]);(with_reducible repeat (first|refine z8 ?_ _|refine zb ?_|refine z7 ?_ _));exact BK111.out⟩,⟨by repeat (first|(with_reducible first|exact HB.out|apply zg|apply z6|apply zc|refine zd ?_ GE111.out)|exact HB.out)⟩⟩
     subst c33
     have H1 : (if 0 ≤ x48_2 then (if x48_2 < (x9_2.length : Int) then ((z1t.f ((rd_T37 x9_2 x48_2).f0) ((rd_T37 x9_2 x48_2).f1) x112000_2 x112001_2).bind fun bt114=>(zq.l1 k2 a0 l1 (x9_2.set (x48_2 : Int).toNat (⟨bt114.1,bt114.2⟩ : S37)) x41_1 t107 (t107.length : Int) x41_1 (x9_1.length : Int) (wrap64 (x48_2 + 1)) x112000_2 x112001_2)) else (none)) else (none)) = some (r1,r2):=by rw [if_pos rfl] at H;exact H
     clear H
     have H:=H1
     clear H1
     by_cases c34 : 0 ≤ x48_2
     rotate_left
     · rw [if_neg c34] at H
       exact absurd H zz87
     rw [if_pos c34] at H
     have c34b0 : decide (0 ≤ x48_2) = true:=decide_eq_true c34
     clear c34
     by_cases c35 : x48_2 < (x9_2.length : Int)
     rotate_left
     · rw [if_neg c35] at H
       exact absurd H zz87
     rw [if_pos c35] at H
     have c35b0 : decide (x48_2 < (x9_2.length : Int)) = true:=decide_eq_true c35
     clear c35
     replace H:=Option.bind_eq_some_iff.mp H
     obtain ⟨⟨t114,t115⟩,A360,H⟩:=H
     replace H : (zq.l1 k2 a0 l1 (x9_2.set (x48_2 : Int).toNat (⟨t114,t115⟩ : S37)) x41_1 t107 (t107.length : Int) x41_1 (x9_1.length : Int) (wrap64 (x48_2 + 1)) x112000_2 x112001_2) = some (r1,r2):=H
     have A36:=z4.mk A360
     clear A360
     obtain ⟨y116,hy116⟩ : ∃ y_ : List (S37),y_ = (x9_2.set (x48_2 : Int).toNat (⟨t114,t115⟩ : S37)):=⟨_,rfl⟩
     replace H : (zq.l1 k2 a0 l1 y116 x41_1 t107 (t107.length : Int) x41_1 (x9_1.length : Int) (wrap64 (x48_2 + 1)) x112000_2 x112001_2) = some (r1,r2):=by first|(rw [hy116];with_reducible exact H)|(have H2_:=(Option.bind_some _ _).symm.trans H;rw [hy116];with_reducible exact H2_)|(have H2_:=(Option.bind_some _ _).symm.trans H;with_reducible exact H2_)|with_reducible exact H|(rw [hy116];exact H)|exact H
     have Ny116:=z4.mk hy116
     clear hy116
     have H':=z4.mk H
     clear H
     have p112 : 0 ≤ ((ji29) : Int):=of_decide_eq_true zz80
     have q112 : (ji29) < (l1.length : Int):=of_decide_eq_true zz80
     obtain ⟨ad112,e112,hx112_0⟩:=Kd.z3C HR1.out (ji29) p112 q112
     (try rw [← Nbq32.out] at hx112_0)
     cases e112
     replace hx112_0:=(HB.out.cell (World.block_lt_of_cell? w _ hx112_0)).trans hx112_0
     replace p112:=eq_true p112
     replace q112:=eq_true q112
     try go_wp2
     have n0_:=z4.mk (Kd.zS HO_9.out)
     have n1_:=z4.mk (Kd.zS HO_39.out)
     have n2_:=z4.mk (zb BK111.out)
     have n3_:=z4.mk (zc HB.out)
     clear HO_9
     clear HO_39
     clear BK111
     clear HB
     have HO_9:=n0_
     have HO_39:=n1_
     have BK111:=n2_
     have HB:=n3_
     clear n0_ n1_ n2_ n3_
     have p113 : 0 ≤ (x48_2 : Int):=of_decide_eq_true zz80
     have q113 : x48_2 < (x9_2.length : Int):=of_decide_eq_true zz80
     obtain ⟨ad113,e113,hx113_0,hx113_1⟩:=z1Y (Kd.zv HO_9.out).2.2 x48_2 p113 q113
     cases e113
     replace p113:=eq_true p113
     replace q113:=eq_true q113
     refine start_ (n:=10) (S:=fun w'=>w'.cell? ⟨gb111,0,none⟩ = some (.int .u64 x112000_2) ∧ w'.cell? ⟨gb111,1,none⟩ = some (.int .u64 x112001_2) ∧ w'.cell? (ad113.add ((x48_2).toNat * 2)) = some (.int .u64 ((rd_T37 x9_2 x48_2).f0)) ∧ w'.cell? ⟨(ad113.add ((x48_2).toNat * 2)).block,(ad113.add ((x48_2).toNat * 2)).off + 1,none⟩ = some (.int .u64 ((rd_T37 x9_2 x48_2).f1))) (ds:=[9]) #[false,false,false,false,false,false,false,false,false,false] zz84 rfl rfl ⟨(zf BK111.out 0).trans rfl,(zf BK111.out 1).trans rfl,hx113_0,hx113_1⟩ (fun hHeld=>?_);refine z2e zq.tab16 zq.bits16 (fun HT_ HW_=>?_)
     generalize wr.drew = w38 at HO_9 HO_39 BK111 HB hx113_0 hx113_1 hHeld ⊢
     refine pure_ (i:=0) (N:=some 59) (v:=?_) (a':=?_) #[true,false,false,false,false,false,false,false,false,false] rfl rfl (z1v HT_.out zz84) (fun _ _ _ h=>h) (Or.inl ⟨by rfl,?_⟩) ?_ ?_
     rotate_left
     · intro w'
       go_simp
       with_reducible rfl
     rotate_left
     · simp only [Act.put,List.setIfInBounds_toArray,List.set_cons_zero,List.set_cons_succ,zY,z16]
       rfl
     refine pure_ (i:=1) (N:=some 60) (v:=?_) (a':=?_) #[true,true,false,false,false,false,false,false,false,false] rfl rfl (z1v HT_.out zz84) (fun _ _ _ h=>h) (Or.inl ⟨by rfl,?_⟩) ?_ ?_
     rotate_left
     · intro w'
       go_simp
       with_reducible rfl
     rotate_left
     · simp only [Act.put,List.setIfInBounds_toArray,List.set_cons_zero,List.set_cons_succ,zY,z16]
       rfl
     refine pure_ (i:=2) (N:=some 61) (v:=?_) (a':=?_) #[true,true,true,false,false,false,false,false,false,false] rfl rfl (z1v HT_.out zz84) (fun _ _ _ h=>h) (Or.inl ⟨by rfl,?_⟩) ?_ ?_
     rotate_left
     · intro w'
       go_simp
       with_reducible rfl
     rotate_left
     · simp only [Act.put,List.setIfInBounds_toArray,List.set_cons_zero,List.set_cons_succ,zY,z16]
       rfl
     refine pure_ (i:=3) (N:=some 62) (v:=?_) (a':=?_) #[true,true,true,true,false,false,false,false,false,false] rfl rfl (z1v HT_.out zz84) (fun _ _ _ h=>h) (Or.inl ⟨by rfl,?_⟩) ?_ ?_
     rotate_left
     · intro w'
       go_simp
       with_reducible rfl
     rotate_left
     · simp only [Act.put,List.setIfInBounds_toArray,List.set_cons_zero,List.set_cons_succ,zY,z16]
       rfl
     refine pure_ (i:=4) (N:=some 63) (v:=?_) (a':=?_) #[true,true,true,true,true,false,false,false,false,false] rfl rfl (z1v HT_.out zz84) (fun _ _ _ h=>h) (Or.inl ⟨by rfl,?_⟩) ?_ ?_
     rotate_left
     · intro w'
       go_simp
       with_reducible rfl
     rotate_left
     · simp only [Act.put,List.setIfInBounds_toArray,List.set_cons_zero,List.set_cons_succ,zY,z16]
       rfl
     refine take_ (i:=5) (N:=some 64) (v:=?_) (a':=?_) #[true,true,true,true,true,true,false,false,false,false] rfl rfl (z1S HT_.out HW_.out zz84) (fun _ _ _ h=>h) (Or.inl ⟨by rfl,?_⟩) hHeld ?_ ?_
     rotate_left
     · rintro w' ⟨s0,s1,s2,s3⟩
       go_simp
       with_reducible rfl
     rotate_left
     · simp only [Act.put,List.setIfInBounds_toArray,List.set_cons_zero,List.set_cons_succ,zY,z16]
       rfl
     refine take_ (i:=6) (N:=some 65) (v:=?_) (a':=?_) #[true,true,true,true,true,true,true,false,false,false] rfl rfl (z1S HT_.out HW_.out zz84) (fun _ _ _ h=>h) (Or.inl ⟨by rfl,?_⟩) hHeld ?_ ?_
     rotate_left
     · rintro w' ⟨s0,s1,s2,s3⟩
       go_simp
       with_reducible rfl
     rotate_left
     · simp only [Act.put,List.setIfInBounds_toArray,List.set_cons_zero,List.set_cons_succ,zY,z16]
       rfl
     refine one_ (i:=7) (N:=some 66) #[true,true,true,true,true,true,true,true,false,false] rfl rfl (z20 HT_.out zz84) zz85 (fun K hK=>?_)
     refine goes_ Try.func60 zz84 rfl #[.agg #[.int .u64 ((rd_T37 x9_2 x48_2).f0),.int .u64 ((rd_T37 x9_2 x48_2).f1)],.agg #[.int .u64 x112000_2,.int .u64 x112001_2]] zz88 rfl rfl zz44 ?_
     with_reducible refine (z1t.calls ((rd_T37 x9_2 x48_2).f0) ((rd_T37 x9_2 x48_2).f1) x112000_2 x112001_2 t114 t115 _ A36.out).mono ?_
     rintro e w39 ⟨rfl,hb⟩
     have HS2_:=(hb.cell (World.block_lt_of_cell? _ _ (hHeld.2.2.1))).trans (hHeld.2.2.1)
     have HS3_:=(hb.cell (World.block_lt_of_cell? _ _ (hHeld.2.2.2))).trans (hHeld.2.2.2)
     refine ⟨_,rfl,?_⟩
     have n0_:=z4.mk (Kd.zx zz67 hb)
     have n1_:=z4.mk (Kd.zx zz56 hb)
     have n2_:=z4.mk (zh (g:=gb111) (o:=.cells #[.int .u64 x112000_2,.int .u64 x112001_2] 37 (0,0)) (by (with_reducible repeat (first|refine z8 ?_ _|refine zb ?_|refine z7 ?_ _));exact BK111.out) hb)
     have n3_:=z4.mk (z9 (by repeat (first|(with_reducible first|exact HB.out|apply zg|apply z6|apply zc|refine zd ?_ GE111.out)|exact HB.out)) hb)
     clear HO_9
     clear HO_39
     clear BK111
     clear HB
     have HO_9:=n0_
     have HO_39:=n1_
     have BK111:=n2_
     have HB:=n3_
     clear n0_ n1_ n2_ n3_
     (try clear hb)
     (try clear hb2)
     (try clear hk)
     (try clear hi)
     have p37 : 0 ≤ (x48_2 : Int):=of_decide_eq_true zz80
     have q37 : (x48_2 : Int) < ((x9_2.length : Int) : Int):=of_decide_eq_true zz80
     obtain ⟨go37,co37,eo37,gb37,gl37,cl37,HG37⟩:=Kd.z4F HO_9.out zz86
     (first|cases eo37|(injection eo37 with ea_ en_ ec_;(first|subst ea_|(injection ea_ with ea_;subst ea_));subst ec_;clear en_))
     have GB37:=z4.mk gb37
     have GG37:=z4.mk HG37
     clear gb37 gl37 HG37
     (first|simp only [z26] at hx113_0|skip)
     (first|simp only [z26] at hx113_1|skip)
     obtain ⟨ce37,hcl37,hM37,hcc37,hfr37⟩:=Kd.z2U HO_9.out z37 (x48_2 : Int) p37 q37
     obtain rfl:=z22 hM37
     have hx37_0 : World.cell? _ ⟨go37,(x48_2 : Int).toNat * 2,none⟩ = some (.int .u64 ((rd_T37 x9_2 x48_2).f0)):=hcc37 0 _ rfl
     have hx37_1 : World.cell? _ ⟨go37,(x48_2 : Int).toNat * 2 + 1,none⟩ = some (.int .u64 ((rd_T37 x9_2 x48_2).f1)):=hcc37 1 _ rfl
     have hf37_0 : World.frozen? _ ⟨go37,(x48_2 : Int).toNat * 2,none⟩ = false:=hfr37 0
     have hf37_1 : World.frozen? _ ⟨go37,(x48_2 : Int).toNat * 2 + 1,none⟩ = false:=hfr37 1
     clear hcl37 hcc37 hfr37 hM37
     replace p37:=eq_true p37
     replace q37:=eq_true q37
     obtain ⟨ce40,hcl40,hM40,hcc40,hfr40⟩:=Kd.z2U HO_9.out z37 (x48_2 : Int) (of_decide_eq_true zz80) (by have h_ : (x48_2 : Int) < ((x9_2.length : Int) : Int):=of_decide_eq_true zz80;first|exact h_|(have e_:=(Kd.zv HO_9.out).1;omega)|simpa using h_)
     obtain rfl:=z22 hM40
     have HP40:=(Kd.z6r HO_9.out (x48_2 : Int) (of_decide_eq_true zz80) (by have h_ : (x48_2 : Int) < ((x9_2.length : Int) : Int):=of_decide_eq_true zz80;first|exact h_|(have e_:=(Kd.zv HO_9.out).1;omega)|simpa using h_) (seg:=[.int .u64 t114,.int .u64 t115]) (j:=0) hcl40 hcc40 (show 2 ≤ 2 from by decide) (x':=(⟨t114,t115⟩ : S37)) (z1K _ _ _ (⟨t114,t115⟩ : S37) ) (fun _ hk=>hk)).1
     rw [← Ny116.out] at HP40
     have HQ40:=z4.mk HP40
     clear hcl40 hcc40 hfr40 hM40 HP40
     refine hK.out _ _ ⟨(zf BK111.out 0).trans rfl,(zf BK111.out 1).trans rfl,HS2_,HS3_⟩ (fun hHeld=>?_)
     clear hK K
     refine norm_ (a':=?_) ?_ ?_
     rotate_left
     · show Act.put _ (some 66) _ = _
       simp only [Act.put,List.setIfInBounds_toArray,List.set_cons_zero,List.set_cons_succ,zY,z16]
       rfl
     refine pure_ (i:=8) (N:=some 67) (v:=?_) (a':=?_) #[true,true,true,true,true,true,true,true,true,false] rfl rfl (z1v HT_.out zz84) (fun _ _ _ h=>h) (Or.inl ⟨by rfl,?_⟩) ?_ ?_
     rotate_left
     · intro w'
       go_simp
       with_reducible rfl
     rotate_left
     · simp only [Act.put,List.setIfInBounds_toArray,List.set_cons_zero,List.set_cons_succ,zY,z16]
       rfl
     refine last_ (i:=9) (N:=none) #[true,true,true,true,true,true,true,true,true,true] rfl rfl (z20 HT_.out zz84) zz85 (fun K hK=>?_)
     refine skip_ (w1:=?_) zz88 rfl ?_ ?_
     rotate_left
     · go_simp
       rfl
     refine hK.out _ _ ?_
     clear hK K
     refine done_ (z2B HT_.out zz84) ?_
     try go_wp2
     (try simp only [← hl9_2])
     go_roundg k2
     case measure=>have:=HK1.out;have:=HK2.out;omega
     case rel=>exact ⟨(y116),(wrap64 (x48_2 + 1)),(x112000_2),(x112001_2),zz81,H',⟨by have:=HK1.out;have:=HK2.out;omega⟩,⟨by (try simp only [hl9_2]);(with_reducible repeat (first|apply Kd.zH|apply Kd.zI|apply Kd.zS));exact HQ40.out⟩,⟨by (try simp only [hl9_2]);(with_reducible repeat (first|apply Kd.zH|apply Kd.zI|apply Kd.zS));exact Kd.z12 (Kd.z1O (p:=⟨go37,(x48_2 : Int).toNat * 2 + 1,none⟩) (Kd.z1O (p:=⟨go37,(x48_2 : Int).toNat * 2,none⟩) (Kd.z12 HO_39.out (fun k_ hk=>(⟨hk,fun e_=>hk.1 zz83⟩ : _ ∧ k_ ≠ go37))) (fun _ hk=>hk.2) (.int .u64 t114)) (fun _ hk=>hk.2) (.int .u64 t115)) (fun _ hk=>⟨hk.1.1,hk.1.2⟩)⟩,⟨by (try simp only [hl9_2]);(with_reducible repeat (first|refine z8 ?_ _|refine zb ?_|refine z7 ?_ _));refine zW ?_ zz77 _;(with_reducible repeat (first|refine z8 ?_ _|refine zb ?_|refine z7 ?_ _));refine zW ?_ zz77 _;(with_reducible repeat (first|refine z8 ?_ _|refine zb ?_|refine z7 ?_ _));exact BK111.out⟩,⟨by repeat (first|(with_reducible first|exact HB.out|apply zg|apply z6|apply zc|refine zd ?_ GB37.out|refine zd ?_ GB37.out|refine zd ?_ GE111.out)|exact HB.out)⟩⟩
end Go.Proofs.Ytklkmflhnljbdaa.P
namespace Go.Proofs.Ytklkmflhnljbdaa.P
open Go.RowKit Go.Proofs.YtklkmflhnljbdaaW.PrintWords Go.Proofs.YtklkmflhnljbdaaW.PrintLast Go.Proofs.YtklkmflhnljbdaaW.PrintMore
attribute [local go_sem] z17 z19 z1m z1n zU zV z18 z1a   -- for this text's walks alone
set_option linter.unusedVariables false
set_option linter.unusedSimpArgs false
mutual
def zL.l0 : Nat → Int → List (S37) → List (S37) → Int → Int → Int → Int → Option (Int × Int)
 | 0,_,_,_,_,_,_,_=>none
 | k + 1,x0,x1,x2,x16,x17,x103000,x103001=>if x17 < x16 then (if 0 ≤ x17 then (if x17 < (x1.length : Int) then ((zJ.f k x0 ((rd_T37 x1 x17).f0) ((rd_T37 x1 x17).f1)).bind fun t104=>(if t104 = true then (if x17 < (x2.length : Int) then ((zJ.f k x0 ((rd_T37 x2 x17).f0) ((rd_T37 x2 x17).f1)).bind fun t106=>(zL.j1 k x0 x1 x2 x17 x16 x17 (!t106) x103000 x103001)) else (none)) else (zL.j1 k x0 x1 x2 x17 x16 x17 true x103000 x103001))) else (none)) else (none)) else (some (x103000,x103001))
def zL.j1 : Nat → Int → List (S37) → List (S37) → Int → Int → Int → Bool → Int → Int → Option (Int × Int)
 | 0,_,_,_,_,_,_,_,_,_=>none
 | k + 1,x0,x1,x2,x8,x16,x17,x35,x103000,x103001=>if x35 = true then (some (0,0)) else (if 0 ≤ x8 then (if x8 < (x1.length : Int) then (if x8 < (x2.length : Int) then ((zM.f k x0 ((rd_T37 x1 x8).f0) ((rd_T37 x1 x8).f1) ((rd_T37 x2 x8).f0) ((rd_T37 x2 x8).f1)).bind fun bt109=>((z1t.f x103000 x103001 bt109.1 bt109.2).bind fun bt111=>(zL.l0 k x0 x1 x2 x16 (wrap64 (x17 + 1)) bt111.1 bt111.2))) else (none)) else (none)) else (none))
end
def zL.f (k : Nat) (a0 : Int) (l1 : List (S37)) (l2 : List (S37)) : Option (Int × Int):=if (l1.length : Int) = (l2.length : Int) then (zL.l0 k a0 l1 l2 (l1.length : Int) 0 0 0) else (some (0,0))
theorem zL.z1b : ∀ k,(∀ y0 y1 y2 y3 y4 y5 y6,LeO (zL.l0 k y0 y1 y2 y3 y4 y5 y6) (zL.l0 (k + 1) y0 y1 y2 y3 y4 y5 y6)) ∧ (∀ y0 y1 y2 y3 y4 y5 y6 y7 y8,LeO (zL.j1 k y0 y1 y2 y3 y4 y5 y6 y7 y8) (zL.j1 (k + 1) y0 y1 y2 y3 y4 y5 y6 y7 y8))
 | 0=>⟨fun _ _ _ _ _ _ _ r h=>by simp [zL.l0] at h,fun _ _ _ _ _ _ _ _ _ r h=>by simp [zL.j1] at h⟩
 | k + 1=>by
  obtain ⟨ih0,ih1⟩:=zL.z1b k
  refine ⟨?_,?_⟩
  · intro y0 y1 y2 y3 y4 y5 y6
    unfold zL.l0
    repeat' first
    | (with_reducible exact ih0 _ _ _ _ _ _ _)
    | (with_reducible exact ih1 _ _ _ _ _ _ _ _ _)
    | (with_reducible exact zJ.mono _ _ _ _)
    | (with_reducible exact zM.mono _ _ _ _ _ _)
    | (with_reducible exact LeO.refl _)
    | (with_reducible exact LeO.none _)
    | (with_reducible refine LeO.ite ?_ ?_)
    | (with_reducible refine LeO.bind ?_ (fun _=>?_))
    | exact ih0 _ _ _ _ _ _ _
    | exact ih1 _ _ _ _ _ _ _ _ _
    | exact zJ.mono _ _ _ _
    | exact zM.mono _ _ _ _ _ _
    | exact LeO.none _
    | refine LeO.ite ?_ ?_
    | refine LeO.bind ?_ (fun _=>?_)
  · intro y0 y1 y2 y3 y4 y5 y6 y7 y8
    unfold zL.j1
    repeat' first
    | (with_reducible exact ih0 _ _ _ _ _ _ _)
    | (with_reducible exact ih1 _ _ _ _ _ _ _ _ _)
    | (with_reducible exact zJ.mono _ _ _ _)
    | (with_reducible exact zM.mono _ _ _ _ _ _)
    | (with_reducible exact LeO.refl _)
    | (with_reducible exact LeO.none _)
    | (with_reducible refine LeO.ite ?_ ?_)
    | (with_reducible refine LeO.bind ?_ (fun _=>?_))
    | exact ih0 _ _ _ _ _ _ _
    | exact ih1 _ _ _ _ _ _ _ _ _
    | exact zJ.mono _ _ _ _
    | exact zM.mono _ _ _ _ _ _
    | exact LeO.none _
    | refine LeO.ite ?_ ?_
    | refine LeO.bind ?_ (fun _=>?_)
theorem zL.mono : ∀ a0 a1 a2 k,LeO (zL.f k a0 a1 a2) (zL.f (k + 1) a0 a1 a2):=by
 intro a0 a1 a2 k
 obtain ⟨ih0,ih1⟩:=zL.z1b k
 unfold zL.f
 repeat' first
  | (with_reducible exact ih0 _ _ _ _ _ _ _)
  | (with_reducible exact ih1 _ _ _ _ _ _ _ _ _)
  | (with_reducible exact zJ.mono _ _ _ _)
  | (with_reducible exact zM.mono _ _ _ _ _ _)
  | (with_reducible exact LeO.refl _)
  | (with_reducible exact LeO.none _)
  | (with_reducible refine LeO.ite ?_ ?_)
  | (with_reducible refine LeO.bind ?_ (fun _=>?_))
  | exact ih0 _ _ _ _ _ _ _
  | exact ih1 _ _ _ _ _ _ _ _ _
  | exact zJ.mono _ _ _ _
  | exact zM.mono _ _ _ _ _ _
  | exact LeO.none _
  | refine LeO.ite ?_ ?_
  | refine LeO.bind ?_ (fun _=>?_)
def zL.T9 : Bool × List (List Nat × List Nat):=(true,[([],[]),([],[]),([],[]),([],[]),([2,3],[2,3]),([4],[4]),([],[]),([],[]),([6,7],[6,7]),([8],[8]),([1,5,9],[1,5,9]),([0,10,10],[0,10]),([11,11,0,1,2,3,4,5,6,7,8,9,10,11],[11])])
def zL.B9 : List Nat:=[0,0,0,0,12,28,0,0,192,448,1022,2047,4095]
theorem zL.tab9 : rtab .any (opsOf Try.f52 9) = zL.T9:=by kernel_rfl
theorem zL.bits9 : waitsOk zL.T9.2 zL.B9 = true:=by kernel_rfl
set_option maxHeartbeats 8000000 in
set_option maxRecDepth 100000 in
theorem zL.calls (k : Nat) (a0 : Int) (A1 : Option Addr) (c1 : Nat) (l1 : List (S37)) (A2 : Option Addr) (c2 : Nat) (l2 : List (S37)) (r1 : Int) (r2 : Int) (w : World) (hr1 : Kd.C k37 w A1 l1.length l1) (hc1 : l1.length ≤ c1) (hr2 : Kd.C k37 w A2 l2.length l2) (hc2 : l2.length ≤ c2) (h : zL.f k a0 l1 l2 = some (r1,r2)) :
 Calls Try.prog 52 #[.int .i64 a0,.slice A1 l1.length c1,.slice A2 l2.length c2] w fun e w'=>e = .returned (.agg #[.int .u64 r1,.int .u64 r2]) ∧ Below w.heap.size w w':=by
 have hu37:=Try.underlying37
 have HR1:=z4.mk hr1
 have HC1:=z4.mk hc1
 clear hr1 hc1
 have HR2:=z4.mk hr2
 have HC2:=z4.mk hc2
 clear hr2 hc2
 have HB:=z4.mk (Below.refl w.heap.size w)
 have H : (if (l1.length : Int) = (l2.length : Int) then (zL.l0 k a0 l1 l2 (l1.length : Int) 0 0 0) else (some (0,0))) = some (r1,r2):=h
 clear h
 by_cases c4 : (l1.length : Int) = (l2.length : Int)
 rotate_left
 · rw [if_neg c4] at H
   have c4b0 : ((l1.length : Int) == (l2.length : Int)) = false:=beq_eq_false_iff_ne.mpr c4
   have c4b1 : ((l1.length : Int) != (l2.length : Int)) = true:=bne_iff_ne.mpr c4
   have c4b2 : (l1.length == l2.length) = false:=by first|simpa using c4|(simp at c4 ⊢;omega)
   simp only [Option.some.injEq,Prod.mk.injEq] at H
   obtain ⟨rfl,rfl⟩:=H
   go_enter Try.func52,Try.ntmps52
   go_wp2_with (first|((with_reducible refine zr (N:=6) rfl ?_);refine zy ?hg (N:=6) ?hd (cs:=#[.int .u64 0,.int .u64 0]) (t:=37) ?hr ?_;(case hd=>rfl);(case hg=>rfl);(case hr=>first|(go_simp;done)|(go_simp;rfl));intro gb101 hg w34 hbox hb;have n0_:=z4.mk (z9 zz45 hb);have n1_:=z4.mk (hbox);have n2_:=z4.mk ((by rw [hg];exact (ze zz45) : w.heap.size ≤ gb101));have n3_:=z4.mk ((by rw [hg];exact (ze zz45) : w.heap.size ≤ gb101));clear HB;have HB:=n0_;have BK101:=n1_;have GW101:=n2_;have GE101:=n3_;clear n0_ n1_ n2_ n3_;clear hb hbox hg;have hcz35_0 : w34.cell? ⟨gb101,0,none⟩ = some (.int .u64 0):=(zf BK101.out 0).trans rfl;have hcz35_1 : w34.cell? ⟨gb101,1,none⟩ = some (.int .u64 0):=(zf BK101.out 1).trans rfl;have hfz35_0:=za BK101.out 0;have hfz35_1:=za BK101.out 1))
   refine bodyPost_ret (results_cell_row rfl _ _ gb101 37 #[.int .u64 0,.int .u64 0] (0,0) _ rfl zz7 Try.underlying37 rfl zz84) rfl ?_
   exact ⟨by first|rfl|(simp [zi,zj] <;> rfl)|(simp [*,zi,zj] <;> rfl),by repeat (first|(with_reducible first|exact HB.out|apply zg|apply z6|apply zc|refine zd ?_ GE101.out)|exact HB.out)⟩
 rw [if_pos c4] at H
 have c4b0 : ((l1.length : Int) == (l2.length : Int)) = true:=beq_iff_eq.mpr c4
 have c4b1 : ((l1.length : Int) != (l2.length : Int)) = false:=bne_eq_false_iff_eq.mpr c4
 have c4b2 : (l1.length == l2.length) = true:=by first|simpa using c4|(simp at c4 ⊢;omega)
 clear c4
 have H':=z4.mk H
 clear H
 go_enter Try.func52,Try.ntmps52
 go_wp2_with (first|((with_reducible refine zr (N:=6) rfl ?_);refine zy ?hg (N:=6) ?hd (cs:=#[.int .u64 0,.int .u64 0]) (t:=37) ?hr ?_;(case hd=>rfl);(case hg=>rfl);(case hr=>first|(go_simp;done)|(go_simp;rfl));intro gb101 hg w5 hbox hb;have n0_:=z4.mk (z9 zz45 hb);have n1_:=z4.mk (hbox);have n2_:=z4.mk ((by rw [hg];exact (ze zz45) : w.heap.size ≤ gb101));have n3_:=z4.mk ((by rw [hg];exact (ze zz45) : w.heap.size ≤ gb101));clear HB;have HB:=n0_;have BK101:=n1_;have GW101:=n2_;have GE101:=n3_;clear n0_ n1_ n2_ n3_;clear hb hbox hg)|((with_reducible refine zr (N:=7) rfl ?_);refine zy ?hg (N:=7) ?hd (cs:=#[.int .u64 0,.int .u64 0]) (t:=37) ?hr ?_;(case hd=>rfl);(case hg=>rfl);(case hr=>first|(go_simp;done)|(go_simp;rfl));intro gb102 hg w6 hbox hb;have n0_:=z4.mk (zh (g:=gb101) (o:=.cells #[.int .u64 0,.int .u64 0] 37 (0,0)) zz46 hb);have n1_:=z4.mk (z9 zz40 hb);have n2_:=z4.mk (hbox);have n3_:=z4.mk ((by rw [hg];exact (ze zz40) : w.heap.size ≤ gb102));have n4_:=z4.mk ((by rw [hg];exact (ze zz40) : w.heap.size ≤ gb102));have n5_:=z4.mk ((by rw [hg];exact Nat.ne_of_lt (zO (g:=gb101) (o:=.cells #[.int .u64 0,.int .u64 0] 37 (0,0)) zz46) : gb101 ≠ gb102));have n6_:=z4.mk ((by rw [hg];exact Nat.ne_of_gt (zO (g:=gb101) (o:=.cells #[.int .u64 0,.int .u64 0] 37 (0,0)) zz46) : gb102 ≠ gb101));clear BK101;clear HB;have BK101:=n0_;have HB:=n1_;have BK102:=n2_;have GW102:=n3_;have GE102:=n4_;have NB101_102:=n5_;have NB102_101:=n6_;clear n0_ n1_ n2_ n3_ n4_ n5_ n6_;clear hb hbox hg))
 go_loopg [17] k (fun kq v17 w'=>∃ (x17_1 : Int) (x102000_1 : Int) (x102001_1 : Int) (x103000_1 : Int) (x103001_1 : Int),v17 = .int .i64 x17_1 ∧ z4 (zL.l0 kq a0 l1 l2 (l1.length : Int) x17_1 x103000_1 x103001_1 = some (r1,r2)) ∧ z4 (kq ≤ k) ∧ z4 (w'.heap[gb101]? = some (.cells #[.int .u64 x102000_1,.int .u64 x102001_1] 37 (0,0))) ∧ z4 (w'.heap[gb102]? = some (.cells #[.int .u64 x103000_1,.int .u64 x103001_1] 37 (0,0))) ∧ z4 (Below w.heap.size w w'))
 case atStart=>exact ⟨(0),(0),(0),(0),(0),zz81,H',⟨Nat.le_refl _⟩,⟨by (with_reducible repeat (first|refine z8 ?_ _|refine zb ?_|refine z7 ?_ _));exact BK101.out⟩,⟨by (with_reducible repeat (first|refine z8 ?_ _|refine zb ?_|refine z7 ?_ _));exact BK102.out⟩,⟨by repeat (first|(with_reducible first|exact HB.out|apply zg|apply z6|apply zc|refine zd ?_ GE101.out|refine zd ?_ GE102.out)|exact HB.out)⟩⟩
 case round =>
  clear H'
  (try clear c1);(try clear c2);(try clear p2);(try clear c4);(try clear c4b0);(try clear c4b1);(try clear c4b2);(try clear c5)
  obtain ⟨x17_1,x102000_1,x102001_1,x103000_1,x103001_1,rfl,HA,HK1,BK101,BK102,HB⟩:=hrel
  cases gk with
  | zero=>exact absurd HA.out (by simp [zL.l0])
  | succ k1 =>
   have H:=HA.out
   clear HA
   simp only [zL.l0] at H
   by_cases c7 : x17_1 < (l1.length : Int)
   rotate_left
   · rw [if_neg c7] at H
     have c7b0 : decide (x17_1 < (l1.length : Int)) = false:=decide_eq_false c7
     clear c7
     simp only [Option.some.injEq,Prod.mk.injEq] at H
     obtain ⟨rfl,rfl⟩:=H
     have hnb31:=NB102_101.out
     have hnc31:=NB101_102.out
     have hcz32_0 : wr.cell? ⟨gb102,0,none⟩ = some (.int .u64 x103000_1):=(zf BK102.out 0).trans rfl
     have hcz32_1 : wr.cell? ⟨gb102,1,none⟩ = some (.int .u64 x103001_1):=(zf BK102.out 1).trans rfl
     have hfz32_0:=za BK102.out 0
     have hfz32_1:=za BK102.out 1
     have hcz33_0 : wr.cell? ⟨gb101,0,none⟩ = some (.int .u64 x102000_1):=(zf BK101.out 0).trans rfl
     have hcz33_1 : wr.cell? ⟨gb101,1,none⟩ = some (.int .u64 x102001_1):=(zf BK101.out 1).trans rfl
     have hfz33_0:=za BK101.out 0
     have hfz33_1:=za BK101.out 1
     go_wp2
     refine bodyPost_ret (results_cell_row rfl _ _ gb101 37 #[.int .u64 x103000_1,.int .u64 x103001_1] (0,0) _ rfl (by (with_reducible repeat (first|refine z8 ?_ _|refine zb ?_|refine z7 ?_ _));refine zX (cs:=#[.int .u64 x103000_1,.int .u64 x102001_1]) ?_ 1 _ rfl;(with_reducible repeat (first|refine z8 ?_ _|refine zb ?_|refine z7 ?_ _));refine zX (cs:=#[.int .u64 x102000_1,.int .u64 x102001_1]) ?_ 0 _ rfl;(with_reducible repeat (first|refine z8 ?_ _|refine zb ?_|refine z7 ?_ _));exact BK101.out) Try.underlying37 rfl zz84) rfl ?_
     exact ⟨by first|rfl|(simp [zi,zj] <;> rfl)|(simp [*,zi,zj] <;> rfl),by repeat (first|(with_reducible first|exact HB.out|apply zg|apply z6|apply zc|refine zd ?_ GE101.out|refine zd ?_ GE102.out)|exact HB.out)⟩
   rw [if_pos c7] at H
   have c7b0 : decide (x17_1 < (l1.length : Int)) = true:=decide_eq_true c7
   clear c7
   have HC8:=z4.mk H
   clear H
   go_upto_region 7 with (fail)
   go_cut [35] (fun v35 wc=>∃ (kq : Nat) (x35_7 : Bool),v35 = .bool x35_7 ∧ z4 (zL.j1 kq a0 l1 l2 x17_1 (l1.length : Int) x17_1 x35_7 x103000_1 x103001_1 = some (r1,r2)) ∧ z4 (kq ≤ k1) ∧ z4 (wc.heap[gb101]? = some (.cells #[.int .u64 x102000_1,.int .u64 x102001_1] 37 (0,0))) ∧ z4 (wc.heap[gb102]? = some (.cells #[.int .u64 x103000_1,.int .u64 x103001_1] 37 (0,0))) ∧ z4 (Below w.heap.size w wc))
   case first =>
    have H:=HC8.out
    clear HC8
    by_cases c9 : 0 ≤ x17_1
    rotate_left
    · rw [if_neg c9] at H
      exact absurd H zz87
    rw [if_pos c9] at H
    have c9b0 : decide (0 ≤ x17_1) = true:=decide_eq_true c9
    clear c9
    (first|rw [c9b0]|(simp only [zY,z16];rw [c9b0])|skip)
    by_cases c10 : x17_1 < (l1.length : Int)
    rotate_left
    · rw [if_neg c10] at H
      exact absurd H zz87
    rw [if_pos c10] at H
    have c10b0 : decide (x17_1 < (l1.length : Int)) = true:=decide_eq_true c10
    clear c10
    replace H:=Option.bind_eq_some_iff.mp H
    obtain ⟨t104,A110,H⟩:=H
    replace H : (if t104 = true then (if x17_1 < (l2.length : Int) then ((zJ.f k1 a0 ((rd_T37 l2 x17_1).f0) ((rd_T37 l2 x17_1).f1)).bind fun t106=>(zL.j1 k1 a0 l1 l2 x17_1 (l1.length : Int) x17_1 (!t106) x103000_1 x103001_1)) else (none)) else (zL.j1 k1 a0 l1 l2 x17_1 (l1.length : Int) x17_1 true x103000_1 x103001_1)) = some (r1,r2):=H
    have A11:=z4.mk A110
    clear A110
    by_cases c12 : t104 = true
    rotate_left
    · replace c12:=Bool.eq_false_iff.mpr c12
      subst c12
      have H1 : (zL.j1 k1 a0 l1 l2 x17_1 (l1.length : Int) x17_1 true x103000_1 x103001_1) = some (r1,r2):=by rw [if_neg (show ¬ (false = true) by decide)] at H;exact H
      clear H
      have H:=H1
      clear H1
      have H':=z4.mk H
      clear H
      have p103 : 0 ≤ (x17_1 : Int):=of_decide_eq_true zz80
      have q103 : x17_1 < (l1.length : Int):=of_decide_eq_true zz80
      obtain ⟨ad103,e103,hx103_0,hx103_1⟩:=z1Y HR1.out x17_1 p103 q103
      cases e103
      replace hx103_0:=(HB.out.cell (World.block_lt_of_cell? w _ hx103_0)).trans hx103_0
      replace hx103_1:=(HB.out.cell (World.block_lt_of_cell? w _ hx103_1)).trans hx103_1
      replace p103:=eq_true p103
      replace q103:=eq_true q103
      go_wp2_with (first|((with_reducible refine zl (f:=82) rfl ?_);refine goesL_ (some 25) rfl rfl Try.func82 zz84 rfl #[.int .i64 a0,.agg #[.int .u64 ((rd_T37 l1 x17_1).f0),.int .u64 ((rd_T37 l1 x17_1).f1)]] rfl zz44 ?_;(with_reducible refine (zJ.calls k1 a0 ((rd_T37 l1 x17_1).f0) ((rd_T37 l1 x17_1).f1) false _ A11.out).mono ?_);rintro e w17 ⟨rfl,hb⟩;refine ⟨_,rfl,?_⟩;have n0_:=z4.mk (zh (g:=gb101) (o:=.cells #[.int .u64 x102000_1,.int .u64 x102001_1] 37 (0,0)) zz46 hb);have n1_:=z4.mk (zh (g:=gb102) (o:=.cells #[.int .u64 x103000_1,.int .u64 x103001_1] 37 (0,0)) zz47 hb);have n2_:=z4.mk (z9 zz33 hb);clear BK101;clear BK102;clear HB;have BK101:=n0_;have BK102:=n1_;have HB:=n2_;clear n0_ n1_ n2_;(try clear hb);(try clear hb2);(try clear hk);(try clear hi)))
      go_meet
      case rel=>exact ⟨_,(true),zz81,H',⟨by have:=HK1.out;first|omega|exact Nat.le_refl _⟩,⟨by (with_reducible repeat (first|refine z8 ?_ _|refine zb ?_|refine z7 ?_ _));exact BK101.out⟩,⟨by (with_reducible repeat (first|refine z8 ?_ _|refine zb ?_|refine z7 ?_ _));exact BK102.out⟩,⟨by repeat (first|(with_reducible first|exact HB.out|apply zg|apply z6|apply zc|refine zd ?_ GE101.out|refine zd ?_ GE102.out)|exact HB.out)⟩⟩
    subst c12
    have H1 : (if x17_1 < (l2.length : Int) then ((zJ.f k1 a0 ((rd_T37 l2 x17_1).f0) ((rd_T37 l2 x17_1).f1)).bind fun t106=>(zL.j1 k1 a0 l1 l2 x17_1 (l1.length : Int) x17_1 (!t106) x103000_1 x103001_1)) else (none)) = some (r1,r2):=by rw [if_pos rfl] at H;exact H
    clear H
    have H:=H1
    clear H1
    by_cases c13 : x17_1 < (l2.length : Int)
    rotate_left
    · rw [if_neg c13] at H
      exact absurd H zz87
    rw [if_pos c13] at H
    have c13b0 : decide (x17_1 < (l2.length : Int)) = true:=decide_eq_true c13
    clear c13
    replace H:=Option.bind_eq_some_iff.mp H
    obtain ⟨t106,A140,H⟩:=H
    replace H : (zL.j1 k1 a0 l1 l2 x17_1 (l1.length : Int) x17_1 (!t106) x103000_1 x103001_1) = some (r1,r2):=H
    have A14:=z4.mk A140
    clear A140
    have H':=z4.mk H
    clear H
    have p103 : 0 ≤ (x17_1 : Int):=of_decide_eq_true zz80
    have q103 : x17_1 < (l1.length : Int):=of_decide_eq_true zz80
    obtain ⟨ad103,e103,hx103_0,hx103_1⟩:=z1Y HR1.out x17_1 p103 q103
    cases e103
    replace hx103_0:=(HB.out.cell (World.block_lt_of_cell? w _ hx103_0)).trans hx103_0
    replace hx103_1:=(HB.out.cell (World.block_lt_of_cell? w _ hx103_1)).trans hx103_1
    replace p103:=eq_true p103
    replace q103:=eq_true q103
    go_wp2_with (first|((with_reducible refine zl (f:=82) rfl ?_);refine goesL_ (some 25) rfl rfl Try.func82 zz84 rfl #[.int .i64 a0,.agg #[.int .u64 ((rd_T37 l1 x17_1).f0),.int .u64 ((rd_T37 l1 x17_1).f1)]] rfl zz44 ?_;(with_reducible refine (zJ.calls k1 a0 ((rd_T37 l1 x17_1).f0) ((rd_T37 l1 x17_1).f1) true _ A11.out).mono ?_);rintro e w15 ⟨rfl,hb⟩;refine ⟨_,rfl,?_⟩;have n0_:=z4.mk (zh (g:=gb101) (o:=.cells #[.int .u64 x102000_1,.int .u64 x102001_1] 37 (0,0)) zz46 hb);have n1_:=z4.mk (zh (g:=gb102) (o:=.cells #[.int .u64 x103000_1,.int .u64 x103001_1] 37 (0,0)) zz47 hb);have n2_:=z4.mk (z9 zz33 hb);clear BK101;clear BK102;clear HB;have BK101:=n0_;have BK102:=n1_;have HB:=n2_;clear n0_ n1_ n2_;(try clear hb);(try clear hb2);(try clear hk);(try clear hi);have p105 : 0 ≤ (x17_1 : Int):=of_decide_eq_true zz80;have q105 : x17_1 < (l2.length : Int):=of_decide_eq_true zz80;obtain ⟨ad105,e105,hx105_0,hx105_1⟩:=z1Y HR2.out x17_1 p105 q105;cases e105;replace hx105_0:=(HB.out.cell (World.block_lt_of_cell? w _ hx105_0)).trans hx105_0;replace hx105_1:=(HB.out.cell (World.block_lt_of_cell? w _ hx105_1)).trans hx105_1;replace p105:=eq_true p105;replace q105:=eq_true q105)|(go_at_call 82;(with_reducible refine (zJ.calls k1 a0 ((rd_T37 l2 x17_1).f0) ((rd_T37 l2 x17_1).f1) t106 _ A14.out).mono ?_);rintro e w16 ⟨rfl,hb⟩;have n0_:=z4.mk (zh (g:=gb101) (o:=.cells #[.int .u64 x102000_1,.int .u64 x102001_1] 37 (0,0)) zz46 hb);have n1_:=z4.mk (zh (g:=gb102) (o:=.cells #[.int .u64 x103000_1,.int .u64 x103001_1] 37 (0,0)) zz47 hb);have n2_:=z4.mk (z9 zz33 hb);clear BK101;clear BK102;clear HB;have BK101:=n0_;have BK102:=n1_;have HB:=n2_;clear n0_ n1_ n2_;(try clear hb);(try clear hb2);(try clear hk);(try clear hi)))
    go_meet
    case rel=>exact ⟨_,(!t106),zz81,H',⟨by have:=HK1.out;first|omega|exact Nat.le_refl _⟩,⟨by (with_reducible repeat (first|refine z8 ?_ _|refine zb ?_|refine z7 ?_ _));exact BK101.out⟩,⟨by (with_reducible repeat (first|refine z8 ?_ _|refine zb ?_|refine z7 ?_ _));exact BK102.out⟩,⟨by repeat (first|(with_reducible first|exact HB.out|apply zg|apply z6|apply zc|refine zd ?_ GE101.out|refine zd ?_ GE102.out)|exact HB.out)⟩⟩
   case rest =>
    clear HC8
    (try clear c1);(try clear p1);(try clear q1);(try clear hx1);(try clear c2);(try clear p2);(try clear c4);(try clear c4b0);(try clear c4b1);(try clear c4b2);(try clear c5);(try clear c7);(try clear c7b0);(try clear c8);(try clear c9);(try clear c9b0);(try clear c10);(try clear c10b0);(try clear p10);(try clear q10);(try clear hx10);(try clear c12);(try clear c13);(try clear c13b0);(try clear hx103_0);(try clear hx103_1);(try clear hx105_0);(try clear hx105_1);(try clear p103);(try clear p105);(try clear p2);(try clear q103);(try clear q105)
    obtain ⟨kq,x35_7,rfl,HA,HJ7,BK101,BK102,HB⟩:=hcut
    cases kq with
    | zero=>exact absurd HA.out (by simp [zL.j1])
    | succ kj7 =>
     have H:=HA.out
     clear HA
     simp only [zL.j1] at H
     by_cases c18 : x35_7 = true
     · subst c18
       have H1 : (some (0,0)) = some (r1,r2):=by rw [if_pos rfl] at H;exact H
       clear H
       have H:=H1
       clear H1
       simp only [Option.some.injEq,Prod.mk.injEq] at H
       obtain ⟨rfl,rfl⟩:=H
       have hnb19:=NB101_102.out
       have hnc19:=NB102_101.out
       have hcz20_0 : wc.cell? ⟨gb101,0,none⟩ = some (.int .u64 x102000_1):=(zf BK101.out 0).trans rfl
       have hcz20_1 : wc.cell? ⟨gb101,1,none⟩ = some (.int .u64 x102001_1):=(zf BK101.out 1).trans rfl
       have hfz20_0:=za BK101.out 0
       have hfz20_1:=za BK101.out 1
       go_wp2
       refine bodyPost_ret (results_cell_row rfl _ _ gb101 37 #[.int .u64 0,.int .u64 0] (0,0) _ rfl (by (with_reducible repeat (first|refine z8 ?_ _|refine zb ?_|refine z7 ?_ _));refine zX (cs:=#[.int .u64 0,.int .u64 x102001_1]) ?_ 1 _ rfl;(with_reducible repeat (first|refine z8 ?_ _|refine zb ?_|refine z7 ?_ _));refine zX (cs:=#[.int .u64 x102000_1,.int .u64 x102001_1]) ?_ 0 _ rfl;(with_reducible repeat (first|refine z8 ?_ _|refine zb ?_|refine z7 ?_ _));exact BK101.out) Try.underlying37 rfl zz84) rfl ?_
       exact ⟨by first|rfl|(simp [zi,zj] <;> rfl)|(simp [*,zi,zj] <;> rfl),by repeat (first|(with_reducible first|exact HB.out|apply zg|apply z6|apply zc|refine zd ?_ GE101.out|refine zd ?_ GE102.out)|exact HB.out)⟩
     replace c18:=Bool.eq_false_iff.mpr c18
     subst c18
     have H1 : (if 0 ≤ x17_1 then (if x17_1 < (l1.length : Int) then (if x17_1 < (l2.length : Int) then ((zM.f kj7 a0 ((rd_T37 l1 x17_1).f0) ((rd_T37 l1 x17_1).f1) ((rd_T37 l2 x17_1).f0) ((rd_T37 l2 x17_1).f1)).bind fun bt109=>((z1t.f x103000_1 x103001_1 bt109.1 bt109.2).bind fun bt111=>(zL.l0 kj7 a0 l1 l2 (l1.length : Int) (wrap64 (x17_1 + 1)) bt111.1 bt111.2))) else (none)) else (none)) else (none)) = some (r1,r2):=by rw [if_neg (show ¬ (false = true) by decide)] at H;exact H
     clear H
     have H:=H1
     clear H1
     by_cases c21 : 0 ≤ x17_1
     rotate_left
     · rw [if_neg c21] at H
       exact absurd H zz87
     rw [if_pos c21] at H
     have c21b0 : decide (0 ≤ x17_1) = true:=decide_eq_true c21
     clear c21
     by_cases c22 : x17_1 < (l1.length : Int)
     rotate_left
     · rw [if_neg c22] at H
       exact absurd H zz87
     rw [if_pos c22] at H
     have c22b0 : decide (x17_1 < (l1.length : Int)) = true:=decide_eq_true c22
     clear c22
     by_cases c23 : x17_1 < (l2.length : Int)
     rotate_left
     · rw [if_neg c23] at H
       exact absurd H zz87
     rw [if_pos c23] at H
     have c23b0 : decide (x17_1 < (l2.length : Int)) = true:=decide_eq_true c23
     clear c23
     replace H:=Option.bind_eq_some_iff.mp H
     obtain ⟨⟨t109,t110⟩,A240,H⟩:=H
     replace H : ((z1t.f x103000_1 x103001_1 t109 t110).bind fun bt111=>(zL.l0 kj7 a0 l1 l2 (l1.length : Int) (wrap64 (x17_1 + 1)) bt111.1 bt111.2)) = some (r1,r2):=H
     have A24:=z4.mk A240
     clear A240
     replace H:=Option.bind_eq_some_iff.mp H
     obtain ⟨⟨t111,t112⟩,A250,H⟩:=H
     replace H : (zL.l0 kj7 a0 l1 l2 (l1.length : Int) (wrap64 (x17_1 + 1)) t111 t112) = some (r1,r2):=H
     have A25:=z4.mk A250
     clear A250
     have H':=z4.mk H
     clear H
     try go_wp2
     have n0_:=z4.mk (zb BK101.out)
     have n1_:=z4.mk (zb BK102.out)
     have n2_:=z4.mk (zc HB.out)
     clear BK101
     clear BK102
     clear HB
     have BK101:=n0_
     have BK102:=n1_
     have HB:=n2_
     clear n0_ n1_ n2_
     have p107 : 0 ≤ (x17_1 : Int):=of_decide_eq_true zz80
     have q107 : x17_1 < (l1.length : Int):=of_decide_eq_true zz80
     obtain ⟨ad107,e107,hx107_0,hx107_1⟩:=z1Y HR1.out x17_1 p107 q107
     have hw107_1:=hx107_1
     have hw107_0:=hx107_0
     cases e107
     replace hx107_0:=(HB.out.cell (World.block_lt_of_cell? w _ hx107_0)).trans hx107_0
     replace hx107_1:=(HB.out.cell (World.block_lt_of_cell? w _ hx107_1)).trans hx107_1
     replace p107:=eq_true p107
     replace q107:=eq_true q107
     have p108 : 0 ≤ (x17_1 : Int):=of_decide_eq_true zz80
     have q108 : x17_1 < (l2.length : Int):=of_decide_eq_true zz80
     obtain ⟨ad108,e108,hx108_0,hx108_1⟩:=z1Y HR2.out x17_1 p108 q108
     have hw108_1:=hx108_1
     have hw108_0:=hx108_0
     cases e108
     replace hx108_0:=(HB.out.cell (World.block_lt_of_cell? w _ hx108_0)).trans hx108_0
     replace hx108_1:=(HB.out.cell (World.block_lt_of_cell? w _ hx108_1)).trans hx108_1
     replace p108:=eq_true p108
     replace q108:=eq_true q108
     refine start_ (n:=13) (S:=fun w'=>w'.cell? ⟨gb102,0,none⟩ = some (.int .u64 x103000_1) ∧ w'.cell? ⟨gb102,1,none⟩ = some (.int .u64 x103001_1) ∧ w'.cell? (ad107.add ((x17_1).toNat * 2)) = some (.int .u64 ((rd_T37 l1 x17_1).f0)) ∧ w'.cell? ⟨(ad107.add ((x17_1).toNat * 2)).block,(ad107.add ((x17_1).toNat * 2)).off + 1,none⟩ = some (.int .u64 ((rd_T37 l1 x17_1).f1)) ∧ w'.cell? (ad108.add ((x17_1).toNat * 2)) = some (.int .u64 ((rd_T37 l2 x17_1).f0)) ∧ w'.cell? ⟨(ad108.add ((x17_1).toNat * 2)).block,(ad108.add ((x17_1).toNat * 2)).off + 1,none⟩ = some (.int .u64 ((rd_T37 l2 x17_1).f1))) (ds:=[12]) #[false,false,false,false,false,false,false,false,false,false,false,false,false] zz84 rfl rfl ⟨(zf BK102.out 0).trans rfl,(zf BK102.out 1).trans rfl,((HB.out.cell (World.block_lt_of_cell? w _ hw107_0)).trans hw107_0),((HB.out.cell (World.block_lt_of_cell? w _ hw107_1)).trans hw107_1),((HB.out.cell (World.block_lt_of_cell? w _ hw108_0)).trans hw108_0),((HB.out.cell (World.block_lt_of_cell? w _ hw108_1)).trans hw108_1)⟩ (fun hHeld=>?_);refine z2e zL.tab9 zL.bits9 (fun HT_ HW_=>?_)
     generalize wc.drew = w26 at BK101 BK102 HB hx107_0 hx107_1 hx108_0 hx108_1 hHeld ⊢
     refine pure_ (i:=1) (N:=some 38) (v:=?_) (a':=?_) #[false,true,false,false,false,false,false,false,false,false,false,false,false] rfl rfl (z1v HT_.out zz84) (fun _ _ _ h=>h) (Or.inl ⟨by rfl,?_⟩) ?_ ?_
     rotate_left
     · intro w'
       go_simp
       with_reducible rfl
     rotate_left
     · simp only [Act.put,List.setIfInBounds_toArray,List.set_cons_zero,List.set_cons_succ,zY,z16]
       rfl
     refine pure_ (i:=2) (N:=some 39) (v:=?_) (a':=?_) #[false,true,true,false,false,false,false,false,false,false,false,false,false] rfl rfl (z1v HT_.out zz84) (fun _ _ _ h=>h) (Or.inl ⟨by rfl,?_⟩) ?_ ?_
     rotate_left
     · intro w'
       go_simp
       with_reducible rfl
     rotate_left
     · simp only [Act.put,List.setIfInBounds_toArray,List.set_cons_zero,List.set_cons_succ,zY,z16]
       rfl
     refine pure_ (i:=3) (N:=some 40) (v:=?_) (a':=?_) #[false,true,true,true,false,false,false,false,false,false,false,false,false] rfl rfl (z1v HT_.out zz84) (fun _ _ _ h=>h) (Or.inl ⟨by rfl,?_⟩) ?_ ?_
     rotate_left
     · intro w'
       go_simp
       with_reducible rfl
     rotate_left
     · simp only [Act.put,List.setIfInBounds_toArray,List.set_cons_zero,List.set_cons_succ,zY,z16]
       rfl
     refine pure_ (i:=4) (N:=some 41) (v:=?_) (a':=?_) #[false,true,true,true,true,false,false,false,false,false,false,false,false] rfl rfl (z1v HT_.out zz84) (fun _ _ _ h=>h) (Or.inl ⟨by rfl,?_⟩) ?_ ?_
     rotate_left
     · intro w'
       go_simp
       with_reducible rfl
     rotate_left
     · simp only [Act.put,List.setIfInBounds_toArray,List.set_cons_zero,List.set_cons_succ,zY,z16]
       rfl
     refine pure_ (i:=6) (N:=some 43) (v:=?_) (a':=?_) #[false,true,true,true,true,false,true,false,false,false,false,false,false] rfl rfl (z1v HT_.out zz84) (fun _ _ _ h=>h) (Or.inl ⟨by rfl,?_⟩) ?_ ?_
     rotate_left
     · intro w'
       go_simp
       with_reducible rfl
     rotate_left
     · simp only [Act.put,List.setIfInBounds_toArray,List.set_cons_zero,List.set_cons_succ,zY,z16]
       rfl
     refine pure_ (i:=7) (N:=some 44) (v:=?_) (a':=?_) #[false,true,true,true,true,false,true,true,false,false,false,false,false] rfl rfl (z1v HT_.out zz84) (fun _ _ _ h=>h) (Or.inl ⟨by rfl,?_⟩) ?_ ?_
     rotate_left
     · intro w'
       go_simp
       with_reducible rfl
     rotate_left
     · simp only [Act.put,List.setIfInBounds_toArray,List.set_cons_zero,List.set_cons_succ,zY,z16]
       rfl
     refine pure_ (i:=8) (N:=some 45) (v:=?_) (a':=?_) #[false,true,true,true,true,false,true,true,true,false,false,false,false] rfl rfl (z1v HT_.out zz84) (fun _ _ _ h=>h) (Or.inl ⟨by rfl,?_⟩) ?_ ?_
     rotate_left
     · intro w'
       go_simp
       with_reducible rfl
     rotate_left
     · simp only [Act.put,List.setIfInBounds_toArray,List.set_cons_zero,List.set_cons_succ,zY,z16]
       rfl
     refine take_ (i:=0) (N:=some 37) (v:=?_) (a':=?_) #[true,true,true,true,true,false,true,true,true,false,false,false,false] rfl rfl (z1S HT_.out HW_.out zz84) (fun _ _ _ h=>h) (Or.inl ⟨by rfl,?_⟩) hHeld ?_ ?_
     rotate_left
     · rintro w' ⟨s0,s1,s2,s3,s4,s5⟩
       go_simp
       with_reducible rfl
     rotate_left
     · simp only [Act.put,List.setIfInBounds_toArray,List.set_cons_zero,List.set_cons_succ,zY,z16]
       rfl
     refine take_ (i:=5) (N:=some 42) (v:=?_) (a':=?_) #[true,true,true,true,true,true,true,true,true,false,false,false,false] rfl rfl (z1S HT_.out HW_.out zz84) (fun _ _ _ h=>h) (Or.inl ⟨by rfl,?_⟩) hHeld ?_ ?_
     rotate_left
     · rintro w' ⟨s0,s1,s2,s3,s4,s5⟩
       go_simp
       with_reducible rfl
     rotate_left
     · simp only [Act.put,List.setIfInBounds_toArray,List.set_cons_zero,List.set_cons_succ,zY,z16]
       rfl
     refine take_ (i:=9) (N:=some 46) (v:=?_) (a':=?_) #[true,true,true,true,true,true,true,true,true,true,false,false,false] rfl rfl (z1S HT_.out HW_.out zz84) (fun _ _ _ h=>h) (Or.inl ⟨by rfl,?_⟩) hHeld ?_ ?_
     rotate_left
     · rintro w' ⟨s0,s1,s2,s3,s4,s5⟩
       go_simp
       with_reducible rfl
     rotate_left
     · simp only [Act.put,List.setIfInBounds_toArray,List.set_cons_zero,List.set_cons_succ,zY,z16]
       rfl
     refine one_ (i:=10) (N:=some 47) #[true,true,true,true,true,true,true,true,true,true,true,false,false] rfl rfl (z20 HT_.out zz84) zz85 (fun K hK=>?_)
     refine goes_ Try.func86 zz84 rfl #[.int .i64 a0,.agg #[.int .u64 ((rd_T37 l1 x17_1).f0),.int .u64 ((rd_T37 l1 x17_1).f1)],.agg #[.int .u64 ((rd_T37 l2 x17_1).f0),.int .u64 ((rd_T37 l2 x17_1).f1)]] zz88 rfl rfl zz44 ?_
     with_reducible refine (zM.calls kj7 a0 ((rd_T37 l1 x17_1).f0) ((rd_T37 l1 x17_1).f1) ((rd_T37 l2 x17_1).f0) ((rd_T37 l2 x17_1).f1) t109 t110 _ A24.out).mono ?_
     rintro e w27 ⟨rfl,hb⟩
     refine ⟨_,rfl,?_⟩
     have n0_:=z4.mk (zh (g:=gb101) (o:=.cells #[.int .u64 x102000_1,.int .u64 x102001_1] 37 (0,0)) zz46 hb)
     have n1_:=z4.mk (zh (g:=gb102) (o:=.cells #[.int .u64 x103000_1,.int .u64 x103001_1] 37 (0,0)) zz47 hb)
     have n2_:=z4.mk (z9 zz33 hb)
     clear BK101
     clear BK102
     clear HB
     have BK101:=n0_
     have BK102:=n1_
     have HB:=n2_
     clear n0_ n1_ n2_
     (try clear hb)
     (try clear hb2)
     (try clear hk)
     (try clear hi)
     refine hK.out _ _ ⟨(zf BK102.out 0).trans rfl,(zf BK102.out 1).trans rfl,((HB.out.cell (World.block_lt_of_cell? w _ hw107_0)).trans hw107_0),((HB.out.cell (World.block_lt_of_cell? w _ hw107_1)).trans hw107_1),((HB.out.cell (World.block_lt_of_cell? w _ hw108_0)).trans hw108_0),((HB.out.cell (World.block_lt_of_cell? w _ hw108_1)).trans hw108_1)⟩ (fun hHeld=>?_)
     clear hK K
     refine norm_ (a':=?_) ?_ ?_
     rotate_left
     · show Act.put _ (some 47) _ = _
       simp only [Act.put,List.setIfInBounds_toArray,List.set_cons_zero,List.set_cons_succ,zY,z16]
       rfl
     refine one_ (i:=11) (N:=some 48) #[true,true,true,true,true,true,true,true,true,true,true,true,false] rfl rfl (z20 HT_.out zz84) zz85 (fun K hK=>?_)
     refine goes_ Try.func60 zz84 rfl #[.agg #[.int .u64 x103000_1,.int .u64 x103001_1],.agg #[.int .u64 t109,.int .u64 t110]] zz88 rfl rfl zz44 ?_
     with_reducible refine (z1t.calls x103000_1 x103001_1 t109 t110 t111 t112 _ A25.out).mono ?_
     rintro e w28 ⟨rfl,hb⟩
     refine ⟨_,rfl,?_⟩
     have n0_:=z4.mk (zh (g:=gb101) (o:=.cells #[.int .u64 x102000_1,.int .u64 x102001_1] 37 (0,0)) zz46 hb)
     have n1_:=z4.mk (zh (g:=gb102) (o:=.cells #[.int .u64 x103000_1,.int .u64 x103001_1] 37 (0,0)) zz47 hb)
     have n2_:=z4.mk (z9 zz33 hb)
     clear BK101
     clear BK102
     clear HB
     have BK101:=n0_
     have BK102:=n1_
     have HB:=n2_
     clear n0_ n1_ n2_
     (try clear hb)
     (try clear hb2)
     (try clear hk)
     (try clear hi)
     refine hK.out _ _ ⟨(zf BK102.out 0).trans rfl,(zf BK102.out 1).trans rfl,((HB.out.cell (World.block_lt_of_cell? w _ hw107_0)).trans hw107_0),((HB.out.cell (World.block_lt_of_cell? w _ hw107_1)).trans hw107_1),((HB.out.cell (World.block_lt_of_cell? w _ hw108_0)).trans hw108_0),((HB.out.cell (World.block_lt_of_cell? w _ hw108_1)).trans hw108_1)⟩ (fun hHeld=>?_)
     clear hK K
     refine norm_ (a':=?_) ?_ ?_
     rotate_left
     · show Act.put _ (some 48) _ = _
       simp only [Act.put,List.setIfInBounds_toArray,List.set_cons_zero,List.set_cons_succ,zY,z16]
       rfl
     refine last_ (i:=12) (N:=none) #[true,true,true,true,true,true,true,true,true,true,true,true,true] rfl rfl (z20 HT_.out zz84) zz85 (fun K hK=>?_)
     have hs29 : w28.cell? ⟨gb102,0,none⟩ = some (.int .u64 x103000_1):=(zf BK102.out 0).trans rfl
     have hfs29:=za BK102.out 0
     have hns29_0:=NB101_102.out
     have hms29_0:=NB102_101.out
     have hs30 : w28.cell? ⟨gb102,1,none⟩ = some (.int .u64 x103001_1):=(zf BK102.out 1).trans rfl
     have hfs30:=za BK102.out 1
     have hns30_0:=NB101_102.out
     have hms30_0:=NB102_101.out
     refine skip_ (w1:=?_) zz88 rfl ?_ ?_
     rotate_left
     · go_simp
       rfl
     refine hK.out _ _ ?_
     clear hK K
     refine done_ (z2B HT_.out zz84) ?_
     try go_wp2
     go_roundg kj7
     case measure=>have:=HK1.out;have:=HJ7.out;omega
     case rel=>exact ⟨(wrap64 (x17_1 + 1)),(x102000_1),(x102001_1),(t111),(t112),zz81,H',⟨by have:=HK1.out;have:=HJ7.out;omega⟩,⟨by (with_reducible repeat (first|refine z8 ?_ _|refine zb ?_|refine z7 ?_ _));refine zW ?_ NB101_102.out _;(with_reducible repeat (first|refine z8 ?_ _|refine zb ?_|refine z7 ?_ _));refine zW ?_ NB101_102.out _;(with_reducible repeat (first|refine z8 ?_ _|refine zb ?_|refine z7 ?_ _));exact BK101.out⟩,⟨by (with_reducible repeat (first|refine z8 ?_ _|refine zb ?_|refine z7 ?_ _));refine zX (cs:=#[.int .u64 t111,.int .u64 x103001_1]) ?_ 1 _ rfl;(with_reducible repeat (first|refine z8 ?_ _|refine zb ?_|refine z7 ?_ _));refine zX (cs:=#[.int .u64 x103000_1,.int .u64 x103001_1]) ?_ 0 _ rfl;(with_reducible repeat (first|refine z8 ?_ _|refine zb ?_|refine z7 ?_ _));exact BK102.out⟩,⟨by repeat (first|(with_reducible first|exact HB.out|apply zg|apply z6|apply zc|refine zd ?_ GE101.out|refine zd ?_ GE102.out)|exact HB.out)⟩⟩
end Go.Proofs.Ytklkmflhnljbdaa.P
namespace Go.Proofs.Ytklkmflhnljbdaa.P
open Go.RowKit Go.Proofs.YtklkmflhnljbdaaW.PrintWords Go.Proofs.YtklkmflhnljbdaaW.PrintLast Go.Proofs.YtklkmflhnljbdaaW.PrintMore
attribute [local go_sem] z17 z19 z1m z1n zU zV z18 z1a   -- for this text's walks alone
set_option linter.unusedVariables false
set_option linter.unusedSimpArgs false
def z1o.j0 : Nat → Int → List (S37) → List (S37) → Bool → Option (Int)
 | 0,_,_,_,_=>none
 | k + 1,x0,x1,x2,x11=>if x11 = true then (some 6) else ((z14.f k x0 x1).bind fun t102=>(if t102 = true then ((z14.f k x0 x2).bind fun t103=>(if t103 = true then (some 0) else (some 5))) else (some 5)))
def z1o.f (k : Nat) (a0 : Int) (l1 : List (S37)) (l2 : List (S37)) : Option (Int):=(zC.f k a0).bind fun t101=>(if t101 = 0 then (some 1) else (if 0 ≤ a0 then (if (l1.length : Int) = (shl .i64 1 a0) then (z1o.j0 k a0 l1 l2 ((l2.length : Int) != a0)) else (z1o.j0 k a0 l1 l2 true)) else (none)))
theorem z1o.z1b : ∀ k,(∀ y0 y1 y2 y3,LeO (z1o.j0 k y0 y1 y2 y3) (z1o.j0 (k + 1) y0 y1 y2 y3))
 | 0=>fun _ _ _ _ r h=>by simp [z1o.j0] at h
 | k + 1=>by
  have ih0:=z1o.z1b k
  · intro y0 y1 y2 y3
    unfold z1o.j0
    repeat' first
    | (with_reducible exact ih0 _ _ _ _)
    | (with_reducible exact zC.mono _ _)
    | (with_reducible exact z14.mono _ _ _)
    | (with_reducible exact LeO.refl _)
    | (with_reducible exact LeO.none _)
    | (with_reducible refine LeO.ite ?_ ?_)
    | (with_reducible refine LeO.bind ?_ (fun _=>?_))
    | exact ih0 _ _ _ _
    | exact zC.mono _ _
    | exact z14.mono _ _ _
    | exact LeO.none _
    | refine LeO.ite ?_ ?_
    | refine LeO.bind ?_ (fun _=>?_)
theorem z1o.mono : ∀ a0 a1 a2 k,LeO (z1o.f k a0 a1 a2) (z1o.f (k + 1) a0 a1 a2):=by
 intro a0 a1 a2 k
 have ih0:=z1o.z1b k
 unfold z1o.f
 repeat' first
  | (with_reducible exact ih0 _ _ _ _)
  | (with_reducible exact zC.mono _ _)
  | (with_reducible exact z14.mono _ _ _)
  | (with_reducible exact LeO.refl _)
  | (with_reducible exact LeO.none _)
  | (with_reducible refine LeO.ite ?_ ?_)
  | (with_reducible refine LeO.bind ?_ (fun _=>?_))
  | exact ih0 _ _ _ _
  | exact zC.mono _ _
  | exact z14.mono _ _ _
  | exact LeO.none _
  | refine LeO.ite ?_ ?_
  | refine LeO.bind ?_ (fun _=>?_)
set_option maxHeartbeats 8000000 in
set_option maxRecDepth 100000 in
theorem z1o.calls (k : Nat) (a0 : Int) (A1 : Option Addr) (c1 : Nat) (l1 : List (S37)) (A2 : Option Addr) (c2 : Nat) (l2 : List (S37)) (r : Int) (w : World) (hr1 : Kd.C k37 w A1 l1.length l1) (hc1 : l1.length ≤ c1) (hr2 : Kd.C k37 w A2 l2.length l2) (hc2 : l2.length ≤ c2) (h : z1o.f k a0 l1 l2 = some r) :
 Calls Try.prog 61 #[.int .i64 a0,.slice A1 l1.length c1,.slice A2 l2.length c2] w fun e w'=>e = .returned (.int .i64 r) ∧ Below w.heap.size w w':=by
 have HR1:=z4.mk hr1
 have HC1:=z4.mk hc1
 clear hr1 hc1
 have HR2:=z4.mk hr2
 have HC2:=z4.mk hc2
 clear hr2 hc2
 have HB:=z4.mk (Below.refl w.heap.size w)
 have H : ((zC.f k a0).bind fun t101=>(if t101 = 0 then (some 1) else (if 0 ≤ a0 then (if (l1.length : Int) = (shl .i64 1 a0) then (z1o.j0 k a0 l1 l2 ((l2.length : Int) != a0)) else (z1o.j0 k a0 l1 l2 true)) else (none)))) = some r:=h
 clear h
 replace H:=Option.bind_eq_some_iff.mp H
 obtain ⟨t101,A40,H⟩:=H
 replace H : (if t101 = 0 then (some 1) else (if 0 ≤ a0 then (if (l1.length : Int) = (shl .i64 1 a0) then (z1o.j0 k a0 l1 l2 ((l2.length : Int) != a0)) else (z1o.j0 k a0 l1 l2 true)) else (none))) = some r:=H
 have A4:=z4.mk A40
 clear A40
 by_cases c5 : t101 = 0
 · rw [if_pos c5] at H
   have c5b0 : (t101 == 0) = true:=beq_iff_eq.mpr c5
   have c5b1 : (t101 != 0) = false:=bne_eq_false_iff_eq.mpr c5
   clear c5
   obtain rfl:=Option.some.inj H
   go_enter Try.func61,Try.ntmps61
   go_wp2_with (first|((with_reducible refine zl (f:=75) rfl ?_);refine goesL_ (some 9) rfl rfl Try.func75 zz84 rfl #[.int .i64 a0] rfl zz44 ?_;(with_reducible refine (zC.calls k a0 t101 _ A4.out).mono ?_);rintro e w' ⟨rfl,⟨nd,rfl⟩⟩;refine ⟨_,rfl,?_⟩))
   go_ret
   exact ⟨by first|rfl|(simp [zi,zj] <;> rfl)|(simp [*,zi,zj] <;> rfl),by repeat (first|(with_reducible first|exact HB.out|apply zg|apply z6|apply zc)|exact HB.out)⟩
 rw [if_neg c5] at H
 have c5b0 : (t101 == 0) = false:=beq_eq_false_iff_ne.mpr c5
 have c5b1 : (t101 != 0) = true:=bne_iff_ne.mpr c5
 have HC6:=z4.mk H
 clear H
 go_enter Try.func61,Try.ntmps61
 go_upto_region 3 with (first|((with_reducible refine zl (f:=75) rfl ?_);refine goesL_ (some 9) rfl rfl Try.func75 zz84 rfl #[.int .i64 a0] rfl zz44 ?_;(with_reducible refine (zC.calls k a0 t101 _ A4.out).mono ?_);rintro e w' ⟨rfl,⟨nd,rfl⟩⟩;refine ⟨_,rfl,?_⟩))
 (try simp only [Act.put,List.setIfInBounds_toArray,List.set_cons_zero,List.set_cons_succ])
 go_cut [11] (fun v11 wc=>∃ (kq : Nat) (x11_5 : Bool),v11 = .bool x11_5 ∧ z4 (z1o.j0 kq a0 l1 l2 x11_5 = some r) ∧ z4 (kq ≤ k) ∧ z4 (Below w.heap.size w wc))
 case first =>
  have H:=HC6.out
  clear HC6
  by_cases c7 : 0 ≤ a0
  rotate_left
  · rw [if_neg c7] at H
    exact absurd H zz87
  rw [if_pos c7] at H
  have c7b0:=eq_true c7
  have c7b1 : decide (0 ≤ a0) = true:=decide_eq_true c7
  clear c7
  obtain ⟨ji8,hji8⟩ : ∃ j_ : Int,(shl .i64 1 a0) = j_:=⟨_,rfl⟩
  replace H : (if (l1.length : Int) = (ji8) then (z1o.j0 k a0 l1 l2 ((l2.length : Int) != a0)) else (z1o.j0 k a0 l1 l2 true)) = some r:=by first|(rw [hji8] at H;exact H)|(simp only [hji8] at H ⊢;exact H)
  have hji8_ : (IntKind.i64.wrap (1 * 2 ^ min a0.toNat 64)) = ji8:=hji8
  have hji8z : a0 ≤ 64 → (IntKind.i64.wrap (1 * 2 ^ a0.toNat)) = ji8:=z1L hji8
  have hji8u : (IntKind.i64.wrap (2 ^ min a0.toNat 64)) = ji8:=by have h_:=hji8_;rw [Int.one_mul] at h_;exact h_
  have hji8v : a0 ≤ 64 → (IntKind.i64.wrap (2 ^ a0.toNat)) = ji8:=fun hle_=>by have h_:=hji8z hle_;rw [Int.one_mul] at h_;exact h_
  have hji8y : (wrap64 (1 * 2 ^ min a0.toNat 64)) = ji8:=(zY _).symm.trans hji8_
  have hji8x : a0 ≤ 64 → (wrap64 (1 * 2 ^ a0.toNat)) = ji8:=fun h_=>(zY _).symm.trans (hji8z h_)
  by_cases c9 : (l1.length : Int) = (ji8)
  rotate_left
  · rw [if_neg c9] at H
    have c9b0 : ((l1.length : Int) == (ji8)) = false:=beq_eq_false_iff_ne.mpr c9
    have c9b1 : ((l1.length : Int) != (ji8)) = true:=bne_iff_ne.mpr c9
    (first|rw [c9b0]|(simp only [zY,z16];rw [c9b0])|skip)
    have H':=z4.mk H
    clear H
    go_wp2
    go_meet
    case rel=>exact ⟨_,(true),zz81,H',⟨by first|omega|exact Nat.le_refl _⟩,⟨by repeat (first|(with_reducible first|exact HB.out|apply zg|apply z6|apply zc)|exact HB.out)⟩⟩
  rw [if_pos c9] at H
  have c9b0 : ((l1.length : Int) == (ji8)) = true:=beq_iff_eq.mpr c9
  have c9b1 : ((l1.length : Int) != (ji8)) = false:=bne_eq_false_iff_eq.mpr c9
  clear c9
  (first|rw [c9b0]|(simp only [zY,z16];rw [c9b0])|skip)
  have H':=z4.mk H
  clear H
  go_wp2
  go_meet
  case rel=>exact ⟨_,(((l2.length : Int) != a0)),zz81,H',⟨by first|omega|exact Nat.le_refl _⟩,⟨by repeat (first|(with_reducible first|exact HB.out|apply zg|apply z6|apply zc)|exact HB.out)⟩⟩
 case rest =>
  clear HC6
  (try clear c1);(try clear c2);(try clear p2);(try clear c5);(try clear c5b0);(try clear c5b1);(try clear c6);(try clear p6);(try clear c7);(try clear c7b0);(try clear c7b1);(try clear c9);(try clear c9b0);(try clear c9b1)
  obtain ⟨kq,x11_5,rfl,HA,HJ5,HB⟩:=hcut
  cases kq with
  | zero=>exact absurd HA.out (by simp [z1o.j0])
  | succ kj5 =>
   have H:=HA.out
   clear HA
   simp only [z1o.j0] at H
   by_cases c10 : x11_5 = true
   · subst c10
     have H1 : (some 6) = some r:=by rw [if_pos rfl] at H;exact H
     clear H
     have H:=H1
     clear H1
     obtain rfl:=Option.some.inj H
     go_wp2
     go_ret
     exact ⟨by first|rfl|(simp [zi,zj] <;> rfl)|(simp [*,zi,zj] <;> rfl),by repeat (first|(with_reducible first|exact HB.out|apply zg|apply z6|apply zc)|exact HB.out)⟩
   replace c10:=Bool.eq_false_iff.mpr c10
   subst c10
   have H1 : ((z14.f kj5 a0 l1).bind fun t102=>(if t102 = true then ((z14.f kj5 a0 l2).bind fun t103=>(if t103 = true then (some 0) else (some 5))) else (some 5))) = some r:=by rw [if_neg (show ¬ (false = true) by decide)] at H;exact H
   clear H
   have H:=H1
   clear H1
   replace H:=Option.bind_eq_some_iff.mp H
   obtain ⟨t102,A110,H⟩:=H
   replace H : (if t102 = true then ((z14.f kj5 a0 l2).bind fun t103=>(if t103 = true then (some 0) else (some 5))) else (some 5)) = some r:=H
   have A11:=z4.mk A110
   clear A110
   by_cases c12 : t102 = true
   rotate_left
   · replace c12:=Bool.eq_false_iff.mpr c12
     subst c12
     have H1 : (some 5) = some r:=by rw [if_neg (show ¬ (false = true) by decide)] at H;exact H
     clear H
     have H:=H1
     clear H1
     obtain rfl:=Option.some.inj H
     go_wp2_with (first|((with_reducible refine zl (f:=58) rfl ?_);refine goesL_ (some 26) rfl rfl Try.func58 zz84 rfl #[.int .i64 a0,.slice A1 l1.length c1] rfl zz44 ?_;(with_reducible refine (z14.calls kj5 a0 _ _ l1 false _ ?side1 ?side2 A11.out).mono ?_);(case side1=>repeat (first|exact (Kd.z1s HR1.out HB.out)|(with_reducible refine Kd.zQ ?_ _)|(with_reducible refine Kd.zR ?_ _)|(with_reducible refine Kd.z1c ?_)));(case side2=>exact HC1.out);rintro e w19 ⟨rfl,hb⟩;refine ⟨_,rfl,?_⟩;have n0_:=z4.mk (z9 zz45 hb);clear HB;have HB:=n0_;clear n0_;(try clear hb);(try clear hb2);(try clear hk);(try clear hi)))
     go_ret
     exact ⟨by first|rfl|(simp [zi,zj] <;> rfl)|(simp [*,zi,zj] <;> rfl),by repeat (first|(with_reducible first|exact HB.out|apply zg|apply z6|apply zc)|exact HB.out)⟩
   subst c12
   have H1 : ((z14.f kj5 a0 l2).bind fun t103=>(if t103 = true then (some 0) else (some 5))) = some r:=by rw [if_pos rfl] at H;exact H
   clear H
   have H:=H1
   clear H1
   replace H:=Option.bind_eq_some_iff.mp H
   obtain ⟨t103,A130,H⟩:=H
   replace H : (if t103 = true then (some 0) else (some 5)) = some r:=H
   have A13:=z4.mk A130
   clear A130
   by_cases c14 : t103 = true
   · subst c14
     have H1 : (some 0) = some r:=by rw [if_pos rfl] at H;exact H
     clear H
     have H:=H1
     clear H1
     obtain rfl:=Option.some.inj H
     go_wp2_with (first|((with_reducible refine zl (f:=58) rfl ?_);refine goesL_ (some 26) rfl rfl Try.func58 zz84 rfl #[.int .i64 a0,.slice A1 l1.length c1] rfl zz44 ?_;(with_reducible refine (z14.calls kj5 a0 _ _ l1 true _ ?side1 ?side2 A11.out).mono ?_);(case side1=>repeat (first|exact (Kd.z1s HR1.out HB.out)|(with_reducible refine Kd.zQ ?_ _)|(with_reducible refine Kd.zR ?_ _)|(with_reducible refine Kd.z1c ?_)));(case side2=>exact HC1.out);rintro e w15 ⟨rfl,hb⟩;refine ⟨_,rfl,?_⟩;have n0_:=z4.mk (z9 zz45 hb);clear HB;have HB:=n0_;clear n0_;(try clear hb);(try clear hb2);(try clear hk);(try clear hi))|(go_at_call 58;(with_reducible refine (z14.calls kj5 a0 _ _ l2 true _ ?side1 ?side2 A13.out).mono ?_);(case side1=>repeat (first|exact (Kd.z1s HR2.out HB.out)|(with_reducible refine Kd.zQ ?_ _)|(with_reducible refine Kd.zR ?_ _)|(with_reducible refine Kd.z1c ?_)));(case side2=>exact HC2.out);rintro e w16 ⟨rfl,hb⟩;have n0_:=z4.mk (z9 zz45 hb);clear HB;have HB:=n0_;clear n0_;(try clear hb);(try clear hb2);(try clear hk);(try clear hi)))
     go_ret
     exact ⟨by first|rfl|(simp [zi,zj] <;> rfl)|(simp [*,zi,zj] <;> rfl),by repeat (first|(with_reducible first|exact HB.out|apply zg|apply z6|apply zc)|exact HB.out)⟩
   replace c14:=Bool.eq_false_iff.mpr c14
   subst c14
   have H1 : (some 5) = some r:=by rw [if_neg (show ¬ (false = true) by decide)] at H;exact H
   clear H
   have H:=H1
   clear H1
   obtain rfl:=Option.some.inj H
   go_wp2_with (first|((with_reducible refine zl (f:=58) rfl ?_);refine goesL_ (some 26) rfl rfl Try.func58 zz84 rfl #[.int .i64 a0,.slice A1 l1.length c1] rfl zz44 ?_;(with_reducible refine (z14.calls kj5 a0 _ _ l1 true _ ?side1 ?side2 A11.out).mono ?_);(case side1=>repeat (first|exact (Kd.z1s HR1.out HB.out)|(with_reducible refine Kd.zQ ?_ _)|(with_reducible refine Kd.zR ?_ _)|(with_reducible refine Kd.z1c ?_)));(case side2=>exact HC1.out);rintro e w17 ⟨rfl,hb⟩;refine ⟨_,rfl,?_⟩;have n0_:=z4.mk (z9 zz45 hb);clear HB;have HB:=n0_;clear n0_;(try clear hb);(try clear hb2);(try clear hk);(try clear hi))|(go_at_call 58;(with_reducible refine (z14.calls kj5 a0 _ _ l2 false _ ?side1 ?side2 A13.out).mono ?_);(case side1=>repeat (first|exact (Kd.z1s HR2.out HB.out)|(with_reducible refine Kd.zQ ?_ _)|(with_reducible refine Kd.zR ?_ _)|(with_reducible refine Kd.z1c ?_)));(case side2=>exact HC2.out);rintro e w18 ⟨rfl,hb⟩;have n0_:=z4.mk (z9 zz45 hb);clear HB;have HB:=n0_;clear n0_;(try clear hb);(try clear hb2);(try clear hk);(try clear hi)))
   go_ret
   exact ⟨by first|rfl|(simp [zi,zj] <;> rfl)|(simp [*,zi,zj] <;> rfl),by repeat (first|(with_reducible first|exact HB.out|apply zg|apply z6|apply zc)|exact HB.out)⟩
end Go.Proofs.Ytklkmflhnljbdaa.P
namespace Go.Proofs.Ytklkmflhnljbdaa.P
open Go.RowKit Go.Proofs.YtklkmflhnljbdaaW.PrintWords Go.Proofs.YtklkmflhnljbdaaW.PrintLast Go.Proofs.YtklkmflhnljbdaaW.PrintMore
attribute [local go_sem] z17 z19 z1m z1n zU zV z18 z1a   -- for this text's walks alone
set_option linter.unusedVariables false
set_option linter.unusedSimpArgs false
def z1x.f (k : Nat) (a0 : Int) (l1 : List (S37)) (l2 : List (S37)) : Option (Int × Int × Int):=(z1o.f k a0 l1 l2).bind fun t102=>(if t102 = 0 then ((zm.f k a0 l2).bind fun t103=>((zL.f k a0 t103 l1).bind fun bt106=>(some (bt106.1,bt106.2,0)))) else (some (0,0,t102)))
theorem z1x.mono : ∀ a0 a1 a2 k,LeO (z1x.f k a0 a1 a2) (z1x.f (k + 1) a0 a1 a2):=by
 intro a0 a1 a2 k
 unfold z1x.f
 repeat' first
  | (with_reducible exact zm.mono _ _ _)
  | (with_reducible exact z1o.mono _ _ _ _)
  | (with_reducible exact zL.mono _ _ _ _)
  | (with_reducible exact LeO.refl _)
  | (with_reducible exact LeO.none _)
  | (with_reducible refine LeO.ite ?_ ?_)
  | (with_reducible refine LeO.bind ?_ (fun _=>?_))
  | exact zm.mono _ _ _
  | exact z1o.mono _ _ _ _
  | exact zL.mono _ _ _ _
  | exact LeO.none _
  | refine LeO.ite ?_ ?_
  | refine LeO.bind ?_ (fun _=>?_)
set_option maxHeartbeats 8000000 in
set_option maxRecDepth 100000 in
theorem z1x.calls (k : Nat) (a0 : Int) (A1 : Option Addr) (c1 : Nat) (l1 : List (S37)) (A2 : Option Addr) (c2 : Nat) (l2 : List (S37)) (r1 : Int) (r2 : Int) (r3 : Int) (w : World) (hr1 : Kd.C k37 w A1 l1.length l1) (hc1 : l1.length ≤ c1) (hr2 : Kd.C k37 w A2 l2.length l2) (hc2 : l2.length ≤ c2) (h : z1x.f k a0 l1 l2 = some (r1,r2,r3)) :
 Calls Try.prog 25 #[.int .i64 a0,.slice A1 l1.length c1,.slice A2 l2.length c2] w fun e w'=>e = .returned (.tuple #[.agg #[.int .u64 r1,.int .u64 r2],.int .i64 r3]) ∧ Below w.heap.size w w':=by
 have hu37:=Try.underlying37
 have HR1:=z4.mk hr1
 have HC1:=z4.mk hc1
 clear hr1 hc1
 have HR2:=z4.mk hr2
 have HC2:=z4.mk hc2
 clear hr2 hc2
 have HB:=z4.mk (Below.refl w.heap.size w)
 have H : ((z1o.f k a0 l1 l2).bind fun t102=>(if t102 = 0 then ((zm.f k a0 l2).bind fun t103=>((zL.f k a0 t103 l1).bind fun bt106=>(some (bt106.1,bt106.2,0)))) else (some (0,0,t102)))) = some (r1,r2,r3):=h
 clear h
 replace H:=Option.bind_eq_some_iff.mp H
 obtain ⟨t102,A40,H⟩:=H
 replace H : (if t102 = 0 then ((zm.f k a0 l2).bind fun t103=>((zL.f k a0 t103 l1).bind fun bt106=>(some (bt106.1,bt106.2,0)))) else (some (0,0,t102))) = some (r1,r2,r3):=H
 have A4:=z4.mk A40
 clear A40
 by_cases c5 : t102 = 0
 rotate_left
 · rw [if_neg c5] at H
   have c5b0 : (t102 == 0) = false:=beq_eq_false_iff_ne.mpr c5
   have c5b1 : (t102 != 0) = true:=bne_iff_ne.mpr c5
   simp only [Option.some.injEq,Prod.mk.injEq] at H
   obtain ⟨rfl,rfl,rfl⟩:=H
   go_enter Try.func25,Try.ntmps25
   go_wp2_with (first|((with_reducible refine zr (N:=6) rfl ?_);refine zy ?hg (N:=6) ?hd (cs:=#[.int .u64 0,.int .u64 0]) (t:=37) ?hr ?_;(case hd=>rfl);(case hg=>rfl);(case hr=>first|(go_simp;done)|(go_simp;rfl));intro gb101 hg w14 hbox hb;have n0_:=z4.mk (z9 zz45 hb);have n1_:=z4.mk (hbox);have n2_:=z4.mk ((by rw [hg];exact (ze zz45) : w.heap.size ≤ gb101));have n3_:=z4.mk ((by rw [hg];exact (ze zz45) : w.heap.size ≤ gb101));clear HB;have HB:=n0_;have BK101:=n1_;have GW101:=n2_;have GE101:=n3_;clear n0_ n1_ n2_ n3_;clear hb hbox hg)|((with_reducible refine zl (f:=61) rfl ?_);refine goesL_ (some 12) rfl rfl Try.func61 zz84 rfl #[.int .i64 a0,.slice A1 l1.length c1,.slice A2 l2.length c2] rfl zz44 ?_;(with_reducible refine (z1o.calls k a0 _ _ l1 _ _ l2 t102 _ ?side1 ?side2 ?side3 ?side4 A4.out).mono ?_);(case side1=>repeat (first|exact (Kd.z1s HR1.out HB.out)|(with_reducible refine Kd.zQ ?_ _)|(with_reducible refine Kd.zR ?_ _)|(with_reducible refine Kd.z1c ?_)));(case side2=>exact HC1.out);(case side3=>repeat (first|exact (Kd.z1s HR2.out HB.out)|(with_reducible refine Kd.zQ ?_ _)|(with_reducible refine Kd.zR ?_ _)|(with_reducible refine Kd.z1c ?_)));(case side4=>exact HC2.out);rintro e w15 ⟨rfl,hb⟩;refine ⟨_,rfl,?_⟩;have n0_:=z4.mk (zh (g:=gb101) (o:=.cells #[.int .u64 0,.int .u64 0] 37 (0,0)) zz46 hb);have n1_:=z4.mk (z9 zz40 hb);clear BK101;clear HB;have BK101:=n0_;have HB:=n1_;clear n0_ n1_;(try clear hb);(try clear hb2);(try clear hk);(try clear hi);have hcz16_0 : w15.cell? ⟨gb101,0,none⟩ = some (.int .u64 0):=(zf BK101.out 0).trans rfl;have hcz16_1 : w15.cell? ⟨gb101,1,none⟩ = some (.int .u64 0):=(zf BK101.out 1).trans rfl;have hfz16_0:=za BK101.out 0;have hfz16_1:=za BK101.out 1))
   refine bodyPost_ret (z2o rfl _ _ gb101 37 #[.int .u64 0,.int .u64 0] (0,0) _ rfl zz7 Try.underlying37 rfl zz84) rfl ?_
   exact ⟨by first|rfl|(simp [zi,zj] <;> rfl)|(simp [*,zi,zj] <;> rfl),by repeat (first|(with_reducible first|exact HB.out|apply zg|apply z6|apply zc|refine zd ?_ GE101.out)|exact HB.out)⟩
 rw [if_pos c5] at H
 have c5b0 : (t102 == 0) = true:=beq_iff_eq.mpr c5
 have c5b1 : (t102 != 0) = false:=bne_eq_false_iff_eq.mpr c5
 clear c5
 replace H:=Option.bind_eq_some_iff.mp H
 obtain ⟨t103,A60,H⟩:=H
 replace H : ((zL.f k a0 t103 l1).bind fun bt106=>(some (bt106.1,bt106.2,0))) = some (r1,r2,r3):=H
 have A6:=z4.mk A60
 clear A60
 replace H:=Option.bind_eq_some_iff.mp H
 obtain ⟨⟨t106,t107⟩,A70,H⟩:=H
 replace H : (some (t106,t107,0)) = some (r1,r2,r3):=H
 have A7:=z4.mk A70
 clear A70
 simp only [Option.some.injEq,Prod.mk.injEq] at H
 obtain ⟨rfl,rfl,rfl⟩:=H
 go_enter Try.func25,Try.ntmps25
 go_wp2_with (first|((with_reducible refine zr (N:=6) rfl ?_);refine zy ?hg (N:=6) ?hd (cs:=#[.int .u64 0,.int .u64 0]) (t:=37) ?hr ?_;(case hd=>rfl);(case hg=>rfl);(case hr=>first|(go_simp;done)|(go_simp;rfl));intro gb101 hg w8 hbox hb;have n0_:=z4.mk (z9 zz45 hb);have n1_:=z4.mk (hbox);have n2_:=z4.mk ((by rw [hg];exact (ze zz45) : w.heap.size ≤ gb101));have n3_:=z4.mk ((by rw [hg];exact (ze zz45) : w.heap.size ≤ gb101));clear HB;have HB:=n0_;have BK101:=n1_;have GW101:=n2_;have GE101:=n3_;clear n0_ n1_ n2_ n3_;clear hb hbox hg)|((with_reducible refine zl (f:=61) rfl ?_);refine goesL_ (some 12) rfl rfl Try.func61 zz84 rfl #[.int .i64 a0,.slice A1 l1.length c1,.slice A2 l2.length c2] rfl zz44 ?_;(with_reducible refine (z1o.calls k a0 _ _ l1 _ _ l2 t102 _ ?side1 ?side2 ?side3 ?side4 A4.out).mono ?_);(case side1=>repeat (first|exact (Kd.z1s HR1.out HB.out)|(with_reducible refine Kd.zQ ?_ _)|(with_reducible refine Kd.zR ?_ _)|(with_reducible refine Kd.z1c ?_)));(case side2=>exact HC1.out);(case side3=>repeat (first|exact (Kd.z1s HR2.out HB.out)|(with_reducible refine Kd.zQ ?_ _)|(with_reducible refine Kd.zR ?_ _)|(with_reducible refine Kd.z1c ?_)));(case side4=>exact HC2.out);rintro e w9 ⟨rfl,hb⟩;refine ⟨_,rfl,?_⟩;have n0_:=z4.mk (zh (g:=gb101) (o:=.cells #[.int .u64 0,.int .u64 0] 37 (0,0)) zz46 hb);have n1_:=z4.mk (z9 zz40 hb);clear BK101;clear HB;have BK101:=n0_;have HB:=n1_;clear n0_ n1_;(try clear hb);(try clear hb2);(try clear hk);(try clear hi))|((with_reducible refine zl (f:=59) rfl ?_);refine goesL_ (some 20) rfl rfl Try.func59 zz84 rfl #[.int .i64 a0,.slice A2 l2.length c2] rfl zz44 ?_;(with_reducible refine (zm.calls k a0 _ _ l2 t103 _ ?side1 ?side2 A6.out).mono ?_);(case side1=>repeat (first|exact (Kd.z1s HR2.out HB.out)|(with_reducible refine Kd.zQ ?_ _)|(with_reducible refine Kd.zR ?_ _)|(with_reducible refine Kd.z1c ?_)));(case side2=>exact HC2.out);rintro e w10 ⟨v104,rfl,ho0,hb⟩;refine ⟨_,rfl,?_⟩;have n0_:=z4.mk (Kd.z1e (Kd.z2c ho0 (g:=gb101) (o:=.cells #[.int .u64 0,.int .u64 0] 37 (0,0)) zz46) (ze zz40));have n1_:=z4.mk (zh (g:=gb101) (o:=.cells #[.int .u64 0,.int .u64 0] 37 (0,0)) zz46 hb);have n2_:=z4.mk (z9 zz40 hb);clear BK101;clear HB;have HO105:=n0_;have BK101:=n1_;have HB:=n2_;clear n0_ n1_ n2_;(try clear hb);(try clear hb2);(try clear hk);(try clear hi);(try clear ho0);obtain ⟨Ao11,co11,eo11⟩:=Kd.z1j HO105.out;subst eo11)|((with_reducible refine zl (f:=52) rfl ?_);refine goesL_ (some 22) rfl rfl Try.func52 zz84 rfl #[.int .i64 a0,.slice Ao11 t103.length co11,.slice A1 l1.length c1] rfl zz44 ?_;(with_reducible refine (zL.calls k a0 _ _ t103 _ _ l1 t106 t107 _ ?side1 ?side2 ?side3 ?side4 A7.out).mono ?_);(case side1=>repeat (first|exact (Kd.zv HO105.out).2.2|(with_reducible refine Kd.zQ ?_ _)|(with_reducible refine Kd.zR ?_ _)|(with_reducible refine Kd.z1c ?_)));(case side2=>exact (Kd.zv HO105.out).2.1);(case side3=>repeat (first|exact (Kd.z1s HR1.out HB.out)|(with_reducible refine Kd.zQ ?_ _)|(with_reducible refine Kd.zR ?_ _)|(with_reducible refine Kd.z1c ?_)));(case side4=>exact HC1.out);rintro e w12 ⟨rfl,hb⟩;refine ⟨_,rfl,?_⟩;have n0_:=z4.mk (Kd.zx (by (with_reducible repeat (first|apply Kd.zH|apply Kd.zI|apply Kd.zS));exact HO105.out) hb);have n1_:=z4.mk (zh (g:=gb101) (o:=.cells #[.int .u64 0,.int .u64 0] 37 (0,0)) zz46 hb);have n2_:=z4.mk (z9 zz40 hb);clear HO105;clear BK101;clear HB;have HO105:=n0_;have BK101:=n1_;have HB:=n2_;clear n0_ n1_ n2_;(try clear hb);(try clear hb2);(try clear hk);(try clear hi);have hcz13_0 : w12.cell? ⟨gb101,0,none⟩ = some (.int .u64 0):=(zf BK101.out 0).trans rfl;have hcz13_1 : w12.cell? ⟨gb101,1,none⟩ = some (.int .u64 0):=(zf BK101.out 1).trans rfl;have hfz13_0:=za BK101.out 0;have hfz13_1:=za BK101.out 1))
 refine bodyPost_ret (z2o rfl _ _ gb101 37 #[.int .u64 t106,.int .u64 t107] (0,0) _ rfl (by (with_reducible repeat (first|refine z8 ?_ _|refine zb ?_|refine z7 ?_ _));refine zX (cs:=#[.int .u64 t106,.int .u64 0]) ?_ 1 _ rfl;(with_reducible repeat (first|refine z8 ?_ _|refine zb ?_|refine z7 ?_ _));refine zX (cs:=#[.int .u64 0,.int .u64 0]) ?_ 0 _ rfl;(with_reducible repeat (first|refine z8 ?_ _|refine zb ?_|refine z7 ?_ _));exact BK101.out) Try.underlying37 rfl zz84) rfl ?_
 exact ⟨by first|rfl|(simp [zi,zj] <;> rfl)|(simp [*,zi,zj] <;> rfl),by repeat (first|(with_reducible first|exact HB.out|apply zg|apply z6|apply zc|refine zd ?_ GE101.out)|exact HB.out)⟩
end Go.Proofs.Ytklkmflhnljbdaa.P
namespace Go.Proofs.Ytklkmflhnljbdaa.P
open Go.RowKit Go.Proofs.YtklkmflhnljbdaaW.PrintWords Go.Proofs.YtklkmflhnljbdaaW.PrintLast Go.Proofs.YtklkmflhnljbdaaW.PrintMore
attribute [local go_sem] z17 z19 z1m z1n zU zV z18 z1a   -- for this text's walks alone
set_option linter.unusedVariables false
set_option linter.unusedSimpArgs false
def z13.j0 : Nat → Int → List (S37) → List (S37) → Bool → Option (Int)
 | 0,_,_,_,_=>none
 | k + 1,x0,x1,x2,x11=>if x11 = true then (some 6) else ((z14.f k x0 x1).bind fun t102=>(if t102 = true then ((z14.f k x0 x2).bind fun t103=>(if t103 = true then (some 0) else (some 5))) else (some 5)))
def z13.f (k : Nat) (a0 : Int) (l1 : List (S37)) (l2 : List (S37)) : Option (Int):=(zC.f k a0).bind fun t101=>(if t101 = 0 then (some 1) else (if (l1.length : Int) > 12 then (z13.j0 k a0 l1 l2 true) else (z13.j0 k a0 l1 l2 ((l2.length : Int) != a0))))
theorem z13.z1b : ∀ k,(∀ y0 y1 y2 y3,LeO (z13.j0 k y0 y1 y2 y3) (z13.j0 (k + 1) y0 y1 y2 y3))
 | 0=>fun _ _ _ _ r h=>by simp [z13.j0] at h
 | k + 1=>by
  have ih0:=z13.z1b k
  · intro y0 y1 y2 y3
    unfold z13.j0
    repeat' first
    | (with_reducible exact ih0 _ _ _ _)
    | (with_reducible exact zC.mono _ _)
    | (with_reducible exact z14.mono _ _ _)
    | (with_reducible exact LeO.refl _)
    | (with_reducible exact LeO.none _)
    | (with_reducible refine LeO.ite ?_ ?_)
    | (with_reducible refine LeO.bind ?_ (fun _=>?_))
    | exact ih0 _ _ _ _
    | exact zC.mono _ _
    | exact z14.mono _ _ _
    | exact LeO.none _
    | refine LeO.ite ?_ ?_
    | refine LeO.bind ?_ (fun _=>?_)
theorem z13.mono : ∀ a0 a1 a2 k,LeO (z13.f k a0 a1 a2) (z13.f (k + 1) a0 a1 a2):=by
 intro a0 a1 a2 k
 have ih0:=z13.z1b k
 unfold z13.f
 repeat' first
  | (with_reducible exact ih0 _ _ _ _)
  | (with_reducible exact zC.mono _ _)
  | (with_reducible exact z14.mono _ _ _)
  | (with_reducible exact LeO.refl _)
  | (with_reducible exact LeO.none _)
  | (with_reducible refine LeO.ite ?_ ?_)
  | (with_reducible refine LeO.bind ?_ (fun _=>?_))
  | exact ih0 _ _ _ _
  | exact zC.mono _ _
  | exact z14.mono _ _ _
  | exact LeO.none _
  | refine LeO.ite ?_ ?_
  | refine LeO.bind ?_ (fun _=>?_)
set_option maxHeartbeats 8000000 in
set_option maxRecDepth 100000 in
theorem z13.calls (k : Nat) (a0 : Int) (A1 : Option Addr) (c1 : Nat) (l1 : List (S37)) (A2 : Option Addr) (c2 : Nat) (l2 : List (S37)) (r : Int) (w : World) (hr1 : Kd.C k37 w A1 l1.length l1) (hc1 : l1.length ≤ c1) (hr2 : Kd.C k37 w A2 l2.length l2) (hc2 : l2.length ≤ c2) (h : z13.f k a0 l1 l2 = some r) :
 Calls Try.prog 68 #[.int .i64 a0,.slice A1 l1.length c1,.slice A2 l2.length c2] w fun e w'=>e = .returned (.int .i64 r) ∧ Below w.heap.size w w':=by
 have HR1:=z4.mk hr1
 have HC1:=z4.mk hc1
 clear hr1 hc1
 have HR2:=z4.mk hr2
 have HC2:=z4.mk hc2
 clear hr2 hc2
 have HB:=z4.mk (Below.refl w.heap.size w)
 have H : ((zC.f k a0).bind fun t101=>(if t101 = 0 then (some 1) else (if (l1.length : Int) > 12 then (z13.j0 k a0 l1 l2 true) else (z13.j0 k a0 l1 l2 ((l2.length : Int) != a0))))) = some r:=h
 clear h
 replace H:=Option.bind_eq_some_iff.mp H
 obtain ⟨t101,A40,H⟩:=H
 replace H : (if t101 = 0 then (some 1) else (if (l1.length : Int) > 12 then (z13.j0 k a0 l1 l2 true) else (z13.j0 k a0 l1 l2 ((l2.length : Int) != a0)))) = some r:=H
 have A4:=z4.mk A40
 clear A40
 by_cases c5 : t101 = 0
 · rw [if_pos c5] at H
   have c5b0 : (t101 == 0) = true:=beq_iff_eq.mpr c5
   have c5b1 : (t101 != 0) = false:=bne_eq_false_iff_eq.mpr c5
   clear c5
   obtain rfl:=Option.some.inj H
   go_enter Try.func68,Try.ntmps68
   go_wp2_with (first|((with_reducible refine zl (f:=75) rfl ?_);refine goesL_ (some 9) rfl rfl Try.func75 zz84 rfl #[.int .i64 a0] rfl zz44 ?_;(with_reducible refine (zC.calls k a0 t101 _ A4.out).mono ?_);rintro e w' ⟨rfl,⟨nd,rfl⟩⟩;refine ⟨_,rfl,?_⟩))
   go_ret
   exact ⟨by first|rfl|(simp [zi,zj] <;> rfl)|(simp [*,zi,zj] <;> rfl),by repeat (first|(with_reducible first|exact HB.out|apply zg|apply z6|apply zc)|exact HB.out)⟩
 rw [if_neg c5] at H
 have c5b0 : (t101 == 0) = false:=beq_eq_false_iff_ne.mpr c5
 have c5b1 : (t101 != 0) = true:=bne_iff_ne.mpr c5
 have HC6:=z4.mk H
 clear H
 go_enter Try.func68,Try.ntmps68
 go_upto_region 3 with (first|((with_reducible refine zl (f:=75) rfl ?_);refine goesL_ (some 9) rfl rfl Try.func75 zz84 rfl #[.int .i64 a0] rfl zz44 ?_;(with_reducible refine (zC.calls k a0 t101 _ A4.out).mono ?_);rintro e w' ⟨rfl,⟨nd,rfl⟩⟩;refine ⟨_,rfl,?_⟩))
 (try simp only [Act.put,List.setIfInBounds_toArray,List.set_cons_zero,List.set_cons_succ])
 go_cut [11] (fun v11 wc=>∃ (kq : Nat) (x11_5 : Bool),v11 = .bool x11_5 ∧ z4 (z13.j0 kq a0 l1 l2 x11_5 = some r) ∧ z4 (kq ≤ k) ∧ z4 (Below w.heap.size w wc))
 case first =>
  have H:=HC6.out
  clear HC6
  by_cases c7 : (l1.length : Int) > 12
  rotate_left
  · rw [if_neg c7] at H
    have c7b0 : decide (12 < (l1.length : Int)) = false:=decide_eq_false c7
    have c7b1 : decide (12 < l1.length) = false:=decide_eq_false zz86
    clear c7
    (first|rw [c7b0]|(simp only [zY,z16];rw [c7b0])|skip)
    have H':=z4.mk H
    clear H
    go_wp2
    go_meet
    case rel=>exact ⟨_,(((l2.length : Int) != a0)),zz81,H',⟨by first|omega|exact Nat.le_refl _⟩,⟨by repeat (first|(with_reducible first|exact HB.out|apply zg|apply z6|apply zc)|exact HB.out)⟩⟩
  rw [if_pos c7] at H
  have c7b0 : decide (12 < (l1.length : Int)) = true:=decide_eq_true c7
  have c7b1 : decide (12 < l1.length) = true:=decide_eq_true zz86
  clear c7
  (first|rw [c7b0]|(simp only [zY,z16];rw [c7b0])|skip)
  have H':=z4.mk H
  clear H
  go_wp2
  go_meet
  case rel=>exact ⟨_,(true),zz81,H',⟨by first|omega|exact Nat.le_refl _⟩,⟨by repeat (first|(with_reducible first|exact HB.out|apply zg|apply z6|apply zc)|exact HB.out)⟩⟩
 case rest =>
  clear HC6
  (try clear c1);(try clear c2);(try clear p2);(try clear c5);(try clear c5b0);(try clear c5b1);(try clear c6);(try clear c7);(try clear c7b0);(try clear c7b1)
  obtain ⟨kq,x11_5,rfl,HA,HJ5,HB⟩:=hcut
  cases kq with
  | zero=>exact absurd HA.out (by simp [z13.j0])
  | succ kj5 =>
   have H:=HA.out
   clear HA
   simp only [z13.j0] at H
   by_cases c8 : x11_5 = true
   · subst c8
     have H1 : (some 6) = some r:=by rw [if_pos rfl] at H;exact H
     clear H
     have H:=H1
     clear H1
     obtain rfl:=Option.some.inj H
     go_wp2
     go_ret
     exact ⟨by first|rfl|(simp [zi,zj] <;> rfl)|(simp [*,zi,zj] <;> rfl),by repeat (first|(with_reducible first|exact HB.out|apply zg|apply z6|apply zc)|exact HB.out)⟩
   replace c8:=Bool.eq_false_iff.mpr c8
   subst c8
   have H1 : ((z14.f kj5 a0 l1).bind fun t102=>(if t102 = true then ((z14.f kj5 a0 l2).bind fun t103=>(if t103 = true then (some 0) else (some 5))) else (some 5))) = some r:=by rw [if_neg (show ¬ (false = true) by decide)] at H;exact H
   clear H
   have H:=H1
   clear H1
   replace H:=Option.bind_eq_some_iff.mp H
   obtain ⟨t102,A90,H⟩:=H
   replace H : (if t102 = true then ((z14.f kj5 a0 l2).bind fun t103=>(if t103 = true then (some 0) else (some 5))) else (some 5)) = some r:=H
   have A9:=z4.mk A90
   clear A90
   by_cases c10 : t102 = true
   rotate_left
   · replace c10:=Bool.eq_false_iff.mpr c10
     subst c10
     have H1 : (some 5) = some r:=by rw [if_neg (show ¬ (false = true) by decide)] at H;exact H
     clear H
     have H:=H1
     clear H1
     obtain rfl:=Option.some.inj H
     go_wp2_with (first|((with_reducible refine zl (f:=58) rfl ?_);refine goesL_ (some 24) rfl rfl Try.func58 zz84 rfl #[.int .i64 a0,.slice A1 l1.length c1] rfl zz44 ?_;(with_reducible refine (z14.calls kj5 a0 _ _ l1 false _ ?side1 ?side2 A9.out).mono ?_);(case side1=>repeat (first|exact (Kd.z1s HR1.out HB.out)|(with_reducible refine Kd.zQ ?_ _)|(with_reducible refine Kd.zR ?_ _)|(with_reducible refine Kd.z1c ?_)));(case side2=>exact HC1.out);rintro e w17 ⟨rfl,hb⟩;refine ⟨_,rfl,?_⟩;have n0_:=z4.mk (z9 zz45 hb);clear HB;have HB:=n0_;clear n0_;(try clear hb);(try clear hb2);(try clear hk);(try clear hi)))
     go_ret
     exact ⟨by first|rfl|(simp [zi,zj] <;> rfl)|(simp [*,zi,zj] <;> rfl),by repeat (first|(with_reducible first|exact HB.out|apply zg|apply z6|apply zc)|exact HB.out)⟩
   subst c10
   have H1 : ((z14.f kj5 a0 l2).bind fun t103=>(if t103 = true then (some 0) else (some 5))) = some r:=by rw [if_pos rfl] at H;exact H
   clear H
   have H:=H1
   clear H1
   replace H:=Option.bind_eq_some_iff.mp H
   obtain ⟨t103,A110,H⟩:=H
   replace H : (if t103 = true then (some 0) else (some 5)) = some r:=H
   have A11:=z4.mk A110
   clear A110
   by_cases c12 : t103 = true
   · subst c12
     have H1 : (some 0) = some r:=by rw [if_pos rfl] at H;exact H
     clear H
     have H:=H1
     clear H1
     obtain rfl:=Option.some.inj H
     go_wp2_with (first|((with_reducible refine zl (f:=58) rfl ?_);refine goesL_ (some 24) rfl rfl Try.func58 zz84 rfl #[.int .i64 a0,.slice A1 l1.length c1] rfl zz44 ?_;(with_reducible refine (z14.calls kj5 a0 _ _ l1 true _ ?side1 ?side2 A9.out).mono ?_);(case side1=>repeat (first|exact (Kd.z1s HR1.out HB.out)|(with_reducible refine Kd.zQ ?_ _)|(with_reducible refine Kd.zR ?_ _)|(with_reducible refine Kd.z1c ?_)));(case side2=>exact HC1.out);rintro e w13 ⟨rfl,hb⟩;refine ⟨_,rfl,?_⟩;have n0_:=z4.mk (z9 zz45 hb);clear HB;have HB:=n0_;clear n0_;(try clear hb);(try clear hb2);(try clear hk);(try clear hi))|(go_at_call 58;(with_reducible refine (z14.calls kj5 a0 _ _ l2 true _ ?side1 ?side2 A11.out).mono ?_);(case side1=>repeat (first|exact (Kd.z1s HR2.out HB.out)|(with_reducible refine Kd.zQ ?_ _)|(with_reducible refine Kd.zR ?_ _)|(with_reducible refine Kd.z1c ?_)));(case side2=>exact HC2.out);rintro e w14 ⟨rfl,hb⟩;have n0_:=z4.mk (z9 zz45 hb);clear HB;have HB:=n0_;clear n0_;(try clear hb);(try clear hb2);(try clear hk);(try clear hi)))
     go_ret
     exact ⟨by first|rfl|(simp [zi,zj] <;> rfl)|(simp [*,zi,zj] <;> rfl),by repeat (first|(with_reducible first|exact HB.out|apply zg|apply z6|apply zc)|exact HB.out)⟩
   replace c12:=Bool.eq_false_iff.mpr c12
   subst c12
   have H1 : (some 5) = some r:=by rw [if_neg (show ¬ (false = true) by decide)] at H;exact H
   clear H
   have H:=H1
   clear H1
   obtain rfl:=Option.some.inj H
   go_wp2_with (first|((with_reducible refine zl (f:=58) rfl ?_);refine goesL_ (some 24) rfl rfl Try.func58 zz84 rfl #[.int .i64 a0,.slice A1 l1.length c1] rfl zz44 ?_;(with_reducible refine (z14.calls kj5 a0 _ _ l1 true _ ?side1 ?side2 A9.out).mono ?_);(case side1=>repeat (first|exact (Kd.z1s HR1.out HB.out)|(with_reducible refine Kd.zQ ?_ _)|(with_reducible refine Kd.zR ?_ _)|(with_reducible refine Kd.z1c ?_)));(case side2=>exact HC1.out);rintro e w15 ⟨rfl,hb⟩;refine ⟨_,rfl,?_⟩;have n0_:=z4.mk (z9 zz45 hb);clear HB;have HB:=n0_;clear n0_;(try clear hb);(try clear hb2);(try clear hk);(try clear hi))|(go_at_call 58;(with_reducible refine (z14.calls kj5 a0 _ _ l2 false _ ?side1 ?side2 A11.out).mono ?_);(case side1=>repeat (first|exact (Kd.z1s HR2.out HB.out)|(with_reducible refine Kd.zQ ?_ _)|(with_reducible refine Kd.zR ?_ _)|(with_reducible refine Kd.z1c ?_)));(case side2=>exact HC2.out);rintro e w16 ⟨rfl,hb⟩;have n0_:=z4.mk (z9 zz45 hb);clear HB;have HB:=n0_;clear n0_;(try clear hb);(try clear hb2);(try clear hk);(try clear hi)))
   go_ret
   exact ⟨by first|rfl|(simp [zi,zj] <;> rfl)|(simp [*,zi,zj] <;> rfl),by repeat (first|(with_reducible first|exact HB.out|apply zg|apply z6|apply zc)|exact HB.out)⟩
end Go.Proofs.Ytklkmflhnljbdaa.P
namespace Go.Proofs.Ytklkmflhnljbdaa.P
open Go.RowKit Go.Proofs.YtklkmflhnljbdaaW.PrintWords Go.Proofs.YtklkmflhnljbdaaW.PrintLast Go.Proofs.YtklkmflhnljbdaaW.PrintMore
attribute [local go_sem] z17 z19 z1m z1n zU zV z18 z1a   -- for this text's walks alone
set_option linter.unusedVariables false
set_option linter.unusedSimpArgs false
def z1g.j0 : Nat → Int → Int → Option (Int)
 | 0,_,_=>none
 | k + 1,x0,x2=>if x0 ≥ 65536 then (if (x0 / 65536) ≥ 256 then (if 0 ≤ (((x0 / 65536) / 256) % 256) then (if (((x0 / 65536) / 256) % 256) < 256 then (some (wrap64 ((wrap64 ((wrap64 (x2 + 16)) + 8)) + (wrap64 (bt (⟨#[0,1,2,2,3,3,3,3,4,4,4,4,4,4,4,4,5,5,5,5,5,5,5,5,5,5,5,5,5,5,5,5,6,6,6,6,6,6,6,6,6,6,6,6,6,6,6,6,6,6,6,6,6,6,6,6,6,6,6,6,6,6,6,6,7,7,7,7,7,7,7,7,7,7,7,7,7,7,7,7,7,7,7,7,7,7,7,7,7,7,7,7,7,7,7,7,7,7,7,7,7,7,7,7,7,7,7,7,7,7,7,7,7,7,7,7,7,7,7,7,7,7,7,7,7,7,7,7,8,8,8,8,8,8,8,8,8,8,8,8,8,8,8,8,8,8,8,8,8,8,8,8,8,8,8,8,8,8,8,8,8,8,8,8,8,8,8,8,8,8,8,8,8,8,8,8,8,8,8,8,8,8,8,8,8,8,8,8,8,8,8,8,8,8,8,8,8,8,8,8,8,8,8,8,8,8,8,8,8,8,8,8,8,8,8,8,8,8,8,8,8,8,8,8,8,8,8,8,8,8,8,8,8,8,8,8,8,8,8,8,8,8,8,8,8,8,8,8,8,8,8,8,8,8,8,8]⟩ : ByteArray) (((x0 / 65536) / 256) % 256)))))) else (none)) else (none)) else (if 0 ≤ ((x0 / 65536) % 256) then (if ((x0 / 65536) % 256) < 256 then (some (wrap64 ((wrap64 (x2 + 16)) + (wrap64 (bt (⟨#[0,1,2,2,3,3,3,3,4,4,4,4,4,4,4,4,5,5,5,5,5,5,5,5,5,5,5,5,5,5,5,5,6,6,6,6,6,6,6,6,6,6,6,6,6,6,6,6,6,6,6,6,6,6,6,6,6,6,6,6,6,6,6,6,7,7,7,7,7,7,7,7,7,7,7,7,7,7,7,7,7,7,7,7,7,7,7,7,7,7,7,7,7,7,7,7,7,7,7,7,7,7,7,7,7,7,7,7,7,7,7,7,7,7,7,7,7,7,7,7,7,7,7,7,7,7,7,7,8,8,8,8,8,8,8,8,8,8,8,8,8,8,8,8,8,8,8,8,8,8,8,8,8,8,8,8,8,8,8,8,8,8,8,8,8,8,8,8,8,8,8,8,8,8,8,8,8,8,8,8,8,8,8,8,8,8,8,8,8,8,8,8,8,8,8,8,8,8,8,8,8,8,8,8,8,8,8,8,8,8,8,8,8,8,8,8,8,8,8,8,8,8,8,8,8,8,8,8,8,8,8,8,8,8,8,8,8,8,8,8,8,8,8,8,8,8,8,8,8,8,8,8,8,8,8,8]⟩ : ByteArray) ((x0 / 65536) % 256)))))) else (none)) else (none))) else (if x0 ≥ 256 then (if 0 ≤ ((x0 / 256) % 256) then (if ((x0 / 256) % 256) < 256 then (some (wrap64 ((wrap64 (x2 + 8)) + (wrap64 (bt (⟨#[0,1,2,2,3,3,3,3,4,4,4,4,4,4,4,4,5,5,5,5,5,5,5,5,5,5,5,5,5,5,5,5,6,6,6,6,6,6,6,6,6,6,6,6,6,6,6,6,6,6,6,6,6,6,6,6,6,6,6,6,6,6,6,6,7,7,7,7,7,7,7,7,7,7,7,7,7,7,7,7,7,7,7,7,7,7,7,7,7,7,7,7,7,7,7,7,7,7,7,7,7,7,7,7,7,7,7,7,7,7,7,7,7,7,7,7,7,7,7,7,7,7,7,7,7,7,7,7,8,8,8,8,8,8,8,8,8,8,8,8,8,8,8,8,8,8,8,8,8,8,8,8,8,8,8,8,8,8,8,8,8,8,8,8,8,8,8,8,8,8,8,8,8,8,8,8,8,8,8,8,8,8,8,8,8,8,8,8,8,8,8,8,8,8,8,8,8,8,8,8,8,8,8,8,8,8,8,8,8,8,8,8,8,8,8,8,8,8,8,8,8,8,8,8,8,8,8,8,8,8,8,8,8,8,8,8,8,8,8,8,8,8,8,8,8,8,8,8,8,8,8,8,8,8,8,8]⟩ : ByteArray) ((x0 / 256) % 256)))))) else (none)) else (none)) else (if 0 ≤ ((x0) % 256) then (if ((x0) % 256) < 256 then (some (wrap64 (x2 + (wrap64 (bt (⟨#[0,1,2,2,3,3,3,3,4,4,4,4,4,4,4,4,5,5,5,5,5,5,5,5,5,5,5,5,5,5,5,5,6,6,6,6,6,6,6,6,6,6,6,6,6,6,6,6,6,6,6,6,6,6,6,6,6,6,6,6,6,6,6,6,7,7,7,7,7,7,7,7,7,7,7,7,7,7,7,7,7,7,7,7,7,7,7,7,7,7,7,7,7,7,7,7,7,7,7,7,7,7,7,7,7,7,7,7,7,7,7,7,7,7,7,7,7,7,7,7,7,7,7,7,7,7,7,7,8,8,8,8,8,8,8,8,8,8,8,8,8,8,8,8,8,8,8,8,8,8,8,8,8,8,8,8,8,8,8,8,8,8,8,8,8,8,8,8,8,8,8,8,8,8,8,8,8,8,8,8,8,8,8,8,8,8,8,8,8,8,8,8,8,8,8,8,8,8,8,8,8,8,8,8,8,8,8,8,8,8,8,8,8,8,8,8,8,8,8,8,8,8,8,8,8,8,8,8,8,8,8,8,8,8,8,8,8,8,8,8,8,8,8,8,8,8,8,8,8,8,8,8,8,8,8,8]⟩ : ByteArray) ((x0) % 256)))))) else (none)) else (none)))
def z1g.f (k : Nat) (a0 : Int) : Option (Int):=if a0 ≥ 4294967296 then (z1g.j0 k (a0 / 4294967296) 32) else (z1g.j0 k a0 0)
theorem z1g.z1b : ∀ k,(∀ y0 y1,LeO (z1g.j0 k y0 y1) (z1g.j0 (k + 1) y0 y1))
 | 0=>fun _ _ r h=>by simp [z1g.j0] at h
 | k + 1=>by
  have ih0:=z1g.z1b k
  · intro y0 y1
    unfold z1g.j0
    repeat' first
    | (with_reducible exact ih0 _ _)
    | (with_reducible exact LeO.refl _)
    | (with_reducible exact LeO.none _)
    | (with_reducible refine LeO.ite ?_ ?_)
    | (with_reducible refine LeO.bind ?_ (fun _=>?_))
    | exact ih0 _ _
    | exact LeO.none _
    | refine LeO.ite ?_ ?_
    | refine LeO.bind ?_ (fun _=>?_)
theorem z1g.mono : ∀ a0 k,LeO (z1g.f k a0) (z1g.f (k + 1) a0):=by
 intro a0 k
 have ih0:=z1g.z1b k
 unfold z1g.f
 repeat' first
  | (with_reducible exact ih0 _ _)
  | (with_reducible exact LeO.refl _)
  | (with_reducible exact LeO.none _)
  | (with_reducible refine LeO.ite ?_ ?_)
  | (with_reducible refine LeO.bind ?_ (fun _=>?_))
  | exact ih0 _ _
  | exact LeO.none _
  | refine LeO.ite ?_ ?_
  | refine LeO.bind ?_ (fun _=>?_)
set_option maxHeartbeats 8000000 in
set_option maxRecDepth 100000 in
theorem z1g.calls (k : Nat) (a0 : Int) (r : Int) (w : World) (h : z1g.f k a0 = some r) :
 Calls Try.prog 122 #[.int .u64 a0] w fun e w'=>e = .returned (.int .i64 r) ∧ Drawn0 w w':=by
 have H : (if a0 ≥ 4294967296 then (z1g.j0 k (a0 / 4294967296) 32) else (z1g.j0 k a0 0)) = some r:=h
 clear h
 have HC2:=z4.mk H
 clear H
 go_enter Try.func122,Try.ntmps122
 go_upto_if 4 with (fail)
 go_cut [0,2] (fun v0 v2 wc=>∃ (kq : Nat) (x0_1 : Int) (x2_1 : Int),v0 = .int .u64 x0_1 ∧ v2 = .int .i64 x2_1 ∧ z4 (z1g.j0 kq x0_1 x2_1 = some r) ∧ z4 (kq ≤ k) ∧ Drawn0 w wc)
 case first =>
  have H:=HC2.out
  clear HC2
  by_cases c3 : a0 ≥ 4294967296
  rotate_left
  · rw [if_neg c3] at H
    have c3b0 : decide (4294967296 ≤ a0) = false:=decide_eq_false c3
    clear c3
    (first|rw [c3b0]|(simp only [zY,z16];rw [c3b0])|skip)
    have H':=z4.mk H
    clear H
    go_wp2
    go_meet
    case rel=>exact ⟨_,(a0),(0),zz81,zz81,H',⟨by first|omega|exact Nat.le_refl _⟩,by repeat (first|exact Drawn0.refl _|apply Drawn0.step)⟩
  rw [if_pos c3] at H
  have c3b0 : decide (4294967296 ≤ a0) = true:=decide_eq_true c3
  clear c3
  (first|rw [c3b0]|(simp only [zY,z16];rw [c3b0])|skip)
  have H':=z4.mk H
  clear H
  go_wp2
  go_meet
  case rel=>exact ⟨_,(a0 / 4294967296),(32),zz81,zz81,H',⟨by first|omega|exact Nat.le_refl _⟩,by repeat (first|exact Drawn0.refl _|apply Drawn0.step)⟩
 case rest =>
  clear HC2
  (try clear c1);(try clear p2);(try clear c3);(try clear c3b0)
  obtain ⟨kq,x0_1,x2_1,rfl,rfl,HA,HJ1,⟨mc1,rfl⟩⟩:=hcut
  cases kq with
  | zero=>exact absurd HA.out (by simp [z1g.j0])
  | succ kj1 =>
   have H:=HA.out
   clear HA
   simp only [z1g.j0] at H
   by_cases c4 : x0_1 ≥ 65536
   · rw [if_pos c4] at H
     have c4b0 : decide (65536 ≤ x0_1) = true:=decide_eq_true c4
     clear c4
     by_cases c5 : (x0_1 / 65536) ≥ 256
     rotate_left
     · rw [if_neg c5] at H
       have c5b0 : decide (256 ≤ (x0_1 / 65536)) = false:=decide_eq_false c5
       clear c5
       obtain ⟨ji10,hji10⟩ : ∃ j_ : Int,((x0_1 / 65536) % 256) = j_:=⟨_,rfl⟩
       replace H : (if 0 ≤ (ji10) then (if (ji10) < 256 then (some (wrap64 ((wrap64 (x2_1 + 16)) + (wrap64 (bt (⟨#[0,1,2,2,3,3,3,3,4,4,4,4,4,4,4,4,5,5,5,5,5,5,5,5,5,5,5,5,5,5,5,5,6,6,6,6,6,6,6,6,6,6,6,6,6,6,6,6,6,6,6,6,6,6,6,6,6,6,6,6,6,6,6,6,7,7,7,7,7,7,7,7,7,7,7,7,7,7,7,7,7,7,7,7,7,7,7,7,7,7,7,7,7,7,7,7,7,7,7,7,7,7,7,7,7,7,7,7,7,7,7,7,7,7,7,7,7,7,7,7,7,7,7,7,7,7,7,7,8,8,8,8,8,8,8,8,8,8,8,8,8,8,8,8,8,8,8,8,8,8,8,8,8,8,8,8,8,8,8,8,8,8,8,8,8,8,8,8,8,8,8,8,8,8,8,8,8,8,8,8,8,8,8,8,8,8,8,8,8,8,8,8,8,8,8,8,8,8,8,8,8,8,8,8,8,8,8,8,8,8,8,8,8,8,8,8,8,8,8,8,8,8,8,8,8,8,8,8,8,8,8,8,8,8,8,8,8,8,8,8,8,8,8,8,8,8,8,8,8,8,8,8,8,8,8,8]⟩ : ByteArray) (ji10)))))) else (none)) else (none)) = some r:=by first|(rw [hji10] at H;exact H)|(simp only [hji10] at H ⊢;exact H)
       by_cases c11 : 0 ≤ (ji10)
       rotate_left
       · rw [if_neg c11] at H
         exact absurd H zz87
       rw [if_pos c11] at H
       have c11b0 : decide (0 ≤ (ji10)) = true:=decide_eq_true c11
       clear c11
       by_cases c12 : (ji10) < 256
       rotate_left
       · rw [if_neg c12] at H
         exact absurd H zz87
       rw [if_pos c12] at H
       have c12b0 : decide ((ji10) < 256) = true:=decide_eq_true c12
       clear c12
       obtain rfl:=Option.some.inj H
       have p13 : 0 ≤ ((ji10) : Int):=of_decide_eq_true zz80
       have q13 : (ji10) < (256 : Int):=of_decide_eq_true zz80
       have hx13:=bt_at (⟨#[0,1,2,2,3,3,3,3,4,4,4,4,4,4,4,4,5,5,5,5,5,5,5,5,5,5,5,5,5,5,5,5,6,6,6,6,6,6,6,6,6,6,6,6,6,6,6,6,6,6,6,6,6,6,6,6,6,6,6,6,6,6,6,6,7,7,7,7,7,7,7,7,7,7,7,7,7,7,7,7,7,7,7,7,7,7,7,7,7,7,7,7,7,7,7,7,7,7,7,7,7,7,7,7,7,7,7,7,7,7,7,7,7,7,7,7,7,7,7,7,7,7,7,7,7,7,7,7,8,8,8,8,8,8,8,8,8,8,8,8,8,8,8,8,8,8,8,8,8,8,8,8,8,8,8,8,8,8,8,8,8,8,8,8,8,8,8,8,8,8,8,8,8,8,8,8,8,8,8,8,8,8,8,8,8,8,8,8,8,8,8,8,8,8,8,8,8,8,8,8,8,8,8,8,8,8,8,8,8,8,8,8,8,8,8,8,8,8,8,8,8,8,8,8,8,8,8,8,8,8,8,8,8,8,8,8,8,8,8,8,8,8,8,8,8,8,8,8,8,8,8,8,8,8,8,8]⟩ : ByteArray) (ji10)
       replace p13:=eq_true p13
       replace q13:=eq_true q13
       go_wp2
       go_ret
       exact ⟨by first|rfl|(simp;done)|(simp only [← hji10] <;> (first|rfl|simp))|(simp [*];done),by repeat (first|exact Drawn0.refl _|apply Drawn0.step)⟩
     rw [if_pos c5] at H
     have c5b0 : decide (256 ≤ (x0_1 / 65536)) = true:=decide_eq_true c5
     clear c5
     obtain ⟨ji6,hji6⟩ : ∃ j_ : Int,(((x0_1 / 65536) / 256) % 256) = j_:=⟨_,rfl⟩
     replace H : (if 0 ≤ (ji6) then (if (ji6) < 256 then (some (wrap64 ((wrap64 ((wrap64 (x2_1 + 16)) + 8)) + (wrap64 (bt (⟨#[0,1,2,2,3,3,3,3,4,4,4,4,4,4,4,4,5,5,5,5,5,5,5,5,5,5,5,5,5,5,5,5,6,6,6,6,6,6,6,6,6,6,6,6,6,6,6,6,6,6,6,6,6,6,6,6,6,6,6,6,6,6,6,6,7,7,7,7,7,7,7,7,7,7,7,7,7,7,7,7,7,7,7,7,7,7,7,7,7,7,7,7,7,7,7,7,7,7,7,7,7,7,7,7,7,7,7,7,7,7,7,7,7,7,7,7,7,7,7,7,7,7,7,7,7,7,7,7,8,8,8,8,8,8,8,8,8,8,8,8,8,8,8,8,8,8,8,8,8,8,8,8,8,8,8,8,8,8,8,8,8,8,8,8,8,8,8,8,8,8,8,8,8,8,8,8,8,8,8,8,8,8,8,8,8,8,8,8,8,8,8,8,8,8,8,8,8,8,8,8,8,8,8,8,8,8,8,8,8,8,8,8,8,8,8,8,8,8,8,8,8,8,8,8,8,8,8,8,8,8,8,8,8,8,8,8,8,8,8,8,8,8,8,8,8,8,8,8,8,8,8,8,8,8,8,8]⟩ : ByteArray) (ji6)))))) else (none)) else (none)) = some r:=by first|(rw [hji6] at H;exact H)|(simp only [hji6] at H ⊢;exact H)
     by_cases c7 : 0 ≤ (ji6)
     rotate_left
     · rw [if_neg c7] at H
       exact absurd H zz87
     rw [if_pos c7] at H
     have c7b0 : decide (0 ≤ (ji6)) = true:=decide_eq_true c7
     clear c7
     by_cases c8 : (ji6) < 256
     rotate_left
     · rw [if_neg c8] at H
       exact absurd H zz87
     rw [if_pos c8] at H
     have c8b0 : decide ((ji6) < 256) = true:=decide_eq_true c8
     clear c8
     obtain rfl:=Option.some.inj H
     have p9 : 0 ≤ ((ji6) : Int):=of_decide_eq_true zz80
     have q9 : (ji6) < (256 : Int):=of_decide_eq_true zz80
     have hx9:=bt_at (⟨#[0,1,2,2,3,3,3,3,4,4,4,4,4,4,4,4,5,5,5,5,5,5,5,5,5,5,5,5,5,5,5,5,6,6,6,6,6,6,6,6,6,6,6,6,6,6,6,6,6,6,6,6,6,6,6,6,6,6,6,6,6,6,6,6,7,7,7,7,7,7,7,7,7,7,7,7,7,7,7,7,7,7,7,7,7,7,7,7,7,7,7,7,7,7,7,7,7,7,7,7,7,7,7,7,7,7,7,7,7,7,7,7,7,7,7,7,7,7,7,7,7,7,7,7,7,7,7,7,8,8,8,8,8,8,8,8,8,8,8,8,8,8,8,8,8,8,8,8,8,8,8,8,8,8,8,8,8,8,8,8,8,8,8,8,8,8,8,8,8,8,8,8,8,8,8,8,8,8,8,8,8,8,8,8,8,8,8,8,8,8,8,8,8,8,8,8,8,8,8,8,8,8,8,8,8,8,8,8,8,8,8,8,8,8,8,8,8,8,8,8,8,8,8,8,8,8,8,8,8,8,8,8,8,8,8,8,8,8,8,8,8,8,8,8,8,8,8,8,8,8,8,8,8,8,8,8]⟩ : ByteArray) (ji6)
     replace p9:=eq_true p9
     replace q9:=eq_true q9
     go_wp2
     go_ret
     exact ⟨by first|rfl|(simp;done)|(simp only [← hji6] <;> (first|rfl|simp))|(simp [*];done),by repeat (first|exact Drawn0.refl _|apply Drawn0.step)⟩
   rw [if_neg c4] at H
   have c4b0 : decide (65536 ≤ x0_1) = false:=decide_eq_false c4
   clear c4
   by_cases c14 : x0_1 ≥ 256
   · rw [if_pos c14] at H
     have c14b0 : decide (256 ≤ x0_1) = true:=decide_eq_true c14
     clear c14
     obtain ⟨ji15,hji15⟩ : ∃ j_ : Int,((x0_1 / 256) % 256) = j_:=⟨_,rfl⟩
     replace H : (if 0 ≤ (ji15) then (if (ji15) < 256 then (some (wrap64 ((wrap64 (x2_1 + 8)) + (wrap64 (bt (⟨#[0,1,2,2,3,3,3,3,4,4,4,4,4,4,4,4,5,5,5,5,5,5,5,5,5,5,5,5,5,5,5,5,6,6,6,6,6,6,6,6,6,6,6,6,6,6,6,6,6,6,6,6,6,6,6,6,6,6,6,6,6,6,6,6,7,7,7,7,7,7,7,7,7,7,7,7,7,7,7,7,7,7,7,7,7,7,7,7,7,7,7,7,7,7,7,7,7,7,7,7,7,7,7,7,7,7,7,7,7,7,7,7,7,7,7,7,7,7,7,7,7,7,7,7,7,7,7,7,8,8,8,8,8,8,8,8,8,8,8,8,8,8,8,8,8,8,8,8,8,8,8,8,8,8,8,8,8,8,8,8,8,8,8,8,8,8,8,8,8,8,8,8,8,8,8,8,8,8,8,8,8,8,8,8,8,8,8,8,8,8,8,8,8,8,8,8,8,8,8,8,8,8,8,8,8,8,8,8,8,8,8,8,8,8,8,8,8,8,8,8,8,8,8,8,8,8,8,8,8,8,8,8,8,8,8,8,8,8,8,8,8,8,8,8,8,8,8,8,8,8,8,8,8,8,8,8]⟩ : ByteArray) (ji15)))))) else (none)) else (none)) = some r:=by first|(rw [hji15] at H;exact H)|(simp only [hji15] at H ⊢;exact H)
     by_cases c16 : 0 ≤ (ji15)
     rotate_left
     · rw [if_neg c16] at H
       exact absurd H zz87
     rw [if_pos c16] at H
     have c16b0 : decide (0 ≤ (ji15)) = true:=decide_eq_true c16
     clear c16
     by_cases c17 : (ji15) < 256
     rotate_left
     · rw [if_neg c17] at H
       exact absurd H zz87
     rw [if_pos c17] at H
     have c17b0 : decide ((ji15) < 256) = true:=decide_eq_true c17
     clear c17
     obtain rfl:=Option.some.inj H
     have p18 : 0 ≤ ((ji15) : Int):=of_decide_eq_true zz80
     have q18 : (ji15) < (256 : Int):=of_decide_eq_true zz80
     have hx18:=bt_at (⟨#[0,1,2,2,3,3,3,3,4,4,4,4,4,4,4,4,5,5,5,5,5,5,5,5,5,5,5,5,5,5,5,5,6,6,6,6,6,6,6,6,6,6,6,6,6,6,6,6,6,6,6,6,6,6,6,6,6,6,6,6,6,6,6,6,7,7,7,7,7,7,7,7,7,7,7,7,7,7,7,7,7,7,7,7,7,7,7,7,7,7,7,7,7,7,7,7,7,7,7,7,7,7,7,7,7,7,7,7,7,7,7,7,7,7,7,7,7,7,7,7,7,7,7,7,7,7,7,7,8,8,8,8,8,8,8,8,8,8,8,8,8,8,8,8,8,8,8,8,8,8,8,8,8,8,8,8,8,8,8,8,8,8,8,8,8,8,8,8,8,8,8,8,8,8,8,8,8,8,8,8,8,8,8,8,8,8,8,8,8,8,8,8,8,8,8,8,8,8,8,8,8,8,8,8,8,8,8,8,8,8,8,8,8,8,8,8,8,8,8,8,8,8,8,8,8,8,8,8,8,8,8,8,8,8,8,8,8,8,8,8,8,8,8,8,8,8,8,8,8,8,8,8,8,8,8,8]⟩ : ByteArray) (ji15)
     replace p18:=eq_true p18
     replace q18:=eq_true q18
     go_wp2
     go_ret
     exact ⟨by first|rfl|(simp;done)|(simp only [← hji15] <;> (first|rfl|simp))|(simp [*];done),by repeat (first|exact Drawn0.refl _|apply Drawn0.step)⟩
   rw [if_neg c14] at H
   have c14b0 : decide (256 ≤ x0_1) = false:=decide_eq_false c14
   clear c14
   obtain ⟨ji19,hji19⟩ : ∃ j_ : Int,((x0_1) % 256) = j_:=⟨_,rfl⟩
   replace H : (if 0 ≤ (ji19) then (if (ji19) < 256 then (some (wrap64 (x2_1 + (wrap64 (bt (⟨#[0,1,2,2,3,3,3,3,4,4,4,4,4,4,4,4,5,5,5,5,5,5,5,5,5,5,5,5,5,5,5,5,6,6,6,6,6,6,6,6,6,6,6,6,6,6,6,6,6,6,6,6,6,6,6,6,6,6,6,6,6,6,6,6,7,7,7,7,7,7,7,7,7,7,7,7,7,7,7,7,7,7,7,7,7,7,7,7,7,7,7,7,7,7,7,7,7,7,7,7,7,7,7,7,7,7,7,7,7,7,7,7,7,7,7,7,7,7,7,7,7,7,7,7,7,7,7,7,8,8,8,8,8,8,8,8,8,8,8,8,8,8,8,8,8,8,8,8,8,8,8,8,8,8,8,8,8,8,8,8,8,8,8,8,8,8,8,8,8,8,8,8,8,8,8,8,8,8,8,8,8,8,8,8,8,8,8,8,8,8,8,8,8,8,8,8,8,8,8,8,8,8,8,8,8,8,8,8,8,8,8,8,8,8,8,8,8,8,8,8,8,8,8,8,8,8,8,8,8,8,8,8,8,8,8,8,8,8,8,8,8,8,8,8,8,8,8,8,8,8,8,8,8,8,8,8]⟩ : ByteArray) (ji19)))))) else (none)) else (none)) = some r:=by first|(rw [hji19] at H;exact H)|(simp only [hji19] at H ⊢;exact H)
   by_cases c20 : 0 ≤ (ji19)
   rotate_left
   · rw [if_neg c20] at H
     exact absurd H zz87
   rw [if_pos c20] at H
   have c20b0 : decide (0 ≤ (ji19)) = true:=decide_eq_true c20
   clear c20
   by_cases c21 : (ji19) < 256
   rotate_left
   · rw [if_neg c21] at H
     exact absurd H zz87
   rw [if_pos c21] at H
   have c21b0 : decide ((ji19) < 256) = true:=decide_eq_true c21
   clear c21
   obtain rfl:=Option.some.inj H
   have p22 : 0 ≤ ((ji19) : Int):=of_decide_eq_true zz80
   have q22 : (ji19) < (256 : Int):=of_decide_eq_true zz80
   have hx22:=bt_at (⟨#[0,1,2,2,3,3,3,3,4,4,4,4,4,4,4,4,5,5,5,5,5,5,5,5,5,5,5,5,5,5,5,5,6,6,6,6,6,6,6,6,6,6,6,6,6,6,6,6,6,6,6,6,6,6,6,6,6,6,6,6,6,6,6,6,7,7,7,7,7,7,7,7,7,7,7,7,7,7,7,7,7,7,7,7,7,7,7,7,7,7,7,7,7,7,7,7,7,7,7,7,7,7,7,7,7,7,7,7,7,7,7,7,7,7,7,7,7,7,7,7,7,7,7,7,7,7,7,7,8,8,8,8,8,8,8,8,8,8,8,8,8,8,8,8,8,8,8,8,8,8,8,8,8,8,8,8,8,8,8,8,8,8,8,8,8,8,8,8,8,8,8,8,8,8,8,8,8,8,8,8,8,8,8,8,8,8,8,8,8,8,8,8,8,8,8,8,8,8,8,8,8,8,8,8,8,8,8,8,8,8,8,8,8,8,8,8,8,8,8,8,8,8,8,8,8,8,8,8,8,8,8,8,8,8,8,8,8,8,8,8,8,8,8,8,8,8,8,8,8,8,8,8,8,8,8,8]⟩ : ByteArray) (ji19)
   replace p22:=eq_true p22
   replace q22:=eq_true q22
   go_wp2
   go_ret
   exact ⟨by first|rfl|(simp;done)|(simp only [← hji19] <;> (first|rfl|simp))|(simp [*];done),by repeat (first|exact Drawn0.refl _|apply Drawn0.step)⟩
end Go.Proofs.Ytklkmflhnljbdaa.P
namespace Go.Proofs.Ytklkmflhnljbdaa.P
open Go.RowKit Go.Proofs.YtklkmflhnljbdaaW.PrintWords Go.Proofs.YtklkmflhnljbdaaW.PrintLast Go.Proofs.YtklkmflhnljbdaaW.PrintMore
attribute [local go_sem] z17 z19 z1m z1n zU zV z18 z1a   -- for this text's walks alone
set_option linter.unusedVariables false
set_option linter.unusedSimpArgs false
def z1Q.f (k : Nat) (a0_0 : Int) (a0_1 : Int) : Option (Int):=if a0_0 = 0 then ((z1g.f k a0_1).bind fun t102=>(some (wrap64 (t102 - 1)))) else ((z1g.f k a0_0).bind fun t103=>(some (wrap64 (63 + t103))))
theorem z1Q.mono : ∀ a0 a1 k,LeO (z1Q.f k a0 a1) (z1Q.f (k + 1) a0 a1):=by
 intro a0 a1 k
 unfold z1Q.f
 repeat' first
  | (with_reducible exact z1g.mono _ _)
  | (with_reducible exact LeO.refl _)
  | (with_reducible exact LeO.none _)
  | (with_reducible refine LeO.ite ?_ ?_)
  | (with_reducible refine LeO.bind ?_ (fun _=>?_))
  | exact z1g.mono _ _
  | exact LeO.none _
  | refine LeO.ite ?_ ?_
  | refine LeO.bind ?_ (fun _=>?_)
set_option maxHeartbeats 8000000 in
set_option maxRecDepth 100000 in
theorem z1Q.calls (k : Nat) (a0_0 : Int) (a0_1 : Int) (r : Int) (w : World) (h : z1Q.f k a0_0 a0_1 = some r) :
 Calls Try.prog 100 #[.agg #[.int .u64 a0_0,.int .u64 a0_1]] w fun e w'=>e = .returned (.int .i64 r) ∧ Below w.heap.size w w':=by
 have hu37:=Try.underlying37
 have HB:=z4.mk (Below.refl w.heap.size w)
 have H : (if a0_0 = 0 then ((z1g.f k a0_1).bind fun t102=>(some (wrap64 (t102 - 1)))) else ((z1g.f k a0_0).bind fun t103=>(some (wrap64 (63 + t103))))) = some r:=h
 clear h
 by_cases c2 : a0_0 = 0
 rotate_left
 · rw [if_neg c2] at H
   have c2b0 : (a0_0 == 0) = false:=beq_eq_false_iff_ne.mpr c2
   have c2b1 : (a0_0 != 0) = true:=bne_iff_ne.mpr c2
   replace H:=Option.bind_eq_some_iff.mp H
   obtain ⟨t103,A60,H⟩:=H
   replace H : (some (wrap64 (63 + t103))) = some r:=H
   have A6:=z4.mk A60
   clear A60
   obtain rfl:=Option.some.inj H
   go_enter Try.func100,Try.ntmps100
   go_wp2_with (first|((with_reducible refine zr (N:=1) rfl ?_);refine zy ?hg (N:=1) ?hd (cs:=#[.int .u64 a0_0,.int .u64 a0_1]) (t:=37) ?hr ?_;(case hd=>rfl);(case hg=>rfl);(case hr=>first|(go_simp;done)|(go_simp;rfl));intro gb101 hg w7 hbox hb;have n0_:=z4.mk (z9 zz45 hb);have n1_:=z4.mk (hbox);have n2_:=z4.mk ((by rw [hg];exact (ze zz45) : w.heap.size ≤ gb101));have n3_:=z4.mk ((by rw [hg];exact (ze zz45) : w.heap.size ≤ gb101));clear HB;have HB:=n0_;have BK101:=n1_;have GW101:=n2_;have GE101:=n3_;clear n0_ n1_ n2_ n3_;clear hb hbox hg;have hcz8_0 : w7.cell? ⟨gb101,0,none⟩ = some (.int .u64 a0_0):=(zf BK101.out 0).trans rfl;have hcz8_1 : w7.cell? ⟨gb101,1,none⟩ = some (.int .u64 a0_1):=(zf BK101.out 1).trans rfl;have hfz8_0:=za BK101.out 0;have hfz8_1:=za BK101.out 1)|((with_reducible refine zl (f:=122) rfl ?_);refine goesL_ (some 8) rfl rfl Try.func122 zz84 rfl #[.int .u64 a0_0] rfl zz44 ?_;(with_reducible refine (z1g.calls k a0_0 t103 _ A6.out).mono ?_);rintro e w' ⟨rfl,⟨nd,rfl⟩⟩;refine ⟨_,rfl,?_⟩))
   go_ret
   exact ⟨by first|rfl|(simp [zi,zj] <;> rfl)|(simp [*,zi,zj] <;> rfl),by repeat (first|(with_reducible first|exact HB.out|apply zg|apply z6|apply zc|refine zd ?_ GE101.out)|exact HB.out)⟩
 rw [if_pos c2] at H
 have c2b0 : (a0_0 == 0) = true:=beq_iff_eq.mpr c2
 have c2b1 : (a0_0 != 0) = false:=bne_eq_false_iff_eq.mpr c2
 clear c2
 replace H:=Option.bind_eq_some_iff.mp H
 obtain ⟨t102,A30,H⟩:=H
 replace H : (some (wrap64 (t102 - 1))) = some r:=H
 have A3:=z4.mk A30
 clear A30
 obtain rfl:=Option.some.inj H
 go_enter Try.func100,Try.ntmps100
 go_wp2_with (first|((with_reducible refine zr (N:=1) rfl ?_);refine zy ?hg (N:=1) ?hd (cs:=#[.int .u64 a0_0,.int .u64 a0_1]) (t:=37) ?hr ?_;(case hd=>rfl);(case hg=>rfl);(case hr=>first|(go_simp;done)|(go_simp;rfl));intro gb101 hg w4 hbox hb;have n0_:=z4.mk (z9 zz45 hb);have n1_:=z4.mk (hbox);have n2_:=z4.mk ((by rw [hg];exact (ze zz45) : w.heap.size ≤ gb101));have n3_:=z4.mk ((by rw [hg];exact (ze zz45) : w.heap.size ≤ gb101));clear HB;have HB:=n0_;have BK101:=n1_;have GW101:=n2_;have GE101:=n3_;clear n0_ n1_ n2_ n3_;clear hb hbox hg;have hcz5_0 : w4.cell? ⟨gb101,0,none⟩ = some (.int .u64 a0_0):=(zf BK101.out 0).trans rfl;have hcz5_1 : w4.cell? ⟨gb101,1,none⟩ = some (.int .u64 a0_1):=(zf BK101.out 1).trans rfl;have hfz5_0:=za BK101.out 0;have hfz5_1:=za BK101.out 1)|((with_reducible refine zl (f:=122) rfl ?_);refine goesL_ (some 12) rfl rfl Try.func122 zz84 rfl #[.int .u64 a0_1] rfl zz44 ?_;(with_reducible refine (z1g.calls k a0_1 t102 _ A3.out).mono ?_);rintro e w' ⟨rfl,⟨nd,rfl⟩⟩;refine ⟨_,rfl,?_⟩))
 go_ret
 exact ⟨by first|rfl|(simp [zi,zj] <;> rfl)|(simp [*,zi,zj] <;> rfl),by repeat (first|(with_reducible first|exact HB.out|apply zg|apply z6|apply zc|refine zd ?_ GE101.out)|exact HB.out)⟩
end Go.Proofs.Ytklkmflhnljbdaa.P
namespace Go.Proofs.Ytklkmflhnljbdaa.P
open Go.RowKit Go.Proofs.YtklkmflhnljbdaaW.PrintWords Go.Proofs.YtklkmflhnljbdaaW.PrintLast Go.Proofs.YtklkmflhnljbdaaW.PrintMore
attribute [local go_sem] z17 z19 z1m z1n zU zV z18 z1a   -- for this text's walks alone
set_option linter.unusedVariables false
set_option linter.unusedSimpArgs false
def zT.j0 : Nat → Int → Bool → Option (Int × Int)
 | 0,_,_=>none
 | k + 1,x0,x3=>if x3 = true then (if 0 ≤ x0 then (some (0,shl .u64 1 x0)) else (none)) else (if x0 ≥ 64 then (if x0 < 128 then (if 0 ≤ (wrap64 (x0 - 64)) then (some (shl .u64 1 (wrap64 (x0 - 64)),0)) else (none)) else (some (0,0))) else (some (0,0)))
def zT.f (k : Nat) (a0 : Int) : Option (Int × Int):=if a0 ≥ 0 then (zT.j0 k a0 (decide (a0 < 64))) else (zT.j0 k a0 false)
theorem zT.z1b : ∀ k,(∀ y0 y1,LeO (zT.j0 k y0 y1) (zT.j0 (k + 1) y0 y1))
 | 0=>fun _ _ r h=>by simp [zT.j0] at h
 | k + 1=>by
  have ih0:=zT.z1b k
  · intro y0 y1
    unfold zT.j0
    repeat' first
    | (with_reducible exact ih0 _ _)
    | (with_reducible exact LeO.refl _)
    | (with_reducible exact LeO.none _)
    | (with_reducible refine LeO.ite ?_ ?_)
    | (with_reducible refine LeO.bind ?_ (fun _=>?_))
    | exact ih0 _ _
    | exact LeO.none _
    | refine LeO.ite ?_ ?_
    | refine LeO.bind ?_ (fun _=>?_)
theorem zT.mono : ∀ a0 k,LeO (zT.f k a0) (zT.f (k + 1) a0):=by
 intro a0 k
 have ih0:=zT.z1b k
 unfold zT.f
 repeat' first
  | (with_reducible exact ih0 _ _)
  | (with_reducible exact LeO.refl _)
  | (with_reducible exact LeO.none _)
  | (with_reducible refine LeO.ite ?_ ?_)
  | (with_reducible refine LeO.bind ?_ (fun _=>?_))
  | exact ih0 _ _
  | exact LeO.none _
  | refine LeO.ite ?_ ?_
  | refine LeO.bind ?_ (fun _=>?_)
set_option maxHeartbeats 8000000 in
set_option maxRecDepth 100000 in
theorem zT.calls (k : Nat) (a0 : Int) (r1 : Int) (r2 : Int) (w : World) (h : zT.f k a0 = some (r1,r2)) :
 Calls Try.prog 96 #[.int .i64 a0] w fun e w'=>e = .returned (.agg #[.int .u64 r1,.int .u64 r2]) ∧ Below w.heap.size w w':=by
 have hu37:=Try.underlying37
 have HB:=z4.mk (Below.refl w.heap.size w)
 have H : (if a0 ≥ 0 then (zT.j0 k a0 (decide (a0 < 64))) else (zT.j0 k a0 false)) = some (r1,r2):=h
 clear h
 have HC2:=z4.mk H
 clear H
 go_enter Try.func96,Try.ntmps96
 go_upto_region 1 with (first|((with_reducible refine zr (N:=2) rfl ?_);refine zy ?hg (N:=2) ?hd (cs:=#[.int .u64 0,.int .u64 0]) (t:=37) ?hr ?_;(case hd=>rfl);(case hg=>rfl);(case hr=>first|(go_simp;done)|(go_simp;rfl));intro gb101 hg w3 hbox hb;have n0_:=z4.mk (z9 zz45 hb);have n1_:=z4.mk (hbox);have n2_:=z4.mk ((by rw [hg];exact (ze zz45) : w.heap.size ≤ gb101));have n3_:=z4.mk ((by rw [hg];exact (ze zz45) : w.heap.size ≤ gb101));clear HB;have HB:=n0_;have BK101:=n1_;have GW101:=n2_;have GE101:=n3_;clear n0_ n1_ n2_ n3_;clear hb hbox hg))
 (try simp only [Act.put,List.setIfInBounds_toArray,List.set_cons_zero,List.set_cons_succ])
 go_cut [3] (fun v3 wc=>∃ (kq : Nat) (x3_1 : Bool),v3 = .bool x3_1 ∧ z4 (zT.j0 kq a0 x3_1 = some (r1,r2)) ∧ z4 (kq ≤ k) ∧ z4 (wc.heap[gb101]? = some (.cells #[.int .u64 0,.int .u64 0] 37 (0,0))) ∧ z4 (Below w.heap.size w wc))
 case first =>
  have H:=HC2.out
  clear HC2
  by_cases c4 : a0 ≥ 0
  rotate_left
  · rw [if_neg c4] at H
    have c4b0 : decide (0 ≤ a0) = false:=decide_eq_false c4
    clear c4
    (first|rw [c4b0]|(simp only [zY,z16];rw [c4b0])|skip)
    have H':=z4.mk H
    clear H
    go_wp2
    go_meet
    case rel=>exact ⟨_,(false),zz81,H',⟨by first|omega|exact Nat.le_refl _⟩,⟨by (with_reducible repeat (first|refine z8 ?_ _|refine zb ?_|refine z7 ?_ _));exact BK101.out⟩,⟨by repeat (first|(with_reducible first|exact HB.out|apply zg|apply z6|apply zc|refine zd ?_ GE101.out)|exact HB.out)⟩⟩
  rw [if_pos c4] at H
  have c4b0 : decide (0 ≤ a0) = true:=decide_eq_true c4
  clear c4
  (first|rw [c4b0]|(simp only [zY,z16];rw [c4b0])|skip)
  have H':=z4.mk H
  clear H
  go_wp2
  go_meet
  case rel=>exact ⟨_,(decide (a0 < 64)),zz81,H',⟨by first|omega|exact Nat.le_refl _⟩,⟨by (with_reducible repeat (first|refine z8 ?_ _|refine zb ?_|refine z7 ?_ _));exact BK101.out⟩,⟨by repeat (first|(with_reducible first|exact HB.out|apply zg|apply z6|apply zc|refine zd ?_ GE101.out)|exact HB.out)⟩⟩
 case rest =>
  clear HC2
  (try clear p2);(try clear c4);(try clear c4b0)
  obtain ⟨kq,x3_1,rfl,HA,HJ1,BK101,HB⟩:=hcut
  cases kq with
  | zero=>exact absurd HA.out (by simp [zT.j0])
  | succ kj1 =>
   have H:=HA.out
   clear HA
   simp only [zT.j0] at H
   by_cases c5 : x3_1 = true
   · subst c5
     have H1 : (if 0 ≤ a0 then (some (0,shl .u64 1 a0)) else (none)) = some (r1,r2):=by rw [if_pos rfl] at H;exact H
     clear H
     have H:=H1
     clear H1
     by_cases c6 : 0 ≤ a0
     rotate_left
     · rw [if_neg c6] at H
       exact absurd H zz87
     rw [if_pos c6] at H
     have c6b0:=eq_true c6
     have c6b1 : decide (0 ≤ a0) = true:=decide_eq_true c6
     clear c6
     obtain ⟨ji7,hji7⟩ : ∃ j_ : Int,(shl .u64 1 a0) = j_:=⟨_,rfl⟩
     replace H : (some (0,ji7)) = some (r1,r2):=by first|(rw [hji7] at H;exact H)|(simp only [hji7] at H ⊢;exact H)
     have hji7_ : (IntKind.u64.wrap (1 * 2 ^ min a0.toNat 64)) = ji7:=hji7
     have hji7z : a0 ≤ 64 → (IntKind.u64.wrap (1 * 2 ^ a0.toNat)) = ji7:=z1L hji7
     have hji7n0 : 0 ≤ ji7:=by rw [← hji7];exact Int.emod_nonneg _ zz85
     have hji7n1 : decide (0 ≤ ji7) = true:=decide_eq_true hji7n0
     replace hji7n0:=eq_true hji7n0
     have hji7u : (IntKind.u64.wrap (2 ^ min a0.toNat 64)) = ji7:=by have h_:=hji7_;rw [Int.one_mul] at h_;exact h_
     have hji7v : a0 ≤ 64 → (IntKind.u64.wrap (2 ^ a0.toNat)) = ji7:=fun hle_=>by have h_:=hji7z hle_;rw [Int.one_mul] at h_;exact h_
     simp only [Option.some.injEq,Prod.mk.injEq] at H
     obtain ⟨rfl,rfl⟩:=H
     have hcz8_0 : wc.cell? ⟨gb101,0,none⟩ = some (.int .u64 0):=(zf BK101.out 0).trans rfl
     have hcz8_1 : wc.cell? ⟨gb101,1,none⟩ = some (.int .u64 0):=(zf BK101.out 1).trans rfl
     have hfz8_0:=za BK101.out 0
     have hfz8_1:=za BK101.out 1
     go_wp2
     refine bodyPost_ret (results_cell_row rfl _ _ gb101 37 #[.int .u64 0,.int .u64 ji7] (0,0) _ rfl zz7 Try.underlying37 rfl zz84) rfl ?_
     exact ⟨by first|rfl|(simp [zi,zj] <;> rfl)|(simp only [← hji7];first|rfl|(simp [zi,zj] <;> rfl))|(simp [*,zi,zj] <;> rfl),by repeat (first|(with_reducible first|exact HB.out|apply zg|apply z6|apply zc|refine zd ?_ GE101.out)|exact HB.out)⟩
   replace c5:=Bool.eq_false_iff.mpr c5
   subst c5
   have H1 : (if a0 ≥ 64 then (if a0 < 128 then (if 0 ≤ (wrap64 (a0 - 64)) then (some (shl .u64 1 (wrap64 (a0 - 64)),0)) else (none)) else (some (0,0))) else (some (0,0))) = some (r1,r2):=by rw [if_neg (show ¬ (false = true) by decide)] at H;exact H
   clear H
   have H:=H1
   clear H1
   by_cases c9 : a0 ≥ 64
   rotate_left
   · rw [if_neg c9] at H
     have c9b0 : decide (64 ≤ a0) = false:=decide_eq_false c9
     clear c9
     simp only [Option.some.injEq,Prod.mk.injEq] at H
     obtain ⟨rfl,rfl⟩:=H
     have hcz16_0 : wc.cell? ⟨gb101,0,none⟩ = some (.int .u64 0):=(zf BK101.out 0).trans rfl
     have hcz16_1 : wc.cell? ⟨gb101,1,none⟩ = some (.int .u64 0):=(zf BK101.out 1).trans rfl
     have hfz16_0:=za BK101.out 0
     have hfz16_1:=za BK101.out 1
     go_wp2
     refine bodyPost_ret (results_cell_row rfl _ _ gb101 37 #[.int .u64 0,.int .u64 0] (0,0) _ rfl zz7 Try.underlying37 rfl zz84) rfl ?_
     exact ⟨by first|rfl|(simp [zi,zj] <;> rfl)|(simp [*,zi,zj] <;> rfl),by repeat (first|(with_reducible first|exact HB.out|apply zg|apply z6|apply zc|refine zd ?_ GE101.out)|exact HB.out)⟩
   rw [if_pos c9] at H
   have c9b0 : decide (64 ≤ a0) = true:=decide_eq_true c9
   clear c9
   by_cases c10 : a0 < 128
   rotate_left
   · rw [if_neg c10] at H
     have c10b0 : decide (a0 < 128) = false:=decide_eq_false c10
     clear c10
     simp only [Option.some.injEq,Prod.mk.injEq] at H
     obtain ⟨rfl,rfl⟩:=H
     have hcz15_0 : wc.cell? ⟨gb101,0,none⟩ = some (.int .u64 0):=(zf BK101.out 0).trans rfl
     have hcz15_1 : wc.cell? ⟨gb101,1,none⟩ = some (.int .u64 0):=(zf BK101.out 1).trans rfl
     have hfz15_0:=za BK101.out 0
     have hfz15_1:=za BK101.out 1
     go_wp2
     refine bodyPost_ret (results_cell_row rfl _ _ gb101 37 #[.int .u64 0,.int .u64 0] (0,0) _ rfl zz7 Try.underlying37 rfl zz84) rfl ?_
     exact ⟨by first|rfl|(simp [zi,zj] <;> rfl)|(simp [*,zi,zj] <;> rfl),by repeat (first|(with_reducible first|exact HB.out|apply zg|apply z6|apply zc|refine zd ?_ GE101.out)|exact HB.out)⟩
   rw [if_pos c10] at H
   have c10b0 : decide (a0 < 128) = true:=decide_eq_true c10
   clear c10
   obtain ⟨ji11,hji11⟩ : ∃ j_ : Int,(wrap64 (a0 - 64)) = j_:=⟨_,rfl⟩
   replace H : (if 0 ≤ (ji11) then (some (shl .u64 1 (ji11),0)) else (none)) = some (r1,r2):=by first|(rw [hji11] at H;exact H)|(simp only [hji11] at H ⊢;exact H)
   have hji11w : (IntKind.i64.wrap (a0 - 64)) = ji11:=(zY _).trans hji11
   by_cases c12 : 0 ≤ (ji11)
   rotate_left
   · rw [if_neg c12] at H
     exact absurd H zz87
   rw [if_pos c12] at H
   have c12b0:=eq_true c12
   have c12b1 : decide (0 ≤ (ji11)) = true:=decide_eq_true c12
   clear c12
   obtain ⟨ji13,hji13⟩ : ∃ j_ : Int,(shl .u64 1 (ji11)) = j_:=⟨_,rfl⟩
   replace H : (some (ji13,0)) = some (r1,r2):=by first|(rw [hji13] at H;exact H)|(simp only [hji13] at H ⊢;exact H)
   have hji13_ : (IntKind.u64.wrap (1 * 2 ^ min (ji11).toNat 64)) = ji13:=hji13
   have hji13z : (ji11) ≤ 64 → (IntKind.u64.wrap (1 * 2 ^ (ji11).toNat)) = ji13:=z1L hji13
   have hji13n0 : 0 ≤ ji13:=by rw [← hji13];exact Int.emod_nonneg _ zz85
   have hji13n1 : decide (0 ≤ ji13) = true:=decide_eq_true hji13n0
   replace hji13n0:=eq_true hji13n0
   have hji13u : (IntKind.u64.wrap (2 ^ min (ji11).toNat 64)) = ji13:=by have h_:=hji13_;rw [Int.one_mul] at h_;exact h_
   have hji13v : (ji11) ≤ 64 → (IntKind.u64.wrap (2 ^ (ji11).toNat)) = ji13:=fun hle_=>by have h_:=hji13z hle_;rw [Int.one_mul] at h_;exact h_
   simp only [Option.some.injEq,Prod.mk.injEq] at H
   obtain ⟨rfl,rfl⟩:=H
   have hcz14_0 : wc.cell? ⟨gb101,0,none⟩ = some (.int .u64 0):=(zf BK101.out 0).trans rfl
   have hcz14_1 : wc.cell? ⟨gb101,1,none⟩ = some (.int .u64 0):=(zf BK101.out 1).trans rfl
   have hfz14_0:=za BK101.out 0
   have hfz14_1:=za BK101.out 1
   go_wp2
   refine bodyPost_ret (results_cell_row rfl _ _ gb101 37 #[.int .u64 ji13,.int .u64 0] (0,0) _ rfl (by (with_reducible repeat (first|refine z8 ?_ _|refine zb ?_|refine z7 ?_ _));refine zX (cs:=#[.int .u64 ji13,.int .u64 0]) ?_ 1 _ rfl;(with_reducible repeat (first|refine z8 ?_ _|refine zb ?_|refine z7 ?_ _));refine zX (cs:=#[.int .u64 0,.int .u64 0]) ?_ 0 _ rfl;(with_reducible repeat (first|refine z8 ?_ _|refine zb ?_|refine z7 ?_ _));exact BK101.out) Try.underlying37 rfl zz84) rfl ?_
   exact ⟨by first|rfl|(simp [zi,zj] <;> rfl)|(simp only [← hji11,← hji13];first|rfl|(simp [zi,zj] <;> rfl))|(simp [*,zi,zj] <;> rfl),by repeat (first|(with_reducible first|exact HB.out|apply zg|apply z6|apply zc|refine zd ?_ GE101.out)|exact HB.out)⟩
end Go.Proofs.Ytklkmflhnljbdaa.P
namespace Go.Proofs.Ytklkmflhnljbdaa.P
open Go.RowKit Go.Proofs.YtklkmflhnljbdaaW.PrintWords Go.Proofs.YtklkmflhnljbdaaW.PrintLast Go.Proofs.YtklkmflhnljbdaaW.PrintMore
attribute [local go_sem] z17 z19 z1m z1n zU zV z18 z1a   -- for this text's walks alone
set_option linter.unusedVariables false
set_option linter.unusedSimpArgs false
def z1D.f (k : Nat) (a0_0 : Int) (a0_1 : Int) (a1 : Int) : Option (Bool):=(zT.f k a1).bind fun bt102=>(some ((Go.bits .or .u64 (Go.bits .and .u64 a0_1 bt102.2) (Go.bits .and .u64 a0_0 bt102.1)) != 0))
theorem z1D.mono : ∀ a0 a1 a2 k,LeO (z1D.f k a0 a1 a2) (z1D.f (k + 1) a0 a1 a2):=by
 intro a0 a1 a2 k
 unfold z1D.f
 repeat' first
  | (with_reducible exact zT.mono _ _)
  | (with_reducible exact LeO.refl _)
  | (with_reducible exact LeO.none _)
  | (with_reducible refine LeO.ite ?_ ?_)
  | (with_reducible refine LeO.bind ?_ (fun _=>?_))
  | exact zT.mono _ _
  | exact LeO.none _
  | refine LeO.ite ?_ ?_
  | refine LeO.bind ?_ (fun _=>?_)
set_option maxHeartbeats 8000000 in
set_option maxRecDepth 100000 in
theorem z1D.calls (k : Nat) (a0_0 : Int) (a0_1 : Int) (a1 : Int) (r : Bool) (w : World) (h : z1D.f k a0_0 a0_1 a1 = some r) :
 Calls Try.prog 95 #[.agg #[.int .u64 a0_0,.int .u64 a0_1],.int .i64 a1] w fun e w'=>e = .returned (.bool r) ∧ Below w.heap.size w w':=by
 have hu37:=Try.underlying37
 have HB:=z4.mk (Below.refl w.heap.size w)
 have H : ((zT.f k a1).bind fun bt102=>(some ((Go.bits .or .u64 (Go.bits .and .u64 a0_1 bt102.2) (Go.bits .and .u64 a0_0 bt102.1)) != 0))) = some r:=h
 clear h
 replace H:=Option.bind_eq_some_iff.mp H
 obtain ⟨⟨t102,t103⟩,A30,H⟩:=H
 replace H : (some ((Go.bits .or .u64 (Go.bits .and .u64 a0_1 t103) (Go.bits .and .u64 a0_0 t102)) != 0)) = some r:=H
 have A3:=z4.mk A30
 clear A30
 obtain rfl:=Option.some.inj H
 go_enter Try.func95,Try.ntmps95
 go_wp2_with (first|((with_reducible refine zr (N:=2) rfl ?_);refine zy ?hg (N:=2) ?hd (cs:=#[.int .u64 a0_0,.int .u64 a0_1]) (t:=37) ?hr ?_;(case hd=>rfl);(case hg=>rfl);(case hr=>first|(go_simp;done)|(go_simp;rfl));intro gb101 hg w4 hbox hb;have n0_:=z4.mk (z9 zz45 hb);have n1_:=z4.mk (hbox);have n2_:=z4.mk ((by rw [hg];exact (ze zz45) : w.heap.size ≤ gb101));have n3_:=z4.mk ((by rw [hg];exact (ze zz45) : w.heap.size ≤ gb101));clear HB;have HB:=n0_;have BK101:=n1_;have GW101:=n2_;have GE101:=n3_;clear n0_ n1_ n2_ n3_;clear hb hbox hg)|((with_reducible refine zl (f:=96) rfl ?_);refine goesL_ (some 7) rfl rfl Try.func96 zz84 rfl #[.int .i64 a1] rfl zz44 ?_;(with_reducible refine (zT.calls k a1 t102 t103 _ A3.out).mono ?_);rintro e w5 ⟨rfl,hb⟩;refine ⟨_,rfl,?_⟩;have n0_:=z4.mk (zh (g:=gb101) (o:=.cells #[.int .u64 a0_0,.int .u64 a0_1] 37 (0,0)) zz46 hb);have n1_:=z4.mk (z9 zz40 hb);clear BK101;clear HB;have BK101:=n0_;have HB:=n1_;clear n0_ n1_;(try clear hb);(try clear hb2);(try clear hk);(try clear hi))|((with_reducible refine zr (N:=5) rfl ?_);refine zy ?hg (N:=5) ?hd (cs:=#[.int .u64 0,.int .u64 0]) (t:=37) ?hr ?_;(case hd=>rfl);(case hg=>rfl);(case hr=>first|(go_simp;done)|(go_simp;rfl));intro gb104 hg w6 hbox hb;have n0_:=z4.mk (zh (g:=gb101) (o:=.cells #[.int .u64 a0_0,.int .u64 a0_1] 37 (0,0)) zz46 hb);have n1_:=z4.mk (z9 zz40 hb);have n2_:=z4.mk (hbox);have n3_:=z4.mk ((by rw [hg];exact (ze zz40) : w.heap.size ≤ gb104));have n4_:=z4.mk ((by rw [hg];exact (ze zz40) : w.heap.size ≤ gb104));have n5_:=z4.mk ((by rw [hg];exact Nat.ne_of_lt (zO (g:=gb101) (o:=.cells #[.int .u64 a0_0,.int .u64 a0_1] 37 (0,0)) zz46) : gb101 ≠ gb104));have n6_:=z4.mk ((by rw [hg];exact Nat.ne_of_gt (zO (g:=gb101) (o:=.cells #[.int .u64 a0_0,.int .u64 a0_1] 37 (0,0)) zz46) : gb104 ≠ gb101));clear BK101;clear HB;have BK101:=n0_;have HB:=n1_;have BK104:=n2_;have GW104:=n3_;have GE104:=n4_;have NB101_104:=n5_;have NB104_101:=n6_;clear n0_ n1_ n2_ n3_ n4_ n5_ n6_;clear hb hbox hg;have hnb7:=NB104_101.out;have hnc7:=NB101_104.out;have hcz8_0 : w6.cell? ⟨gb104,0,none⟩ = some (.int .u64 0):=(zf BK104.out 0).trans rfl;have hcz8_1 : w6.cell? ⟨gb104,1,none⟩ = some (.int .u64 0):=(zf BK104.out 1).trans rfl;have hfz8_0:=za BK104.out 0;have hfz8_1:=za BK104.out 1;have hcz9_0 : w6.cell? ⟨gb101,0,none⟩ = some (.int .u64 a0_0):=(zf BK101.out 0).trans rfl;have hcz9_1 : w6.cell? ⟨gb101,1,none⟩ = some (.int .u64 a0_1):=(zf BK101.out 1).trans rfl;have hfz9_0:=za BK101.out 0;have hfz9_1:=za BK101.out 1))
 go_ret
 exact ⟨by first|rfl|(simp [zi,zj] <;> rfl)|(simp [*,zi,zj] <;> rfl),by repeat (first|(with_reducible first|exact HB.out|apply zg|apply z6|apply zc|refine zd ?_ GE101.out|refine zd ?_ GE104.out)|exact HB.out)⟩
end Go.Proofs.Ytklkmflhnljbdaa.P
namespace Go.Proofs.Ytklkmflhnljbdaa.P
open Go.RowKit Go.Proofs.YtklkmflhnljbdaaW.PrintWords Go.Proofs.YtklkmflhnljbdaaW.PrintLast Go.Proofs.YtklkmflhnljbdaaW.PrintMore
attribute [local go_sem] z17 z19 z1m z1n zU zV z18 z1a   -- for this text's walks alone
set_option linter.unusedVariables false
set_option linter.unusedSimpArgs false
def z1k.l0 : Nat → List (S37) → Int → Int → Int → Int → Int → Int → Option (Int × Int)
 | 0,_,_,_,_,_,_,_=>none
 | k + 1,x8,x9,x10,x102000,x102001,x104000,x104001=>if x10 < x9 then (if 0 ≤ x10 then (if x10 < (x8.length : Int) then ((z1D.f k x102000 x102001 x10).bind fun t106=>(if t106 = true then ((z1t.f x104000 x104001 ((rd_T37 x8 x10).f0) ((rd_T37 x8 x10).f1)).bind fun bt107=>(z1k.l0 k x8 x9 (wrap64 (x10 + 1)) x102000 x102001 bt107.1 bt107.2)) else (z1k.l0 k x8 x9 (wrap64 (x10 + 1)) x102000 x102001 x104000 x104001))) else (none)) else (none)) else (some (x104000,x104001))
def z1k.f (k : Nat) (l0 : List (S37)) (a1_0 : Int) (a1_1 : Int) : Option (Int × Int):=z1k.l0 k l0 (l0.length : Int) 0 a1_0 a1_1 0 0
theorem z1k.z1b : ∀ k,(∀ y0 y1 y2 y3 y4 y5 y6,LeO (z1k.l0 k y0 y1 y2 y3 y4 y5 y6) (z1k.l0 (k + 1) y0 y1 y2 y3 y4 y5 y6))
 | 0=>fun _ _ _ _ _ _ _ r h=>by simp [z1k.l0] at h
 | k + 1=>by
  have ih0:=z1k.z1b k
  · intro y0 y1 y2 y3 y4 y5 y6
    unfold z1k.l0
    repeat' first
    | (with_reducible exact ih0 _ _ _ _ _ _ _)
    | (with_reducible exact z1D.mono _ _ _ _)
    | (with_reducible exact LeO.refl _)
    | (with_reducible exact LeO.none _)
    | (with_reducible refine LeO.ite ?_ ?_)
    | (with_reducible refine LeO.bind ?_ (fun _=>?_))
    | exact ih0 _ _ _ _ _ _ _
    | exact z1D.mono _ _ _ _
    | exact LeO.none _
    | refine LeO.ite ?_ ?_
    | refine LeO.bind ?_ (fun _=>?_)
theorem z1k.mono : ∀ a0 a1 a2 k,LeO (z1k.f k a0 a1 a2) (z1k.f (k + 1) a0 a1 a2):=by
 intro a0 a1 a2 k
 have ih0:=z1k.z1b k
 unfold z1k.f
 repeat' first
  | (with_reducible exact ih0 _ _ _ _ _ _ _)
  | (with_reducible exact z1D.mono _ _ _ _)
  | (with_reducible exact LeO.refl _)
  | (with_reducible exact LeO.none _)
  | (with_reducible refine LeO.ite ?_ ?_)
  | (with_reducible refine LeO.bind ?_ (fun _=>?_))
  | exact ih0 _ _ _ _ _ _ _
  | exact z1D.mono _ _ _ _
  | exact LeO.none _
  | refine LeO.ite ?_ ?_
  | refine LeO.bind ?_ (fun _=>?_)
set_option maxHeartbeats 8000000 in
set_option maxRecDepth 100000 in
theorem z1k.calls (k : Nat) (A0 : Option Addr) (c0 : Nat) (l0 : List (S37)) (a1_0 : Int) (a1_1 : Int) (r1 : Int) (r2 : Int) (w : World) (hr0 : Kd.C k37 w A0 l0.length l0) (hc0 : l0.length ≤ c0) (h : z1k.f k l0 a1_0 a1_1 = some (r1,r2)) :
 Calls Try.prog 101 #[.slice A0 l0.length c0,.agg #[.int .u64 a1_0,.int .u64 a1_1]] w fun e w'=>e = .returned (.agg #[.int .u64 r1,.int .u64 r2]) ∧ Below w.heap.size w w':=by
 have hu37:=Try.underlying37
 have HR0:=z4.mk hr0
 have HC0:=z4.mk hc0
 clear hr0 hc0
 have HB:=z4.mk (Below.refl w.heap.size w)
 have H : (z1k.l0 k l0 (l0.length : Int) 0 a1_0 a1_1 0 0) = some (r1,r2):=h
 clear h
 have H':=z4.mk H
 clear H
 go_enter Try.func101,Try.ntmps101
 go_wp2_with (first|((with_reducible refine zr (N:=3) rfl ?_);refine zy ?hg (N:=3) ?hd (cs:=#[.int .u64 a1_0,.int .u64 a1_1]) (t:=37) ?hr ?_;(case hd=>rfl);(case hg=>rfl);(case hr=>first|(go_simp;done)|(go_simp;rfl));intro gb101 hg w3 hbox hb;have n0_:=z4.mk (z9 zz45 hb);have n1_:=z4.mk (hbox);have n2_:=z4.mk ((by rw [hg];exact (ze zz45) : w.heap.size ≤ gb101));have n3_:=z4.mk ((by rw [hg];exact (ze zz45) : w.heap.size ≤ gb101));clear HB;have HB:=n0_;have BK101:=n1_;have GW101:=n2_;have GE101:=n3_;clear n0_ n1_ n2_ n3_;clear hb hbox hg)|((with_reducible refine zr (N:=4) rfl ?_);refine zy ?hg (N:=4) ?hd (cs:=#[.int .u64 0,.int .u64 0]) (t:=37) ?hr ?_;(case hd=>rfl);(case hg=>rfl);(case hr=>first|(go_simp;done)|(go_simp;rfl));intro gb102 hg w4 hbox hb;have n0_:=z4.mk (zh (g:=gb101) (o:=.cells #[.int .u64 a1_0,.int .u64 a1_1] 37 (0,0)) zz46 hb);have n1_:=z4.mk (z9 zz40 hb);have n2_:=z4.mk (hbox);have n3_:=z4.mk ((by rw [hg];exact (ze zz40) : w.heap.size ≤ gb102));have n4_:=z4.mk ((by rw [hg];exact (ze zz40) : w.heap.size ≤ gb102));have n5_:=z4.mk ((by rw [hg];exact Nat.ne_of_lt (zO (g:=gb101) (o:=.cells #[.int .u64 a1_0,.int .u64 a1_1] 37 (0,0)) zz46) : gb101 ≠ gb102));have n6_:=z4.mk ((by rw [hg];exact Nat.ne_of_gt (zO (g:=gb101) (o:=.cells #[.int .u64 a1_0,.int .u64 a1_1] 37 (0,0)) zz46) : gb102 ≠ gb101));clear BK101;clear HB;have BK101:=n0_;have HB:=n1_;have BK102:=n2_;have GW102:=n3_;have GE102:=n4_;have NB101_102:=n5_;have NB102_101:=n6_;clear n0_ n1_ n2_ n3_ n4_ n5_ n6_;clear hb hbox hg)|((with_reducible refine zr (N:=5) rfl ?_);refine zy ?hg (N:=5) ?hd (cs:=#[.int .u64 0,.int .u64 0]) (t:=37) ?hr ?_;(case hd=>rfl);(case hg=>rfl);(case hr=>first|(go_simp;done)|(go_simp;rfl));intro gb103 hg w5 hbox hb;have n0_:=z4.mk (zh (g:=gb101) (o:=.cells #[.int .u64 a1_0,.int .u64 a1_1] 37 (0,0)) zz46 hb);have n1_:=z4.mk (zh (g:=gb102) (o:=.cells #[.int .u64 0,.int .u64 0] 37 (0,0)) zz47 hb);have n2_:=z4.mk (z9 zz33 hb);have n3_:=z4.mk (hbox);have n4_:=z4.mk ((by rw [hg];exact (ze zz33) : w.heap.size ≤ gb103));have n5_:=z4.mk ((by rw [hg];exact (ze zz33) : w.heap.size ≤ gb103));have n6_:=z4.mk ((by rw [hg];exact Nat.ne_of_lt (zO (g:=gb101) (o:=.cells #[.int .u64 a1_0,.int .u64 a1_1] 37 (0,0)) zz46) : gb101 ≠ gb103));have n7_:=z4.mk ((by rw [hg];exact Nat.ne_of_gt (zO (g:=gb101) (o:=.cells #[.int .u64 a1_0,.int .u64 a1_1] 37 (0,0)) zz46) : gb103 ≠ gb101));have n8_:=z4.mk ((by rw [hg];exact Nat.ne_of_lt (zO (g:=gb102) (o:=.cells #[.int .u64 0,.int .u64 0] 37 (0,0)) zz47) : gb102 ≠ gb103));have n9_:=z4.mk ((by rw [hg];exact Nat.ne_of_gt (zO (g:=gb102) (o:=.cells #[.int .u64 0,.int .u64 0] 37 (0,0)) zz47) : gb103 ≠ gb102));clear BK101;clear BK102;clear HB;have BK101:=n0_;have BK102:=n1_;have HB:=n2_;have BK103:=n3_;have GW103:=n4_;have GE103:=n5_;have NB101_103:=n6_;have NB103_101:=n7_;have NB102_103:=n8_;have NB103_102:=n9_;clear n0_ n1_ n2_ n3_ n4_ n5_ n6_ n7_ n8_ n9_;clear hb hbox hg))
 go_loopg [10] k (fun kq v10 w'=>∃ (x10_1 : Int) (x104000_1 : Int) (x104001_1 : Int),v10 = .int .i64 x10_1 ∧ z4 (z1k.l0 kq l0 (l0.length : Int) x10_1 a1_0 a1_1 x104000_1 x104001_1 = some (r1,r2)) ∧ z4 (kq ≤ k) ∧ z4 (w'.heap[gb101]? = some (.cells #[.int .u64 a1_0,.int .u64 a1_1] 37 (0,0))) ∧ z4 (w'.heap[gb102]? = some (.cells #[.int .u64 0,.int .u64 0] 37 (0,0))) ∧ z4 (w'.heap[gb103]? = some (.cells #[.int .u64 x104000_1,.int .u64 x104001_1] 37 (0,0))) ∧ z4 (Below w.heap.size w w'))
 case atStart=>exact ⟨(0),(0),(0),zz81,H',⟨Nat.le_refl _⟩,⟨by (with_reducible repeat (first|refine z8 ?_ _|refine zb ?_|refine z7 ?_ _));exact BK101.out⟩,⟨by (with_reducible repeat (first|refine z8 ?_ _|refine zb ?_|refine z7 ?_ _));exact BK102.out⟩,⟨by (with_reducible repeat (first|refine z8 ?_ _|refine zb ?_|refine z7 ?_ _));exact BK103.out⟩,⟨by repeat (first|(with_reducible first|exact HB.out|apply zg|apply z6|apply zc|refine zd ?_ GE101.out|refine zd ?_ GE102.out|refine zd ?_ GE103.out)|exact HB.out)⟩⟩
 case round =>
  clear H'
  (try clear c1);(try clear p2)
  obtain ⟨x10_1,x104000_1,x104001_1,rfl,HA,HK1,BK101,BK102,BK103,HB⟩:=hrel
  cases gk with
  | zero=>exact absurd HA.out (by simp [z1k.l0])
  | succ k1 =>
   have H:=HA.out
   clear HA
   simp only [z1k.l0] at H
   by_cases c6 : x10_1 < (l0.length : Int)
   rotate_left
   · rw [if_neg c6] at H
     have c6b0 : decide (x10_1 < (l0.length : Int)) = false:=decide_eq_false c6
     clear c6
     simp only [Option.some.injEq,Prod.mk.injEq] at H
     obtain ⟨rfl,rfl⟩:=H
     have hnb35:=NB103_101.out
     have hnc35:=NB101_103.out
     have hnb36:=NB103_102.out
     have hnc36:=NB102_103.out
     have hcz37_0 : wr.cell? ⟨gb103,0,none⟩ = some (.int .u64 x104000_1):=(zf BK103.out 0).trans rfl
     have hcz37_1 : wr.cell? ⟨gb103,1,none⟩ = some (.int .u64 x104001_1):=(zf BK103.out 1).trans rfl
     have hfz37_0:=za BK103.out 0
     have hfz37_1:=za BK103.out 1
     have hnb38:=NB102_101.out
     have hnc38:=NB101_102.out
     have hcz39_0 : wr.cell? ⟨gb102,0,none⟩ = some (.int .u64 0):=(zf BK102.out 0).trans rfl
     have hcz39_1 : wr.cell? ⟨gb102,1,none⟩ = some (.int .u64 0):=(zf BK102.out 1).trans rfl
     have hfz39_0:=za BK102.out 0
     have hfz39_1:=za BK102.out 1
     go_wp2
     refine bodyPost_ret (results_cell_row rfl _ _ gb102 37 #[.int .u64 x104000_1,.int .u64 x104001_1] (0,0) _ rfl (by (with_reducible repeat (first|refine z8 ?_ _|refine zb ?_|refine z7 ?_ _));refine zX (cs:=#[.int .u64 x104000_1,.int .u64 0]) ?_ 1 _ rfl;(with_reducible repeat (first|refine z8 ?_ _|refine zb ?_|refine z7 ?_ _));refine zX (cs:=#[.int .u64 0,.int .u64 0]) ?_ 0 _ rfl;(with_reducible repeat (first|refine z8 ?_ _|refine zb ?_|refine z7 ?_ _));exact BK102.out) Try.underlying37 rfl zz84) rfl ?_
     exact ⟨by first|rfl|(simp [zi,zj] <;> rfl)|(simp [*,zi,zj] <;> rfl),by repeat (first|(with_reducible first|exact HB.out|apply zg|apply z6|apply zc|refine zd ?_ GE101.out|refine zd ?_ GE102.out|refine zd ?_ GE103.out)|exact HB.out)⟩
   rw [if_pos c6] at H
   have c6b0 : decide (x10_1 < (l0.length : Int)) = true:=decide_eq_true c6
   clear c6
   by_cases c7 : 0 ≤ x10_1
   rotate_left
   · rw [if_neg c7] at H
     exact absurd H zz87
   rw [if_pos c7] at H
   have c7b0 : decide (0 ≤ x10_1) = true:=decide_eq_true c7
   clear c7
   by_cases c8 : x10_1 < (l0.length : Int)
   rotate_left
   · rw [if_neg c8] at H
     exact absurd H zz87
   rw [if_pos c8] at H
   have c8b0 : decide (x10_1 < (l0.length : Int)) = true:=decide_eq_true c8
   clear c8
   replace H:=Option.bind_eq_some_iff.mp H
   obtain ⟨t106,A90,H⟩:=H
   replace H : (if t106 = true then ((z1t.f x104000_1 x104001_1 ((rd_T37 l0 x10_1).f0) ((rd_T37 l0 x10_1).f1)).bind fun bt107=>(z1k.l0 k1 l0 (l0.length : Int) (wrap64 (x10_1 + 1)) a1_0 a1_1 bt107.1 bt107.2)) else (z1k.l0 k1 l0 (l0.length : Int) (wrap64 (x10_1 + 1)) a1_0 a1_1 x104000_1 x104001_1)) = some (r1,r2):=H
   have A9:=z4.mk A90
   clear A90
   by_cases c10 : t106 = true
   rotate_left
   · replace c10:=Bool.eq_false_iff.mpr c10
     subst c10
     have H1 : (z1k.l0 k1 l0 (l0.length : Int) (wrap64 (x10_1 + 1)) a1_0 a1_1 x104000_1 x104001_1) = some (r1,r2):=by rw [if_neg (show ¬ (false = true) by decide)] at H;exact H
     clear H
     have H:=H1
     clear H1
     have H':=z4.mk H
     clear H
     have p104 : 0 ≤ (x10_1 : Int):=of_decide_eq_true zz80
     have q104 : x10_1 < (l0.length : Int):=of_decide_eq_true zz80
     obtain ⟨ad104,e104,hx104_0,hx104_1⟩:=z1Y HR0.out x10_1 p104 q104
     cases e104
     replace hx104_0:=(HB.out.cell (World.block_lt_of_cell? w _ hx104_0)).trans hx104_0
     replace hx104_1:=(HB.out.cell (World.block_lt_of_cell? w _ hx104_1)).trans hx104_1
     replace p104:=eq_true p104
     replace q104:=eq_true q104
     go_wp2_with (first|((with_reducible refine zr (N:=7) rfl ?_);refine zy ?hg (N:=7) ?hd (cs:=#[.int .u64 0,.int .u64 0]) (t:=37) ?hr ?_;(case hd=>rfl);(case hg=>rfl);(case hr=>first|(go_simp;done)|(go_simp;rfl));intro gb105 hg w26 hbox hb;have n0_:=z4.mk (zh (g:=gb101) (o:=.cells #[.int .u64 a1_0,.int .u64 a1_1] 37 (0,0)) zz46 hb);have n1_:=z4.mk (zh (g:=gb102) (o:=.cells #[.int .u64 0,.int .u64 0] 37 (0,0)) zz47 hb);have n2_:=z4.mk (zh (g:=gb103) (o:=.cells #[.int .u64 x104000_1,.int .u64 x104001_1] 37 (0,0)) zz48 hb);have n3_:=z4.mk (z9 zz30 hb);have n4_:=z4.mk (hbox);have n5_:=z4.mk ((by rw [hg];exact (ze zz30) : w.heap.size ≤ gb105));have n6_:=z4.mk ((by rw [hg];exact (ze zz30) : w.heap.size ≤ gb105));have n7_:=z4.mk ((by rw [hg];exact Nat.ne_of_lt (zO (g:=gb101) (o:=.cells #[.int .u64 a1_0,.int .u64 a1_1] 37 (0,0)) zz46) : gb101 ≠ gb105));have n8_:=z4.mk ((by rw [hg];exact Nat.ne_of_gt (zO (g:=gb101) (o:=.cells #[.int .u64 a1_0,.int .u64 a1_1] 37 (0,0)) zz46) : gb105 ≠ gb101));have n9_:=z4.mk ((by rw [hg];exact Nat.ne_of_lt (zO (g:=gb102) (o:=.cells #[.int .u64 0,.int .u64 0] 37 (0,0)) zz47) : gb102 ≠ gb105));have n10_:=z4.mk ((by rw [hg];exact Nat.ne_of_gt (zO (g:=gb102) (o:=.cells #[.int .u64 0,.int .u64 0] 37 (0,0)) zz47) : gb105 ≠ gb102));have n11_:=z4.mk ((by rw [hg];exact Nat.ne_of_lt (zO (g:=gb103) (o:=.cells #[.int .u64 x104000_1,.int .u64 x104001_1] 37 (0,0)) zz48) : gb103 ≠ gb105));have n12_:=z4.mk ((by rw [hg];exact Nat.ne_of_gt (zO (g:=gb103) (o:=.cells #[.int .u64 x104000_1,.int .u64 x104001_1] 37 (0,0)) zz48) : gb105 ≠ gb103));clear BK101;clear BK102;clear BK103;clear HB;have BK101:=n0_;have BK102:=n1_;have BK103:=n2_;have HB:=n3_;have BK105:=n4_;have GW105:=n5_;have GE105:=n6_;have NB101_105:=n7_;have NB105_101:=n8_;have NB102_105:=n9_;have NB105_102:=n10_;have NB103_105:=n11_;have NB105_103:=n12_;clear n0_ n1_ n2_ n3_ n4_ n5_ n6_ n7_ n8_ n9_ n10_ n11_ n12_;clear hb hbox hg;have hnb27:=NB105_101.out;have hnc27:=NB101_105.out;have hnb28:=NB105_102.out;have hnc28:=NB102_105.out;have hnb29:=NB105_103.out;have hnc29:=NB103_105.out;have hcz30_0 : w26.cell? ⟨gb105,0,none⟩ = some (.int .u64 0):=(zf BK105.out 0).trans rfl;have hcz30_1 : w26.cell? ⟨gb105,1,none⟩ = some (.int .u64 0):=(zf BK105.out 1).trans rfl;have hfz30_0:=za BK105.out 0;have hfz30_1:=za BK105.out 1;have hnb31:=NB101_102.out;have hnc31:=NB102_101.out;have hnb32:=NB101_103.out;have hnc32:=NB103_101.out;have hcz33_0 : w26.cell? ⟨gb101,0,none⟩ = some (.int .u64 a1_0):=(zf BK101.out 0).trans rfl;have hcz33_1 : w26.cell? ⟨gb101,1,none⟩ = some (.int .u64 a1_1):=(zf BK101.out 1).trans rfl;have hfz33_0:=za BK101.out 0;have hfz33_1:=za BK101.out 1)|((with_reducible refine zl (f:=95) rfl ?_);refine goesL_ (some 17) rfl rfl Try.func95 zz84 rfl #[.agg #[.int .u64 a1_0,.int .u64 a1_1],.int .i64 x10_1] rfl zz44 ?_;(with_reducible refine (z1D.calls k1 a1_0 a1_1 x10_1 false _ A9.out).mono ?_);rintro e w34 ⟨rfl,hb⟩;refine ⟨_,rfl,?_⟩;have n0_:=z4.mk (zh (g:=gb101) (o:=.cells #[.int .u64 a1_0,.int .u64 a1_1] 37 (0,0)) zz9 hb);have n1_:=z4.mk (zh (g:=gb102) (o:=.cells #[.int .u64 0,.int .u64 0] 37 (0,0)) zz10 hb);have n2_:=z4.mk (zh (g:=gb103) (o:=.cells #[.int .u64 x104000_1,.int .u64 x104001_1] 37 (0,0)) zz11 hb);have n3_:=z4.mk (zh (g:=gb105) (o:=.cells #[.int .u64 ((rd_T37 l0 x10_1).f0),.int .u64 ((rd_T37 l0 x10_1).f1)] 37 (0,0)) zz2 hb);have n4_:=z4.mk (z9 zz26 hb);clear BK101;clear BK102;clear BK103;clear BK105;clear HB;have BK101:=n0_;have BK102:=n1_;have BK103:=n2_;have BK105:=n3_;have HB:=n4_;clear n0_ n1_ n2_ n3_ n4_;(try clear hb);(try clear hb2);(try clear hk);(try clear hi)))
     go_roundg k1
     case measure=>have:=HK1.out;omega
     case rel=>exact ⟨(wrap64 (x10_1 + 1)),(x104000_1),(x104001_1),zz81,H',⟨by have:=HK1.out;omega⟩,⟨by (with_reducible repeat (first|refine z8 ?_ _|refine zb ?_|refine z7 ?_ _));exact BK101.out⟩,⟨by (with_reducible repeat (first|refine z8 ?_ _|refine zb ?_|refine z7 ?_ _));exact BK102.out⟩,⟨by (with_reducible repeat (first|refine z8 ?_ _|refine zb ?_|refine z7 ?_ _));exact BK103.out⟩,⟨by repeat (first|(with_reducible first|exact HB.out|apply zg|apply z6|apply zc|refine zd ?_ GE101.out|refine zd ?_ GE102.out|refine zd ?_ GE103.out|refine zd ?_ GE105.out)|exact HB.out)⟩⟩
   subst c10
   have H1 : ((z1t.f x104000_1 x104001_1 ((rd_T37 l0 x10_1).f0) ((rd_T37 l0 x10_1).f1)).bind fun bt107=>(z1k.l0 k1 l0 (l0.length : Int) (wrap64 (x10_1 + 1)) a1_0 a1_1 bt107.1 bt107.2)) = some (r1,r2):=by rw [if_pos rfl] at H;exact H
   clear H
   have H:=H1
   clear H1
   replace H:=Option.bind_eq_some_iff.mp H
   obtain ⟨⟨t107,t108⟩,A110,H⟩:=H
   replace H : (z1k.l0 k1 l0 (l0.length : Int) (wrap64 (x10_1 + 1)) a1_0 a1_1 t107 t108) = some (r1,r2):=H
   have A11:=z4.mk A110
   clear A110
   have H':=z4.mk H
   clear H
   have p104 : 0 ≤ (x10_1 : Int):=of_decide_eq_true zz80
   have q104 : x10_1 < (l0.length : Int):=of_decide_eq_true zz80
   obtain ⟨ad104,e104,hx104_0,hx104_1⟩:=z1Y HR0.out x10_1 p104 q104
   cases e104
   replace hx104_0:=(HB.out.cell (World.block_lt_of_cell? w _ hx104_0)).trans hx104_0
   replace hx104_1:=(HB.out.cell (World.block_lt_of_cell? w _ hx104_1)).trans hx104_1
   replace p104:=eq_true p104
   replace q104:=eq_true q104
   go_wp2_with (first|((with_reducible refine zr (N:=7) rfl ?_);refine zy ?hg (N:=7) ?hd (cs:=#[.int .u64 0,.int .u64 0]) (t:=37) ?hr ?_;(case hd=>rfl);(case hg=>rfl);(case hr=>first|(go_simp;done)|(go_simp;rfl));intro gb105 hg w12 hbox hb;have n0_:=z4.mk (zh (g:=gb101) (o:=.cells #[.int .u64 a1_0,.int .u64 a1_1] 37 (0,0)) zz46 hb);have n1_:=z4.mk (zh (g:=gb102) (o:=.cells #[.int .u64 0,.int .u64 0] 37 (0,0)) zz47 hb);have n2_:=z4.mk (zh (g:=gb103) (o:=.cells #[.int .u64 x104000_1,.int .u64 x104001_1] 37 (0,0)) zz48 hb);have n3_:=z4.mk (z9 zz30 hb);have n4_:=z4.mk (hbox);have n5_:=z4.mk ((by rw [hg];exact (ze zz30) : w.heap.size ≤ gb105));have n6_:=z4.mk ((by rw [hg];exact (ze zz30) : w.heap.size ≤ gb105));have n7_:=z4.mk ((by rw [hg];exact Nat.ne_of_lt (zO (g:=gb101) (o:=.cells #[.int .u64 a1_0,.int .u64 a1_1] 37 (0,0)) zz46) : gb101 ≠ gb105));have n8_:=z4.mk ((by rw [hg];exact Nat.ne_of_gt (zO (g:=gb101) (o:=.cells #[.int .u64 a1_0,.int .u64 a1_1] 37 (0,0)) zz46) : gb105 ≠ gb101));have n9_:=z4.mk ((by rw [hg];exact Nat.ne_of_lt (zO (g:=gb102) (o:=.cells #[.int .u64 0,.int .u64 0] 37 (0,0)) zz47) : gb102 ≠ gb105));have n10_:=z4.mk ((by rw [hg];exact Nat.ne_of_gt (zO (g:=gb102) (o:=.cells #[.int .u64 0,.int .u64 0] 37 (0,0)) zz47) : gb105 ≠ gb102));have n11_:=z4.mk ((by rw [hg];exact Nat.ne_of_lt (zO (g:=gb103) (o:=.cells #[.int .u64 x104000_1,.int .u64 x104001_1] 37 (0,0)) zz48) : gb103 ≠ gb105));have n12_:=z4.mk ((by rw [hg];exact Nat.ne_of_gt (zO (g:=gb103) (o:=.cells #[.int .u64 x104000_1,.int .u64 x104001_1] 37 (0,0)) zz48) : gb105 ≠ gb103));clear BK101;clear BK102;clear BK103;clear HB;have BK101:=n0_;have BK102:=n1_;have BK103:=n2_;have HB:=n3_;have BK105:=n4_;have GW105:=n5_;have GE105:=n6_;have NB101_105:=n7_;have NB105_101:=n8_;have NB102_105:=n9_;have NB105_102:=n10_;have NB103_105:=n11_;have NB105_103:=n12_;clear n0_ n1_ n2_ n3_ n4_ n5_ n6_ n7_ n8_ n9_ n10_ n11_ n12_;clear hb hbox hg;have hnb13:=NB105_101.out;have hnc13:=NB101_105.out;have hnb14:=NB105_102.out;have hnc14:=NB102_105.out;have hnb15:=NB105_103.out;have hnc15:=NB103_105.out;have hcz16_0 : w12.cell? ⟨gb105,0,none⟩ = some (.int .u64 0):=(zf BK105.out 0).trans rfl;have hcz16_1 : w12.cell? ⟨gb105,1,none⟩ = some (.int .u64 0):=(zf BK105.out 1).trans rfl;have hfz16_0:=za BK105.out 0;have hfz16_1:=za BK105.out 1;have hnb17:=NB101_102.out;have hnc17:=NB102_101.out;have hnb18:=NB101_103.out;have hnc18:=NB103_101.out;have hcz19_0 : w12.cell? ⟨gb101,0,none⟩ = some (.int .u64 a1_0):=(zf BK101.out 0).trans rfl;have hcz19_1 : w12.cell? ⟨gb101,1,none⟩ = some (.int .u64 a1_1):=(zf BK101.out 1).trans rfl;have hfz19_0:=za BK101.out 0;have hfz19_1:=za BK101.out 1)|((with_reducible refine zl (f:=95) rfl ?_);refine goesL_ (some 17) rfl rfl Try.func95 zz84 rfl #[.agg #[.int .u64 a1_0,.int .u64 a1_1],.int .i64 x10_1] rfl zz44 ?_;(with_reducible refine (z1D.calls k1 a1_0 a1_1 x10_1 true _ A9.out).mono ?_);rintro e w20 ⟨rfl,hb⟩;refine ⟨_,rfl,?_⟩;have n0_:=z4.mk (zh (g:=gb101) (o:=.cells #[.int .u64 a1_0,.int .u64 a1_1] 37 (0,0)) zz9 hb);have n1_:=z4.mk (zh (g:=gb102) (o:=.cells #[.int .u64 0,.int .u64 0] 37 (0,0)) zz10 hb);have n2_:=z4.mk (zh (g:=gb103) (o:=.cells #[.int .u64 x104000_1,.int .u64 x104001_1] 37 (0,0)) zz11 hb);have n3_:=z4.mk (zh (g:=gb105) (o:=.cells #[.int .u64 ((rd_T37 l0 x10_1).f0),.int .u64 ((rd_T37 l0 x10_1).f1)] 37 (0,0)) zz2 hb);have n4_:=z4.mk (z9 zz26 hb);clear BK101;clear BK102;clear BK103;clear BK105;clear HB;have BK101:=n0_;have BK102:=n1_;have BK103:=n2_;have BK105:=n3_;have HB:=n4_;clear n0_ n1_ n2_ n3_ n4_;(try clear hb);(try clear hb2);(try clear hk);(try clear hi);have hnb21:=NB103_102.out;have hnc21:=NB102_103.out;have hcz22_0 : w20.cell? ⟨gb103,0,none⟩ = some (.int .u64 x104000_1):=(zf BK103.out 0).trans rfl;have hcz22_1 : w20.cell? ⟨gb103,1,none⟩ = some (.int .u64 x104001_1):=(zf BK103.out 1).trans rfl;have hfz22_0:=za BK103.out 0;have hfz22_1:=za BK103.out 1;have hcz23_0 : w20.cell? ⟨gb105,0,none⟩ = some (.int .u64 ((rd_T37 l0 x10_1).f0)):=(zf BK105.out 0).trans rfl;have hcz23_1 : w20.cell? ⟨gb105,1,none⟩ = some (.int .u64 ((rd_T37 l0 x10_1).f1)):=(zf BK105.out 1).trans rfl;have hfz23_0:=za BK105.out 0;have hfz23_1:=za BK105.out 1)|((with_reducible refine zl (f:=60) rfl ?_);refine goesL_ (some 20) rfl rfl Try.func60 zz84 rfl #[.agg #[.int .u64 x104000_1,.int .u64 x104001_1],.agg #[.int .u64 ((rd_T37 l0 x10_1).f0),.int .u64 ((rd_T37 l0 x10_1).f1)]] rfl zz44 ?_;(with_reducible refine (z1t.calls x104000_1 x104001_1 ((rd_T37 l0 x10_1).f0) ((rd_T37 l0 x10_1).f1) t107 t108 _ A11.out).mono ?_);rintro e w24 ⟨rfl,hb⟩;refine ⟨_,rfl,?_⟩;have n0_:=z4.mk (zh (g:=gb101) (o:=.cells #[.int .u64 a1_0,.int .u64 a1_1] 37 (0,0)) zz46 hb);have n1_:=z4.mk (zh (g:=gb102) (o:=.cells #[.int .u64 0,.int .u64 0] 37 (0,0)) zz47 hb);have n2_:=z4.mk (zh (g:=gb103) (o:=.cells #[.int .u64 x104000_1,.int .u64 x104001_1] 37 (0,0)) zz48 hb);have n3_:=z4.mk (zh (g:=gb105) (o:=.cells #[.int .u64 ((rd_T37 l0 x10_1).f0),.int .u64 ((rd_T37 l0 x10_1).f1)] 37 (0,0)) (by (with_reducible repeat (first|refine z8 ?_ _|refine zb ?_|refine z7 ?_ _));exact BK105.out) hb);have n4_:=z4.mk (z9 zz26 hb);clear BK101;clear BK102;clear BK103;clear BK105;clear HB;have BK101:=n0_;have BK102:=n1_;have BK103:=n2_;have BK105:=n3_;have HB:=n4_;clear n0_ n1_ n2_ n3_ n4_;(try clear hb);(try clear hb2);(try clear hk);(try clear hi);have hcz25_0 : w24.cell? ⟨gb103,0,none⟩ = some (.int .u64 x104000_1):=(zf BK103.out 0).trans rfl;have hcz25_1 : w24.cell? ⟨gb103,1,none⟩ = some (.int .u64 x104001_1):=(zf BK103.out 1).trans rfl;have hfz25_0:=za BK103.out 0;have hfz25_1:=za BK103.out 1))
   go_roundg k1
   case measure=>have:=HK1.out;omega
   case rel=>exact ⟨(wrap64 (x10_1 + 1)),(t107),(t108),zz81,H',⟨by have:=HK1.out;omega⟩,⟨by (with_reducible repeat (first|refine z8 ?_ _|refine zb ?_|refine z7 ?_ _));refine zW ?_ NB101_103.out _;(with_reducible repeat (first|refine z8 ?_ _|refine zb ?_|refine z7 ?_ _));refine zW ?_ NB101_103.out _;(with_reducible repeat (first|refine z8 ?_ _|refine zb ?_|refine z7 ?_ _));exact BK101.out⟩,⟨by (with_reducible repeat (first|refine z8 ?_ _|refine zb ?_|refine z7 ?_ _));refine zW ?_ NB102_103.out _;(with_reducible repeat (first|refine z8 ?_ _|refine zb ?_|refine z7 ?_ _));refine zW ?_ NB102_103.out _;(with_reducible repeat (first|refine z8 ?_ _|refine zb ?_|refine z7 ?_ _));exact BK102.out⟩,⟨by (with_reducible repeat (first|refine z8 ?_ _|refine zb ?_|refine z7 ?_ _));refine zX (cs:=#[.int .u64 t107,.int .u64 x104001_1]) ?_ 1 _ rfl;(with_reducible repeat (first|refine z8 ?_ _|refine zb ?_|refine z7 ?_ _));refine zX (cs:=#[.int .u64 x104000_1,.int .u64 x104001_1]) ?_ 0 _ rfl;(with_reducible repeat (first|refine z8 ?_ _|refine zb ?_|refine z7 ?_ _));exact BK103.out⟩,⟨by repeat (first|(with_reducible first|exact HB.out|apply zg|apply z6|apply zc|refine zd ?_ GE101.out|refine zd ?_ GE102.out|refine zd ?_ GE103.out|refine zd ?_ GE105.out)|exact HB.out)⟩⟩
end Go.Proofs.Ytklkmflhnljbdaa.P
namespace Go.Proofs.Ytklkmflhnljbdaa.P
open Go.RowKit Go.Proofs.YtklkmflhnljbdaaW.PrintWords Go.Proofs.YtklkmflhnljbdaaW.PrintLast Go.Proofs.YtklkmflhnljbdaaW.PrintMore
attribute [local go_sem] z17 z19 z1m z1n zU zV z18 z1a   -- for this text's walks alone
set_option linter.unusedVariables false
set_option linter.unusedSimpArgs false
def z1W.f (k : Nat) (l0 : List (S37)) (a1_0 : Int) (a1_1 : Int) : Option (Int × Int × Int):=if (l0.length : Int) > 128 then (some (0,0,1)) else ((z1Q.f k a1_0 a1_1).bind fun t103=>(if t103 ≥ (l0.length : Int) then (some (0,0,6)) else ((z1k.f k l0 a1_0 a1_1).bind fun bt104=>(some (bt104.1,bt104.2,0)))))
theorem z1W.mono : ∀ a0 a1 a2 k,LeO (z1W.f k a0 a1 a2) (z1W.f (k + 1) a0 a1 a2):=by
 intro a0 a1 a2 k
 unfold z1W.f
 repeat' first
  | (with_reducible exact z1Q.mono _ _ _)
  | (with_reducible exact z1k.mono _ _ _ _)
  | (with_reducible exact LeO.refl _)
  | (with_reducible exact LeO.none _)
  | (with_reducible refine LeO.ite ?_ ?_)
  | (with_reducible refine LeO.bind ?_ (fun _=>?_))
  | exact z1Q.mono _ _ _
  | exact z1k.mono _ _ _ _
  | exact LeO.none _
  | refine LeO.ite ?_ ?_
  | refine LeO.bind ?_ (fun _=>?_)
set_option maxHeartbeats 8000000 in
set_option maxRecDepth 100000 in
theorem z1W.calls (k : Nat) (A0 : Option Addr) (c0 : Nat) (l0 : List (S37)) (a1_0 : Int) (a1_1 : Int) (r1 : Int) (r2 : Int) (r3 : Int) (w : World) (hr0 : Kd.C k37 w A0 l0.length l0) (hc0 : l0.length ≤ c0) (h : z1W.f k l0 a1_0 a1_1 = some (r1,r2,r3)) :
 Calls Try.prog 69 #[.slice A0 l0.length c0,.agg #[.int .u64 a1_0,.int .u64 a1_1]] w fun e w'=>e = .returned (.tuple #[.agg #[.int .u64 r1,.int .u64 r2],.int .i64 r3]) ∧ Below w.heap.size w w':=by
 have hu37:=Try.underlying37
 have HR0:=z4.mk hr0
 have HC0:=z4.mk hc0
 clear hr0 hc0
 have HB:=z4.mk (Below.refl w.heap.size w)
 have H : (if (l0.length : Int) > 128 then (some (0,0,1)) else ((z1Q.f k a1_0 a1_1).bind fun t103=>(if t103 ≥ (l0.length : Int) then (some (0,0,6)) else ((z1k.f k l0 a1_0 a1_1).bind fun bt104=>(some (bt104.1,bt104.2,0)))))) = some (r1,r2,r3):=h
 clear h
 by_cases c3 : (l0.length : Int) > 128
 · rw [if_pos c3] at H
   have c3b0 : decide (128 < (l0.length : Int)) = true:=decide_eq_true c3
   have c3b1 : decide (128 < l0.length) = true:=decide_eq_true zz86
   clear c3
   simp only [Option.some.injEq,Prod.mk.injEq] at H
   obtain ⟨rfl,rfl,rfl⟩:=H
   go_enter Try.func69,Try.ntmps69
   go_wp2_with (first|((with_reducible refine zr (N:=3) rfl ?_);refine zy ?hg (N:=3) ?hd (cs:=#[.int .u64 a1_0,.int .u64 a1_1]) (t:=37) ?hr ?_;(case hd=>rfl);(case hg=>rfl);(case hr=>first|(go_simp;done)|(go_simp;rfl));intro gb101 hg w4 hbox hb;have n0_:=z4.mk (z9 zz45 hb);have n1_:=z4.mk (hbox);have n2_:=z4.mk ((by rw [hg];exact (ze zz45) : w.heap.size ≤ gb101));have n3_:=z4.mk ((by rw [hg];exact (ze zz45) : w.heap.size ≤ gb101));clear HB;have HB:=n0_;have BK101:=n1_;have GW101:=n2_;have GE101:=n3_;clear n0_ n1_ n2_ n3_;clear hb hbox hg)|((with_reducible refine zr (N:=4) rfl ?_);refine zy ?hg (N:=4) ?hd (cs:=#[.int .u64 0,.int .u64 0]) (t:=37) ?hr ?_;(case hd=>rfl);(case hg=>rfl);(case hr=>first|(go_simp;done)|(go_simp;rfl));intro gb102 hg w5 hbox hb;have n0_:=z4.mk (zh (g:=gb101) (o:=.cells #[.int .u64 a1_0,.int .u64 a1_1] 37 (0,0)) zz46 hb);have n1_:=z4.mk (z9 zz40 hb);have n2_:=z4.mk (hbox);have n3_:=z4.mk ((by rw [hg];exact (ze zz40) : w.heap.size ≤ gb102));have n4_:=z4.mk ((by rw [hg];exact (ze zz40) : w.heap.size ≤ gb102));have n5_:=z4.mk ((by rw [hg];exact Nat.ne_of_lt (zO (g:=gb101) (o:=.cells #[.int .u64 a1_0,.int .u64 a1_1] 37 (0,0)) zz46) : gb101 ≠ gb102));have n6_:=z4.mk ((by rw [hg];exact Nat.ne_of_gt (zO (g:=gb101) (o:=.cells #[.int .u64 a1_0,.int .u64 a1_1] 37 (0,0)) zz46) : gb102 ≠ gb101));clear BK101;clear HB;have BK101:=n0_;have HB:=n1_;have BK102:=n2_;have GW102:=n3_;have GE102:=n4_;have NB101_102:=n5_;have NB102_101:=n6_;clear n0_ n1_ n2_ n3_ n4_ n5_ n6_;clear hb hbox hg;have hnb6:=NB102_101.out;have hnc6:=NB101_102.out;have hcz7_0 : w5.cell? ⟨gb102,0,none⟩ = some (.int .u64 0):=(zf BK102.out 0).trans rfl;have hcz7_1 : w5.cell? ⟨gb102,1,none⟩ = some (.int .u64 0):=(zf BK102.out 1).trans rfl;have hfz7_0:=za BK102.out 0;have hfz7_1:=za BK102.out 1))
   refine bodyPost_ret (z2o rfl _ _ gb102 37 #[.int .u64 0,.int .u64 0] (0,0) _ rfl zz8 Try.underlying37 rfl zz84) rfl ?_
   exact ⟨by first|rfl|(simp [zi,zj] <;> rfl)|(simp [*,zi,zj] <;> rfl),by repeat (first|(with_reducible first|exact HB.out|apply zg|apply z6|apply zc|refine zd ?_ GE101.out|refine zd ?_ GE102.out)|exact HB.out)⟩
 rw [if_neg c3] at H
 have c3b0 : decide (128 < (l0.length : Int)) = false:=decide_eq_false c3
 have c3b1 : decide (128 < l0.length) = false:=decide_eq_false zz86
 clear c3
 replace H:=Option.bind_eq_some_iff.mp H
 obtain ⟨t103,A80,H⟩:=H
 replace H : (if t103 ≥ (l0.length : Int) then (some (0,0,6)) else ((z1k.f k l0 a1_0 a1_1).bind fun bt104=>(some (bt104.1,bt104.2,0)))) = some (r1,r2,r3):=H
 have A8:=z4.mk A80
 clear A80
 by_cases c9 : t103 ≥ (l0.length : Int)
 · rw [if_pos c9] at H
   have c9b0 : decide ((l0.length : Int) ≤ t103) = true:=decide_eq_true c9
   clear c9
   simp only [Option.some.injEq,Prod.mk.injEq] at H
   obtain ⟨rfl,rfl,rfl⟩:=H
   go_enter Try.func69,Try.ntmps69
   go_wp2_with (first|((with_reducible refine zr (N:=3) rfl ?_);refine zy ?hg (N:=3) ?hd (cs:=#[.int .u64 a1_0,.int .u64 a1_1]) (t:=37) ?hr ?_;(case hd=>rfl);(case hg=>rfl);(case hr=>first|(go_simp;done)|(go_simp;rfl));intro gb101 hg w10 hbox hb;have n0_:=z4.mk (z9 zz45 hb);have n1_:=z4.mk (hbox);have n2_:=z4.mk ((by rw [hg];exact (ze zz45) : w.heap.size ≤ gb101));have n3_:=z4.mk ((by rw [hg];exact (ze zz45) : w.heap.size ≤ gb101));clear HB;have HB:=n0_;have BK101:=n1_;have GW101:=n2_;have GE101:=n3_;clear n0_ n1_ n2_ n3_;clear hb hbox hg)|((with_reducible refine zr (N:=4) rfl ?_);refine zy ?hg (N:=4) ?hd (cs:=#[.int .u64 0,.int .u64 0]) (t:=37) ?hr ?_;(case hd=>rfl);(case hg=>rfl);(case hr=>first|(go_simp;done)|(go_simp;rfl));intro gb102 hg w11 hbox hb;have n0_:=z4.mk (zh (g:=gb101) (o:=.cells #[.int .u64 a1_0,.int .u64 a1_1] 37 (0,0)) zz46 hb);have n1_:=z4.mk (z9 zz40 hb);have n2_:=z4.mk (hbox);have n3_:=z4.mk ((by rw [hg];exact (ze zz40) : w.heap.size ≤ gb102));have n4_:=z4.mk ((by rw [hg];exact (ze zz40) : w.heap.size ≤ gb102));have n5_:=z4.mk ((by rw [hg];exact Nat.ne_of_lt (zO (g:=gb101) (o:=.cells #[.int .u64 a1_0,.int .u64 a1_1] 37 (0,0)) zz46) : gb101 ≠ gb102));have n6_:=z4.mk ((by rw [hg];exact Nat.ne_of_gt (zO (g:=gb101) (o:=.cells #[.int .u64 a1_0,.int .u64 a1_1] 37 (0,0)) zz46) : gb102 ≠ gb101));clear BK101;clear HB;have BK101:=n0_;have HB:=n1_;have BK102:=n2_;have GW102:=n3_;have GE102:=n4_;have NB101_102:=n5_;have NB102_101:=n6_;clear n0_ n1_ n2_ n3_ n4_ n5_ n6_;clear hb hbox hg;have hnb12:=NB101_102.out;have hnc12:=NB102_101.out;have hcz13_0 : w11.cell? ⟨gb101,0,none⟩ = some (.int .u64 a1_0):=(zf BK101.out 0).trans rfl;have hcz13_1 : w11.cell? ⟨gb101,1,none⟩ = some (.int .u64 a1_1):=(zf BK101.out 1).trans rfl;have hfz13_0:=za BK101.out 0;have hfz13_1:=za BK101.out 1)|((with_reducible refine zl (f:=100) rfl ?_);refine goesL_ (some 13) rfl rfl Try.func100 zz84 rfl #[.agg #[.int .u64 a1_0,.int .u64 a1_1]] rfl zz44 ?_;(with_reducible refine (z1Q.calls k a1_0 a1_1 t103 _ A8.out).mono ?_);rintro e w14 ⟨rfl,hb⟩;refine ⟨_,rfl,?_⟩;have n0_:=z4.mk (zh (g:=gb101) (o:=.cells #[.int .u64 a1_0,.int .u64 a1_1] 37 (0,0)) zz46 hb);have n1_:=z4.mk (zh (g:=gb102) (o:=.cells #[.int .u64 0,.int .u64 0] 37 (0,0)) zz47 hb);have n2_:=z4.mk (z9 zz33 hb);clear BK101;clear BK102;clear HB;have BK101:=n0_;have BK102:=n1_;have HB:=n2_;clear n0_ n1_ n2_;(try clear hb);(try clear hb2);(try clear hk);(try clear hi);have hcz15_0 : w14.cell? ⟨gb102,0,none⟩ = some (.int .u64 0):=(zf BK102.out 0).trans rfl;have hcz15_1 : w14.cell? ⟨gb102,1,none⟩ = some (.int .u64 0):=(zf BK102.out 1).trans rfl;have hfz15_0:=za BK102.out 0;have hfz15_1:=za BK102.out 1))
   refine bodyPost_ret (z2o rfl _ _ gb102 37 #[.int .u64 0,.int .u64 0] (0,0) _ rfl zz8 Try.underlying37 rfl zz84) rfl ?_
   exact ⟨by first|rfl|(simp [zi,zj] <;> rfl)|(simp [*,zi,zj] <;> rfl),by repeat (first|(with_reducible first|exact HB.out|apply zg|apply z6|apply zc|refine zd ?_ GE101.out|refine zd ?_ GE102.out)|exact HB.out)⟩
 rw [if_neg c9] at H
 have c9b0 : decide ((l0.length : Int) ≤ t103) = false:=decide_eq_false c9
 clear c9
 replace H:=Option.bind_eq_some_iff.mp H
 obtain ⟨⟨t104,t105⟩,A160,H⟩:=H
 replace H : (some (t104,t105,0)) = some (r1,r2,r3):=H
 have A16:=z4.mk A160
 clear A160
 simp only [Option.some.injEq,Prod.mk.injEq] at H
 obtain ⟨rfl,rfl,rfl⟩:=H
 go_enter Try.func69,Try.ntmps69
 go_wp2_with (first|((with_reducible refine zr (N:=3) rfl ?_);refine zy ?hg (N:=3) ?hd (cs:=#[.int .u64 a1_0,.int .u64 a1_1]) (t:=37) ?hr ?_;(case hd=>rfl);(case hg=>rfl);(case hr=>first|(go_simp;done)|(go_simp;rfl));intro gb101 hg w17 hbox hb;have n0_:=z4.mk (z9 zz45 hb);have n1_:=z4.mk (hbox);have n2_:=z4.mk ((by rw [hg];exact (ze zz45) : w.heap.size ≤ gb101));have n3_:=z4.mk ((by rw [hg];exact (ze zz45) : w.heap.size ≤ gb101));clear HB;have HB:=n0_;have BK101:=n1_;have GW101:=n2_;have GE101:=n3_;clear n0_ n1_ n2_ n3_;clear hb hbox hg)|((with_reducible refine zr (N:=4) rfl ?_);refine zy ?hg (N:=4) ?hd (cs:=#[.int .u64 0,.int .u64 0]) (t:=37) ?hr ?_;(case hd=>rfl);(case hg=>rfl);(case hr=>first|(go_simp;done)|(go_simp;rfl));intro gb102 hg w18 hbox hb;have n0_:=z4.mk (zh (g:=gb101) (o:=.cells #[.int .u64 a1_0,.int .u64 a1_1] 37 (0,0)) zz46 hb);have n1_:=z4.mk (z9 zz40 hb);have n2_:=z4.mk (hbox);have n3_:=z4.mk ((by rw [hg];exact (ze zz40) : w.heap.size ≤ gb102));have n4_:=z4.mk ((by rw [hg];exact (ze zz40) : w.heap.size ≤ gb102));have n5_:=z4.mk ((by rw [hg];exact Nat.ne_of_lt (zO (g:=gb101) (o:=.cells #[.int .u64 a1_0,.int .u64 a1_1] 37 (0,0)) zz46) : gb101 ≠ gb102));have n6_:=z4.mk ((by rw [hg];exact Nat.ne_of_gt (zO (g:=gb101) (o:=.cells #[.int .u64 a1_0,.int .u64 a1_1] 37 (0,0)) zz46) : gb102 ≠ gb101));clear BK101;clear HB;have BK101:=n0_;have HB:=n1_;have BK102:=n2_;have GW102:=n3_;have GE102:=n4_;have NB101_102:=n5_;have NB102_101:=n6_;clear n0_ n1_ n2_ n3_ n4_ n5_ n6_;clear hb hbox hg;have hnb19:=NB101_102.out;have hnc19:=NB102_101.out;have hcz20_0 : w18.cell? ⟨gb101,0,none⟩ = some (.int .u64 a1_0):=(zf BK101.out 0).trans rfl;have hcz20_1 : w18.cell? ⟨gb101,1,none⟩ = some (.int .u64 a1_1):=(zf BK101.out 1).trans rfl;have hfz20_0:=za BK101.out 0;have hfz20_1:=za BK101.out 1)|((with_reducible refine zl (f:=100) rfl ?_);refine goesL_ (some 13) rfl rfl Try.func100 zz84 rfl #[.agg #[.int .u64 a1_0,.int .u64 a1_1]] rfl zz44 ?_;(with_reducible refine (z1Q.calls k a1_0 a1_1 t103 _ A8.out).mono ?_);rintro e w21 ⟨rfl,hb⟩;refine ⟨_,rfl,?_⟩;have n0_:=z4.mk (zh (g:=gb101) (o:=.cells #[.int .u64 a1_0,.int .u64 a1_1] 37 (0,0)) zz46 hb);have n1_:=z4.mk (zh (g:=gb102) (o:=.cells #[.int .u64 0,.int .u64 0] 37 (0,0)) zz47 hb);have n2_:=z4.mk (z9 zz33 hb);clear BK101;clear BK102;clear HB;have BK101:=n0_;have BK102:=n1_;have HB:=n2_;clear n0_ n1_ n2_;(try clear hb);(try clear hb2);(try clear hk);(try clear hi);have hcz22_0 : w21.cell? ⟨gb101,0,none⟩ = some (.int .u64 a1_0):=(zf BK101.out 0).trans rfl;have hcz22_1 : w21.cell? ⟨gb101,1,none⟩ = some (.int .u64 a1_1):=(zf BK101.out 1).trans rfl;have hfz22_0:=za BK101.out 0;have hfz22_1:=za BK101.out 1)|((with_reducible refine zl (f:=101) rfl ?_);refine goesL_ (some 20) rfl rfl Try.func101 zz84 rfl #[.slice A0 l0.length c0,.agg #[.int .u64 a1_0,.int .u64 a1_1]] rfl zz44 ?_;(with_reducible refine (z1k.calls k _ _ l0 a1_0 a1_1 t104 t105 _ ?side1 ?side2 A16.out).mono ?_);(case side1=>repeat (first|exact (Kd.z1s HR0.out HB.out)|(with_reducible refine Kd.zQ ?_ _)|(with_reducible refine Kd.zR ?_ _)|(with_reducible refine Kd.z1c ?_)));(case side2=>exact HC0.out);rintro e w23 ⟨rfl,hb⟩;refine ⟨_,rfl,?_⟩;have n0_:=z4.mk (zh (g:=gb101) (o:=.cells #[.int .u64 a1_0,.int .u64 a1_1] 37 (0,0)) zz46 hb);have n1_:=z4.mk (zh (g:=gb102) (o:=.cells #[.int .u64 0,.int .u64 0] 37 (0,0)) zz47 hb);have n2_:=z4.mk (z9 zz33 hb);clear BK101;clear BK102;clear HB;have BK101:=n0_;have BK102:=n1_;have HB:=n2_;clear n0_ n1_ n2_;(try clear hb);(try clear hb2);(try clear hk);(try clear hi);have hcz24_0 : w23.cell? ⟨gb102,0,none⟩ = some (.int .u64 0):=(zf BK102.out 0).trans rfl;have hcz24_1 : w23.cell? ⟨gb102,1,none⟩ = some (.int .u64 0):=(zf BK102.out 1).trans rfl;have hfz24_0:=za BK102.out 0;have hfz24_1:=za BK102.out 1))
 refine bodyPost_ret (z2o rfl _ _ gb102 37 #[.int .u64 t104,.int .u64 t105] (0,0) _ rfl (by (with_reducible repeat (first|refine z8 ?_ _|refine zb ?_|refine z7 ?_ _));refine zX (cs:=#[.int .u64 t104,.int .u64 0]) ?_ 1 _ rfl;(with_reducible repeat (first|refine z8 ?_ _|refine zb ?_|refine z7 ?_ _));refine zX (cs:=#[.int .u64 0,.int .u64 0]) ?_ 0 _ rfl;(with_reducible repeat (first|refine z8 ?_ _|refine zb ?_|refine z7 ?_ _));exact BK102.out) Try.underlying37 rfl zz84) rfl ?_
 exact ⟨by first|rfl|(simp [zi,zj] <;> rfl)|(simp [*,zi,zj] <;> rfl),by repeat (first|(with_reducible first|exact HB.out|apply zg|apply z6|apply zc|refine zd ?_ GE101.out|refine zd ?_ GE102.out)|exact HB.out)⟩
end Go.Proofs.Ytklkmflhnljbdaa.P

/- Own text: merged by wip/tools/pack.py out of what the law RingCounts reaches. -/
import Derived.Deep.Slices
import Derived.OpenShut
import Derived.ProofKit
import Derived.Laws.BitsLemmas
import Derived.Test.YtklkmflhnljbdaaMRingCountsa
import Derived.Test.YtklkmflhnljbdaaMRingCountsb
import Derived.Test.YtklkmflhnljbdaaMRingCountsc
import Derived.Test.YtklkmflhnljbdaaMRingCountsd
namespace Go.Proofs.Ytklkmflhnljbdaa.P
open Go.RowKit Go.Proofs.YtklkmflhnljbdaaW.PrintWords Go.Proofs.YtklkmflhnljbdaaW.PrintLast Go.Proofs.YtklkmflhnljbdaaW.PrintMore
attribute [local go_sem] z17 z19 z1m z1n zU zV z18 z1a   -- for this text's walks alone
set_option linter.unusedVariables false
set_option linter.unusedSimpArgs false
attribute [local go_sem high] eqA37
mutual
def z5.j0 : Nat → Int → List (S37) → Bool → List Bool → List (S37) → List (S37) → Option (Bool)
 | 0,_,_,_,_,_,_=>none
 | k + 1,x0,x2,x51,x102000,x102001,x102002=>if x51 = true then ((zE.f k).bind fun t110=>(some t110)) else ((zq.f k x0 x102000 x102002).bind fun bt111=>(if bt111.2 = 0 then ((zu.f k x2).bind fun t115=>((zt.f k bt111.1 t115).bind fun t118=>(z5.j1 k x0 x2 bt111.1 t118))) else (z5.j1 k x0 x2 bt111.1 true)))
def z5.j1 : Nat → Int → List (S37) → List (S37) → Bool → Option (Bool)
 | 0,_,_,_,_=>none
 | k + 1,x0,x2,x7,x69=>if x69 = true then ((zE.f k).bind fun t119=>(some t119)) else ((some (([2,4,16] : List Int) : List Int)).bind fun y120=>(if 0 ≤ x0 then (if x0 < (y120.length : Int) then (if x0 = 2 then (z5.j2 k x0 x2 x7 (rd y120 x0) (wrap64 ((rd y120 x0) * (rd y120 x0)))) else (z5.j2 k x0 x2 x7 (rd y120 x0) (rd y120 x0))) else (none)) else (none)))
def z5.j2 : Nat → Int → List (S37) → List (S37) → Int → Int → Option (Bool)
 | 0,_,_,_,_,_=>none
 | k + 1,x0,x2,x7,x9,x10=>z5.l0 k x0 x2 x7 x9 x10 0 0
def z5.l0 : Nat → Int → List (S37) → List (S37) → Int → Int → Int → Int → Option (Bool)
 | 0,_,_,_,_,_,_,_=>none
 | k + 1,x0,x2,x7,x9,x10,x11,x12=>if x12 < x10 then (if x9 = 0 then (none) else ((some (([(⟨0,IntKind.u64.wrap (Int.tmod x12 x9)⟩ : S37)] : List (S37)) : List (S37))).bind fun y125=>(if x0 = 2 then (if y125.length < 8796093022208 then (z5.j4 k x0 x2 x7 x9 x10 x11 x12 (y125 ++ [(⟨0,IntKind.u64.wrap (wrap64 (Int.tdiv x12 x9))⟩ : S37)])) else (none)) else (z5.j4 k x0 x2 x7 x9 x10 x11 x12 y125)))) else ((zE.f k).bind fun t124=>(if t124 = true then (if x9 = 0 then (none) else (some (decide (x11 ≤ (wrap64 (x0 * (wrap64 (Int.tdiv x10 x9)))))))) else (some false)))
def z5.j4 : Nat → Int → List (S37) → List (S37) → Int → Int → Int → Int → List (S37) → Option (Bool)
 | 0,_,_,_,_,_,_,_,_=>none
 | k + 1,x0,x2,x7,x9,x10,x11,x12,x13=>(z1q.f k x0 x7 x13).bind fun bt131=>((z1q.f k x0 x2 x13).bind fun bt135=>(if bt131.2.2 = 0 then (z5.j5 k x0 x2 x7 x9 x10 x11 x12 (bt135.2.2 != 0) bt131.1 bt131.2.1 bt135.1 bt135.2.1) else (z5.j5 k x0 x2 x7 x9 x10 x11 x12 true bt131.1 bt131.2.1 bt135.1 bt135.2.1)))
def z5.j5 : Nat → Int → List (S37) → List (S37) → Int → Int → Int → Int → Bool → Int → Int → Int → Int → Option (Bool)
 | 0,_,_,_,_,_,_,_,_,_,_,_,_=>none
 | k + 1,x0,x2,x7,x9,x10,x11,x12,x121,x135000,x135001,x139000,x139001=>if x121 = true then (some false) else (if (x135000 == x139000 && (x135001 == x139001)) = true then (z5.l0 k x0 x2 x7 x9 x10 (wrap64 (x11 + 1)) (wrap64 (x12 + 1))) else (z5.l0 k x0 x2 x7 x9 x10 x11 (wrap64 (x12 + 1))))
end
def z5.f (k : Nat) (a0 : Int) (l1_0 : List Bool) (l1_1 : List (S37)) (l1_2 : List (S37)) (l2 : List (S37)) : Option (Bool):=if a0 < 1 then (z5.j0 k a0 l2 true l1_0 l1_1 l1_2) else (if a0 > 2 then (z5.j0 k a0 l2 true l1_0 l1_1 l1_2) else (if (l1_0.length : Int) > 32 then (z5.j0 k a0 l2 true l1_0 l1_1 l1_2) else (if (l1_2.length : Int) > 6 then (z5.j0 k a0 l2 true l1_0 l1_1 l1_2) else ((some (([1,2,4] : List Int) : List Int)).bind fun y102=>(if 0 ≤ a0 then (if a0 < (y102.length : Int) then (if (l2.length : Int) = (rd y102 a0) then ((zu.f k l2).bind fun t106=>((zn.f k a0 t106).bind fun t109=>(z5.j0 k a0 l2 (!t109) l1_0 l1_1 l1_2))) else (z5.j0 k a0 l2 true l1_0 l1_1 l1_2)) else (none)) else (none))))))
theorem z5.z1b : ∀ k,(∀ y0 y1 y2 y3 y4 y5,LeO (z5.j0 k y0 y1 y2 y3 y4 y5) (z5.j0 (k + 1) y0 y1 y2 y3 y4 y5)) ∧ (∀ y0 y1 y2 y3,LeO (z5.j1 k y0 y1 y2 y3) (z5.j1 (k + 1) y0 y1 y2 y3)) ∧ (∀ y0 y1 y2 y3 y4,LeO (z5.j2 k y0 y1 y2 y3 y4) (z5.j2 (k + 1) y0 y1 y2 y3 y4)) ∧ (∀ y0 y1 y2 y3 y4 y5 y6,LeO (z5.l0 k y0 y1 y2 y3 y4 y5 y6) (z5.l0 (k + 1) y0 y1 y2 y3 y4 y5 y6)) ∧ (∀ y0 y1 y2 y3 y4 y5 y6 y7,LeO (z5.j4 k y0 y1 y2 y3 y4 y5 y6 y7) (z5.j4 (k + 1) y0 y1 y2 y3 y4 y5 y6 y7)) ∧ (∀ y0 y1 y2 y3 y4 y5 y6 y7 y8 y9 y10 y11,LeO (z5.j5 k y0 y1 y2 y3 y4 y5 y6 y7 y8 y9 y10 y11) (z5.j5 (k + 1) y0 y1 y2 y3 y4 y5 y6 y7 y8 y9 y10 y11))
 | 0=>⟨fun _ _ _ _ _ _ r h=>by simp [z5.j0] at h,fun _ _ _ _ r h=>by simp [z5.j1] at h,fun _ _ _ _ _ r h=>by simp [z5.j2] at h,fun _ _ _ _ _ _ _ r h=>by simp [z5.l0] at h,fun _ _ _ _ _ _ _ _ r h=>by simp [z5.j4] at h,fun _ _ _ _ _ _ _ _ _ _ _ _ r h=>by simp [z5.j5] at h⟩
 | k + 1=>by
  obtain ⟨ih0,ih1,ih2,ih3,ih4,ih5⟩:=z5.z1b k
  refine ⟨?_,?_,?_,?_,?_,?_⟩
  · intro y0 y1 y2 y3 y4 y5
    unfold z5.j0
    repeat' first
    | (with_reducible exact ih0 _ _ _ _ _ _)
    | (with_reducible exact ih1 _ _ _ _)
    | (with_reducible exact ih2 _ _ _ _ _)
    | (with_reducible exact ih3 _ _ _ _ _ _ _)
    | (with_reducible exact ih4 _ _ _ _ _ _ _ _)
    | (with_reducible exact ih5 _ _ _ _ _ _ _ _ _ _ _ _)
    | (with_reducible exact z1q.mono _ _ _ _)
    | (with_reducible exact zq.mono _ _ _ _)
    | (with_reducible exact zu.mono _ _)
    | (with_reducible exact zt.mono _ _ _)
    | (with_reducible exact zE.mono _)
    | (with_reducible exact zn.mono _ _ _)
    | (with_reducible exact LeO.refl _)
    | (with_reducible exact LeO.none _)
    | (with_reducible refine LeO.ite ?_ ?_)
    | (with_reducible refine LeO.bind ?_ (fun _=>?_))
    | exact ih0 _ _ _ _ _ _
    | exact ih1 _ _ _ _
    | exact ih2 _ _ _ _ _
    | exact ih3 _ _ _ _ _ _ _
    | exact ih4 _ _ _ _ _ _ _ _
    | exact ih5 _ _ _ _ _ _ _ _ _ _ _ _
    | exact z1q.mono _ _ _ _
    | exact zq.mono _ _ _ _
    | exact zu.mono _ _
    | exact zt.mono _ _ _
    | exact zE.mono _
    | exact zn.mono _ _ _
    | exact LeO.none _
    | refine LeO.ite ?_ ?_
    | refine LeO.bind ?_ (fun _=>?_)
  · intro y0 y1 y2 y3
    unfold z5.j1
    repeat' first
    | (with_reducible exact ih0 _ _ _ _ _ _)
    | (with_reducible exact ih1 _ _ _ _)
    | (with_reducible exact ih2 _ _ _ _ _)
    | (with_reducible exact ih3 _ _ _ _ _ _ _)
    | (with_reducible exact ih4 _ _ _ _ _ _ _ _)
    | (with_reducible exact ih5 _ _ _ _ _ _ _ _ _ _ _ _)
    | (with_reducible exact z1q.mono _ _ _ _)
    | (with_reducible exact zq.mono _ _ _ _)
    | (with_reducible exact zu.mono _ _)
    | (with_reducible exact zt.mono _ _ _)
    | (with_reducible exact zE.mono _)
    | (with_reducible exact zn.mono _ _ _)
    | (with_reducible exact LeO.refl _)
    | (with_reducible exact LeO.none _)
    | (with_reducible refine LeO.ite ?_ ?_)
    | (with_reducible refine LeO.bind ?_ (fun _=>?_))
    | exact ih0 _ _ _ _ _ _
    | exact ih1 _ _ _ _
    | exact ih2 _ _ _ _ _
    | exact ih3 _ _ _ _ _ _ _
    | exact ih4 _ _ _ _ _ _ _ _
    | exact ih5 _ _ _ _ _ _ _ _ _ _ _ _
    | exact z1q.mono _ _ _ _
    | exact zq.mono _ _ _ _
    | exact zu.mono _ _
    | exact zt.mono _ _ _
    | exact zE.mono _
    | exact zn.mono _ _ _
    | exact LeO.none _
    | refine LeO.ite ?_ ?_
    | refine LeO.bind ?_ (fun _=>?_)
  · intro y0 y1 y2 y3 y4
    unfold z5.j2
    repeat' first
    | (with_reducible exact ih0 _ _ _ _ _ _)
    | (with_reducible exact ih1 _ _ _ _)
    | (with_reducible exact ih2 _ _ _ _ _)
    | (with_reducible exact ih3 _ _ _ _ _ _ _)
    | (with_reducible exact ih4 _ _ _ _ _ _ _ _)
    | (with_reducible exact ih5 _ _ _ _ _ _ _ _ _ _ _ _)
    | (with_reducible exact z1q.mono _ _ _ _)
    | (with_reducible exact zq.mono _ _ _ _)
    | (with_reducible exact zu.mono _ _)
    | (with_reducible exact zt.mono _ _ _)
    | (with_reducible exact zE.mono _)
    | (with_reducible exact zn.mono _ _ _)
    | (with_reducible exact LeO.refl _)
    | (with_reducible exact LeO.none _)
    | (with_reducible refine LeO.ite ?_ ?_)
    | (with_reducible refine LeO.bind ?_ (fun _=>?_))
    | exact ih0 _ _ _ _ _ _
    | exact ih1 _ _ _ _
    | exact ih2 _ _ _ _ _
    | exact ih3 _ _ _ _ _ _ _
    | exact ih4 _ _ _ _ _ _ _ _
    | exact ih5 _ _ _ _ _ _ _ _ _ _ _ _
    | exact z1q.mono _ _ _ _
    | exact zq.mono _ _ _ _
    | exact zu.mono _ _
    | exact zt.mono _ _ _
    | exact zE.mono _
    | exact zn.mono _ _ _
    | exact LeO.none _
    | refine LeO.ite ?_ ?_
    | refine LeO.bind ?_ (fun _=>?_)
  · intro y0 y1 y2 y3 y4 y5 y6
    unfold z5.l0
    repeat' first
    | (with_reducible exact ih0 _ _ _ _ _ _)
    | (with_reducible exact ih1 _ _ _ _)
    | (with_reducible exact ih2 _ _ _ _ _)
    | (with_reducible exact ih3 _ _ _ _ _ _ _)
    | (with_reducible exact ih4 _ _ _ _ _ _ _ _)
    | (with_reducible exact ih5 _ _ _ _ _ _ _ _ _ _ _ _)
    | (with_reducible exact z1q.mono _ _ _ _)
    | (with_reducible exact zq.mono _ _ _ _)
    | (with_reducible exact zu.mono _ _)
    | (with_reducible exact zt.mono _ _ _)
    | (with_reducible exact zE.mono _)
    | (with_reducible exact zn.mono _ _ _)
    | (with_reducible exact LeO.refl _)
    | (with_reducible exact LeO.none _)
    | (with_reducible refine LeO.ite ?_ ?_)
    | (with_reducible refine LeO.bind ?_ (fun _=>?_))
    | exact ih0 _ _ _ _ _ _
    | exact ih1 _ _ _ _
    | exact ih2 _ _ _ _ _
    | exact ih3 _ _ _ _ _ _ _
    | exact ih4 _ _ _ _ _ _ _ _
    | exact ih5 _ _ _ _ _ _ _ _ _ _ _ _
    | exact z1q.mono _ _ _ _
    | exact zq.mono _ _ _ _
    | exact zu.mono _ _
    | exact zt.mono _ _ _
    | exact zE.mono _
    | exact zn.mono _ _ _
    | exact LeO.none _
    | refine LeO.ite ?_ ?_
    | refine LeO.bind ?_ (fun _=>?_)
  · intro y0 y1 y2 y3 y4 y5 y6 y7
    unfold z5.j4
    repeat' first
    | (with_reducible exact ih0 _ _ _ _ _ _)
    | (with_reducible exact ih1 _ _ _ _)
    | (with_reducible exact ih2 _ _ _ _ _)
    | (with_reducible exact ih3 _ _ _ _ _ _ _)
    | (with_reducible exact ih4 _ _ _ _ _ _ _ _)
    | (with_reducible exact ih5 _ _ _ _ _ _ _ _ _ _ _ _)
    | (with_reducible exact z1q.mono _ _ _ _)
    | (with_reducible exact zq.mono _ _ _ _)
    | (with_reducible exact zu.mono _ _)
    | (with_reducible exact zt.mono _ _ _)
    | (with_reducible exact zE.mono _)
    | (with_reducible exact zn.mono _ _ _)
    | (with_reducible exact LeO.refl _)
    | (with_reducible exact LeO.none _)
    | (with_reducible refine LeO.ite ?_ ?_)
    | (with_reducible refine LeO.bind ?_ (fun _=>?_))
    | exact ih0 _ _ _ _ _ _
    | exact ih1 _ _ _ _
    | exact ih2 _ _ _ _ _
    | exact ih3 _ _ _ _ _ _ _
    | exact ih4 _ _ _ _ _ _ _ _
    | exact ih5 _ _ _ _ _ _ _ _ _ _ _ _
    | exact z1q.mono _ _ _ _
    | exact zq.mono _ _ _ _
    | exact zu.mono _ _
    | exact zt.mono _ _ _
    | exact zE.mono _
    | exact zn.mono _ _ _
    | exact LeO.none _
    | refine LeO.ite ?_ ?_
    | refine LeO.bind ?_ (fun _=>?_)
  · intro y0 y1 y2 y3 y4 y5 y6 y7 y8 y9 y10 y11
    unfold z5.j5
    repeat' first
    | (with_reducible exact ih0 _ _ _ _ _ _)
    | (with_reducible exact ih1 _ _ _ _)
    | (with_reducible exact ih2 _ _ _ _ _)
    | (with_reducible exact ih3 _ _ _ _ _ _ _)
    | (with_reducible exact ih4 _ _ _ _ _ _ _ _)
    | (with_reducible exact ih5 _ _ _ _ _ _ _ _ _ _ _ _)
    | (with_reducible exact z1q.mono _ _ _ _)
    | (with_reducible exact zq.mono _ _ _ _)
    | (with_reducible exact zu.mono _ _)
    | (with_reducible exact zt.mono _ _ _)
    | (with_reducible exact zE.mono _)
    | (with_reducible exact zn.mono _ _ _)
    | (with_reducible exact LeO.refl _)
    | (with_reducible exact LeO.none _)
    | (with_reducible refine LeO.ite ?_ ?_)
    | (with_reducible refine LeO.bind ?_ (fun _=>?_))
    | exact ih0 _ _ _ _ _ _
    | exact ih1 _ _ _ _
    | exact ih2 _ _ _ _ _
    | exact ih3 _ _ _ _ _ _ _
    | exact ih4 _ _ _ _ _ _ _ _
    | exact ih5 _ _ _ _ _ _ _ _ _ _ _ _
    | exact z1q.mono _ _ _ _
    | exact zq.mono _ _ _ _
    | exact zu.mono _ _
    | exact zt.mono _ _ _
    | exact zE.mono _
    | exact zn.mono _ _ _
    | exact LeO.none _
    | refine LeO.ite ?_ ?_
    | refine LeO.bind ?_ (fun _=>?_)
theorem z5.mono : ∀ a0 a1 a2 a3 a4 k,LeO (z5.f k a0 a1 a2 a3 a4) (z5.f (k + 1) a0 a1 a2 a3 a4):=by
 intro a0 a1 a2 a3 a4 k
 obtain ⟨ih0,ih1,ih2,ih3,ih4,ih5⟩:=z5.z1b k
 unfold z5.f
 repeat' first
  | (with_reducible exact ih0 _ _ _ _ _ _)
  | (with_reducible exact ih1 _ _ _ _)
  | (with_reducible exact ih2 _ _ _ _ _)
  | (with_reducible exact ih3 _ _ _ _ _ _ _)
  | (with_reducible exact ih4 _ _ _ _ _ _ _ _)
  | (with_reducible exact ih5 _ _ _ _ _ _ _ _ _ _ _ _)
  | (with_reducible exact z1q.mono _ _ _ _)
  | (with_reducible exact zq.mono _ _ _ _)
  | (with_reducible exact zu.mono _ _)
  | (with_reducible exact zt.mono _ _ _)
  | (with_reducible exact zE.mono _)
  | (with_reducible exact zn.mono _ _ _)
  | (with_reducible exact LeO.refl _)
  | (with_reducible exact LeO.none _)
  | (with_reducible refine LeO.ite ?_ ?_)
  | (with_reducible refine LeO.bind ?_ (fun _=>?_))
  | exact ih0 _ _ _ _ _ _
  | exact ih1 _ _ _ _
  | exact ih2 _ _ _ _ _
  | exact ih3 _ _ _ _ _ _ _
  | exact ih4 _ _ _ _ _ _ _ _
  | exact ih5 _ _ _ _ _ _ _ _ _ _ _ _
  | exact z1q.mono _ _ _ _
  | exact zq.mono _ _ _ _
  | exact zu.mono _ _
  | exact zt.mono _ _ _
  | exact zE.mono _
  | exact zn.mono _ _ _
  | exact LeO.none _
  | refine LeO.ite ?_ ?_
  | refine LeO.bind ?_ (fun _=>?_)
set_option maxHeartbeats 8000000 in
set_option maxRecDepth 100000 in
theorem z5.calls (k : Nat) (a0 : Int) (A1_0 : Option Addr) (c1_0 : Nat) (l1_0 : List Bool) (A1_1 : Option Addr) (c1_1 : Nat) (l1_1 : List (S37)) (A1_2 : Option Addr) (c1_2 : Nat) (l1_2 : List (S37)) (A2 : Option Addr) (c2 : Nat) (l2 : List (S37)) (r : Bool) (w : World) (hr1_0 : Kd.C Kd.bool w A1_0 l1_0.length l1_0) (hc1_0 : l1_0.length ≤ c1_0) (hr1_1 : Kd.C k37 w A1_1 l1_1.length l1_1) (hc1_1 : l1_1.length ≤ c1_1) (hr1_2 : Kd.C k37 w A1_2 l1_2.length l1_2) (hc1_2 : l1_2.length ≤ c1_2) (hr2 : Kd.C k37 w A2 l2.length l2) (hc2 : l2.length ≤ c2) (h : z5.f k a0 l1_0 l1_1 l1_2 l2 = some r) :
 Calls Try.prog 3 #[.int .i64 a0,.agg #[.slice A1_0 l1_0.length c1_0,.slice A1_1 l1_1.length c1_1,.slice A1_2 l1_2.length c1_2],.slice A2 l2.length c2] w fun e w'=>e = .returned (.bool r) ∧ Below w.heap.size w w':=by
 have hu25:=Try.underlying25
 have hu37:=Try.underlying37
 have HR1_0:=z4.mk hr1_0
 have HC1_0:=z4.mk hc1_0
 clear hr1_0 hc1_0
 have HR1_1:=z4.mk hr1_1
 have HC1_1:=z4.mk hc1_1
 clear hr1_1 hc1_1
 have HR1_2:=z4.mk hr1_2
 have HC1_2:=z4.mk hc1_2
 clear hr1_2 hc1_2
 have HR2:=z4.mk hr2
 have HC2:=z4.mk hc2
 clear hr2 hc2
 have HB:=z4.mk (Below.refl w.heap.size w)
 have H : (if a0 < 1 then (z5.j0 k a0 l2 true l1_0 l1_1 l1_2) else (if a0 > 2 then (z5.j0 k a0 l2 true l1_0 l1_1 l1_2) else (if (l1_0.length : Int) > 32 then (z5.j0 k a0 l2 true l1_0 l1_1 l1_2) else (if (l1_2.length : Int) > 6 then (z5.j0 k a0 l2 true l1_0 l1_1 l1_2) else ((some (([1,2,4] : List Int) : List Int)).bind fun y102=>(if 0 ≤ a0 then (if a0 < (y102.length : Int) then (if (l2.length : Int) = (rd y102 a0) then ((zu.f k l2).bind fun t106=>((zn.f k a0 t106).bind fun t109=>(z5.j0 k a0 l2 (!t109) l1_0 l1_1 l1_2))) else (z5.j0 k a0 l2 true l1_0 l1_1 l1_2)) else (none)) else (none))))))) = some r:=h
 clear h
 have HC4:=z4.mk H
 clear H
 go_enter Try.func3,Try.ntmps3
 go_upto_region 1 with (first|((with_reducible refine zr (N:=4) rfl ?_);(try (refine zZ zz88 ?_;dsimp only));refine zy ?hg (N:=4) ?hd (cs:=#[.slice A1_0 l1_0.length c1_0,.slice A1_1 l1_1.length c1_1,.slice A1_2 l1_2.length c1_2]) (t:=25) ?hr ?_;(case hd=>rfl);(case hg=>rfl);(case hr=>first|(go_simp;done)|(go_simp;rfl));intro gb101 hg w5 hbox hb;have n0_:=z4.mk (z9 zz45 hb);have n1_:=z4.mk (hbox);have n2_:=z4.mk ((by rw [hg];exact (ze zz45) : w.heap.size ≤ gb101));have n3_:=z4.mk ((by rw [hg];exact (ze zz45) : w.heap.size ≤ gb101));clear HB;have HB:=n0_;have BK101:=n1_;have GW101:=n2_;have GE101:=n3_;clear n0_ n1_ n2_ n3_;clear hb hbox hg))
 (try simp only [Act.put,List.setIfInBounds_toArray,List.set_cons_zero,List.set_cons_succ])
 go_cut [51] (fun v51 wc=>∃ (kq : Nat) (x51_3 : Bool),v51 = .bool x51_3 ∧ z4 (z5.j0 kq a0 l2 x51_3 l1_0 l1_1 l1_2 = some r) ∧ z4 (kq ≤ k) ∧ z4 (wc.heap[gb101]? = some (.cells #[(.slice A1_0 l1_0.length c1_0),(.slice A1_1 l1_1.length c1_1),(.slice A1_2 l1_2.length c1_2)] 25 (0,0))) ∧ z4 (Below w.heap.size w wc))
 case first =>
  have H:=HC4.out
  clear HC4
  by_cases c6 : a0 < 1
  · rw [if_pos c6] at H
    have c6b0 : decide (a0 < 1) = true:=decide_eq_true c6
    clear c6
    (first|rw [c6b0]|(simp only [zY,z16];rw [c6b0])|skip)
    have H':=z4.mk H
    clear H
    go_wp2
    go_meet
    case rel=>exact ⟨_,(true),zz81,H',⟨by first|omega|exact Nat.le_refl _⟩,⟨by (with_reducible repeat (first|refine z8 ?_ _|refine zb ?_|refine z7 ?_ _));exact BK101.out⟩,⟨by repeat (first|(with_reducible first|exact HB.out|apply zg|apply z6|apply zc|refine zd ?_ GE101.out)|exact HB.out)⟩⟩
  rw [if_neg c6] at H
  have c6b0 : decide (a0 < 1) = false:=decide_eq_false c6
  clear c6
  (first|rw [c6b0]|(simp only [zY,z16];rw [c6b0])|skip)
  by_cases c7 : a0 > 2
  · rw [if_pos c7] at H
    have c7b0 : decide (2 < a0) = true:=decide_eq_true c7
    clear c7
    have H':=z4.mk H
    clear H
    go_wp2
    go_meet
    case rel=>exact ⟨_,(true),zz81,H',⟨by first|omega|exact Nat.le_refl _⟩,⟨by (with_reducible repeat (first|refine z8 ?_ _|refine zb ?_|refine z7 ?_ _));exact BK101.out⟩,⟨by repeat (first|(with_reducible first|exact HB.out|apply zg|apply z6|apply zc|refine zd ?_ GE101.out)|exact HB.out)⟩⟩
  rw [if_neg c7] at H
  have c7b0 : decide (2 < a0) = false:=decide_eq_false c7
  clear c7
  by_cases c8 : (l1_0.length : Int) > 32
  · rw [if_pos c8] at H
    have c8b0 : decide (32 < (l1_0.length : Int)) = true:=decide_eq_true c8
    have c8b1 : decide (32 < l1_0.length) = true:=decide_eq_true zz86
    clear c8
    have H':=z4.mk H
    clear H
    have hcz9_0 : w5.cell? ⟨gb101,0,none⟩ = some (.slice A1_0 l1_0.length c1_0):=(zf BK101.out 0).trans rfl
    have hcz9_1 : w5.cell? ⟨gb101,1,none⟩ = some (.slice A1_1 l1_1.length c1_1):=(zf BK101.out 1).trans rfl
    have hcz9_2 : w5.cell? ⟨gb101,2,none⟩ = some (.slice A1_2 l1_2.length c1_2):=(zf BK101.out 2).trans rfl
    have hfz9_0:=za BK101.out 0
    have hfz9_1:=za BK101.out 1
    have hfz9_2:=za BK101.out 2
    go_wp2
    go_meet
    case rel=>exact ⟨_,(true),zz81,H',⟨by first|omega|exact Nat.le_refl _⟩,⟨by (with_reducible repeat (first|refine z8 ?_ _|refine zb ?_|refine z7 ?_ _));exact BK101.out⟩,⟨by repeat (first|(with_reducible first|exact HB.out|apply zg|apply z6|apply zc|refine zd ?_ GE101.out)|exact HB.out)⟩⟩
  rw [if_neg c8] at H
  have c8b0 : decide (32 < (l1_0.length : Int)) = false:=decide_eq_false c8
  have c8b1 : decide (32 < l1_0.length) = false:=decide_eq_false zz86
  clear c8
  by_cases c10 : (l1_2.length : Int) > 6
  · rw [if_pos c10] at H
    have c10b0 : decide (6 < (l1_2.length : Int)) = true:=decide_eq_true c10
    have c10b1 : decide (6 < l1_2.length) = true:=decide_eq_true zz86
    clear c10
    have H':=z4.mk H
    clear H
    have hcz11_0 : w5.cell? ⟨gb101,0,none⟩ = some (.slice A1_0 l1_0.length c1_0):=(zf BK101.out 0).trans rfl
    have hcz11_1 : w5.cell? ⟨gb101,1,none⟩ = some (.slice A1_1 l1_1.length c1_1):=(zf BK101.out 1).trans rfl
    have hcz11_2 : w5.cell? ⟨gb101,2,none⟩ = some (.slice A1_2 l1_2.length c1_2):=(zf BK101.out 2).trans rfl
    have hfz11_0:=za BK101.out 0
    have hfz11_1:=za BK101.out 1
    have hfz11_2:=za BK101.out 2
    go_wp2
    go_meet
    case rel=>exact ⟨_,(true),zz81,H',⟨by first|omega|exact Nat.le_refl _⟩,⟨by (with_reducible repeat (first|refine z8 ?_ _|refine zb ?_|refine z7 ?_ _));exact BK101.out⟩,⟨by repeat (first|(with_reducible first|exact HB.out|apply zg|apply z6|apply zc|refine zd ?_ GE101.out)|exact HB.out)⟩⟩
  rw [if_neg c10] at H
  have c10b0 : decide (6 < (l1_2.length : Int)) = false:=decide_eq_false c10
  have c10b1 : decide (6 < l1_2.length) = false:=decide_eq_false zz86
  clear c10
  obtain ⟨y102,hy102⟩ : ∃ y_ : List Int,y_ = (([1,2,4] : List Int)):=⟨_,rfl⟩
  replace H : (if 0 ≤ a0 then (if a0 < (y102.length : Int) then (if (l2.length : Int) = (rd y102 a0) then ((zu.f k l2).bind fun t106=>((zn.f k a0 t106).bind fun t109=>(z5.j0 k a0 l2 (!t109) l1_0 l1_1 l1_2))) else (z5.j0 k a0 l2 true l1_0 l1_1 l1_2)) else (none)) else (none)) = some r:=by first|(rw [hy102];with_reducible exact H)|(have H2_:=(Option.bind_some _ _).symm.trans H;rw [hy102];with_reducible exact H2_)|(have H2_:=(Option.bind_some _ _).symm.trans H;with_reducible exact H2_)|with_reducible exact H|(rw [hy102];exact H)|exact H
  have Ny102:=z4.mk hy102
  clear hy102
  by_cases c12 : 0 ≤ a0
  rotate_left
  · rw [if_neg c12] at H
    exact absurd H zz87
  rw [if_pos c12] at H
  have c12b0 : decide (0 ≤ a0) = true:=decide_eq_true c12
  clear c12
  by_cases c13 : a0 < (y102.length : Int)
  rotate_left
  · rw [if_neg c13] at H
    exact absurd H zz87
  rw [if_pos c13] at H
  have c13b0 : decide (a0 < (y102.length : Int)) = true:=decide_eq_true c13
  clear c13
  by_cases c14 : (l2.length : Int) = (rd y102 a0)
  rotate_left
  · rw [if_neg c14] at H
    have c14b0 : ((l2.length : Int) == (rd y102 a0)) = false:=beq_eq_false_iff_ne.mpr c14
    have c14b1 : ((l2.length : Int) != (rd y102 a0)) = true:=bne_iff_ne.mpr c14
    have H':=z4.mk H
    clear H
    have hcz24_0 : w5.cell? ⟨gb101,0,none⟩ = some (.slice A1_0 l1_0.length c1_0):=(zf BK101.out 0).trans rfl
    have hcz24_1 : w5.cell? ⟨gb101,1,none⟩ = some (.slice A1_1 l1_1.length c1_1):=(zf BK101.out 1).trans rfl
    have hcz24_2 : w5.cell? ⟨gb101,2,none⟩ = some (.slice A1_2 l1_2.length c1_2):=(zf BK101.out 2).trans rfl
    have hfz24_0:=za BK101.out 0
    have hfz24_1:=za BK101.out 1
    have hfz24_2:=za BK101.out 2
    go_wp2_with (first|((with_reducible refine zr (N:=39) rfl ?_);(try (refine zZ zz88 ?_;dsimp only));refine Kd.z2b (Kd.int .i64) _ 3 ?hg (N:=39) ?hd (xs:=([1,2,4] : List Int)) (inner:=[.int .i64 1,.int .i64 2,.int .i64 4]) (ok:=fun _=>True) (okp:=fun _=>True) ?hr ?hp (fun _ hk=>hk) trivial (Below.refl _ _) (Nat.le_refl _) zz87 ?_;(case hd=>rfl);(case hg=>rfl);(case hr=>first|(go_simp;done)|(go_simp;rfl));(case hp=>exact (Reps.one (show Kd.M (Kd.int .i64) _ _ _ 1 [.int .i64 1] from rfl) (Reps.one (show Kd.M (Kd.int .i64) _ _ _ 2 [.int .i64 2] from rfl) (Reps.one (show Kd.M (Kd.int .i64) _ _ _ 4 [.int .i64 4] from rfl) (Reps.none _ _)))));intro v103 w25 ho26 hb hg_ hnew_;clear hg_ hnew_;(first|rw [← Ny102.out] at ho26|(simp only [Int.reduceToNat] at ho26;rw [← Ny102.out] at ho26));have n0_:=z4.mk (Kd.z1e ho26 (ze zz40));have n1_:=z4.mk (zh (g:=gb101) (o:=.cells #[.slice A1_0 l1_0.length c1_0,.slice A1_1 l1_1.length c1_1,.slice A1_2 l1_2.length c1_2] 25 (0,0)) zz46 hb);have n2_:=z4.mk (z9 zz40 hb);clear BK101;clear HB;have HO104:=n0_;have BK101:=n1_;have HB:=n2_;clear n0_ n1_ n2_;clear hb ho26;obtain ⟨Ao27,co27,eo27⟩:=Kd.z1j HO104.out;subst eo27;have p105 : 0 ≤ (a0 : Int):=of_decide_eq_true zz80;have q105 : a0 < (y102.length : Int):=of_decide_eq_true zz80;obtain ⟨ad105,e105,hx105_0⟩:=Kd.z5g (Kd.zv HO104.out).2.2 a0 p105 q105;cases e105;replace p105:=eq_true p105;replace q105:=eq_true q105))
    go_meet
    case rel=>exact ⟨_,(true),zz81,H',⟨by first|omega|exact Nat.le_refl _⟩,⟨by (with_reducible repeat (first|refine z8 ?_ _|refine zb ?_|refine z7 ?_ _));exact BK101.out⟩,⟨by repeat (first|(with_reducible first|exact HB.out|apply zg|apply z6|apply zc|refine zd ?_ GE101.out)|exact HB.out)⟩⟩
  rw [if_pos c14] at H
  have c14b0 : ((l2.length : Int) == (rd y102 a0)) = true:=beq_iff_eq.mpr c14
  have c14b1 : ((l2.length : Int) != (rd y102 a0)) = false:=bne_eq_false_iff_eq.mpr c14
  clear c14
  replace H:=Option.bind_eq_some_iff.mp H
  obtain ⟨t106,A150,H⟩:=H
  replace H : ((zn.f k a0 t106).bind fun t109=>(z5.j0 k a0 l2 (!t109) l1_0 l1_1 l1_2)) = some r:=H
  have A15:=z4.mk A150
  clear A150
  replace H:=Option.bind_eq_some_iff.mp H
  obtain ⟨t109,A160,H⟩:=H
  replace H : (z5.j0 k a0 l2 (!t109) l1_0 l1_1 l1_2) = some r:=H
  have A16:=z4.mk A160
  clear A160
  have H':=z4.mk H
  clear H
  have hcz17_0 : w5.cell? ⟨gb101,0,none⟩ = some (.slice A1_0 l1_0.length c1_0):=(zf BK101.out 0).trans rfl
  have hcz17_1 : w5.cell? ⟨gb101,1,none⟩ = some (.slice A1_1 l1_1.length c1_1):=(zf BK101.out 1).trans rfl
  have hcz17_2 : w5.cell? ⟨gb101,2,none⟩ = some (.slice A1_2 l1_2.length c1_2):=(zf BK101.out 2).trans rfl
  have hfz17_0:=za BK101.out 0
  have hfz17_1:=za BK101.out 1
  have hfz17_2:=za BK101.out 2
  go_wp2_with (first|((with_reducible refine zr (N:=39) rfl ?_);(try (refine zZ zz88 ?_;dsimp only));refine Kd.z2b (Kd.int .i64) _ 3 ?hg (N:=39) ?hd (xs:=([1,2,4] : List Int)) (inner:=[.int .i64 1,.int .i64 2,.int .i64 4]) (ok:=fun _=>True) (okp:=fun _=>True) ?hr ?hp (fun _ hk=>hk) trivial (Below.refl _ _) (Nat.le_refl _) zz87 ?_;(case hd=>rfl);(case hg=>rfl);(case hr=>first|(go_simp;done)|(go_simp;rfl));(case hp=>exact (Reps.one (show Kd.M (Kd.int .i64) _ _ _ 1 [.int .i64 1] from rfl) (Reps.one (show Kd.M (Kd.int .i64) _ _ _ 2 [.int .i64 2] from rfl) (Reps.one (show Kd.M (Kd.int .i64) _ _ _ 4 [.int .i64 4] from rfl) (Reps.none _ _)))));intro v103 w18 ho19 hb hg_ hnew_;clear hg_ hnew_;(first|rw [← Ny102.out] at ho19|(simp only [Int.reduceToNat] at ho19;rw [← Ny102.out] at ho19));have n0_:=z4.mk (Kd.z1e ho19 (ze zz40));have n1_:=z4.mk (zh (g:=gb101) (o:=.cells #[.slice A1_0 l1_0.length c1_0,.slice A1_1 l1_1.length c1_1,.slice A1_2 l1_2.length c1_2] 25 (0,0)) zz46 hb);have n2_:=z4.mk (z9 zz40 hb);clear BK101;clear HB;have HO104:=n0_;have BK101:=n1_;have HB:=n2_;clear n0_ n1_ n2_;clear hb ho19;obtain ⟨Ao20,co20,eo20⟩:=Kd.z1j HO104.out;subst eo20;have p105 : 0 ≤ (a0 : Int):=of_decide_eq_true zz80;have q105 : a0 < (y102.length : Int):=of_decide_eq_true zz80;obtain ⟨ad105,e105,hx105_0⟩:=Kd.z5g (Kd.zv HO104.out).2.2 a0 p105 q105;cases e105;replace p105:=eq_true p105;replace q105:=eq_true q105)|(go_at_call 14;(with_reducible refine (zu.calls k _ _ l2 t106 _ ?side1 ?side2 A15.out).mono ?_);(case side1=>repeat (first|exact (Kd.z1s HR2.out HB.out)|(with_reducible refine Kd.zQ ?_ _)|(with_reducible refine Kd.zR ?_ _)|(with_reducible refine Kd.z1c ?_)));(case side2=>exact HC2.out);rintro e w21 ⟨v107,rfl,ho0,hb⟩;have n0_:=z4.mk (Kd.zx zz57 hb);have n1_:=z4.mk (Kd.z1e ho0 (ze zz40));have n2_:=z4.mk (zh (g:=gb101) (o:=.cells #[.slice A1_0 l1_0.length c1_0,.slice A1_1 l1_1.length c1_1,.slice A1_2 l1_2.length c1_2] 25 (0,0)) zz46 hb);have n3_:=z4.mk (z9 zz40 hb);clear HO104;clear BK101;clear HB;have HO104:=n0_;have HO108:=n1_;have BK101:=n2_;have HB:=n3_;clear n0_ n1_ n2_ n3_;(try clear hb);(try clear hb2);(try clear hk);(try clear hi);(try clear ho0);obtain ⟨Ao22,co22,eo22⟩:=Kd.z1j HO108.out;subst eo22)|(go_at_call 13;(with_reducible refine (zn.calls k a0 _ _ t106 t109 _ ?side1 ?side2 A16.out).mono ?_);(case side1=>repeat (first|exact (Kd.zv HO108.out).2.2|(with_reducible refine Kd.zQ ?_ _)|(with_reducible refine Kd.zR ?_ _)|(with_reducible refine Kd.z1c ?_)));(case side2=>exact (Kd.zv HO108.out).2.1);rintro e w23 ⟨rfl,hb⟩;have n0_:=z4.mk (Kd.zx zz57 hb);have n1_:=z4.mk (Kd.zx (by (with_reducible repeat (first|apply Kd.zH|apply Kd.zI|apply Kd.zS));exact HO108.out) hb);have n2_:=z4.mk (zh (g:=gb101) (o:=.cells #[.slice A1_0 l1_0.length c1_0,.slice A1_1 l1_1.length c1_1,.slice A1_2 l1_2.length c1_2] 25 (0,0)) zz46 hb);have n3_:=z4.mk (z9 zz40 hb);clear HO104;clear HO108;clear BK101;clear HB;have HO104:=n0_;have HO108:=n1_;have BK101:=n2_;have HB:=n3_;clear n0_ n1_ n2_ n3_;(try clear hb);(try clear hb2);(try clear hk);(try clear hi)))
  go_meet
  case rel=>exact ⟨_,(!t109),zz81,H',⟨by first|omega|exact Nat.le_refl _⟩,⟨by (with_reducible repeat (first|refine z8 ?_ _|refine zb ?_|refine z7 ?_ _));exact BK101.out⟩,⟨by repeat (first|(with_reducible first|exact HB.out|apply zg|apply z6|apply zc|refine zd ?_ GE101.out)|exact HB.out)⟩⟩
 case rest =>
  clear HC4
  (try clear c1);(try clear p1);(try clear q1);(try clear hx1);(try clear c2);(try clear p2);(try clear c3);(try clear c6);(try clear c6b0);(try clear c7);(try clear c7b0);(try clear c8);(try clear c8b0);(try clear c8b1);(try clear c10);(try clear c10b0);(try clear c10b1);(try clear p10);(try clear q10);(try clear hx10);(try clear c12);(try clear c12b0);(try clear c13);(try clear c13b0);(try clear c14);(try clear c14b0);(try clear c14b1);(try clear hcz11_0);(try clear hcz11_1);(try clear hcz11_2);(try clear hcz17_0);(try clear hcz17_1);(try clear hcz17_2);(try clear hcz24_0);(try clear hcz24_1);(try clear hcz24_2);(try clear hcz9_0);(try clear hcz9_1);(try clear hcz9_2);(try clear hfz11_0);(try clear hfz11_1);(try clear hfz11_2);(try clear hfz17_0);(try clear hfz17_1);(try clear hfz17_2);(try clear hfz24_0);(try clear hfz24_1);(try clear hfz24_2);(try clear hfz9_0);(try clear hfz9_1);(try clear hfz9_2);(try clear hx105_0);(try clear p105);(try clear q105)
  obtain ⟨kq,x51_3,rfl,HA,HJ3,BK101,HB⟩:=hcut
  cases kq with
  | zero=>exact absurd HA.out (by simp [z5.j0])
  | succ kj3 =>
   have H:=HA.out
   clear HA
   simp only [z5.j0] at H
   by_cases c28 : x51_3 = true
   · subst c28
     have H1 : ((zE.f kj3).bind fun t110=>(some t110)) = some r:=by rw [if_pos rfl] at H;exact H
     clear H
     have H:=H1
     clear H1
     replace H:=Option.bind_eq_some_iff.mp H
     obtain ⟨t110,A290,H⟩:=H
     replace H : (some t110) = some r:=H
     have A29:=z4.mk A290
     clear A290
     obtain rfl:=Option.some.inj H
     go_wp2_with (first|((with_reducible refine zl (f:=15) rfl ?_);refine goesL_ (some 52) rfl rfl Try.func15 zz84 rfl #[] rfl zz44 ?_;(with_reducible refine (zE.calls kj3  t110 _ A29.out).mono ?_);rintro e w30 ⟨rfl,hb⟩;refine ⟨_,rfl,?_⟩;have n0_:=z4.mk (zh (g:=gb101) (o:=.cells #[.slice A1_0 l1_0.length c1_0,.slice A1_1 l1_1.length c1_1,.slice A1_2 l1_2.length c1_2] 25 (0,0)) zz46 hb);have n1_:=z4.mk (z9 zz40 hb);clear BK101;clear HB;have BK101:=n0_;have HB:=n1_;clear n0_ n1_;(try clear hb);(try clear hb2);(try clear hk);(try clear hi)))
     go_ret
     exact ⟨by first|rfl|(simp [zi,zj] <;> rfl)|(simp [*,zi,zj] <;> rfl),by repeat (first|(with_reducible first|exact HB.out|apply zg|apply z6|apply zc|refine zd ?_ GE101.out)|exact HB.out)⟩
   replace c28:=Bool.eq_false_iff.mpr c28
   subst c28
   have H1 : ((zq.f kj3 a0 l1_0 l1_2).bind fun bt111=>(if bt111.2 = 0 then ((zu.f kj3 l2).bind fun t115=>((zt.f kj3 bt111.1 t115).bind fun t118=>(z5.j1 kj3 a0 l2 bt111.1 t118))) else (z5.j1 kj3 a0 l2 bt111.1 true))) = some r:=by rw [if_neg (show ¬ (false = true) by decide)] at H;exact H
   clear H
   have H:=H1
   clear H1
   replace H:=Option.bind_eq_some_iff.mp H
   obtain ⟨⟨t111,t112⟩,A310,H⟩:=H
   replace H : (if t112 = 0 then ((zu.f kj3 l2).bind fun t115=>((zt.f kj3 t111 t115).bind fun t118=>(z5.j1 kj3 a0 l2 t111 t118))) else (z5.j1 kj3 a0 l2 t111 true)) = some r:=H
   have A31:=z4.mk A310
   clear A310
   have HC32:=z4.mk H
   clear H
   have hcz33_0 : wc.cell? ⟨gb101,0,none⟩ = some (.slice A1_0 l1_0.length c1_0):=(zf BK101.out 0).trans rfl
   have hcz33_1 : wc.cell? ⟨gb101,1,none⟩ = some (.slice A1_1 l1_1.length c1_1):=(zf BK101.out 1).trans rfl
   have hcz33_2 : wc.cell? ⟨gb101,2,none⟩ = some (.slice A1_2 l1_2.length c1_2):=(zf BK101.out 2).trans rfl
   have hfz33_0:=za BK101.out 0
   have hfz33_1:=za BK101.out 1
   have hfz33_2:=za BK101.out 2
   go_upto_region 4 with (first|((with_reducible refine zl (f:=16) rfl ?_);refine goesL_ (some 59) rfl rfl Try.func16 zz84 rfl #[.int .i64 a0,.slice A1_0 l1_0.length c1_0,.slice A1_2 l1_2.length c1_2] rfl zz44 ?_;(with_reducible refine (zq.calls kj3 a0 _ _ l1_0 _ _ l1_2 t111 t112 _ ?side1 ?side2 ?side3 ?side4 A31.out).mono ?_);(case side1=>repeat (first|exact (Kd.z1s HR1_0.out HB.out)|(with_reducible refine Kd.zQ ?_ _)|(with_reducible refine Kd.zR ?_ _)|(with_reducible refine Kd.z1c ?_)));(case side2=>exact HC1_0.out);(case side3=>repeat (first|exact (Kd.z1s HR1_2.out HB.out)|(with_reducible refine Kd.zQ ?_ _)|(with_reducible refine Kd.zR ?_ _)|(with_reducible refine Kd.z1c ?_)));(case side4=>exact HC1_2.out);rintro e w34 ⟨v113,rfl,ho0,hb⟩;refine ⟨_,rfl,?_⟩;have n0_:=z4.mk (Kd.z1e ho0 (ze zz40));have n1_:=z4.mk (zh (g:=gb101) (o:=.cells #[.slice A1_0 l1_0.length c1_0,.slice A1_1 l1_1.length c1_1,.slice A1_2 l1_2.length c1_2] 25 (0,0)) zz46 hb);have n2_:=z4.mk (z9 zz40 hb);clear BK101;clear HB;have HO114:=n0_;have BK101:=n1_;have HB:=n2_;clear n0_ n1_ n2_;(try clear hb);(try clear hb2);(try clear hk);(try clear hi);(try clear ho0)))
   (try simp only [Act.put,List.setIfInBounds_toArray,List.set_cons_zero,List.set_cons_succ])
   go_cut [69] (fun v69 wc=>∃ (kq : Nat) (x69_31 : Bool),v69 = .bool x69_31 ∧ z4 (z5.j1 kq a0 l2 t111 x69_31 = some r) ∧ z4 (kq ≤ kj3) ∧ z4 (Kd.R k37 37 wc w.heap.size (fun _=>True) v113 t111) ∧ z4 (wc.heap[gb101]? = some (.cells #[(.slice A1_0 l1_0.length c1_0),(.slice A1_1 l1_1.length c1_1),(.slice A1_2 l1_2.length c1_2)] 25 (0,0))) ∧ z4 (Below w.heap.size w wc))
   case first =>
    have H:=HC32.out
    clear HC32
    by_cases c35 : t112 = 0
    rotate_left
    · rw [if_neg c35] at H
      have c35b0 : (t112 == 0) = false:=beq_eq_false_iff_ne.mpr c35
      have c35b1 : (t112 != 0) = true:=bne_iff_ne.mpr c35
      (first|rw [c35b0]|(simp only [zY,z16];rw [c35b0])|skip)
      have H':=z4.mk H
      clear H
      go_wp2
      go_meet
      case rel=>exact ⟨_,(true),zz81,H',⟨by have:=HJ3.out;first|omega|exact Nat.le_refl _⟩,⟨by (with_reducible repeat (first|apply Kd.zH|apply Kd.zI|apply Kd.zS));exact HO114.out⟩,⟨by (with_reducible repeat (first|refine z8 ?_ _|refine zb ?_|refine z7 ?_ _));exact BK101.out⟩,⟨by repeat (first|(with_reducible first|exact HB.out|apply zg|apply z6|apply zc|refine zd ?_ GE101.out)|exact HB.out)⟩⟩
    rw [if_pos c35] at H
    have c35b0 : (t112 == 0) = true:=beq_iff_eq.mpr c35
    have c35b1 : (t112 != 0) = false:=bne_eq_false_iff_eq.mpr c35
    clear c35
    (first|rw [c35b0]|(simp only [zY,z16];rw [c35b0])|skip)
    replace H:=Option.bind_eq_some_iff.mp H
    obtain ⟨t115,A360,H⟩:=H
    replace H : ((zt.f kj3 t111 t115).bind fun t118=>(z5.j1 kj3 a0 l2 t111 t118)) = some r:=H
    have A36:=z4.mk A360
    clear A360
    replace H:=Option.bind_eq_some_iff.mp H
    obtain ⟨t118,A370,H⟩:=H
    replace H : (z5.j1 kj3 a0 l2 t111 t118) = some r:=H
    have A37:=z4.mk A370
    clear A370
    have H':=z4.mk H
    clear H
    go_wp2_with (first|(go_at_call 14;(with_reducible refine (zu.calls kj3 _ _ l2 t115 _ ?side1 ?side2 A36.out).mono ?_);(case side1=>repeat (first|exact (Kd.z1s HR2.out HB.out)|(with_reducible refine Kd.zQ ?_ _)|(with_reducible refine Kd.zR ?_ _)|(with_reducible refine Kd.z1c ?_)));(case side2=>exact HC2.out);rintro e w38 ⟨v116,rfl,ho0,hb⟩;have n0_:=z4.mk (Kd.zx (by (with_reducible repeat (first|apply Kd.zH|apply Kd.zI|apply Kd.zS));exact HO114.out) hb);have n1_:=z4.mk (Kd.z1e ho0 (ze zz40));have n2_:=z4.mk (zh (g:=gb101) (o:=.cells #[.slice A1_0 l1_0.length c1_0,.slice A1_1 l1_1.length c1_1,.slice A1_2 l1_2.length c1_2] 25 (0,0)) zz46 hb);have n3_:=z4.mk (z9 zz40 hb);clear HO114;clear BK101;clear HB;have HO114:=n0_;have HO117:=n1_;have BK101:=n2_;have HB:=n3_;clear n0_ n1_ n2_ n3_;(try clear hb);(try clear hb2);(try clear hk);(try clear hi);(try clear ho0);obtain ⟨Ao39,co39,eo39⟩:=Kd.z1j HO114.out;subst eo39;obtain ⟨Ao40,co40,eo40⟩:=Kd.z1j HO117.out;subst eo40)|(go_at_call 17;(with_reducible refine (zt.calls kj3 _ _ t111 _ _ t115 t118 _ ?side1 ?side2 ?side3 ?side4 A37.out).mono ?_);(case side1=>repeat (first|exact (Kd.zv HO114.out).2.2|(with_reducible refine Kd.zQ ?_ _)|(with_reducible refine Kd.zR ?_ _)|(with_reducible refine Kd.z1c ?_)));(case side2=>exact (Kd.zv HO114.out).2.1);(case side3=>repeat (first|exact (Kd.zv HO117.out).2.2|(with_reducible refine Kd.zQ ?_ _)|(with_reducible refine Kd.zR ?_ _)|(with_reducible refine Kd.z1c ?_)));(case side4=>exact (Kd.zv HO117.out).2.1);rintro e w' ⟨rfl,⟨nd,rfl⟩⟩))
    go_meet
    case rel=>exact ⟨_,(t118),zz81,H',⟨by have:=HJ3.out;first|omega|exact Nat.le_refl _⟩,⟨by (with_reducible repeat (first|apply Kd.zH|apply Kd.zI|apply Kd.zS));exact HO114.out⟩,⟨by (with_reducible repeat (first|refine z8 ?_ _|refine zb ?_|refine z7 ?_ _));exact BK101.out⟩,⟨by repeat (first|(with_reducible first|exact HB.out|apply zg|apply z6|apply zc|refine zd ?_ GE101.out)|exact HB.out)⟩⟩
   case rest =>
    clear HC32
    (try clear c1);(try clear p1);(try clear q1);(try clear hx1);(try clear c2);(try clear p2);(try clear c3);(try clear c6);(try clear c6b0);(try clear c7);(try clear c7b0);(try clear c8);(try clear c8b0);(try clear c8b1);(try clear c10);(try clear c10b0);(try clear c10b1);(try clear p10);(try clear q10);(try clear hx10);(try clear c12);(try clear c12b0);(try clear c13);(try clear c13b0);(try clear c14);(try clear c14b0);(try clear c14b1);(try clear c15);(try clear c16);(try clear c28);(try clear c35);(try clear c35b0);(try clear c35b1);(try clear hcz11_0);(try clear hcz11_1);(try clear hcz11_2);(try clear hcz17_0);(try clear hcz17_1);(try clear hcz17_2);(try clear hcz24_0);(try clear hcz24_1);(try clear hcz24_2);(try clear hcz33_0);(try clear hcz33_1);(try clear hcz33_2);(try clear hcz9_0);(try clear hcz9_1);(try clear hcz9_2);(try clear hfz11_0);(try clear hfz11_1);(try clear hfz11_2);(try clear hfz17_0);(try clear hfz17_1);(try clear hfz17_2);(try clear hfz24_0);(try clear hfz24_1);(try clear hfz24_2);(try clear hfz33_0);(try clear hfz33_1);(try clear hfz33_2);(try clear hfz9_0);(try clear hfz9_1);(try clear hfz9_2);(try clear hx105_0);(try clear p1);(try clear p10);(try clear p105);(try clear p2);(try clear q1);(try clear q10);(try clear q105)
    obtain ⟨kq,x69_31,rfl,HA,HJ31,HO_7,BK101,HB⟩:=hcut
    cases kq with
    | zero=>exact absurd HA.out (by simp [z5.j1])
    | succ kj31 =>
     have H:=HA.out
     clear HA
     simp only [z5.j1] at H
     by_cases c41 : x69_31 = true
     · subst c41
       have H1 : ((zE.f kj31).bind fun t119=>(some t119)) = some r:=by rw [if_pos rfl] at H;exact H
       clear H
       have H:=H1
       clear H1
       replace H:=Option.bind_eq_some_iff.mp H
       obtain ⟨t119,A420,H⟩:=H
       replace H : (some t119) = some r:=H
       have A42:=z4.mk A420
       clear A420
       obtain rfl:=Option.some.inj H
       go_wp2_with (first|((with_reducible refine zl (f:=15) rfl ?_);refine goesL_ (some 70) rfl rfl Try.func15 zz84 rfl #[] rfl zz44 ?_;(with_reducible refine (zE.calls kj31  t119 _ A42.out).mono ?_);rintro e w43 ⟨rfl,hb⟩;refine ⟨_,rfl,?_⟩;have n0_:=z4.mk (Kd.zx zz69 hb);have n1_:=z4.mk (zh (g:=gb101) (o:=.cells #[.slice A1_0 l1_0.length c1_0,.slice A1_1 l1_1.length c1_1,.slice A1_2 l1_2.length c1_2] 25 (0,0)) zz46 hb);have n2_:=z4.mk (z9 zz40 hb);clear HO_7;clear BK101;clear HB;have HO_7:=n0_;have BK101:=n1_;have HB:=n2_;clear n0_ n1_ n2_;(try clear hb);(try clear hb2);(try clear hk);(try clear hi)))
       go_ret
       exact ⟨by first|rfl|(simp [zi,zj] <;> rfl)|(simp [*,zi,zj] <;> rfl),by repeat (first|(with_reducible first|exact HB.out|apply zg|apply z6|apply zc|refine zd ?_ GE101.out)|exact HB.out)⟩
     replace c41:=Bool.eq_false_iff.mpr c41
     subst c41
     have H1 : ((some (([2,4,16] : List Int) : List Int)).bind fun y120=>(if 0 ≤ a0 then (if a0 < (y120.length : Int) then (if a0 = 2 then (z5.j2 kj31 a0 l2 t111 (rd y120 a0) (wrap64 ((rd y120 a0) * (rd y120 a0)))) else (z5.j2 kj31 a0 l2 t111 (rd y120 a0) (rd y120 a0))) else (none)) else (none))) = some r:=by rw [if_neg (show ¬ (false = true) by decide)] at H;exact H
     clear H
     have H:=H1
     clear H1
     obtain ⟨y120,hy120⟩ : ∃ y_ : List Int,y_ = (([2,4,16] : List Int)):=⟨_,rfl⟩
     replace H : (if 0 ≤ a0 then (if a0 < (y120.length : Int) then (if a0 = 2 then (z5.j2 kj31 a0 l2 t111 (rd y120 a0) (wrap64 ((rd y120 a0) * (rd y120 a0)))) else (z5.j2 kj31 a0 l2 t111 (rd y120 a0) (rd y120 a0))) else (none)) else (none)) = some r:=by first|(rw [hy120];with_reducible exact H)|(have H2_:=(Option.bind_some _ _).symm.trans H;rw [hy120];with_reducible exact H2_)|(have H2_:=(Option.bind_some _ _).symm.trans H;with_reducible exact H2_)|with_reducible exact H|(rw [hy120];exact H)|exact H
     have Ny120:=z4.mk hy120
     clear hy120
     by_cases c44 : 0 ≤ a0
     rotate_left
     · rw [if_neg c44] at H
       exact absurd H zz87
     rw [if_pos c44] at H
     have c44b0 : decide (0 ≤ a0) = true:=decide_eq_true c44
     clear c44
     by_cases c45 : a0 < (y120.length : Int)
     rotate_left
     · rw [if_neg c45] at H
       exact absurd H zz87
     rw [if_pos c45] at H
     have c45b0 : decide (a0 < (y120.length : Int)) = true:=decide_eq_true c45
     clear c45
     have HC46:=z4.mk H
     clear H
     go_upto_if 77 with (first|((with_reducible refine zr (N:=71) rfl ?_);(try (refine zZ zz88 ?_;dsimp only));refine Kd.z2b (Kd.int .i64) _ 3 ?hg (N:=71) ?hd (xs:=([2,4,16] : List Int)) (inner:=[.int .i64 2,.int .i64 4,.int .i64 16]) (ok:=fun _=>True) (okp:=fun _=>True) ?hr ?hp (fun _ hk=>hk) trivial (Below.refl _ _) (Nat.le_refl _) zz87 ?_;(case hd=>rfl);(case hg=>rfl);(case hr=>first|(go_simp;done)|(go_simp;rfl));(case hp=>exact (Reps.one (show Kd.M (Kd.int .i64) _ _ _ 2 [.int .i64 2] from rfl) (Reps.one (show Kd.M (Kd.int .i64) _ _ _ 4 [.int .i64 4] from rfl) (Reps.one (show Kd.M (Kd.int .i64) _ _ _ 16 [.int .i64 16] from rfl) (Reps.none _ _)))));intro v121 w47 ho48 hb hg_ hnew_;clear hg_ hnew_;(first|rw [← Ny120.out] at ho48|(simp only [Int.reduceToNat] at ho48;rw [← Ny120.out] at ho48));have n0_:=z4.mk (Kd.zx zz69 hb);have n1_:=z4.mk (Kd.z1e ho48 (ze zz40));have n2_:=z4.mk (zh (g:=gb101) (o:=.cells #[.slice A1_0 l1_0.length c1_0,.slice A1_1 l1_1.length c1_1,.slice A1_2 l1_2.length c1_2] 25 (0,0)) zz46 hb);have n3_:=z4.mk (z9 zz40 hb);clear HO_7;clear BK101;clear HB;have HO_7:=n0_;have HO122:=n1_;have BK101:=n2_;have HB:=n3_;clear n0_ n1_ n2_ n3_;clear hb ho48;obtain ⟨Ao49,co49,eo49⟩:=Kd.z1j HO122.out;subst eo49;have p123 : 0 ≤ (a0 : Int):=of_decide_eq_true zz80;have q123 : a0 < (y120.length : Int):=of_decide_eq_true zz80;obtain ⟨ad123,e123,hx123_0⟩:=Kd.z5g (Kd.zv HO122.out).2.2 a0 p123 q123;cases e123;replace p123:=eq_true p123;replace q123:=eq_true q123))
     (try simp only [Act.put,List.setIfInBounds_toArray,List.set_cons_zero,List.set_cons_succ])
     go_cut [10] (fun v10 wc=>∃ (kq : Nat) (x10_45 : Int),v10 = .int .i64 x10_45 ∧ z4 (z5.j2 kq a0 l2 t111 (rd y120 a0) x10_45 = some r) ∧ z4 (kq ≤ kj31) ∧ z4 (Kd.R k37 37 wc w.heap.size (fun _=>True) v113 t111) ∧ z4 (wc.heap[gb101]? = some (.cells #[(.slice A1_0 l1_0.length c1_0),(.slice A1_1 l1_1.length c1_1),(.slice A1_2 l1_2.length c1_2)] 25 (0,0))) ∧ z4 (Below w.heap.size w wc))
     case first =>
      have H:=HC46.out
      clear HC46
      by_cases c50 : a0 = 2
      rotate_left
      · rw [if_neg c50] at H
        have c50b0 : (a0 == 2) = false:=beq_eq_false_iff_ne.mpr c50
        have c50b1 : (a0 != 2) = true:=bne_iff_ne.mpr c50
        (first|rw [c50b0]|(simp only [zY,z16];rw [c50b0])|skip)
        have H':=z4.mk H
        clear H
        go_wp2
        go_meet
        case rel=>exact ⟨_,(rd y120 a0),zz81,H',⟨by have:=HJ3.out;have:=HJ31.out;first|omega|exact Nat.le_refl _⟩,⟨by (with_reducible repeat (first|apply Kd.zH|apply Kd.zI|apply Kd.zS));exact HO_7.out⟩,⟨by (with_reducible repeat (first|refine z8 ?_ _|refine zb ?_|refine z7 ?_ _));exact BK101.out⟩,⟨by repeat (first|(with_reducible first|exact HB.out|apply zg|apply z6|apply zc|refine zd ?_ GE101.out)|exact HB.out)⟩⟩
      rw [if_pos c50] at H
      have c50b0 : (a0 == 2) = true:=beq_iff_eq.mpr c50
      have c50b1 : (a0 != 2) = false:=bne_eq_false_iff_eq.mpr c50
      clear c50
      (first|rw [c50b0]|(simp only [zY,z16];rw [c50b0])|skip)
      have H':=z4.mk H
      clear H
      go_wp2
      go_meet
      case rel=>exact ⟨_,(wrap64 ((rd y120 a0) * (rd y120 a0))),zz81,H',⟨by have:=HJ3.out;have:=HJ31.out;first|omega|exact Nat.le_refl _⟩,⟨by (with_reducible repeat (first|apply Kd.zH|apply Kd.zI|apply Kd.zS));exact HO_7.out⟩,⟨by (with_reducible repeat (first|refine z8 ?_ _|refine zb ?_|refine z7 ?_ _));exact BK101.out⟩,⟨by repeat (first|(with_reducible first|exact HB.out|apply zg|apply z6|apply zc|refine zd ?_ GE101.out)|exact HB.out)⟩⟩
     case rest =>
      clear HC46
      (try clear c1);(try clear p1);(try clear q1);(try clear hx1);(try clear c2);(try clear p2);(try clear c3);(try clear c4);(try clear c5);(try clear c6);(try clear c6b0);(try clear p6);(try clear c7);(try clear c7b0);(try clear c8);(try clear c8b0);(try clear c8b1);(try clear c10);(try clear c10b0);(try clear c10b1);(try clear p10);(try clear q10);(try clear hx10);(try clear c12);(try clear c12b0);(try clear p12);(try clear q12);(try clear hx12);(try clear c13);(try clear c13b0);(try clear c14);(try clear c14b0);(try clear c14b1);(try clear c15);(try clear c16);(try clear c28);(try clear c35);(try clear c35b0);(try clear c35b1);(try clear c41);(try clear c44);(try clear c44b0);(try clear c45);(try clear c45b0);(try clear c50);(try clear c50b0);(try clear c50b1);(try clear hcz11_0);(try clear hcz11_1);(try clear hcz11_2);(try clear hcz17_0);(try clear hcz17_1);(try clear hcz17_2);(try clear hcz24_0);(try clear hcz24_1);(try clear hcz24_2);(try clear hcz33_0);(try clear hcz33_1);(try clear hcz33_2);(try clear hcz9_0);(try clear hcz9_1);(try clear hcz9_2);(try clear hfz11_0);(try clear hfz11_1);(try clear hfz11_2);(try clear hfz17_0);(try clear hfz17_1);(try clear hfz17_2);(try clear hfz24_0);(try clear hfz24_1);(try clear hfz24_2);(try clear hfz33_0);(try clear hfz33_1);(try clear hfz33_2);(try clear hfz9_0);(try clear hfz9_1);(try clear hfz9_2);(try clear hx105_0);(try clear hx123_0);(try clear p1);(try clear p10);(try clear p105);(try clear p123);(try clear p2);(try clear q1);(try clear q10);(try clear q105);(try clear q123)
      obtain ⟨kq,x10_45,rfl,HA,HJ45,HO_7,BK101,HB⟩:=hcut
      cases kq with
      | zero=>exact absurd HA.out (by simp [z5.j2])
      | succ kj45 =>
       have H:=HA.out
       clear HA
       simp only [z5.j2] at H
       have H':=z4.mk H
       clear H
       go_wp2
       go_loopg [11,12] kj45 (fun kq v11 v12 w'=>∃ (x11_4 : Int) (x12_4 : Int),v11 = .int .i64 x11_4 ∧ v12 = .int .i64 x12_4 ∧ z4 (z5.l0 kq a0 l2 t111 (rd y120 a0) x10_45 x11_4 x12_4 = some r) ∧ z4 (kq ≤ kj45) ∧ z4 (Kd.R k37 37 w' w.heap.size (fun _=>True) v113 t111) ∧ z4 (w'.heap[gb101]? = some (.cells #[(.slice A1_0 l1_0.length c1_0),(.slice A1_1 l1_1.length c1_1),(.slice A1_2 l1_2.length c1_2)] 25 (0,0))) ∧ z4 (Below w.heap.size w w'))
       case atStart=>exact ⟨(0),(0),zz81,zz81,H',⟨Nat.le_refl _⟩,⟨by (with_reducible repeat (first|apply Kd.zH|apply Kd.zI|apply Kd.zS));exact HO_7.out⟩,⟨by (with_reducible repeat (first|refine z8 ?_ _|refine zb ?_|refine z7 ?_ _));exact BK101.out⟩,⟨by repeat (first|(with_reducible first|exact HB.out|apply zg|apply z6|apply zc|refine zd ?_ GE101.out)|exact HB.out)⟩⟩
       case round =>
        clear H'
        (try clear c1);(try clear p1);(try clear q1);(try clear hx1);(try clear c2);(try clear p2);(try clear c3);(try clear c4);(try clear c5);(try clear c6);(try clear c6b0);(try clear p6);(try clear c7);(try clear c7b0);(try clear c8);(try clear c8b0);(try clear c8b1);(try clear c10);(try clear c10b0);(try clear c10b1);(try clear p10);(try clear q10);(try clear hx10);(try clear c12);(try clear c12b0);(try clear p12);(try clear q12);(try clear hx12);(try clear c13);(try clear c13b0);(try clear c14);(try clear c14b0);(try clear c14b1);(try clear c15);(try clear c16);(try clear c28);(try clear c35);(try clear c35b0);(try clear c35b1);(try clear c41);(try clear c44);(try clear c44b0);(try clear c45);(try clear c45b0);(try clear c50);(try clear c50b0);(try clear c50b1);(try clear hcz11_0);(try clear hcz11_1);(try clear hcz11_2);(try clear hcz17_0);(try clear hcz17_1);(try clear hcz17_2);(try clear hcz24_0);(try clear hcz24_1);(try clear hcz24_2);(try clear hcz33_0);(try clear hcz33_1);(try clear hcz33_2);(try clear hcz9_0);(try clear hcz9_1);(try clear hcz9_2);(try clear hfz11_0);(try clear hfz11_1);(try clear hfz11_2);(try clear hfz17_0);(try clear hfz17_1);(try clear hfz17_2);(try clear hfz24_0);(try clear hfz24_1);(try clear hfz24_2);(try clear hfz33_0);(try clear hfz33_1);(try clear hfz33_2);(try clear hfz9_0);(try clear hfz9_1);(try clear hfz9_2);(try clear hx105_0);(try clear hx123_0);(try clear p1);(try clear p10);(try clear p105);(try clear p12);(try clear p123);(try clear p2);(try clear p6);(try clear q1);(try clear q10);(try clear q105);(try clear q12);(try clear q123)
        obtain ⟨x11_4,x12_4,rfl,rfl,HA,HK4,HO_7,BK101,HB⟩:=hrel
        cases gk with
        | zero=>exact absurd HA.out (by simp [z5.l0])
        | succ k4 =>
         have H:=HA.out
         clear HA
         simp only [z5.l0] at H
         by_cases c51 : x12_4 < x10_45
         rotate_left
         · rw [if_neg c51] at H
           have c51b0 : decide (x12_4 < x10_45) = false:=decide_eq_false c51
           clear c51
           replace H:=Option.bind_eq_some_iff.mp H
           obtain ⟨t124,A860,H⟩:=H
           replace H : (if t124 = true then (if (rd y120 a0) = 0 then (none) else (some (decide (x11_4 ≤ (wrap64 (a0 * (wrap64 (Int.tdiv x10_45 (rd y120 a0))))))))) else (some false)) = some r:=H
           have A86:=z4.mk A860
           clear A860
           by_cases c87 : t124 = true
           rotate_left
           · replace c87:=Bool.eq_false_iff.mpr c87
             subst c87
             have H1 : (some false) = some r:=by rw [if_neg (show ¬ (false = true) by decide)] at H;exact H
             clear H
             have H:=H1
             clear H1
             obtain rfl:=Option.some.inj H
             go_wp2_with (first|((with_reducible refine zl (f:=15) rfl ?_);refine goesL_ (some 127) rfl rfl Try.func15 zz84 rfl #[] rfl zz44 ?_;(with_reducible refine (zE.calls k4  false _ A86.out).mono ?_);rintro e w90 ⟨rfl,hb⟩;refine ⟨_,rfl,?_⟩;have n0_:=z4.mk (Kd.zx zz69 hb);have n1_:=z4.mk (zh (g:=gb101) (o:=.cells #[.slice A1_0 l1_0.length c1_0,.slice A1_1 l1_1.length c1_1,.slice A1_2 l1_2.length c1_2] 25 (0,0)) zz46 hb);have n2_:=z4.mk (z9 zz40 hb);clear HO_7;clear BK101;clear HB;have HO_7:=n0_;have BK101:=n1_;have HB:=n2_;clear n0_ n1_ n2_;(try clear hb);(try clear hb2);(try clear hk);(try clear hi)))
             go_ret
             exact ⟨by first|rfl|(simp [zi,zj] <;> rfl)|(simp [*,zi,zj] <;> rfl),by repeat (first|(with_reducible first|exact HB.out|apply zg|apply z6|apply zc|refine zd ?_ GE101.out)|exact HB.out)⟩
           subst c87
           have H1 : (if (rd y120 a0) = 0 then (none) else (some (decide (x11_4 ≤ (wrap64 (a0 * (wrap64 (Int.tdiv x10_45 (rd y120 a0))))))))) = some r:=by rw [if_pos rfl] at H;exact H
           clear H
           have H:=H1
           clear H1
           by_cases c88 : (rd y120 a0) = 0
           · rw [if_pos c88] at H
             exact absurd H zz87
           rw [if_neg c88] at H
           have c88b0 : ((rd y120 a0) == 0) = false:=beq_eq_false_iff_ne.mpr c88
           have c88b1 : ((rd y120 a0) != 0) = true:=bne_iff_ne.mpr c88
           obtain rfl:=Option.some.inj H
           go_wp2_with (first|((with_reducible refine zl (f:=15) rfl ?_);refine goesL_ (some 127) rfl rfl Try.func15 zz84 rfl #[] rfl zz44 ?_;(with_reducible refine (zE.calls k4  true _ A86.out).mono ?_);rintro e w89 ⟨rfl,hb⟩;refine ⟨_,rfl,?_⟩;have n0_:=z4.mk (Kd.zx zz69 hb);have n1_:=z4.mk (zh (g:=gb101) (o:=.cells #[.slice A1_0 l1_0.length c1_0,.slice A1_1 l1_1.length c1_1,.slice A1_2 l1_2.length c1_2] 25 (0,0)) zz46 hb);have n2_:=z4.mk (z9 zz40 hb);clear HO_7;clear BK101;clear HB;have HO_7:=n0_;have BK101:=n1_;have HB:=n2_;clear n0_ n1_ n2_;(try clear hb);(try clear hb2);(try clear hk);(try clear hi)))
           go_ret
           exact ⟨by first|rfl|(simp [zi,zj] <;> rfl)|(simp [*,zi,zj] <;> rfl),by repeat (first|(with_reducible first|exact HB.out|apply zg|apply z6|apply zc|refine zd ?_ GE101.out)|exact HB.out)⟩
         rw [if_pos c51] at H
         have c51b0 : decide (x12_4 < x10_45) = true:=decide_eq_true c51
         clear c51
         by_cases c52 : (rd y120 a0) = 0
         · rw [if_pos c52] at H
           exact absurd H zz87
         rw [if_neg c52] at H
         have c52b0 : ((rd y120 a0) == 0) = false:=beq_eq_false_iff_ne.mpr c52
         have c52b1 : ((rd y120 a0) != 0) = true:=bne_iff_ne.mpr c52
         obtain ⟨y125,hy125⟩ : ∃ y_ : List (S37),y_ = (([(⟨0,IntKind.u64.wrap (Int.tmod x12_4 (rd y120 a0))⟩ : S37)] : List (S37))):=⟨_,rfl⟩
         replace H : (if a0 = 2 then (if y125.length < 8796093022208 then (z5.j4 k4 a0 l2 t111 (rd y120 a0) x10_45 x11_4 x12_4 (y125 ++ [(⟨0,IntKind.u64.wrap (wrap64 (Int.tdiv x12_4 (rd y120 a0)))⟩ : S37)])) else (none)) else (z5.j4 k4 a0 l2 t111 (rd y120 a0) x10_45 x11_4 x12_4 y125)) = some r:=by first|(rw [hy125];with_reducible exact H)|(have H2_:=(Option.bind_some _ _).symm.trans H;rw [hy125];with_reducible exact H2_)|(have H2_:=(Option.bind_some _ _).symm.trans H;with_reducible exact H2_)|with_reducible exact H|(rw [hy125];exact H)|exact H
         have Ny125:=z4.mk hy125
         clear hy125
         have HC53:=z4.mk H
         clear H
         go_upto_if 93 with (first|((with_reducible refine zr (N:=91) rfl ?_);(try (refine zZ zz88 ?_;dsimp only));refine Kd.z2b k37 _ 37 ?hg (N:=91) ?hd (xs:=([(⟨0,IntKind.u64.wrap (Int.tmod x12_4 (rd y120 a0))⟩ : S37)] : List (S37))) (inner:=[.int .u64 0,.int .u64 (IntKind.u64.wrap (Int.tmod x12_4 (rd y120 a0)))]) (ok:=fun _=>True) (okp:=fun _=>True) ?hr ?hp (fun _ hk=>hk) trivial (Below.refl _ _) (Nat.le_refl _) zz87 ?_;(case hd=>rfl);(case hg=>rfl);(case hr=>first|(go_simp;done)|(go_simp;rfl));(case hp=>exact (Reps.c2 (show Kd.M k37 _ _ _ (⟨0,IntKind.u64.wrap (Int.tmod x12_4 (rd y120 a0))⟩ : S37) [.int .u64 0,.int .u64 (IntKind.u64.wrap (Int.tmod x12_4 (rd y120 a0)))] from (z1K _ _ _ (⟨0,IntKind.u64.wrap (Int.tmod x12_4 (rd y120 a0))⟩ : S37) )) (Reps.none _ _)));intro v126 w54 ho55 hb hg_ hnew_;clear hg_ hnew_;(first|rw [← Ny125.out] at ho55|(simp only [Int.reduceToNat] at ho55;rw [← Ny125.out] at ho55));have n0_:=z4.mk (Kd.z1d zz69 (Kd.z1y ho55) hb);have n1_:=z4.mk (Kd.z1e (Kd.z1z ho55 (Kd.R_lt zz69)) (ze zz40));have n2_:=z4.mk (zh (g:=gb101) (o:=.cells #[.slice A1_0 l1_0.length c1_0,.slice A1_1 l1_1.length c1_1,.slice A1_2 l1_2.length c1_2] 25 (0,0)) zz46 hb);have n3_:=z4.mk (z9 zz40 hb);clear HO_7;clear BK101;clear HB;have HO_7:=n0_;have HO127:=n1_;have BK101:=n2_;have HB:=n3_;clear n0_ n1_ n2_ n3_;clear hb ho55))
         (try simp only [Act.put,List.setIfInBounds_toArray,List.set_cons_zero,List.set_cons_succ])
         go_cut [13] (fun v13 wc=>∃ (kq : Nat) (x13_52 : List (S37)),z4 (z5.j4 kq a0 l2 t111 (rd y120 a0) x10_45 x11_4 x12_4 x13_52 = some r) ∧ z4 (kq ≤ k4) ∧ z4 (Kd.R k37 37 wc w.heap.size (fun k_=>some k_ ≠ (v13 : Value).ownBlock) v113 t111) ∧ z4 (Kd.R k37 37 wc w.heap.size (fun k_=>some k_ ≠ (v113 : Value).ownBlock) v13 x13_52) ∧ z4 (wc.heap[gb101]? = some (.cells #[(.slice A1_0 l1_0.length c1_0),(.slice A1_1 l1_1.length c1_1),(.slice A1_2 l1_2.length c1_2)] 25 (0,0))) ∧ z4 (Below w.heap.size w wc))
         case first =>
          have H:=HC53.out
          clear HC53
          by_cases c56 : a0 = 2
          rotate_left
          · rw [if_neg c56] at H
            have c56b0 : (a0 == 2) = false:=beq_eq_false_iff_ne.mpr c56
            have c56b1 : (a0 != 2) = true:=bne_iff_ne.mpr c56
            (first|rw [c56b0]|(simp only [zY,z16];rw [c56b0])|skip)
            have H':=z4.mk H
            clear H
            go_wp2
            go_meet
            case rel=>exact ⟨_,(y125),H',⟨by have:=HJ3.out;have:=HJ31.out;have:=HJ45.out;have:=HK4.out;first|omega|exact Nat.le_refl _⟩,⟨by (with_reducible repeat (first|apply Kd.zH|apply Kd.zI|apply Kd.zS));exact Kd.z12 HO_7.out (fun _ hk=>hk.2)⟩,⟨by (with_reducible repeat (first|apply Kd.zH|apply Kd.zI|apply Kd.zS));exact Kd.z12 HO127.out (fun _ hk=>hk.2)⟩,⟨by (with_reducible repeat (first|refine z8 ?_ _|refine zb ?_|refine z7 ?_ _));exact BK101.out⟩,⟨by repeat (first|(with_reducible first|exact HB.out|apply zg|apply z6|apply zc|refine zd ?_ GE101.out)|exact HB.out)⟩⟩
          rw [if_pos c56] at H
          have c56b0 : (a0 == 2) = true:=beq_iff_eq.mpr c56
          have c56b1 : (a0 != 2) = false:=bne_eq_false_iff_eq.mpr c56
          clear c56
          (first|rw [c56b0]|(simp only [zY,z16];rw [c56b0])|skip)
          by_cases c57 : y125.length < 8796093022208
          rotate_left
          · rw [if_neg c57] at H
            exact absurd H zz87
          rw [if_pos c57] at H
          have LMc57:=z4.mk c57
          clear c57
          obtain ⟨y128,hy128⟩ : ∃ y_ : List (S37),y_ = (y125 ++ [(⟨0,IntKind.u64.wrap (wrap64 (Int.tdiv x12_4 (rd y120 a0)))⟩ : S37)]):=⟨_,rfl⟩
          replace H : (z5.j4 k4 a0 l2 t111 (rd y120 a0) x10_45 x11_4 x12_4 y128) = some r:=by first|(rw [hy128];with_reducible exact H)|(have H2_:=(Option.bind_some _ _).symm.trans H;rw [hy128];with_reducible exact H2_)|(have H2_:=(Option.bind_some _ _).symm.trans H;with_reducible exact H2_)|with_reducible exact H|(rw [hy128];exact H)|exact H
          have Ny128:=z4.mk hy128
          clear hy128
          have H':=z4.mk H
          clear H
          go_wp2_with (first|((with_reducible refine z2q (b:=.append) (xs:=#[.tmp 94,.tmp 100]) rfl ?_);(try (refine zZ zz88 ?_;dsimp only));at_builtin;refine Kd.z3R k37 (w0:=w) w.heap.size rfl (.tmp 94) (.tmp 100) 23 37 (.agg #[(.int .u64 0),(.int .u64 0)]) 16 rfl Try.underlying23 info37 rfl zz85 zz86 v126 y125 (⟨0,IntKind.u64.wrap (wrap64 (Int.tdiv x12_4 (rd y120 a0)))⟩ : S37) [.int .u64 0,.int .u64 (IntKind.u64.wrap (wrap64 (Int.tdiv x12_4 (rd y120 a0))))] (fun k_=>some k_ ≠ (v113 : Value).ownBlock) (fun _=>False) rfl rfl ?aP (fun _ hk=>hk.elim) ?aF ?aO ?aB ?aS ?aL ?_;(case aP=>exact z1K _ _ _ (⟨0,IntKind.u64.wrap (wrap64 (Int.tdiv x12_4 (rd y120 a0)))⟩ : S37));(case aB=>exact zz40);(case aF=>exact (fun k_ hk=>Kd.fresh' (Kd.R_lt zz69) k_ hk));(case aO=>exact (by (with_reducible repeat (first|apply Kd.zH|apply Kd.zI|apply Kd.zS));exact Kd.z12 HO127.out (fun _ hk=>hk.2)));(case aS=>exact (ze zz40));(case aL=>have:=LMc57.out;omega);intro v129 w58 ho hb hg hat;rw [← Ny128.out] at ho;have n0_:=z4.mk (Kd.z42 (ok:=(fun _=>True)) zz69 hg hat);have n1_:=z4.mk (z2h (g:=gb101) (o:=.cells #[.slice A1_0 l1_0.length c1_0,.slice A1_1 l1_1.length c1_1,.slice A1_2 l1_2.length c1_2] 25 (0,0)) zz46 hg (Kd.R_ne HO127.out BK101.out zz85));have n2_:=z4.mk (hb);have n3_:=z4.mk (ho);clear HO_7;clear BK101;clear HB;clear HO127;have HO_7:=n0_;have BK101:=n1_;have HB:=n2_;have HO130:=n3_;clear n0_ n1_ n2_ n3_;clear ho hb hg hat))
          go_meet
          case rel=>exact ⟨_,(y128),H',⟨by have:=HJ3.out;have:=HJ31.out;have:=HJ45.out;have:=HK4.out;first|omega|exact Nat.le_refl _⟩,⟨by (with_reducible repeat (first|apply Kd.zH|apply Kd.zI|apply Kd.zS));exact Kd.z12 HO_7.out (fun _ hk=>hk.2)⟩,⟨by (with_reducible repeat (first|apply Kd.zH|apply Kd.zI|apply Kd.zS));exact HO130.out⟩,⟨by (with_reducible repeat (first|refine z8 ?_ _|refine zb ?_|refine z7 ?_ _));exact BK101.out⟩,⟨by repeat (first|(with_reducible first|exact HB.out|apply zg|apply z6|apply zc|refine zd ?_ GE101.out)|exact HB.out)⟩⟩
         case rest =>
          clear HC53
          (try clear c1);(try clear p1);(try clear q1);(try clear hx1);(try clear c2);(try clear p2);(try clear c3);(try clear c4);(try clear c5);(try clear c6);(try clear c6b0);(try clear p6);(try clear c7);(try clear c7b0);(try clear c8);(try clear c8b0);(try clear c8b1);(try clear c10);(try clear c10b0);(try clear c10b1);(try clear p10);(try clear q10);(try clear hx10);(try clear c12);(try clear c12b0);(try clear p12);(try clear q12);(try clear hx12);(try clear c13);(try clear c13b0);(try clear c14);(try clear c14b0);(try clear c14b1);(try clear c15);(try clear c16);(try clear c28);(try clear c35);(try clear c35b0);(try clear c35b1);(try clear c41);(try clear c44);(try clear c44b0);(try clear c45);(try clear c45b0);(try clear c50);(try clear c50b0);(try clear c50b1);(try clear c51);(try clear c51b0);(try clear c52);(try clear c52b0);(try clear c52b1);(try clear c56);(try clear c56b0);(try clear c56b1);(try clear c57);(try clear hcz11_0);(try clear hcz11_1);(try clear hcz11_2);(try clear hcz17_0);(try clear hcz17_1);(try clear hcz17_2);(try clear hcz24_0);(try clear hcz24_1);(try clear hcz24_2);(try clear hcz33_0);(try clear hcz33_1);(try clear hcz33_2);(try clear hcz9_0);(try clear hcz9_1);(try clear hcz9_2);(try clear hfz11_0);(try clear hfz11_1);(try clear hfz11_2);(try clear hfz17_0);(try clear hfz17_1);(try clear hfz17_2);(try clear hfz24_0);(try clear hfz24_1);(try clear hfz24_2);(try clear hfz33_0);(try clear hfz33_1);(try clear hfz33_2);(try clear hfz9_0);(try clear hfz9_1);(try clear hfz9_2);(try clear hx105_0);(try clear hx123_0);(try clear p1);(try clear p10);(try clear p105);(try clear p12);(try clear p123);(try clear p2);(try clear p6);(try clear q1);(try clear q10);(try clear q105);(try clear q12);(try clear q123)
          obtain ⟨kq,x13_52,HA,HJ52,HO_7,HO_13,BK101,HB⟩:=hcut
          cases kq with
          | zero=>exact absurd HA.out (by simp [z5.j4])
          | succ kj52 =>
           have H:=HA.out
           clear HA
           simp only [z5.j4] at H
           replace H:=Option.bind_eq_some_iff.mp H
           obtain ⟨⟨t131,t132,t133⟩,A590,H⟩:=H
           replace H : ((z1q.f kj52 a0 l2 x13_52).bind fun bt135=>(if t133 = 0 then (z5.j5 kj52 a0 l2 t111 (rd y120 a0) x10_45 x11_4 x12_4 (bt135.2.2 != 0) t131 t132 bt135.1 bt135.2.1) else (z5.j5 kj52 a0 l2 t111 (rd y120 a0) x10_45 x11_4 x12_4 true t131 t132 bt135.1 bt135.2.1))) = some r:=H
           have A59:=z4.mk A590
           clear A590
           replace H:=Option.bind_eq_some_iff.mp H
           obtain ⟨⟨t135,t136,t137⟩,A600,H⟩:=H
           replace H : (if t133 = 0 then (z5.j5 kj52 a0 l2 t111 (rd y120 a0) x10_45 x11_4 x12_4 (t137 != 0) t131 t132 t135 t136) else (z5.j5 kj52 a0 l2 t111 (rd y120 a0) x10_45 x11_4 x12_4 true t131 t132 t135 t136)) = some r:=H
           have A60:=z4.mk A600
           clear A600
           have HC61:=z4.mk H
           clear H
           obtain ⟨Ao62,co62,eo62⟩:=Kd.z1j HO_7.out
           subst eo62
           obtain ⟨Ao63,co63,eo63⟩:=Kd.z1j HO_13.out
           subst eo63
           go_upto_region 19 with (first|((with_reducible refine zl (f:=18) rfl ?_);refine goesL_ (some 106) rfl rfl Try.func18 zz84 rfl #[.int .i64 a0,.slice Ao62 t111.length co62,.slice Ao63 x13_52.length co63] rfl zz44 ?_;(with_reducible refine (z1q.calls kj52 a0 _ _ t111 _ _ x13_52 t131 t132 t133 _ ?side1 ?side2 ?side3 ?side4 A59.out).mono ?_);(case side1=>repeat (first|exact (Kd.zv HO_7.out).2.2|(with_reducible refine Kd.zQ ?_ _)|(with_reducible refine Kd.zR ?_ _)|(with_reducible refine Kd.z1c ?_)));(case side2=>exact (Kd.zv HO_7.out).2.1);(case side3=>repeat (first|exact (Kd.zv HO_13.out).2.2|(with_reducible refine Kd.zQ ?_ _)|(with_reducible refine Kd.zR ?_ _)|(with_reducible refine Kd.z1c ?_)));(case side4=>exact (Kd.zv HO_13.out).2.1);rintro e w64 ⟨rfl,hb⟩;refine ⟨_,rfl,?_⟩;have n0_:=z4.mk (Kd.zx zz69 hb);have n1_:=z4.mk (Kd.zx zz63 hb);have n2_:=z4.mk (zh (g:=gb101) (o:=.cells #[.slice A1_0 l1_0.length c1_0,.slice A1_1 l1_1.length c1_1,.slice A1_2 l1_2.length c1_2] 25 (0,0)) zz46 hb);have n3_:=z4.mk (z9 zz40 hb);clear HO_7;clear HO_13;clear BK101;clear HB;have HO_7:=n0_;have HO_13:=n1_;have BK101:=n2_;have HB:=n3_;clear n0_ n1_ n2_ n3_;(try clear hb);(try clear hb2);(try clear hk);(try clear hi))|((with_reducible refine zr (N:=14) rfl ?_);(try (refine zZ zz88 ?_;dsimp only));refine zy ?hg (N:=14) ?hd (cs:=#[.int .u64 0,.int .u64 0]) (t:=37) ?hr ?_;(case hd=>rfl);(case hg=>rfl);(case hr=>first|(go_simp;done)|(go_simp;rfl));intro gb134 hg w65 hbox hb;have n0_:=z4.mk (Kd.zx (Kd.z1r zz69 gb134 (Nat.le_of_eq hg.symm)) hb);have n1_:=z4.mk (Kd.zx (Kd.z1r zz63 gb134 (Nat.le_of_eq hg.symm)) hb);have n2_:=z4.mk (zh (g:=gb101) (o:=.cells #[.slice A1_0 l1_0.length c1_0,.slice A1_1 l1_1.length c1_1,.slice A1_2 l1_2.length c1_2] 25 (0,0)) zz46 hb);have n3_:=z4.mk (z9 zz40 hb);have n4_:=z4.mk (hbox);have n5_:=z4.mk ((by rw [hg];exact (ze zz40) : w.heap.size ≤ gb134));have n6_:=z4.mk ((by rw [hg];exact (ze zz40) : w.heap.size ≤ gb134));have n7_:=z4.mk ((by rw [hg];exact Nat.ne_of_lt (zO (g:=gb101) (o:=.cells #[.slice A1_0 l1_0.length c1_0,.slice A1_1 l1_1.length c1_1,.slice A1_2 l1_2.length c1_2] 25 (0,0)) zz46) : gb101 ≠ gb134));have n8_:=z4.mk ((by rw [hg];exact Nat.ne_of_gt (zO (g:=gb101) (o:=.cells #[.slice A1_0 l1_0.length c1_0,.slice A1_1 l1_1.length c1_1,.slice A1_2 l1_2.length c1_2] 25 (0,0)) zz46) : gb134 ≠ gb101));clear HO_7;clear HO_13;clear BK101;clear HB;have HO_7:=n0_;have HO_13:=n1_;have BK101:=n2_;have HB:=n3_;have BK134:=n4_;have GW134:=n5_;have GE134:=n6_;have NB101_134:=n7_;have NB134_101:=n8_;clear n0_ n1_ n2_ n3_ n4_ n5_ n6_ n7_ n8_;clear hb hbox hg;have hnb66:=NB134_101.out;have hnc66:=NB101_134.out;have hcz67_0 : w65.cell? ⟨gb134,0,none⟩ = some (.int .u64 0):=(zf BK134.out 0).trans rfl;have hcz67_1 : w65.cell? ⟨gb134,1,none⟩ = some (.int .u64 0):=(zf BK134.out 1).trans rfl;have hfz67_0:=za BK134.out 0;have hfz67_1:=za BK134.out 1)|((with_reducible refine zl (f:=18) rfl ?_);refine goesL_ (some 113) rfl rfl Try.func18 zz84 rfl #[.int .i64 a0,.slice A2 l2.length c2,.slice Ao63 x13_52.length co63] rfl zz44 ?_;(with_reducible refine (z1q.calls kj52 a0 _ _ l2 _ _ x13_52 t135 t136 t137 _ ?side1 ?side2 ?side3 ?side4 A60.out).mono ?_);(case side1=>exact Kd.z1s HR2.out zz36);(case side2=>exact HC2.out);(case side3=>refine (Kd.zv (e:=37) (base:=w.heap.size) (ok:=fun k_=>(some k_ ≠ (.slice Ao62 t111.length co62 : Value).ownBlock ∧ k_ ≠ gb134)) (n:=x13_52.length) (c:=co63) ?_).2.2;exact zz20);(case side4=>exact (Kd.zv HO_13.out).2.1);rintro e w68 ⟨rfl,hb⟩;refine ⟨_,rfl,?_⟩;have n0_:=z4.mk (Kd.zx (by (with_reducible repeat (first|apply Kd.zH|apply Kd.zI|apply Kd.zS));exact (Kd.z12 (Kd.z1O (p:=⟨gb134,1,none⟩) (Kd.z1O (p:=⟨gb134,0,none⟩) (Kd.z12 HO_7.out (fun k_ hk=>(⟨hk,hk.2⟩ : _ ∧ k_ ≠ gb134))) (fun _ hk=>hk.2) (.int .u64 t131)) (fun _ hk=>hk.2) (.int .u64 t132)) (fun _ h_=>h_.1))) hb);have n1_:=z4.mk (Kd.zx zz20 hb);have n2_:=z4.mk (zh (g:=gb101) (o:=.cells #[.slice A1_0 l1_0.length c1_0,.slice A1_1 l1_1.length c1_1,.slice A1_2 l1_2.length c1_2] 25 (0,0)) (by (with_reducible repeat (first|refine z8 ?_ _|refine zb ?_|refine z7 ?_ _));refine zW ?_ NB101_134.out _;(with_reducible repeat (first|refine z8 ?_ _|refine zb ?_|refine z7 ?_ _));refine zW ?_ NB101_134.out _;(with_reducible repeat (first|refine z8 ?_ _|refine zb ?_|refine z7 ?_ _));exact BK101.out) hb);have n3_:=z4.mk (zh (g:=gb134) (o:=.cells #[.int .u64 t131,.int .u64 t132] 37 (0,0)) (by (with_reducible repeat (first|refine z8 ?_ _|refine zb ?_|refine z7 ?_ _));refine zX (cs:=#[.int .u64 t131,.int .u64 0]) ?_ 1 _ rfl;(with_reducible repeat (first|refine z8 ?_ _|refine zb ?_|refine z7 ?_ _));refine zX (cs:=#[.int .u64 0,.int .u64 0]) ?_ 0 _ rfl;(with_reducible repeat (first|refine z8 ?_ _|refine zb ?_|refine z7 ?_ _));exact BK134.out) hb);have n4_:=z4.mk (z9 zz36 hb);clear HO_7;clear HO_13;clear BK101;clear BK134;clear HB;have HO_7:=n0_;have HO_13:=n1_;have BK101:=n2_;have BK134:=n3_;have HB:=n4_;clear n0_ n1_ n2_ n3_ n4_;(try clear hb);(try clear hb2);(try clear hk);(try clear hi))|((with_reducible refine zr (N:=16) rfl ?_);(try (refine zZ zz88 ?_;dsimp only));refine zy ?hg (N:=16) ?hd (cs:=#[.int .u64 0,.int .u64 0]) (t:=37) ?hr ?_;(case hd=>rfl);(case hg=>rfl);(case hr=>first|(go_simp;done)|(go_simp;rfl));intro gb138 hg w69 hbox hb;have n0_:=z4.mk (Kd.zx (Kd.z1r zz69 gb138 (Nat.le_of_eq hg.symm)) hb);have n1_:=z4.mk (Kd.zx (Kd.z1r zz63 gb138 (Nat.le_of_eq hg.symm)) hb);have n2_:=z4.mk (zh (g:=gb101) (o:=.cells #[.slice A1_0 l1_0.length c1_0,.slice A1_1 l1_1.length c1_1,.slice A1_2 l1_2.length c1_2] 25 (0,0)) zz46 hb);have n3_:=z4.mk (zh (g:=gb134) (o:=.cells #[.int .u64 t131,.int .u64 t132] 37 (0,0)) zz52 hb);have n4_:=z4.mk (z9 zz36 hb);have n5_:=z4.mk (hbox);have n6_:=z4.mk ((by rw [hg];exact (ze zz36) : w.heap.size ≤ gb138));have n7_:=z4.mk ((by rw [hg];exact (ze zz36) : w.heap.size ≤ gb138));have n8_:=z4.mk ((by rw [hg];exact Nat.ne_of_lt (zO (g:=gb101) (o:=.cells #[.slice A1_0 l1_0.length c1_0,.slice A1_1 l1_1.length c1_1,.slice A1_2 l1_2.length c1_2] 25 (0,0)) zz46) : gb101 ≠ gb138));have n9_:=z4.mk ((by rw [hg];exact Nat.ne_of_gt (zO (g:=gb101) (o:=.cells #[.slice A1_0 l1_0.length c1_0,.slice A1_1 l1_1.length c1_1,.slice A1_2 l1_2.length c1_2] 25 (0,0)) zz46) : gb138 ≠ gb101));have n10_:=z4.mk ((by rw [hg];exact Nat.ne_of_lt (zO (g:=gb134) (o:=.cells #[.int .u64 t131,.int .u64 t132] 37 (0,0)) zz52) : gb134 ≠ gb138));have n11_:=z4.mk ((by rw [hg];exact Nat.ne_of_gt (zO (g:=gb134) (o:=.cells #[.int .u64 t131,.int .u64 t132] 37 (0,0)) zz52) : gb138 ≠ gb134));clear HO_7;clear HO_13;clear BK101;clear BK134;clear HB;have HO_7:=n0_;have HO_13:=n1_;have BK101:=n2_;have BK134:=n3_;have HB:=n4_;have BK138:=n5_;have GW138:=n6_;have GE138:=n7_;have NB101_138:=n8_;have NB138_101:=n9_;have NB134_138:=n10_;have NB138_134:=n11_;clear n0_ n1_ n2_ n3_ n4_ n5_ n6_ n7_ n8_ n9_ n10_ n11_;clear hb hbox hg;have hnb70:=NB138_101.out;have hnc70:=NB101_138.out;have hnb71:=NB138_134.out;have hnc71:=NB134_138.out;have hcz72_0 : w69.cell? ⟨gb138,0,none⟩ = some (.int .u64 0):=(zf BK138.out 0).trans rfl;have hcz72_1 : w69.cell? ⟨gb138,1,none⟩ = some (.int .u64 0):=(zf BK138.out 1).trans rfl;have hfz72_0:=za BK138.out 0;have hfz72_1:=za BK138.out 1))
           (try simp only [Act.put,List.setIfInBounds_toArray,List.set_cons_zero,List.set_cons_succ])
           go_cut [121] (fun v121 wc=>∃ (kq : Nat) (x121_60 : Bool),v121 = .bool x121_60 ∧ z4 (z5.j5 kq a0 l2 t111 (rd y120 a0) x10_45 x11_4 x12_4 x121_60 t131 t132 t135 t136 = some r) ∧ z4 (kq ≤ kj52) ∧ z4 (Kd.R k37 37 wc w.heap.size (fun k_=>k_ ≠ gb134 ∧ k_ ≠ gb138) (.slice Ao62 t111.length co62) t111) ∧ z4 (wc.heap[gb101]? = some (.cells #[(.slice A1_0 l1_0.length c1_0),(.slice A1_1 l1_1.length c1_1),(.slice A1_2 l1_2.length c1_2)] 25 (0,0))) ∧ z4 (wc.heap[gb134]? = some (.cells #[.int .u64 t131,.int .u64 t132] 37 (0,0))) ∧ z4 (wc.heap[gb138]? = some (.cells #[.int .u64 t135,.int .u64 t136] 37 (0,0))) ∧ z4 (Below w.heap.size w wc))
           case first =>
            have H:=HC61.out
            clear HC61
            by_cases c73 : t133 = 0
            rotate_left
            · rw [if_neg c73] at H
              have c73b0 : (t133 == 0) = false:=beq_eq_false_iff_ne.mpr c73
              have c73b1 : (t133 != 0) = true:=bne_iff_ne.mpr c73
              (first|rw [c73b0]|(simp only [zY,z16];rw [c73b0])|skip)
              have H':=z4.mk H
              clear H
              go_wp2
              go_meet
              case rel=>exact ⟨_,(true),zz81,H',⟨by have:=HJ3.out;have:=HJ31.out;have:=HJ45.out;have:=HK4.out;have:=HJ52.out;first|omega|exact Nat.le_refl _⟩,⟨by (with_reducible repeat (first|apply Kd.zH|apply Kd.zI|apply Kd.zS));exact Kd.z12 (Kd.z1O (p:=⟨gb138,1,none⟩) (Kd.z1O (p:=⟨gb138,0,none⟩) (Kd.z12 HO_7.out (fun k_ hk=>(⟨hk,hk.2⟩ : _ ∧ k_ ≠ gb138))) (fun _ hk=>hk.2) (.int .u64 t135)) (fun _ hk=>hk.2) (.int .u64 t136)) (fun _ hk=>⟨hk.1.1.2,hk.1.2⟩)⟩,⟨by (with_reducible repeat (first|refine z8 ?_ _|refine zb ?_|refine z7 ?_ _));refine zW ?_ NB101_138.out _;(with_reducible repeat (first|refine z8 ?_ _|refine zb ?_|refine z7 ?_ _));refine zW ?_ NB101_138.out _;(with_reducible repeat (first|refine z8 ?_ _|refine zb ?_|refine z7 ?_ _));exact BK101.out⟩,⟨by (with_reducible repeat (first|refine z8 ?_ _|refine zb ?_|refine z7 ?_ _));refine zW ?_ NB134_138.out _;(with_reducible repeat (first|refine z8 ?_ _|refine zb ?_|refine z7 ?_ _));refine zW ?_ NB134_138.out _;(with_reducible repeat (first|refine z8 ?_ _|refine zb ?_|refine z7 ?_ _));exact BK134.out⟩,⟨by (with_reducible repeat (first|refine z8 ?_ _|refine zb ?_|refine z7 ?_ _));refine zX (cs:=#[.int .u64 t135,.int .u64 0]) ?_ 1 _ rfl;(with_reducible repeat (first|refine z8 ?_ _|refine zb ?_|refine z7 ?_ _));refine zX (cs:=#[.int .u64 0,.int .u64 0]) ?_ 0 _ rfl;(with_reducible repeat (first|refine z8 ?_ _|refine zb ?_|refine z7 ?_ _));exact BK138.out⟩,⟨by repeat (first|(with_reducible first|exact HB.out|apply zg|apply z6|apply zc|refine zd ?_ GE101.out|refine zd ?_ GE134.out|refine zd ?_ GE138.out)|exact HB.out)⟩⟩
            rw [if_pos c73] at H
            have c73b0 : (t133 == 0) = true:=beq_iff_eq.mpr c73
            have c73b1 : (t133 != 0) = false:=bne_eq_false_iff_eq.mpr c73
            clear c73
            (first|rw [c73b0]|(simp only [zY,z16];rw [c73b0])|skip)
            have H':=z4.mk H
            clear H
            go_wp2
            go_meet
            case rel=>exact ⟨_,((t137 != 0)),zz81,H',⟨by have:=HJ3.out;have:=HJ31.out;have:=HJ45.out;have:=HK4.out;have:=HJ52.out;first|omega|exact Nat.le_refl _⟩,⟨by (with_reducible repeat (first|apply Kd.zH|apply Kd.zI|apply Kd.zS));exact Kd.z12 (Kd.z1O (p:=⟨gb138,1,none⟩) (Kd.z1O (p:=⟨gb138,0,none⟩) (Kd.z12 HO_7.out (fun k_ hk=>(⟨hk,hk.2⟩ : _ ∧ k_ ≠ gb138))) (fun _ hk=>hk.2) (.int .u64 t135)) (fun _ hk=>hk.2) (.int .u64 t136)) (fun _ hk=>⟨hk.1.1.2,hk.1.2⟩)⟩,⟨by (with_reducible repeat (first|refine z8 ?_ _|refine zb ?_|refine z7 ?_ _));refine zW ?_ NB101_138.out _;(with_reducible repeat (first|refine z8 ?_ _|refine zb ?_|refine z7 ?_ _));refine zW ?_ NB101_138.out _;(with_reducible repeat (first|refine z8 ?_ _|refine zb ?_|refine z7 ?_ _));exact BK101.out⟩,⟨by (with_reducible repeat (first|refine z8 ?_ _|refine zb ?_|refine z7 ?_ _));refine zW ?_ NB134_138.out _;(with_reducible repeat (first|refine z8 ?_ _|refine zb ?_|refine z7 ?_ _));refine zW ?_ NB134_138.out _;(with_reducible repeat (first|refine z8 ?_ _|refine zb ?_|refine z7 ?_ _));exact BK134.out⟩,⟨by (with_reducible repeat (first|refine z8 ?_ _|refine zb ?_|refine z7 ?_ _));refine zX (cs:=#[.int .u64 t135,.int .u64 0]) ?_ 1 _ rfl;(with_reducible repeat (first|refine z8 ?_ _|refine zb ?_|refine z7 ?_ _));refine zX (cs:=#[.int .u64 0,.int .u64 0]) ?_ 0 _ rfl;(with_reducible repeat (first|refine z8 ?_ _|refine zb ?_|refine z7 ?_ _));exact BK138.out⟩,⟨by repeat (first|(with_reducible first|exact HB.out|apply zg|apply z6|apply zc|refine zd ?_ GE101.out|refine zd ?_ GE134.out|refine zd ?_ GE138.out)|exact HB.out)⟩⟩
           case rest =>
            clear HC61
            (try clear c1);(try clear p1);(try clear q1);(try clear hx1);(try clear c2);(try clear p2);(try clear c3);(try clear c4);(try clear c5);(try clear c6);(try clear c6b0);(try clear p6);(try clear c7);(try clear c7b0);(try clear c8);(try clear c8b0);(try clear c8b1);(try clear c10);(try clear c10b0);(try clear c10b1);(try clear p10);(try clear q10);(try clear hx10);(try clear c12);(try clear c12b0);(try clear p12);(try clear q12);(try clear hx12);(try clear c13);(try clear c13b0);(try clear c14);(try clear c14b0);(try clear c14b1);(try clear c15);(try clear c16);(try clear c18);(try clear c28);(try clear c35);(try clear c35b0);(try clear c35b1);(try clear c41);(try clear c44);(try clear c44b0);(try clear c45);(try clear c45b0);(try clear c50);(try clear c50b0);(try clear c50b1);(try clear c51);(try clear c51b0);(try clear c52);(try clear c52b0);(try clear c52b1);(try clear c56);(try clear c56b0);(try clear c56b1);(try clear c57);(try clear p64);(try clear c66);(try clear c70);(try clear c71);(try clear c73);(try clear c73b0);(try clear c73b1);(try clear hcz11_0);(try clear hcz11_1);(try clear hcz11_2);(try clear hcz17_0);(try clear hcz17_1);(try clear hcz17_2);(try clear hcz24_0);(try clear hcz24_1);(try clear hcz24_2);(try clear hcz33_0);(try clear hcz33_1);(try clear hcz33_2);(try clear hcz67_0);(try clear hcz67_1);(try clear hcz72_0);(try clear hcz72_1);(try clear hcz9_0);(try clear hcz9_1);(try clear hcz9_2);(try clear hfz11_0);(try clear hfz11_1);(try clear hfz11_2);(try clear hfz17_0);(try clear hfz17_1);(try clear hfz17_2);(try clear hfz24_0);(try clear hfz24_1);(try clear hfz24_2);(try clear hfz33_0);(try clear hfz33_1);(try clear hfz33_2);(try clear hfz67_0);(try clear hfz67_1);(try clear hfz72_0);(try clear hfz72_1);(try clear hfz9_0);(try clear hfz9_1);(try clear hfz9_2);(try clear hx105_0);(try clear hx123_0);(try clear p1);(try clear p10);(try clear p105);(try clear p12);(try clear p123);(try clear p2);(try clear p6);(try clear q1);(try clear q10);(try clear q105);(try clear q12);(try clear q123)
            obtain ⟨kq,x121_60,rfl,HA,HJ60,HO_7,BK101,BK134,BK138,HB⟩:=hcut
            cases kq with
            | zero=>exact absurd HA.out (by simp [z5.j5])
            | succ kj60 =>
             have H:=HA.out
             clear HA
             simp only [z5.j5] at H
             by_cases c74 : x121_60 = true
             · subst c74
               have H1 : (some false) = some r:=by rw [if_pos rfl] at H;exact H
               clear H
               have H:=H1
               clear H1
               obtain rfl:=Option.some.inj H
               go_wp2
               go_ret
               exact ⟨by first|rfl|(simp [zi,zj] <;> rfl)|(simp [*,zi,zj] <;> rfl),by repeat (first|(with_reducible first|exact HB.out|apply zg|apply z6|apply zc|refine zd ?_ GE101.out|refine zd ?_ GE134.out|refine zd ?_ GE138.out)|exact HB.out)⟩
             replace c74:=Bool.eq_false_iff.mpr c74
             subst c74
             have H1 : (if (t131 == t135 && (t132 == t136)) = true then (z5.l0 kj60 a0 l2 t111 (rd y120 a0) x10_45 (wrap64 (x11_4 + 1)) (wrap64 (x12_4 + 1))) else (z5.l0 kj60 a0 l2 t111 (rd y120 a0) x10_45 x11_4 (wrap64 (x12_4 + 1)))) = some r:=by rw [if_neg (show ¬ (false = true) by decide)] at H;exact H
             clear H
             have H:=H1
             clear H1
             by_cases c75 : (t131 == t135 && (t132 == t136)) = true
             · rw [if_pos c75] at H
               have c75b0 : (t131 == t135 && (t132 == t136)) = true:=c75
               (try (have c75b1 : decide (t131 = t135 && (t132 == t136)) = true:=by simpa using c75))
               (try (have c75b2 : (t131 == t135 && (t132 == t136)) = true:=by simpa using c75))
               clear c75
               have H':=z4.mk H
               clear H
               have hnb76:=NB134_101.out
               have hnc76:=NB101_134.out
               have hnb77:=NB134_138.out
               have hnc77:=NB138_134.out
               have hcz78_0 : wc.cell? ⟨gb134,0,none⟩ = some (.int .u64 t131):=(zf BK134.out 0).trans rfl
               have hcz78_1 : wc.cell? ⟨gb134,1,none⟩ = some (.int .u64 t132):=(zf BK134.out 1).trans rfl
               have hfz78_0:=za BK134.out 0
               have hfz78_1:=za BK134.out 1
               have hnb79:=NB138_101.out
               have hnc79:=NB101_138.out
               have hcz80_0 : wc.cell? ⟨gb138,0,none⟩ = some (.int .u64 t135):=(zf BK138.out 0).trans rfl
               have hcz80_1 : wc.cell? ⟨gb138,1,none⟩ = some (.int .u64 t136):=(zf BK138.out 1).trans rfl
               have hfz80_0:=za BK138.out 0
               have hfz80_1:=za BK138.out 1
               go_wp2
               go_roundg kj60
               case measure=>have:=HJ3.out;have:=HJ31.out;have:=HJ45.out;have:=HK4.out;have:=HJ52.out;have:=HJ60.out;omega
               case rel=>exact ⟨(wrap64 (x11_4 + 1)),(wrap64 (x12_4 + 1)),zz81,zz81,H',⟨by have:=HJ3.out;have:=HJ31.out;have:=HJ45.out;have:=HK4.out;have:=HJ52.out;have:=HJ60.out;omega⟩,⟨by (with_reducible repeat (first|apply Kd.zH|apply Kd.zI|apply Kd.zS));exact Kd.z12 HO_7.out (fun _ hk=>trivial)⟩,⟨by (with_reducible repeat (first|refine z8 ?_ _|refine zb ?_|refine z7 ?_ _));exact BK101.out⟩,⟨by repeat (first|(with_reducible first|exact HB.out|apply zg|apply z6|apply zc|refine zd ?_ GE101.out|refine zd ?_ GE134.out|refine zd ?_ GE138.out)|exact HB.out)⟩⟩
             rw [if_neg c75] at H
             have c75b0 : (t131 == t135 && (t132 == t136)) = false:=by simpa using c75
             (try (have c75b1 : decide (t131 = t135 && (t132 == t136)) = false:=by simpa using c75))
             (try (have c75b2 : (t131 == t135 && (t132 == t136)) = false:=by simpa using c75))
             (try (have c75b3 : ¬ (t131 = t135 && (t132 == t136)):=by simpa using c75))
             clear c75
             have H':=z4.mk H
             clear H
             have hnb81:=NB134_101.out
             have hnc81:=NB101_134.out
             have hnb82:=NB134_138.out
             have hnc82:=NB138_134.out
             have hcz83_0 : wc.cell? ⟨gb134,0,none⟩ = some (.int .u64 t131):=(zf BK134.out 0).trans rfl
             have hcz83_1 : wc.cell? ⟨gb134,1,none⟩ = some (.int .u64 t132):=(zf BK134.out 1).trans rfl
             have hfz83_0:=za BK134.out 0
             have hfz83_1:=za BK134.out 1
             have hnb84:=NB138_101.out
             have hnc84:=NB101_138.out
             have hcz85_0 : wc.cell? ⟨gb138,0,none⟩ = some (.int .u64 t135):=(zf BK138.out 0).trans rfl
             have hcz85_1 : wc.cell? ⟨gb138,1,none⟩ = some (.int .u64 t136):=(zf BK138.out 1).trans rfl
             have hfz85_0:=za BK138.out 0
             have hfz85_1:=za BK138.out 1
             go_wp2
             go_roundg kj60
             case measure=>have:=HJ3.out;have:=HJ31.out;have:=HJ45.out;have:=HK4.out;have:=HJ52.out;have:=HJ60.out;omega
             case rel=>exact ⟨(x11_4),(wrap64 (x12_4 + 1)),zz81,zz81,H',⟨by have:=HJ3.out;have:=HJ31.out;have:=HJ45.out;have:=HK4.out;have:=HJ52.out;have:=HJ60.out;omega⟩,⟨by (with_reducible repeat (first|apply Kd.zH|apply Kd.zI|apply Kd.zS));exact Kd.z12 HO_7.out (fun _ hk=>trivial)⟩,⟨by (with_reducible repeat (first|refine z8 ?_ _|refine zb ?_|refine z7 ?_ _));exact BK101.out⟩,⟨by repeat (first|(with_reducible first|exact HB.out|apply zg|apply z6|apply zc|refine zd ?_ GE101.out|refine zd ?_ GE134.out|refine zd ?_ GE138.out)|exact HB.out)⟩⟩
end Go.Proofs.Ytklkmflhnljbdaa.P
/- What the arguments of a law read as: for each type that can be told, any reading of it is one of a value of its kind, with its numbers in their ranges. Own text. -/
namespace Go.Proofs.Ytklkmflhnljbdaa.Reads
open Go.ChangeShapes Go.WideShapes Go.ChangeAt Go.RowKit Go.Deep Go.Proofs.YtklkmflhnljbdaaW.PrintWords
set_option linter.unusedVariables false

/-- Whatever is read at type t is of kind d, and good. -/
def ReadsAs {α : Type} (P : Program) (t : TypeId) (d : Kd α) (good : α → Prop) : Prop :=
  ∀ {H : Type} (enc : TypeId × Value → H) (w : World) (base : Nat) (spare : Nat → Bool) (held : Bool) (fuel : Nat) (cs : List Value) (x : DataW H × List MemPlace), DataW.trod enc P w base spare held fuel t cs = some x → ∃ a, d.K w a cs ∧ good a

theorem z7n {P : Program} {t : TypeId} {k : IntKind} (ht : P.underlying t = some (.int k)) : ReadsAs P t (Kd.int k) (fun n => (Lit.int k n).wf = true) := by
  intro H enc w base spare held fuel cs x h
  obtain ⟨n, rfl, _, hw⟩ := DataW.trod_int ht h
  exact ⟨n, rfl, hw⟩
theorem op_bool {P : Program} {t : TypeId} (ht : P.underlying t = some .bool) : ReadsAs P t Kd.bool (fun _ => True) := by
  intro H enc w base spare held fuel cs x h
  obtain ⟨n, rfl, _⟩ := DataW.trod_bool ht h
  exact ⟨n, rfl, trivial⟩
theorem z5H (a : Addr) (i j : Nat) : (a.add i).add j = a.add (i + j) := Go.Deep.add_add a i j
theorem z6b {α : Type} {P : Program} {t e : TypeId} {d : Kd α} {good : α → Prop} (ht : P.underlying t = some (.slice e)) (hc : P.cellsOf e = d.sz) (he : ReadsAs P e d good) : ReadsAs P t (Kd.slice e d) (fun l => (∀ x ∈ l, good x) ∧ l.length ≤ maxLen) := by
  intro H enc w base spare held fuel cs x h
  rcases open_slice ht h with ⟨rfl, _⟩ | ⟨a, len, cap, m, n, D, Pl, rfl, hb, hl, hm, hmm, rfl, hx⟩
  · exact ⟨[], ⟨none, 0, rfl, Nat.le_refl _, Kd.z2W d w⟩, ⟨by simp, Nat.zero_le _⟩⟩
  · have hlm : len ≤ m := by rw [hmm]; split <;> omega
    have hex : ∀ i, i < len → ∃ y : α, ∃ c, c.length = d.sz ∧ d.K w y c ∧ good y ∧ ∀ j u, c[j]? = some u → w.cell? (a.add (i * d.sz + j)) = some u := by
      intro i hi
      obtain ⟨cs', h1, h2⟩ := hx i (by omega)
      obtain ⟨_, hlen, hcell⟩ := World.cells?_some h1
      obtain ⟨y, hK, hg⟩ := he enc w base spare held n cs' _ h2
      refine ⟨y, cs', by rw [hlen, hc], hK, hg, fun j u hu => ?_⟩
      have hj : j < P.cellsOf e := by rw [← hlen]; exact (List.getElem?_eq_some_iff.1 hu).1
      have := hcell j hj
      rw [z5H] at this
      rw [← hc, this]; exact hu
    have hmax : len ≤ 9223372036854775807 := by
      have h9 : len ≤ maxLen := by omega
      simpa [maxLen] using h9
    have hlen : (List.ofFn (fun i : Fin len => Classical.choose (hex i.1 i.2))).length = len := List.length_ofFn
    refine ⟨List.ofFn (fun i : Fin len => Classical.choose (hex i.1 i.2)), ⟨some a, cap, by rw [hlen], by rw [hlen]; exact hl, rfl, by rw [hlen]; exact hmax, fun _ => ⟨a, rfl, ?_⟩⟩, ?_, by rw [hlen]; omega⟩
    · intro j p hp
      obtain ⟨hj, hpj⟩ := List.getElem?_eq_some_iff.1 hp
      rw [List.length_ofFn] at hj
      rw [List.getElem_ofFn] at hpj
      obtain ⟨c, h1, h2, _, h4⟩ := Classical.choose_spec (hex j hj)
      exact ⟨c, h1, by rw [← hpj]; exact h2, h4⟩
    · intro y hy
      obtain ⟨i, rfl⟩ := List.mem_ofFn.1 hy
      obtain ⟨c, _, _, h3, _⟩ := Classical.choose_spec (hex i.1 i.2)
      exact h3

/-- Fields that lie one behind the other. -/
def ReadsFs {α : Type} (P : Program) (fs : List Field) (off : Nat) (d : Kd α) (good : α → Prop) : Prop :=
  ∀ {H : Type} (enc : TypeId × Value → H) (w : World) (base : Nat) (spare : Nat → Bool) (held : Bool) (n : Nat) (cs : List Value), cs.length = d.sz →
    (∀ f ∈ fs, off ≤ f.offset ∧ ∃ x, DataW.trod enc P w base spare held n f.type ((cs.drop (f.offset - off)).take (P.cellsOf f.type)) = some x) → ∃ a, d.K w a cs ∧ good a
theorem z5r {α : Type} {P : Program} {f : Field} {off : Nat} {d : Kd α} {good : α → Prop} (hs : P.cellsOf f.type = d.sz) (ho : f.offset = off) (he : ReadsAs P f.type d good) : ReadsFs P [f] off d good := by
  intro H enc w base spare held n cs hl h
  obtain ⟨_, x, hx⟩ := h f (by simp)
  rw [ho, Nat.sub_self, List.drop_zero, hs, ← hl, List.take_length] at hx
  exact he enc w base spare held n cs x hx
theorem z4g {α β : Type} {P : Program} {f : Field} {fs : List Field} {off : Nat} {d : Kd α} {d' : Kd β} {good : α → Prop} {good' : β → Prop} (hs : P.cellsOf f.type = d.sz) (ho : f.offset = off) (he : ReadsAs P f.type d good)
    (hr : ReadsFs P fs (off + d.sz) d' good') (hoff : ∀ g ∈ fs, off + d.sz ≤ g.offset) : ReadsFs P (f :: fs) off (Kd.pair d d') (fun x => good x.1 ∧ good' x.2) := by
  intro H enc w base spare held n cs hl h
  have hl' : cs.length = d.sz + d'.sz := hl
  obtain ⟨_, x, hx⟩ := h f (by simp)
  rw [ho, Nat.sub_self, List.drop_zero, hs] at hx
  obtain ⟨a, hK, hg⟩ := he enc w base spare held n _ x hx
  obtain ⟨b, hK', hg'⟩ := hr enc w base spare held n (cs.drop d.sz) (by rw [List.length_drop]; omega) (fun g hgm => by
    obtain ⟨_, y, hy⟩ := h g (by simp [hgm])
    have ho' := hoff g hgm
    refine ⟨ho', y, ?_⟩
    rw [List.drop_drop, show d.sz + (g.offset - (off + d.sz)) = g.offset - off by omega]
    exact hy)
  exact ⟨(a, b), ⟨cs.take d.sz, cs.drop d.sz, (List.take_append_drop _ _).symm, hK, hK'⟩, hg, hg'⟩
theorem z5q {α β : Type} {P : Program} {t : TypeId} {fs : Array Field} {l : List Field} {d : Kd α} {good : α → Prop} (f : β → α) (hsurj : ∀ a, ∃ b, f b = a) (ht : P.underlying t = some (.struct fs)) (hfl : fs.toList = l) (hs : P.cellsOf t = d.sz) (h : ReadsFs P l 0 d good) :
    ReadsAs P t (Kd.iso d f) (fun b => good (f b)) := by
  intro H enc w base spare held fuel cs x hx
  obtain ⟨xs, n, rfl, _, hlen, hxs, hall⟩ := DataW.trod_struct ht hx
  obtain ⟨a, hK, hg⟩ := h enc w base spare held n cs (by rw [hlen, hs]) (fun g hgm => by
    rw [← hfl] at hgm
    obtain ⟨i, hi, rfl⟩ := List.mem_iff_getElem.1 hgm
    have h1 := hall i fs.toList[i] (by simp at hi ⊢)
    have hi' : i < xs.length := by rw [hxs]; simpa using hi
    refine ⟨Nat.zero_le _, xs[i], ?_⟩
    rw [Nat.sub_zero, h1, List.getElem?_eq_getElem hi'])
  obtain ⟨b, rfl⟩ := hsurj a
  exact ⟨b, hK, hg⟩

/-- Elements of an array, one behind the other. -/
def ReadsAr {α : Type} (P : Program) (e : TypeId) (m : Nat) (d : Kd α) (good : α → Prop) : Prop :=
  ∀ {H : Type} (enc : TypeId × Value → H) (w : World) (base : Nat) (spare : Nat → Bool) (held : Bool) (n : Nat) (cs : List Value), cs.length = d.sz →
    (∀ i, i < m → ∃ x, DataW.trod enc P w base spare held n e ((cs.drop (i * P.cellsOf e)).take (P.cellsOf e)) = some x) → ∃ a, d.K w a cs ∧ good a
theorem opas_last {α : Type} {P : Program} {e : TypeId} {d : Kd α} {good : α → Prop} (hs : P.cellsOf e = d.sz) (he : ReadsAs P e d good) : ReadsAr P e 1 d good := by
  intro H enc w base spare held n cs hl h
  obtain ⟨x, hx⟩ := h 0 (by omega)
  rw [Nat.zero_mul, List.drop_zero, hs, ← hl, List.take_length] at hx
  exact he enc w base spare held n cs x hx
theorem opas_cons {α β : Type} {P : Program} {e : TypeId} {m : Nat} {d : Kd α} {d' : Kd β} {good : α → Prop} {good' : β → Prop} (hs : P.cellsOf e = d.sz) (he : ReadsAs P e d good) (hr : ReadsAr P e m d' good') :
    ReadsAr P e (m + 1) (Kd.pair d d') (fun x => good x.1 ∧ good' x.2) := by
  intro H enc w base spare held n cs hl h
  have hl' : cs.length = d.sz + d'.sz := hl
  obtain ⟨x, hx⟩ := h 0 (by omega)
  rw [Nat.zero_mul, List.drop_zero, hs] at hx
  obtain ⟨a, hK, hg⟩ := he enc w base spare held n _ x hx
  obtain ⟨b, hK', hg'⟩ := hr enc w base spare held n (cs.drop d.sz) (by rw [List.length_drop]; omega) (fun i hi => by
    obtain ⟨y, hy⟩ := h (i + 1) (by omega)
    refine ⟨y, ?_⟩
    rw [List.drop_drop, show d.sz + i * P.cellsOf e = (i + 1) * P.cellsOf e by rw [hs, Nat.add_mul]; omega]
    exact hy)
  exact ⟨(a, b), ⟨cs.take d.sz, cs.drop d.sz, (List.take_append_drop _ _).symm, hK, hK'⟩, hg, hg'⟩
theorem op_array {α β : Type} {P : Program} {t e : TypeId} {m : Nat} {d : Kd α} {good : α → Prop} (f : β → α) (hsurj : ∀ a, ∃ b, f b = a) (ht : P.underlying t = some (.array m e)) (hs : P.cellsOf t = d.sz) (h : ReadsAr P e m d good) :
    ReadsAs P t (Kd.iso d f) (fun b => good (f b)) := by
  intro H enc w base spare held fuel cs x hx
  obtain ⟨xs, n, rfl, _, hlen, hxs, hall⟩ := DataW.trod_array ht hx
  obtain ⟨a, hK, hg⟩ := h enc w base spare held n cs (by rw [hlen, hs]) (fun i hi => by
    have hi' : i < xs.length := by omega
    exact ⟨xs[i], by rw [hall i hi, List.getElem?_eq_getElem hi']⟩)
  obtain ⟨b, rfl⟩ := hsurj a
  exact ⟨b, hK, hg⟩
theorem z5p {P : Program} {w : World} {r : Reach} {base : Nat} {t e : TypeId} {m : Nat} {v : Value} (ht : P.underlying t = some (.array m e)) (h : Value.okWide P w r base t v) : ∃ cs, v = .agg cs ∧ cs.size = P.cellsOf t := by
  simp only [Value.okWide, ht] at h
  cases v <;> simp_all

/-- An argument that is a slice. -/
theorem z6R {α : Type} {P : Program} {H : Type} {enc : TypeId × Value → H} {W : World} {base : Nat} {spare : Nat → Bool} {held : Bool} {t e : TypeId} {d : Kd α} {good : List α → Prop} {v : Value} {dd : DataW H} {ps : List MemPlace}
    (hop : ReadsAs P t (Kd.slice e d) good) {e' : TypeId} (ht : P.underlying t = some (.slice e')) {r : Reach} {b : Nat} (hv : Value.okWide P W r b t v) (h : DataW.Trod enc P W base spare held t v dd ps) :
    ∃ (l : List α) (A : Option Addr) (c : Nat), v = .slice A l.length c ∧ l.length ≤ c ∧ Kd.C d W A l.length l ∧ good l := by
  obtain ⟨A, len, cap, rfl⟩ := okWide_slice ht hv
  obtain ⟨fuel, hf⟩ := h
  obtain ⟨l, ⟨A', c, hcs, hl, hC⟩, hg⟩ := hop enc W base spare held fuel _ _ hf
  simp [Value.cells] at hcs
  obtain ⟨rfl, rfl, rfl⟩ := hcs
  exact ⟨l, A, cap, rfl, hl, hC, hg⟩
theorem arg_int {P : Program} {H : Type} {enc : TypeId × Value → H} {W : World} {base : Nat} {spare : Nat → Bool} {held : Bool} {t : TypeId} {k : IntKind} {v : Value} {dd : DataW H} {ps : List MemPlace}
    (ht : P.underlying t = some (.int k)) {r : Reach} {b : Nat} (hv : Value.okWide P W r b t v) (h : DataW.Trod enc P W base spare held t v dd ps) :
    ∃ n, v = .int k n ∧ (Lit.int k n).wf = true := by
  obtain ⟨n, rfl⟩ := okWide_int ht hv
  obtain ⟨fuel, hf⟩ := h
  obtain ⟨l, hcs, hg⟩ := z7n ht enc W base spare held fuel _ _ hf
  have : n = l := by
    have h1 : ([Value.int k n] : List Value) = [.int k l] := hcs
    simpa using h1
  subst this
  exact ⟨n, rfl, hg⟩
theorem arg_bool {P : Program} {W : World} {t : TypeId} {v : Value} (ht : P.underlying t = some .bool) {r : Reach} {b : Nat} (hv : Value.okWide P W r b t v) : ∃ n, v = .bool n := okWide_bool ht hv
/-- An argument that is a struct: its cells. -/
theorem z6s {α : Type} {P : Program} {H : Type} {enc : TypeId × Value → H} {W : World} {base : Nat} {spare : Nat → Bool} {held : Bool} {t : TypeId} {fs : Array Field} {d : Kd α} {good : α → Prop} {v : Value} {dd : DataW H} {ps : List MemPlace}
    (hop : ReadsAs P t d good) (ht : P.underlying t = some (.struct fs)) {r : Reach} {b : Nat} (hv : Value.okWide P W r b t v) (h : DataW.Trod enc P W base spare held t v dd ps) :
    ∃ (a : α) (cs : List Value), v = .agg cs.toArray ∧ d.K W a cs ∧ good a := by
  obtain ⟨cs, rfl, _⟩ := okWide_struct ht hv
  obtain ⟨fuel, hf⟩ := h
  obtain ⟨a, hK, hg⟩ := hop enc W base spare held fuel _ _ hf
  exact ⟨a, cs.toList, by simp, hK, hg⟩
/-- An argument that is an array: its cells. -/
theorem arg_array {α : Type} {P : Program} {H : Type} {enc : TypeId × Value → H} {W : World} {base : Nat} {spare : Nat → Bool} {held : Bool} {t e : TypeId} {m : Nat} {d : Kd α} {good : α → Prop} {v : Value} {dd : DataW H} {ps : List MemPlace}
    (hop : ReadsAs P t d good) (ht : P.underlying t = some (.array m e)) {r : Reach} {b : Nat} (hv : Value.okWide P W r b t v) (h : DataW.Trod enc P W base spare held t v dd ps) :
    ∃ (a : α) (cs : List Value), v = .agg cs.toArray ∧ d.K W a cs ∧ good a := by
  obtain ⟨cs, rfl, _⟩ := z5p ht hv
  obtain ⟨fuel, hf⟩ := h
  obtain ⟨a, hK, hg⟩ := hop enc W base spare held fuel _ _ hf
  exact ⟨a, cs.toList, by simp, hK, hg⟩
end Go.Proofs.Ytklkmflhnljbdaa.Reads
-- Own text: the statement that is left of the law RingCounts, and what a reading of its arguments is.
namespace Go.Proofs.Ytklkmflhnljbdaa.Stated.ringCounts
open Go.RowKit Go.Proofs.YtklkmflhnljbdaaW.PrintWords Go.Proofs.Ytklkmflhnljbdaa.P Go.Proofs.Ytklkmflhnljbdaa.Reads
def Pure : Prop := ∀ (x0 : Int) (x1 : S25) (x2 : List (S37)), ((Lit.int .i64 x0).wf = true) → ((((∀ x_ ∈ x1.f0, True) ∧ x1.f0.length ≤ maxLen)) ∧ (((∀ x_ ∈ x1.f1, ((Lit.int .u64 x_.f0).wf = true) ∧ ((Lit.int .u64 x_.f1).wf = true)) ∧ x1.f1.length ≤ maxLen)) ∧ (((∀ x_ ∈ x1.f2, ((Lit.int .u64 x_.f0).wf = true) ∧ ((Lit.int .u64 x_.f1).wf = true)) ∧ x1.f2.length ≤ maxLen))) → (((∀ x_ ∈ x2, ((Lit.int .u64 x_.f0).wf = true) ∧ ((Lit.int .u64 x_.f1).wf = true)) ∧ x2.length ≤ maxLen)) → ∃ k, z5.f k x0 x1.f0 x1.f1 x1.f2 x2 = some true
end Go.Proofs.Ytklkmflhnljbdaa.Stated.ringCounts
/- Rounds: what is told by enough of them; and the arithmetic of whole numbers as the printed functions spell it. Own text. -/
namespace Go.Proofs.YtklkmflhnljbdaaW.PrintWords
set_option linter.unusedVariables false
set_option linter.unusedSimpArgs false
namespace Ev
variable {α β : Type}
theorem ret (r : α) : Ev (fun _ => some r) r := ⟨0, fun _ _ => rfl⟩
theorem ret' {a r : α} (h : a = r) : Ev (fun _ => some a) r := h ▸ Ev.ret a
theorem const {o : Option α} {r : α} (h : o = some r) : Ev (fun _ => o) r := ⟨0, fun _ _ => h⟩
theorem pos {c : Prop} [Decidable c] {f g : Nat → Option α} {r : α} (h : c) (k : Ev f r) : Ev (fun n => if c then f n else g n) r := by
  simp only [if_pos h]; exact k
theorem neg {c : Prop} [Decidable c] {f g : Nat → Option α} {r : α} (h : ¬ c) (k : Ev g r) : Ev (fun n => if c then f n else g n) r := by
  simp only [if_neg h]; exact k
theorem bnd {g : Nat → Option α} {f : Nat → α → Option β} {a : α} {r : β} (h : Ev g a) (k : Ev (fun n => f n a) r) : Ev (fun n => (g n).bind (f n)) r := Ev.bind h k
theorem bnd0 {o : Option α} {f : Nat → α → Option β} {a : α} {r : β} (h : o = some a) (k : Ev (fun n => f n a) r) : Ev (fun n => o.bind (f n)) r := Ev.bind (Ev.const h) k
theorem uniq {g : Nat → Option α} {a b : α} (h : Ev g a) (k : Ev g b) : a = b := by
  obtain ⟨K, hK⟩ := h; obtain ⟨L, hL⟩ := k
  have := hK (max K L) (Nat.le_max_left _ _); rw [hL _ (Nat.le_max_right _ _)] at this
  exact (Option.some.inj this).symm
theorem eqn {g : Nat → Option α} {a b : α} (h : Ev g a) (e : a = b) : Ev g b := e ▸ h
end Ev
end Go.Proofs.YtklkmflhnljbdaaW.PrintWords
namespace Go.Proofs.Ytklkmflhnljbdaa.Ar
open Go.RowKit Go.Proofs.YtklkmflhnljbdaaW.PrintWords Go.Proofs.YtklkmflhnljbdaaW.PrintMore
set_option linter.unusedVariables false
set_option linter.unusedSimpArgs false
theorem z7b {x : Int} (h0 : -9223372036854775808 ≤ x) (h1 : x ≤ 9223372036854775807) : IntKind.i64.wrap x = x := by rw [IntKind.wrap_i64]; omega
theorem z28 {x : Int} (h0 : -9223372036854775808 ≤ x) (h1 : x ≤ 9223372036854775807) : wrap64 x = x := by unfold wrap64; omega
theorem z1M {i L : Nat} (h : i < L) (hL : L ≤ 4611686018427387904) : wrap64 ((i : Int) + 1) = ((i + 1 : Nat) : Int) := by rw [z28 (by omega) (by omega)]; omega
theorem z7E {i j : Nat} (h : i ≤ 2305843009213693952) (h' : j ≤ 2305843009213693952) : wrap64 ((i : Int) + (j : Int)) = ((i + j : Nat) : Int) := by rw [z28 (by omega) (by omega)]; omega
theorem w64_sub {i j : Nat} (h : j ≤ i) (h' : i ≤ 4611686018427387904) : wrap64 ((i : Int) - (j : Int)) = ((i - j : Nat) : Int) := by rw [z28 (by omega) (by omega)]; omega
theorem z2N {x : Int} (h0 : 0 ≤ x) (h1 : x < 18446744073709551616) : IntKind.u64.wrap x = x := by
  simp [IntKind.wrap, IntKind.bits, IntKind.signed]; omega
theorem z32 (w : Nat) (h : w ≤ 62) : shl .i64 1 (w : Int) = ((2 ^ w : Nat) : Int) := by
  unfold shl
  have h64 : IntKind.i64.bits = 64 := rfl
  rw [h64, Int.toNat_natCast, Nat.min_eq_left (by omega), Int.one_mul]
  have hp : (2 : Nat) ^ w ≤ 2 ^ 62 := Nat.pow_le_pow_right (by decide) h
  have hc : ((2 : Int) ^ w) = ((2 ^ w : Nat) : Int) := by simp
  rw [hc]
  have h62 : (2 : Nat) ^ 62 = 4611686018427387904 := by decide
  generalize 2 ^ w = p at hp ⊢
  exact z7b (by omega) (by omega)
theorem z33 (w : Nat) (h : w ≤ 63) : shl .u64 1 (w : Int) = ((2 ^ w : Nat) : Int) := by
  unfold shl
  have h64 : IntKind.u64.bits = 64 := rfl
  rw [h64, Int.toNat_natCast, Nat.min_eq_left (by omega), Int.one_mul]
  have hp : (2 : Nat) ^ w ≤ 2 ^ 63 := Nat.pow_le_pow_right (by decide) h
  have hc : ((2 : Int) ^ w) = ((2 ^ w : Nat) : Int) := by simp
  rw [hc]
  have h63 : (2 : Nat) ^ 63 = 9223372036854775808 := by decide
  generalize 2 ^ w = p at hp ⊢
  exact z2N (by omega) (by omega)
theorem z56 (a w : Nat) (h : w ≤ 64) : shr .u64 (a : Int) (w : Int) = ((a / 2 ^ w : Nat) : Int) := by
  unfold shr
  have h64 : IntKind.u64.bits = 64 := rfl
  rw [h64, Int.toNat_natCast, Nat.min_eq_left h]; simp
theorem shr_i64 (a w : Nat) (h : w ≤ 64) : shr .i64 (a : Int) (w : Int) = ((a / 2 ^ w : Nat) : Int) := by
  unfold shr
  have h64 : IntKind.i64.bits = 64 := rfl
  rw [h64, Int.toNat_natCast, Nat.min_eq_left h]; simp
theorem z4W (op : BinOp) (a b : Nat) (ha : a < 2 ^ 64) (hb : b < 2 ^ 64) :
    (op = .and → Go.bits op .u64 a b = ((a &&& b : Nat) : Int)) ∧ (op = .or → Go.bits op .u64 a b = ((a ||| b : Nat) : Int)) ∧ (op = .xor → Go.bits op .u64 a b = ((a ^^^ b : Nat) : Int)) := by
  have ha' : a % 2 ^ IntKind.u64.bits = a := Nat.mod_eq_of_lt ha
  have hb' : b % 2 ^ IntKind.u64.bits = b := Nat.mod_eq_of_lt hb
  refine ⟨?_, ?_, ?_⟩ <;> rintro rfl <;> simp only [Go.bits, BitVec.ofInt_natCast, BitVec.toNat_and, BitVec.toNat_or, BitVec.toNat_xor, BitVec.toNat_ofNat, ha', hb']
  · exact z2N (Int.natCast_nonneg _) (by have := Nat.and_lt_two_pow a hb; omega)
  · exact z2N (Int.natCast_nonneg _) (by have := Nat.or_lt_two_pow ha hb; omega)
  · exact z2N (Int.natCast_nonneg _) (by have := Nat.xor_lt_two_pow ha hb; omega)
theorem z2A (a b : Nat) (ha : a < 2 ^ 64) (hb : b < 2 ^ 64) : Go.bits .and .u64 a b = ((a &&& b : Nat) : Int) := (z4W .and a b ha hb).1 rfl
theorem z6c (a b : Nat) (ha : a < 2 ^ 64) (hb : b < 2 ^ 64) : Go.bits .or .u64 a b = ((a ||| b : Nat) : Int) := (z4W .or a b ha hb).2.1 rfl
theorem z29 (a b : Nat) (ha : a < 2 ^ 64) (hb : b < 2 ^ 64) : Go.bits .xor .u64 a b = ((a ^^^ b : Nat) : Int) := (z4W .xor a b ha hb).2.2 rfl
theorem z5f (x w : Nat) (hx : x < 2 ^ 63) (hw : w ≤ 62) : Go.bits .and .i64 (x : Int) (((2 ^ w : Nat) : Int) - 1) = ((x % 2 ^ w : Nat) : Int) := by
  have := Go.bits_mask .i64 63 (by decide) (fun n h0 h1 => z7b (by omega) (by omega)) w (by omega) (x : Int) (by omega) (by exact_mod_cast hx)
  have hc : (((2 ^ w : Nat) : Int) - 1) = 2 ^ w - 1 := by simp
  rw [hc, this]; simp
theorem two_pow_le {w : Nat} (h : w ≤ 6) : 2 ^ w ≤ 64 := Nat.pow_le_pow_right (n := 2) (by decide) h
theorem wf_i64 {x : Int} (h : (Lit.int .i64 x).wf = true) : -9223372036854775808 ≤ x ∧ x ≤ 9223372036854775807 := by
  simp only [Lit.wf, IntKind.min, IntKind.max, IntKind.signed, IntKind.bits, Bool.and_eq_true, decide_eq_true_eq] at h; simp at h; omega
theorem wf_u64 {x : Int} (h : (Lit.int .u64 x).wf = true) : 0 ≤ x ∧ x < 18446744073709551616 := by
  simp only [Lit.wf, IntKind.min, IntKind.max, IntKind.signed, IntKind.bits, Bool.and_eq_true, decide_eq_true_eq] at h; simp at h; omega
theorem z5P {α : Type} (d : α) (l : List α) (i : Nat) : rdOf d l (i : Int) = l.getD i d := by unfold rdOf; rw [Int.toNat_natCast]
end Go.Proofs.Ytklkmflhnljbdaa.Ar
/- The tower of fields of characteristic two, as pairs of pairs of bits: its laws. Own text; nothing of the program in it. -/
namespace Go.Proofs.Ytklkmflhnljbdaa.Tw
set_option linter.unusedVariables false
set_option linter.unusedSimpArgs false

/-- Level n: a bit, or two halves: the higher one and the lower one. -/
def T : Nat → Type
  | 0 => Bool
  | n + 1 => T n × T n
def zero : (n : Nat) → T n
  | 0 => false
  | n + 1 => (zero n, zero n)
def one : (n : Nat) → T n
  | 0 => true
  | n + 1 => (zero n, one n)
/-- The generator. -/
def gen : (n : Nat) → T n
  | 0 => true
  | n + 1 => (one n, zero n)
def add : {n : Nat} → T n → T n → T n
  | 0, a, b => Bool.xor a b
  | _ + 1, a, b => (add a.1 b.1, add a.2 b.2)
def mul : {n : Nat} → T n → T n → T n
  | 0, a, b => Bool.and a b
  | n + 1, a, b => (add (add (mul a.1 b.2) (mul a.2 b.1)) (mul (gen n) (mul a.1 b.1)), add (mul a.2 b.2) (mul a.1 b.1))
instance {n : Nat} : Add (T n) := ⟨add⟩
instance {n : Nat} : Mul (T n) := ⟨mul⟩
instance {n : Nat} : Zero (T n) := ⟨zero n⟩
instance {n : Nat} : One (T n) := ⟨one n⟩
instance : {n : Nat} → DecidableEq (T n)
  | 0 => inferInstanceAs (DecidableEq Bool)
  | n + 1 => let _ : DecidableEq (T n) := instDecidableEqT; inferInstanceAs (DecidableEq (T n × T n))
theorem z3B {n : Nat} (a b : T (n + 1)) : (a + b).1 = a.1 + b.1 := rfl
theorem z4V {n : Nat} (a b : T (n + 1)) : (a + b).2 = a.2 + b.2 := rfl
theorem z2a {n : Nat} (a b : T (n + 1)) : (a * b).1 = (a.1 * b.2 + a.2 * b.1) + gen n * (a.1 * b.1) := rfl
theorem z2f {n : Nat} (a b : T (n + 1)) : (a * b).2 = a.2 * b.2 + a.1 * b.1 := rfl
theorem z3Z {n : Nat} : (0 : T (n + 1)).1 = 0 := rfl
theorem z40 {n : Nat} : (0 : T (n + 1)).2 = 0 := rfl
theorem z4e {n : Nat} : (1 : T (n + 1)).1 = 0 := rfl
theorem z4f {n : Nat} : (1 : T (n + 1)).2 = 1 := rfl
theorem z2u {n : Nat} : (gen (n + 1)).1 = 1 := rfl
theorem z2C {n : Nat} : (gen (n + 1)).2 = 0 := rfl
theorem z62 : gen 0 = 1 := rfl
/-- The element of two halves. -/
def mk {n : Nat} (a b : T n) : T (n + 1) := (a, b)
theorem z2k {n : Nat} (a b : T n) : (mk a b).1 = a := rfl
theorem z2r {n : Nat} (a b : T n) : (mk a b).2 = b := rfl
theorem ext {n : Nat} {a b : T (n + 1)} (h1 : a.1 = b.1) (h2 : a.2 = b.2) : a = b := Prod.ext h1 h2

theorem add_comm : {n : Nat} → (a b : T n) → a + b = b + a
  | 0, a, b => Bool.xor_comm a b
  | n + 1, a, b => ext (add_comm a.1 b.1) (add_comm a.2 b.2)
theorem add_assoc : {n : Nat} → (a b c : T n) → a + b + c = a + (b + c)
  | 0, a, b, c => Bool.xor_assoc a b c
  | n + 1, a, b, c => ext (add_assoc a.1 b.1 c.1) (add_assoc a.2 b.2 c.2)
theorem zero_add : {n : Nat} → (a : T n) → 0 + a = a
  | 0, a => Bool.false_xor a
  | n + 1, a => ext (zero_add a.1) (zero_add a.2)
theorem z21 : {n : Nat} → (a : T n) → a + a = 0
  | 0, a => Bool.xor_self a
  | n + 1, a => ext (z21 a.1) (z21 a.2)
theorem add_zero {n : Nat} (a : T n) : a + 0 = a := by rw [add_comm, zero_add]
theorem z1X {n : Nat} (a b c : T n) : a + (b + c) = b + (a + c) := by rw [← add_assoc, add_comm a b, add_assoc]
theorem z3H {n : Nat} (a b : T n) : a + (a + b) = b := by rw [← add_assoc, z21, zero_add]
theorem z6P {n : Nat} {a b c : T n} (h : a + b = a + c) : b = c := by
  have := congrArg (a + ·) h
  simpa only [z3H] using this
theorem z2m {n : Nat} {a b : T n} (h : a + b = 0) : a = b := by
  have := congrArg (· + b) h
  simp only [add_assoc, z21, add_zero, zero_add] at this
  exact this
theorem eq_add_of {n : Nat} {a b c : T n} (h : a + b = c) : a = c + b := by rw [← h, add_assoc, z21, add_zero]

/-- The laws of products, all at once. -/
structure Laws (n : Nat) : Prop where
  comm : ∀ a b : T n, a * b = b * a
  zero_mul : ∀ a : T n, 0 * a = 0
  one_mul : ∀ a : T n, 1 * a = a
  mul_add : ∀ a b c : T n, a * (b + c) = a * b + a * c
  assoc : ∀ a b c : T n, a * b * c = a * (b * c)
theorem laws : (n : Nat) → Laws n
  | 0 => ⟨Bool.and_comm, Bool.false_and, Bool.true_and, by intro a b c; cases a <;> cases b <;> cases c <;> rfl, Bool.and_assoc⟩
  | n + 1 => by
    obtain ⟨comm, zmul, omul, madd, massoc⟩ := laws n
    have addm : ∀ a b c : T n, (a + b) * c = a * c + b * c := fun a b c => by rw [comm, madd, comm c a, comm c b]
    have mulz : ∀ a : T n, a * 0 = 0 := fun a => by rw [comm, zmul]
    have mulo : ∀ a : T n, a * 1 = a := fun a => by rw [comm, omul]
    have lcomm : ∀ a b c : T n, a * (b * c) = b * (a * c) := fun a b c => by rw [← massoc, comm a b, massoc]
    refine ⟨fun a b => ext ?_ ?_, fun a => ext ?_ ?_, fun a => ext ?_ ?_, fun a b c => ext ?_ ?_, fun a b c => ext ?_ ?_⟩
    · simp only [z2a]; rw [comm a.1 b.2, comm a.2 b.1, comm a.1 b.1, add_comm (b.2 * a.1)]
    · simp only [z2f]; rw [comm a.2 b.2, comm a.1 b.1]
    · simp only [z2a, z3Z, z40, zmul, mulz, add_zero]
    · simp only [z2f, z3Z, z40, zmul, mulz, add_zero]
    · simp only [z2a, z4e, z4f, zmul, mulz, omul, add_zero, zero_add]
    · simp only [z2f, z4e, z4f, zmul, mulz, omul, add_zero, zero_add]
    · simp only [z2a, z3B, z4V, madd, addm, add_assoc, z1X, add_comm]
    · simp only [z2f, z3B, z4V, madd, addm, add_assoc, z1X, add_comm]
    · simp only [z2a, z2f, madd, addm, massoc, lcomm, comm, add_assoc, z1X, add_comm]
    · simp only [z2a, z2f, madd, addm, massoc, lcomm, comm, add_assoc, z1X, add_comm]
section
variable {n : Nat} (a b c d : T n)
theorem mul_comm : a * b = b * a := (laws n).comm a b
theorem mul_assoc : a * b * c = a * (b * c) := (laws n).assoc a b c
theorem z23 : a * (b * c) = b * (a * c) := by rw [← mul_assoc, mul_comm a b, mul_assoc]
theorem zero_mul : 0 * a = 0 := (laws n).zero_mul a
theorem mul_zero : a * 0 = 0 := by rw [mul_comm, zero_mul]
theorem one_mul : 1 * a = a := (laws n).one_mul a
theorem mul_one : a * 1 = a := by rw [mul_comm, one_mul]
theorem mul_add : a * (b + c) = a * b + a * c := (laws n).mul_add a b c
theorem add_mul : (a + b) * c = a * c + b * c := by rw [mul_comm, mul_add, mul_comm c a, mul_comm c b]
theorem add_sq : (a + b) * (a + b) = a * a + b * b := by
  rw [mul_add, add_mul, add_mul, mul_comm b a, add_assoc, ← add_assoc (a * b), z21, zero_add]
end
end Go.Proofs.Ytklkmflhnljbdaa.Tw
/- Elements of the tower as numbers: bits of the lower half first. Own text; nothing of the program in it. -/
namespace Go.Proofs.Ytklkmflhnljbdaa.Tw
set_option linter.unusedVariables false
set_option linter.unusedSimpArgs false
/-- How many words of bits an element of a level is: 2 to the power 2^n. -/
def Q (n : Nat) : Nat := 2 ^ 2 ^ n
theorem z2G (n : Nat) : 0 < Q n := Nat.two_pow_pos _
theorem z2X (n : Nat) : Q (n + 1) = Q n * Q n := by unfold Q; rw [← Nat.pow_add, Nat.pow_succ 2 n, Nat.mul_two]
theorem z6N (n : Nat) : Q n ≤ Q (n + 1) := by rw [z2X]; exact Nat.le_mul_of_pos_left _ (z2G n)
theorem z3j {m n : Nat} (h : m ≤ n) : Q m ≤ Q n := Nat.pow_le_pow_right (by decide) (Nat.pow_le_pow_right (by decide) h)
theorem z6p : Q 6 = 2 ^ 64 := rfl
theorem z5E : Q 7 = 2 ^ 128 := rfl
def val : {n : Nat} → T n → Nat
  | 0, a => Bool.toNat a
  | n + 1, a => val a.1 * Q n + val a.2
def of : (n : Nat) → Nat → T n
  | 0, x => x % 2 == 1
  | n + 1, x => mk (of n (x / Q n)) (of n (x % Q n))
theorem val_zero_lvl (a : T 0) : val a = Bool.toNat a := rfl
theorem z1V {n : Nat} (a : T (n + 1)) : val a = val a.1 * Q n + val a.2 := rfl
theorem z2n (n x : Nat) : of (n + 1) x = mk (of n (x / Q n)) (of n (x % Q n)) := rfl
theorem z1B : {n : Nat} → (a : T n) → val a < Q n
  | 0, a => by cases a <;> decide
  | n + 1, a => by
    rw [z1V, z2X]
    have h1 := z1B a.1
    have h2 := z1B a.2
    have h3 : val a.1 * Q n + Q n ≤ Q n * Q n := by
      have := Nat.mul_le_mul_right (Q n) h1
      rw [Nat.succ_mul] at this; exact this
    omega
theorem val_div {n : Nat} (a : T (n + 1)) : val a / Q n = val a.1 := by
  rw [z1V, Nat.mul_comm, Nat.mul_add_div (z2G n), Nat.div_eq_of_lt (z1B a.2), Nat.add_zero]
theorem val_mod {n : Nat} (a : T (n + 1)) : val a % Q n = val a.2 := by
  rw [z1V, Nat.mul_comm, Nat.mul_add_mod, Nat.mod_eq_of_lt (z1B a.2)]
theorem z27 : {n : Nat} → (a : T n) → of n (val a) = a
  | 0, a => by cases a <;> rfl
  | n + 1, a => by rw [z2n, val_div, val_mod, z27 a.1, z27 a.2]; rfl
theorem z2l : (n : Nat) → (x : Nat) → x < Q n → val (of n x) = x
  | 0, x, h => by
    have h' : x < 2 := h
    have : x = 0 ∨ x = 1 := by omega
    rcases this with rfl | rfl <;> rfl
  | n + 1, x, h => by
    rw [z2n, z1V, z2k, z2r]
    rw [z2X] at h
    rw [z2l n _ (Nat.div_lt_of_lt_mul h), z2l n _ (Nat.mod_lt _ (z2G n)), Nat.mul_comm]
    exact Nat.div_add_mod x (Q n)
theorem z2E {n : Nat} {a b : T n} (h : val a = val b) : a = b := by rw [← z27 a, h, z27]
theorem z1N : (n : Nat) → val (0 : T n) = 0
  | 0 => rfl
  | n + 1 => by rw [z1V, z3Z, z40, z1N n, Nat.zero_mul]
theorem z2F : (n : Nat) → val (1 : T n) = 1
  | 0 => rfl
  | n + 1 => by rw [z1V, z4e, z4f, z1N n, z2F n, Nat.zero_mul]
theorem z31 (n : Nat) : of n 0 = 0 := by rw [← z1N n, z27]
theorem of_one (n : Nat) : of n 1 = 1 := by rw [← z2F n, z27]
theorem val_eq_zero {n : Nat} {a : T n} : val a = 0 ↔ a = 0 := ⟨fun h => z2E (h.trans (z1N n).symm), fun h => by rw [h, z1N]⟩
theorem z6n {n a b c d : Nat} (hb : b < Q n) (hd : d < Q n) : (a * Q n + b) ^^^ (c * Q n + d) = (a ^^^ c) * Q n + (b ^^^ d) := by
  have h1 : ((a * Q n + b) ^^^ (c * Q n + d)) / Q n = a ^^^ c := by
    unfold Q at *
    rw [Nat.xor_div_two_pow, Nat.mul_comm a, Nat.mul_comm c, Nat.mul_add_div (Nat.two_pow_pos _), Nat.mul_add_div (Nat.two_pow_pos _), Nat.div_eq_of_lt hb, Nat.div_eq_of_lt hd]; rfl
  have h2 : ((a * Q n + b) ^^^ (c * Q n + d)) % Q n = b ^^^ d := by
    unfold Q at *
    rw [Nat.xor_mod_two_pow, Nat.mul_comm a, Nat.mul_comm c, Nat.mul_add_mod, Nat.mul_add_mod, Nat.mod_eq_of_lt hb, Nat.mod_eq_of_lt hd]
  have := Nat.div_add_mod ((a * Q n + b) ^^^ (c * Q n + d)) (Q n)
  rw [h1, h2, Nat.mul_comm] at this
  exact this.symm
theorem z1U : {n : Nat} → (a b : T n) → val (a + b) = val a ^^^ val b
  | 0, a, b => by cases a <;> cases b <;> rfl
  | n + 1, a, b => by
    rw [z1V, z1V, z1V, z3B, z4V, z1U a.1 b.1, z1U a.2 b.2, z6n (z1B _) (z1B _)]
theorem z2v {n x y : Nat} (hx : x < Q n) (hy : y < Q n) : x ^^^ y < Q n := Nat.xor_lt_two_pow hx hy
theorem z7m {n x y : Nat} (hx : x < Q n) (hy : y < Q n) : of n (x ^^^ y) = of n x + of n y :=
  z2E (by rw [z2l _ _ (z2v hx hy), z1U, z2l _ _ hx, z2l _ _ hy])
/-- A number of a lower level: the higher half is 0. -/
theorem z5o {n x : Nat} (h : x < Q n) : of (n + 1) x = mk 0 (of n x) := by
  rw [z2n, Nat.div_eq_of_lt h, Nat.mod_eq_of_lt h, z31]
/-- One level up. -/
def up {n : Nat} (a : T n) : T (n + 1) := mk 0 a
theorem z35 {n : Nat} (a : T n) : (up a).1 = 0 := rfl
theorem z4q {n : Nat} (a : T n) : (up a).2 = a := rfl
theorem val_up {n : Nat} (a : T n) : val (up a) = val a := by rw [z1V, z35, z4q, z1N, Nat.zero_mul, Nat.zero_add]
theorem up_add {n : Nat} (a b : T n) : up (a + b) = up a + up b := ext (by rw [z3B, z35, z35, z35, add_zero]) rfl
theorem z7A {n : Nat} (a b : T n) : up (a * b) = up a * up b :=
  ext (by simp only [z2a, z35, z4q, zero_mul, mul_zero, add_zero]) (by simp only [z2f, z35, z4q, zero_mul, add_zero])
theorem z3E {n : Nat} (a : T n) (b : T (n + 1)) : up a * b = mk (a * b.1) (a * b.2) :=
  ext (by simp only [z2a, z35, z4q, zero_mul, mul_zero, add_zero, zero_add, z2k]) (by simp only [z2f, z35, z4q, zero_mul, add_zero, z2r])
theorem up_zero (n : Nat) : up (0 : T n) = 0 := rfl
theorem up_one (n : Nat) : up (1 : T n) = 1 := rfl
theorem up_inj {n : Nat} {a b : T n} (h : up a = up b) : a = b := congrArg (fun x : T (n + 1) => x.2) h
/-- Many levels up. -/
def ups {n : Nat} : (d : Nat) → T n → T (n + d)
  | 0, a => a
  | d + 1, a => up (ups d a)
theorem ups_add {n : Nat} (a b : T n) : (d : Nat) → ups d (a + b) = ups d a + ups d b
  | 0 => rfl
  | d + 1 => by show up (ups d (a + b)) = _; rw [ups_add a b d, up_add]; rfl
theorem z7B {n : Nat} (a b : T n) : (d : Nat) → ups d (a * b) = ups d a * ups d b
  | 0 => rfl
  | d + 1 => by show up (ups d (a * b)) = _; rw [z7B a b d, z7A]; rfl
theorem z4t {n : Nat} (a : T n) : (d : Nat) → val (ups d a) = val a
  | 0 => rfl
  | d + 1 => by show val (up (ups d a)) = _; rw [val_up, z4t a d]
theorem ups_zero {n : Nat} (d : Nat) : ups d (0 : T n) = 0 := z2E (by rw [z4t, z1N, z1N])
theorem ups_one {n : Nat} (d : Nat) : ups d (1 : T n) = 1 := z2E (by rw [z4t, z2F, z2F])
theorem ups_of {n d x : Nat} (h : x < Q n) : ups d (of n x) = of (n + d) x := z2E (by rw [z4t, z2l _ _ h, z2l _ _ (Nat.lt_of_lt_of_le h (z3j (Nat.le_add_right _ _)))])
/-- Products of numbers of a lower level are of it. -/
theorem z4s {n d x y : Nat} (hx : x < Q n) (hy : y < Q n) : val (of (n + d) x * of (n + d) y) = val (of n x * of n y) := by
  rw [← ups_of hx, ← ups_of hy, ← z7B, z4t]
theorem z3x {l m x y : Nat} (h : l ≤ m) (hx : x < Q l) (hy : y < Q l) : val (of m x * of m y) = val (of l x * of l y) := by
  obtain ⟨d, rfl⟩ := Nat.le.dest h
  exact z4s hx hy
theorem z6G {l m x y : Nat} (h : l ≤ m) (hx : x < Q l) (hy : y < Q l) : val (of m x * of m y) < Q l := by
  rw [z3x h hx hy]; exact z1B _
end Go.Proofs.Ytklkmflhnljbdaa.Tw
/- What the functions of layers 1 and 2 on elements tell. Own text. -/
namespace Go.Proofs.Ytklkmflhnljbdaa.Sp
open Go.RowKit Go.Proofs.YtklkmflhnljbdaaW.PrintWords Go.Proofs.YtklkmflhnljbdaaW.PrintMore Go.Proofs.Ytklkmflhnljbdaa.P Go.Proofs.Ytklkmflhnljbdaa.Ar Go.Proofs.Ytklkmflhnljbdaa.Tw
set_option linter.unusedVariables false
set_option linter.unusedSimpArgs false
theorem z41 {n : Nat} (h : n ≤ 6) : Q n ≤ 2 ^ 64 := z3j h
theorem Q_dvd {n : Nat} : Q n = 2 ^ 2 ^ n := rfl
theorem z2j {n : Nat} (h : n ≤ 5) : 2 ^ n ≤ 32 := Nat.pow_le_pow_right (n := 2) (by decide) h
theorem z3X {l : Nat} (h : l + 1 ≤ 1000) : wrap64 (((l + 1 : Nat) : Int) - 1) = (l : Int) := by rw [z28 (by omega) (by omega)]; omega
theorem z4T {n : Nat} (h : n ≤ 5) : Q n < 2 ^ 64 := Nat.pow_lt_pow_right (by decide) (by have := z2j h; omega)
theorem z47 {l : Nat} (hl : l ≤ 5) (x : Nat) (hx : x < 2 ^ 64) : z1E.f ((l + 1 : Nat) : Int) (x : Int) = some (((x / Q l : Nat) : Int), ((x % Q l : Nat) : Int)) := by
  unfold z1E.f
  have h32 := z2j hl
  have hQ := z4T hl
  have hm : IntKind.u64.wrap (((2 ^ 2 ^ l : Nat) : Int) - 1) = ((2 ^ 2 ^ l - 1 : Nat) : Int) := by
    have := Nat.two_pow_pos (2 ^ l)
    unfold Q at hQ
    generalize 2 ^ 2 ^ l = q at *
    rw [z2N (by omega) (by omega)]; omega
  rw [z3X (by omega), if_pos (Int.natCast_nonneg _), z32 l (by omega), if_pos (Int.natCast_nonneg _), z56 x (2 ^ l) (by omega), z33 (2 ^ l) (by omega), hm]
  rw [z2A x _ hx (by have := Nat.two_pow_pos (2 ^ l); unfold Q at hQ; omega), Nat.and_two_pow_sub_one_eq_mod]
  rfl
theorem z7f {l : Nat} (hl : l ≤ 5) (h x : Nat) (hh : h < Q l) (hx : x < Q l) : z1H.f ((l + 1 : Nat) : Int) (h : Int) (x : Int) = some ((h * Q l + x : Nat) : Int) := by
  unfold z1H.f
  have h32 := z2j hl
  have hQ := z4T hl
  have h6 : Q (l + 1) ≤ 2 ^ 64 := z41 (by omega)
  have hhx : h * Q l + Q l ≤ Q (l + 1) := by
    rw [z2X]
    have := Nat.mul_le_mul_right (Q l) hh
    rw [Nat.succ_mul] at this; exact this
  have hs : shl .u64 (h : Int) (((2 ^ l : Nat) : Int)) = ((h * Q l : Nat) : Int) := by
    unfold shl
    have h64 : IntKind.u64.bits = 64 := rfl
    rw [h64, Int.toNat_natCast, Nat.min_eq_left (by omega)]
    have hc : ((h : Int) * 2 ^ 2 ^ l) = ((h * Q l : Nat) : Int) := by unfold Q; simp
    rw [hc]
    have : h * Q l < 2 ^ 64 := by omega
    generalize h * Q l = z at *
    exact z2N (by omega) (by omega)
  rw [z3X (by omega), if_pos (by omega), z33 l (by omega), hs, z6c _ _ (by omega) (by omega)]
  congr 2
  unfold Q at *
  rw [Nat.mul_comm, ← Nat.two_pow_add_eq_or_of_lt hx]
theorem z7k : ∀ (l : Nat), l ≤ 6 → ∀ (x : Nat), x < Q l → Ev (fun k => z10.f k (l : Int) (x : Int)) ((val (gen l * of l x) : Nat) : Int) := by
  intro l
  induction l with
  | zero =>
    intro _ x hx
    refine Ev.step (fun k => by rw [z10.f]) (Ev.pos (by rfl) (Ev.ret' ?_))
    rw [z62, one_mul, z2l 0 x hx]
  | succ l ih =>
    intro hl x hx
    have hx64 : x < 2 ^ 64 := Nat.lt_of_lt_of_le hx (z41 hl)
    have hd : x / Q l < Q l := Nat.div_lt_of_lt_mul (by rw [← z2X]; exact hx)
    have hm : x % Q l < Q l := Nat.mod_lt _ (z2G l)
    have hQ := z4T (n := l) (by omega)
    refine Ev.step (fun k => by rw [z10.f]) (Ev.neg (by omega) (Ev.bnd0 (z47 (by omega) x hx64) ?_))
    simp only [z3X (show l + 1 ≤ 1000 by omega)]
    refine Ev.bnd (ih (by omega) _ hd) ?_
    have hv := z1B (gen l * of l (x / Q l))
    simp only [z29 _ _ (Nat.lt_trans hm hQ) (Nat.lt_trans hv hQ)]
    refine Ev.bnd0 (z7f (by omega) _ _ (z2v hm hv) hd) (Ev.ret' ?_)
    congr 1
    rw [z1V (gen (l + 1) * of (l + 1) x)]
    congr 1
    · congr 1
      have e : (gen (l + 1) * of (l + 1) x).1 = of l (x % Q l) + gen l * of l (x / Q l) := by
        rw [z2a, z2u, z2C, one_mul, zero_mul, one_mul, add_zero]; rfl
      rw [e, z1U, z2l _ _ hm]
    · have e : (gen (l + 1) * of (l + 1) x).2 = of l (x / Q l) := by
        rw [z2f, z2u, z2C, one_mul, zero_mul, zero_add]; rfl
      rw [e, z2l _ _ hd]
theorem karatsuba {n : Nat} (a1 a0 b1 b0 z : T n) : (a1 + a0) * (b1 + b0) + a1 * b1 + a0 * b0 + z = (a1 * b0 + a0 * b1) + z := by
  have : (a1 + a0) * (b1 + b0) + a1 * b1 + a0 * b0 = a1 * b0 + a0 * b1 := by
    simp only [mul_add, add_mul]
    have : ∀ p q r s : T n, p + q + (r + s) + p + s = q + r := fun p q r s => by
      rw [add_comm p q, add_assoc, add_assoc, add_assoc]
      rw [show p + (r + s + (p + s)) = (p + p) + (r + (s + s)) by simp only [add_assoc, z1X, add_comm]]
      rw [z21, z21, zero_add, add_zero]
    rw [show a1 * b1 + a0 * b1 + (a1 * b0 + a0 * b0) = a1 * b1 + a0 * b1 + (a1 * b0 + a0 * b0) from rfl, this, add_comm]
  rw [this]
theorem z68 : ∀ (l : Nat), l ≤ 6 → ∀ (x y : Nat), x < Q l → y < Q l → Ev (fun k => zF.f k (l : Int) (x : Int) (y : Int)) ((val (of l x * of l y) : Nat) : Int) := by
  intro l
  have hz : ∀ (l : Nat), l ≤ 6 → ∀ (x y : Nat), x < Q l → y < Q l → (l = 0 ∨ x = 0 ∨ y = 0) → Ev (fun k => zF.j0 k (l : Int) (x : Int) (y : Int) true) ((val (of l x * of l y) : Nat) : Int) := by
    intro l hl x y hx hy h
    have hQ := z41 hl
    refine Ev.step (fun k => by rw [zF.j0]) (Ev.pos rfl (Ev.ret' ?_))
    rw [z2A x y (by omega) (by omega)]
    have hxy : x &&& y < 2 ^ 64 := Nat.and_lt_two_pow _ (by omega)
    rw [show (1 : Int) = ((1 : Nat) : Int) from rfl, z2A _ 1 hxy (by decide)]
    congr 1
    rcases h with rfl | rfl | rfl
    · have h1 : x < 2 := hx
      have h2 : y < 2 := hy
      rcases (by omega : x = 0 ∨ x = 1) with rfl | rfl <;> rcases (by omega : y = 0 ∨ y = 1) with rfl | rfl <;> rfl
    · rw [z31, zero_mul, z1N]; simp
    · rw [z31, mul_zero, z1N]; simp
  induction l with
  | zero =>
    intro hl x y hx hy
    exact Ev.step (fun k => by rw [zF.f]) (Ev.pos (by rfl) (hz 0 hl x y hx hy (Or.inl rfl)))
  | succ l ih =>
    intro hl x y hx hy
    refine Ev.step (fun k => by rw [zF.f]) (Ev.neg (by omega) ?_)
    by_cases hx0 : x = 0
    · exact Ev.pos (by omega) (hz (l + 1) hl x y hx hy (Or.inr (Or.inl hx0)))
    refine Ev.neg (by omega) ?_
    by_cases hy0 : y = 0
    · rw [show ((y : Int) == 0) = true by simp [hy0]]
      exact hz (l + 1) hl x y hx hy (Or.inr (Or.inr hy0))
    rw [show ((y : Int) == 0) = false by simp [hy0]]
    have hQ := z4T (n := l) (by omega)
    have hx64 : x < 2 ^ 64 := Nat.lt_of_lt_of_le hx (z41 hl)
    have hy64 : y < 2 ^ 64 := Nat.lt_of_lt_of_le hy (z41 hl)
    have hxd : x / Q l < Q l := Nat.div_lt_of_lt_mul (by rw [← z2X]; exact hx)
    have hxm : x % Q l < Q l := Nat.mod_lt _ (z2G l)
    have hyd : y / Q l < Q l := Nat.div_lt_of_lt_mul (by rw [← z2X]; exact hy)
    have hym : y % Q l < Q l := Nat.mod_lt _ (z2G l)
    have hl5 : l ≤ 5 := by omega
    refine Ev.step (fun k => by rw [zF.j0]) (Ev.neg (by decide) (Ev.bnd0 (z47 hl5 x hx64) (Ev.bnd0 (z47 hl5 y hy64) ?_)))
    simp only [z3X (show l + 1 ≤ 1000 by omega)]
    refine Ev.bnd (ih (by omega) _ _ hxd hyd) (Ev.bnd (ih (by omega) _ _ hxm hym) ?_)
    simp only [z29 _ _ (Nat.lt_trans hxd hQ) (Nat.lt_trans hxm hQ), z29 _ _ (Nat.lt_trans hyd hQ) (Nat.lt_trans hym hQ)]
    refine Ev.bnd (ih (by omega) _ _ (z2v hxd hxm) (z2v hyd hym)) ?_
    have v1 := z1B (of l (x / Q l) * of l (y / Q l))
    have v2 := z1B (of l (x % Q l) * of l (y % Q l))
    have v3 := z1B (of l (x / Q l ^^^ x % Q l) * of l (y / Q l ^^^ y % Q l))
    refine Ev.bnd (z7k l (by omega) _ v1) ?_
    have v4 := z1B (gen l * of l (val (of l (x / Q l) * of l (y / Q l))))
    simp only [z29 _ _ (Nat.lt_trans v3 hQ) (Nat.lt_trans v1 hQ), z29 _ _ (Nat.lt_trans (z2v v3 v1) hQ) (Nat.lt_trans v2 hQ), z29 _ _ (Nat.lt_trans (z2v (z2v v3 v1) v2) hQ) (Nat.lt_trans v4 hQ), z29 _ _ (Nat.lt_trans v2 hQ) (Nat.lt_trans v1 hQ)]
    refine Ev.bnd0 (z7f (by omega) _ _ (z2v (z2v (z2v v3 v1) v2) v4) (z2v v2 v1)) (Ev.ret' ?_)
    congr 1
    rw [z1V (of (l + 1) x * of (l + 1) y)]
    congr 1
    · congr 1
      rw [z2a, z2n, z2n, z2k, z2r, z2k, z2r, ← karatsuba, z1U, z1U, z1U, z7m hxd hxm, z7m hyd hym, z27]
    · rw [z2f, z2n, z2n, z2k, z2r, z2k, z2r, z1U]
end Go.Proofs.Ytklkmflhnljbdaa.Sp
namespace Go.Proofs.Ytklkmflhnljbdaa.P
open Go.RowKit Go.Proofs.YtklkmflhnljbdaaW.PrintWords Go.Proofs.YtklkmflhnljbdaaW.PrintLast Go.Proofs.YtklkmflhnljbdaaW.PrintMore
attribute [local go_sem] z17 z19 z1m z1n zU zV z18 z1a   -- for this text's walks alone
set_option linter.unusedVariables false
set_option linter.unusedSimpArgs false
def z1u.f (a0_0 : Int) (a0_1 : Int) (a1_0 : Int) (a1_1 : Int) : Option (Int × Int):=some (Go.bits .xor .u64 a0_0 a1_0,Go.bits .xor .u64 a0_1 a1_1)
set_option maxHeartbeats 8000000 in
set_option maxRecDepth 100000 in
theorem z1u.calls (a0_0 : Int) (a0_1 : Int) (a1_0 : Int) (a1_1 : Int) (r1 : Int) (r2 : Int) (w : World) (h : z1u.f a0_0 a0_1 a1_0 a1_1 = some (r1,r2)) :
 Calls Try.prog 64 #[.agg #[.int .u64 a0_0,.int .u64 a0_1],.agg #[.int .u64 a1_0,.int .u64 a1_1]] w fun e w'=>e = .returned (.agg #[.int .u64 r1,.int .u64 r2]) ∧ Below w.heap.size w w':=by
 have hu48:=Try.underlying48
 have HB:=z4.mk (Below.refl w.heap.size w)
 have H : (some (Go.bits .xor .u64 a0_0 a1_0,Go.bits .xor .u64 a0_1 a1_1)) = some (r1,r2):=h
 clear h
 simp only [Option.some.injEq,Prod.mk.injEq] at H
 obtain ⟨rfl,rfl⟩:=H
 go_enter Try.func64,Try.ntmps64
 go_wp2_with (first|((with_reducible refine zr (N:=2) rfl ?_);refine zy ?hg (N:=2) ?hd (cs:=#[.int .u64 a0_0,.int .u64 a0_1]) (t:=48) ?hr ?_;(case hd=>rfl);(case hg=>rfl);(case hr=>first|(go_simp;done)|(go_simp;rfl));intro gb101 hg w3 hbox hb;have n0_:=z4.mk (z9 zz45 hb);have n1_:=z4.mk (hbox);have n2_:=z4.mk ((by rw [hg];exact (ze zz45) : w.heap.size ≤ gb101));have n3_:=z4.mk ((by rw [hg];exact (ze zz45) : w.heap.size ≤ gb101));clear HB;have HB:=n0_;have BK101:=n1_;have GW101:=n2_;have GE101:=n3_;clear n0_ n1_ n2_ n3_;clear hb hbox hg)|((with_reducible refine zr (N:=3) rfl ?_);refine zy ?hg (N:=3) ?hd (cs:=#[.int .u64 a1_0,.int .u64 a1_1]) (t:=48) ?hr ?_;(case hd=>rfl);(case hg=>rfl);(case hr=>first|(go_simp;done)|(go_simp;rfl));intro gb102 hg w4 hbox hb;have n0_:=z4.mk (zh (g:=gb101) (o:=.cells #[.int .u64 a0_0,.int .u64 a0_1] 48 (0,0)) zz46 hb);have n1_:=z4.mk (z9 zz40 hb);have n2_:=z4.mk (hbox);have n3_:=z4.mk ((by rw [hg];exact (ze zz40) : w.heap.size ≤ gb102));have n4_:=z4.mk ((by rw [hg];exact (ze zz40) : w.heap.size ≤ gb102));have n5_:=z4.mk ((by rw [hg];exact Nat.ne_of_lt (zO (g:=gb101) (o:=.cells #[.int .u64 a0_0,.int .u64 a0_1] 48 (0,0)) zz46) : gb101 ≠ gb102));have n6_:=z4.mk ((by rw [hg];exact Nat.ne_of_gt (zO (g:=gb101) (o:=.cells #[.int .u64 a0_0,.int .u64 a0_1] 48 (0,0)) zz46) : gb102 ≠ gb101));clear BK101;clear HB;have BK101:=n0_;have HB:=n1_;have BK102:=n2_;have GW102:=n3_;have GE102:=n4_;have NB101_102:=n5_;have NB102_101:=n6_;clear n0_ n1_ n2_ n3_ n4_ n5_ n6_;clear hb hbox hg)|((with_reducible refine zr (N:=4) rfl ?_);refine zy ?hg (N:=4) ?hd (cs:=#[.int .u64 0,.int .u64 0]) (t:=48) ?hr ?_;(case hd=>rfl);(case hg=>rfl);(case hr=>first|(go_simp;done)|(go_simp;rfl));intro gb103 hg w5 hbox hb;have n0_:=z4.mk (zh (g:=gb101) (o:=.cells #[.int .u64 a0_0,.int .u64 a0_1] 48 (0,0)) zz46 hb);have n1_:=z4.mk (zh (g:=gb102) (o:=.cells #[.int .u64 a1_0,.int .u64 a1_1] 48 (0,0)) zz47 hb);have n2_:=z4.mk (z9 zz33 hb);have n3_:=z4.mk (hbox);have n4_:=z4.mk ((by rw [hg];exact (ze zz33) : w.heap.size ≤ gb103));have n5_:=z4.mk ((by rw [hg];exact (ze zz33) : w.heap.size ≤ gb103));have n6_:=z4.mk ((by rw [hg];exact Nat.ne_of_lt (zO (g:=gb101) (o:=.cells #[.int .u64 a0_0,.int .u64 a0_1] 48 (0,0)) zz46) : gb101 ≠ gb103));have n7_:=z4.mk ((by rw [hg];exact Nat.ne_of_gt (zO (g:=gb101) (o:=.cells #[.int .u64 a0_0,.int .u64 a0_1] 48 (0,0)) zz46) : gb103 ≠ gb101));have n8_:=z4.mk ((by rw [hg];exact Nat.ne_of_lt (zO (g:=gb102) (o:=.cells #[.int .u64 a1_0,.int .u64 a1_1] 48 (0,0)) zz47) : gb102 ≠ gb103));have n9_:=z4.mk ((by rw [hg];exact Nat.ne_of_gt (zO (g:=gb102) (o:=.cells #[.int .u64 a1_0,.int .u64 a1_1] 48 (0,0)) zz47) : gb103 ≠ gb102));clear BK101;clear BK102;clear HB;have BK101:=n0_;have BK102:=n1_;have HB:=n2_;have BK103:=n3_;have GW103:=n4_;have GE103:=n5_;have NB101_103:=n6_;have NB103_101:=n7_;have NB102_103:=n8_;have NB103_102:=n9_;clear n0_ n1_ n2_ n3_ n4_ n5_ n6_ n7_ n8_ n9_;clear hb hbox hg;have hnb6:=NB101_102.out;have hnc6:=NB102_101.out;have hnb7:=NB101_103.out;have hnc7:=NB103_101.out;have hcz8_0 : w5.cell? ⟨gb101,0,none⟩ = some (.int .u64 a0_0):=(zf BK101.out 0).trans rfl;have hcz8_1 : w5.cell? ⟨gb101,1,none⟩ = some (.int .u64 a0_1):=(zf BK101.out 1).trans rfl;have hfz8_0:=za BK101.out 0;have hfz8_1:=za BK101.out 1;have hnb9:=NB102_103.out;have hnc9:=NB103_102.out;have hcz10_0 : w5.cell? ⟨gb102,0,none⟩ = some (.int .u64 a1_0):=(zf BK102.out 0).trans rfl;have hcz10_1 : w5.cell? ⟨gb102,1,none⟩ = some (.int .u64 a1_1):=(zf BK102.out 1).trans rfl;have hfz10_0:=za BK102.out 0;have hfz10_1:=za BK102.out 1;have hcz11_0 : w5.cell? ⟨gb103,0,none⟩ = some (.int .u64 0):=(zf BK103.out 0).trans rfl;have hcz11_1 : w5.cell? ⟨gb103,1,none⟩ = some (.int .u64 0):=(zf BK103.out 1).trans rfl;have hfz11_0:=za BK103.out 0;have hfz11_1:=za BK103.out 1))
 refine bodyPost_ret (results_cell_row rfl _ _ gb103 48 #[.int .u64 (Go.bits .xor .u64 a0_0 a1_0),.int .u64 (Go.bits .xor .u64 a0_1 a1_1)] (0,0) _ rfl zz0 Try.underlying48 rfl zz84) rfl ?_
 exact ⟨by first|rfl|(simp [zi,zj] <;> rfl)|(simp [*,zi,zj] <;> rfl),by repeat (first|(with_reducible first|exact HB.out|apply zg|apply z6|apply zc|refine zd ?_ GE101.out|refine zd ?_ GE102.out|refine zd ?_ GE103.out)|exact HB.out)⟩
end Go.Proofs.Ytklkmflhnljbdaa.P
/- Elements of the greatest level, as the program and the document hold them: two words. Own text. -/
namespace Go.Proofs.Ytklkmflhnljbdaa.Sp
open Go.RowKit Go.Proofs.YtklkmflhnljbdaaW.PrintWords Go.Proofs.YtklkmflhnljbdaaW.PrintMore Go.Proofs.Ytklkmflhnljbdaa.P Go.Proofs.Ytklkmflhnljbdaa.Ar Go.Proofs.Ytklkmflhnljbdaa.Tw
set_option linter.unusedVariables false
set_option linter.unusedSimpArgs false
abbrev E := T 7
/-- The higher and the lower word. -/
def hi (x : E) : Int := ((val x.1 : Nat) : Int)
def lo (x : E) : Int := ((val x.2 : Nat) : Int)
def el (h l : Int) : E := mk (of 6 h.toNat) (of 6 l.toNat)
theorem hi_el {h l : Int} (h0 : 0 ≤ h) (h1 : h < 18446744073709551616) : hi (el h l) = h := by
  unfold hi el; rw [z2k, z2l 6 _ (by rw [z6p]; omega)]; omega
theorem lo_el {h l : Int} (h0 : 0 ≤ l) (h1 : l < 18446744073709551616) : lo (el h l) = l := by
  unfold lo el; rw [z2r, z2l 6 _ (by rw [z6p]; omega)]; omega
theorem z63 {x y : E} (h : hi x = hi y) (l : lo x = lo y) : x = y := by
  unfold hi lo at *; exact ext (z2E (by omega)) (z2E (by omega))
theorem z2Z : hi 0 = 0 := by unfold hi; rw [z3Z, z1N]; rfl
theorem z30 : lo 0 = 0 := by unfold lo; rw [z40, z1N]; rfl
theorem hi_one : hi 1 = 0 := by unfold hi; rw [z4e, z1N]; rfl
theorem lo_one : lo 1 = 1 := by unfold lo; rw [z4f, z2F]; rfl
theorem hi_bd (x : E) : 0 ≤ hi x ∧ hi x < 18446744073709551616 := by
  unfold hi; have := z1B x.1; rw [z6p] at this; omega
theorem z6z (x : E) : 0 ≤ lo x ∧ lo x < 18446744073709551616 := by
  unfold lo; have := z1B x.2; rw [z6p] at this; omega
theorem z4r (x : E) : val x = (hi x).toNat * 18446744073709551616 + (lo x).toNat := by
  unfold hi lo; rw [z1V, z6p]; simp
theorem eq_zero_iff (x : E) : x = 0 ↔ hi x = 0 ∧ lo x = 0 := ⟨fun h => by rw [h]; exact ⟨z2Z, z30⟩, fun h => z63 (h.1.trans z2Z.symm) (h.2.trans z30.symm)⟩
theorem xor_hi (x y : E) : Go.bits .xor .u64 (hi x) (hi y) = hi (x + y) := by
  unfold hi; rw [z29 _ _ (z1B x.1) (z1B y.1), z3B, z1U]
theorem xor_lo (x y : E) : Go.bits .xor .u64 (lo x) (lo y) = lo (x + y) := by
  unfold lo; rw [z29 _ _ (z1B x.2) (z1B y.2), z4V, z1U]
/-- Of a level. -/
def InL (l : Nat) (x : E) : Prop := val x < Q l
instance (l : Nat) (x : E) : Decidable (InL l x) := by unfold InL; infer_instance
def OfS (L : Int) (x : E) : Prop := 0 ≤ L ∧ L ≤ 7 ∧ InL L.toNat x
instance (L : Int) (x : E) : Decidable (OfS L x) := by unfold OfS; infer_instance
theorem z7d (x : E) : InL 7 x := z1B x
theorem z4Z (l : Nat) : InL l 0 := by unfold InL; rw [z1N]; exact z2G l
theorem z7c (l : Nat) : InL l 1 := by unfold InL; rw [z2F]; exact Nat.lt_of_lt_of_le (by decide : 1 < Q 0) (z3j (Nat.zero_le _))
theorem inL_mono {l m : Nat} (h : l ≤ m) {x : E} (hx : InL l x) : InL m x := Nat.lt_of_lt_of_le hx (z3j h)
theorem z4Y {l : Nat} {x y : E} (hx : InL l x) (hy : InL l y) : InL l (x + y) := by
  unfold InL at *; rw [z1U]; exact z2v hx hy
theorem z4a {l : Nat} (hl : l ≤ 7) {x y : E} (hx : InL l x) (hy : InL l y) : InL l (x * y) := by
  unfold InL at *; have := z6G hl hx hy; rwa [z27, z27] at this
theorem z7e {x : E} : InL 6 x ↔ hi x = 0 := by
  unfold InL; have h := z4r x; have h1 := hi_bd x; have h2 := z6z x
  rw [z6p, h]; constructor <;> intro g <;> omega
theorem z49 {l : Nat} (hl : l ≤ 6) {x : E} : InL l x ↔ hi x = 0 ∧ (lo x).toNat < Q l := by
  constructor
  · intro h
    have h6 := z7e.1 (inL_mono hl h)
    refine ⟨h6, ?_⟩
    unfold InL at h; rw [z4r, h6] at h; simpa using h
  · rintro ⟨h1, h2⟩
    unfold InL; rw [z4r, h1]; simpa using h2
theorem z4z (L : Int) (x : E) : Ev (fun k => zJ.f k L (hi x) (lo x)) (decide (OfS L x)) := by
  unfold zJ.f
  by_cases h0 : L < 0
  · refine Ev.pos h0 (Ev.step (fun k => by rw [zJ.j0]) (Ev.pos rfl (Ev.ret' ?_)))
    symm; rw [decide_eq_false_iff_not]; rintro ⟨h, _⟩; omega
  refine Ev.neg h0 ?_
  by_cases h7 : L > 7
  · rw [decide_eq_true h7]
    refine Ev.step (fun k => by rw [zJ.j0]) (Ev.pos rfl (Ev.ret' ?_))
    symm; rw [decide_eq_false_iff_not]; rintro ⟨_, h, _⟩; omega
  rw [decide_eq_false h7]
  refine Ev.step (fun k => by rw [zJ.j0]) (Ev.neg (by decide) ?_)
  obtain ⟨l, rfl⟩ := Int.eq_ofNat_of_zero_le (show 0 ≤ L by omega)
  have hS : OfS (l : Int) x ↔ InL l x := by
    unfold OfS; rw [Int.toNat_natCast]; exact ⟨fun h => h.2.2, fun h => ⟨by omega, by omega, h⟩⟩
  by_cases c7 : (l : Int) = 7
  · refine Ev.pos c7 (Ev.ret' ?_)
    have : l = 7 := by omega
    subst this
    symm; rw [decide_eq_true_eq, hS]; exact z7d x
  refine Ev.neg c7 ?_
  by_cases c6 : (l : Int) = 6
  · refine Ev.pos c6 (Ev.ret' ?_)
    have : l = 6 := by omega
    subst this
    rw [Bool.eq_iff_iff, beq_iff_eq, decide_eq_true_eq, hS]; exact z7e.symm
  refine Ev.neg c6 ?_
  have hl5 : l ≤ 5 := by omega
  have hl := z49 (l := l) (by omega) (x := x)
  by_cases c0 : hi x = 0
  · refine Ev.pos c0 (Ev.pos (Int.natCast_nonneg _) (Ev.ret' ?_))
    have h32 := z2j hl5
    have hlo : lo x = (((lo x).toNat : Nat) : Int) := by have := z6z x; omega
    rw [z33 l (by omega), hlo, z56 _ (2 ^ l) (by omega)]
    rw [Bool.eq_iff_iff, beq_iff_eq, decide_eq_true_eq, hS, hl]
    have hq : (lo x).toNat / 2 ^ 2 ^ l = 0 ↔ (lo x).toNat < Q l := by
      rw [Nat.div_eq_zero_iff]; unfold Q
      have := Nat.two_pow_pos (2 ^ l)
      omega
    constructor
    · intro h; exact ⟨c0, hq.1 (by exact_mod_cast h)⟩
    · rintro ⟨_, h⟩; exact_mod_cast hq.2 h
  · refine Ev.neg c0 (Ev.ret' ?_)
    symm; rw [decide_eq_false_iff_not, hS, hl]; exact fun h => c0 h.1
theorem z5d (x y : E) : z1t.f (hi x) (lo x) (hi y) (lo y) = some (hi (x + y), lo (x + y)) := by
  unfold z1t.f; rw [xor_hi, xor_lo]
theorem z4k (x y : E) : z1u.f (hi x) (lo x) (hi y) (lo y) = some (hi (x + y), lo (x + y)) := by
  unfold z1u.f; rw [xor_hi, xor_lo]
theorem z6M : z1Z.f = some (hi 1, lo 1) := by unfold z1Z.f; rw [hi_one, lo_one]
theorem Mul_out {L : Int} {x y : E} (h : ¬ (OfS L x ∧ OfS L y)) : Ev (fun k => zM.f k L (hi x) (lo x) (hi y) (lo y)) (0, 0) := by
  unfold zM.f
  refine Ev.bnd (z4z L x) ?_
  by_cases c : OfS L x
  · refine Ev.pos (decide_eq_true c) (Ev.bnd (z4z L y) ?_)
    rw [decide_eq_false (fun g => h ⟨c, g⟩)]
    exact Ev.step (fun k => by rw [zM.j0]) (Ev.pos (by rfl) (Ev.ret _))
  · exact Ev.neg (by simpa using c) (Ev.step (fun k => by rw [zM.j0]) (Ev.pos rfl (Ev.ret _)))
theorem z5V {l : Nat} (hl : l ≤ 7) {x y : E} (hx : InL l x) (hy : InL l y) : Ev (fun k => zM.f k (l : Int) (hi x) (lo x) (hi y) (lo y)) (hi (x * y), lo (x * y)) := by
  unfold zM.f
  have hS : ∀ z, InL l z → OfS (l : Int) z := fun z hz => ⟨by omega, by omega, by rw [Int.toNat_natCast]; exact hz⟩
  refine Ev.bnd (z4z (l : Int) x) (Ev.pos (decide_eq_true (hS x hx)) (Ev.bnd (z4z (l : Int) y) ?_))
  rw [decide_eq_true (hS y hy)]
  refine Ev.step (fun k => by rw [zM.j0]) (Ev.neg (by decide) ?_)
  by_cases c : l ≤ 6
  · refine Ev.pos (by omega) ?_
    have ex := (z49 c).1 hx
    have ey := (z49 c).1 hy
    have e1 : lo x = (((lo x).toNat : Nat) : Int) := by have := z6z x; omega
    have e2 : lo y = (((lo y).toNat : Nat) : Int) := by have := z6z y; omega
    have ev := z68 l c (lo x).toNat (lo y).toNat ex.2 ey.2
    rw [← e1, ← e2] at ev
    refine Ev.bnd ev (Ev.ret' ?_)
    have hz := (z49 c).1 (z4a hl hx hy)
    have e3 : lo (x * y) = (((lo (x * y)).toNat : Nat) : Int) := by have := z6z (x * y); omega
    rw [hz.1, e3]
    congr 2
    have vx : val x = (lo x).toNat := by rw [z4r, ex.1]; simp
    have vy : val y = (lo y).toNat := by rw [z4r, ey.1]; simp
    have vz : val (x * y) = (lo (x * y)).toNat := by rw [z4r, hz.1]; simp
    rw [← vz, ← vx, ← vy, ← z3x hl hx hy, z27, z27]
  · have : l = 7 := by omega
    subst this
    refine Ev.neg (by decide) ?_
    have v1 := z1B x.1
    have v2 := z1B x.2
    have v3 := z1B y.1
    have v4 := z1B y.2
    have m1 := z68 6 (by decide) _ _ v1 v3
    have m2 := z68 6 (by decide) _ _ v2 v4
    have m3 := z68 6 (by decide) _ _ (z2v v1 v2) (z2v v3 v4)
    rw [z27, z27] at m1 m2
    rw [← z1U, ← z1U, z27, z27] at m3
    have m4 := z7k 6 (by decide) _ (z1B (x.1 * y.1))
    rw [z27] at m4
    refine Ev.bnd m1 (Ev.bnd m2 ?_)
    have e1 : Go.bits .xor .u64 (hi x) (lo x) = ((val (x.1 + x.2) : Nat) : Int) := by unfold hi lo; rw [z29 _ _ v1 v2, z1U]
    have e2 : Go.bits .xor .u64 (hi y) (lo y) = ((val (y.1 + y.2) : Nat) : Int) := by unfold hi lo; rw [z29 _ _ v3 v4, z1U]
    simp only [e1, e2]
    refine Ev.bnd m3 (Ev.bnd m4 (Ev.ret' ?_))
    rw [z29 _ _ (z1B _) (z1B _), ← z1U, z29 _ _ (z1B _) (z1B _), ← z1U, z29 _ _ (z1B _) (z1B _), ← z1U, z29 _ _ (z1B _) (z1B _), ← z1U, karatsuba]
    rfl
/-- The program's element, the document's. -/
def toS (x : E) : S37 := ⟨hi x, lo x⟩
def toR (x : E) : S48 := ⟨hi x, lo x⟩
def WfS (e : S37) : Prop := (0 ≤ e.f0 ∧ e.f0 < 18446744073709551616) ∧ (0 ≤ e.f1 ∧ e.f1 < 18446744073709551616)
theorem z2L (x : E) : (toS x).f0 = hi x := rfl
theorem z2M (x : E) : (toS x).f1 = lo x := rfl
theorem z6j (x : E) : (toR x).f0 = hi x := rfl
theorem z6k (x : E) : (toR x).f1 = lo x := rfl
theorem z6l : toS 0 = z37 := by unfold toS; rw [z2Z, z30]; rfl
theorem toR_zero : toR 0 = z48 := by unfold toR; rw [z2Z, z30]; rfl
theorem toS_el (e : S37) (h : WfS e) : toS (el e.f0 e.f1) = e := by unfold toS; rw [hi_el h.1.1 h.1.2, lo_el h.2.1 h.2.2]
theorem toS_inj {x y : E} (h : toS x = toS y) : x = y := by
  unfold toS at h; injection h with h1 h2; exact z63 h1 h2
theorem wf_of {e : S37} (h : (Lit.int .u64 e.f0).wf = true ∧ (Lit.int .u64 e.f1).wf = true) : WfS e := ⟨wf_u64 h.1, wf_u64 h.2⟩
/-- A list that came in is a list of elements. -/
theorem z7i (l : List S37) (h : ∀ e ∈ l, ((Lit.int .u64 e.f0).wf = true) ∧ ((Lit.int .u64 e.f1).wf = true)) : ∃ X : List E, l = X.map toS := by
  refine ⟨l.map fun e => el e.f0 e.f1, ?_⟩
  rw [List.map_map]
  conv => lhs; rw [← List.map_id l]
  apply List.map_congr_left
  intro e he
  exact (toS_el e (wf_of (h e he))).symm
theorem elem_of (e : S37) (h : ((Lit.int .u64 e.f0).wf = true) ∧ ((Lit.int .u64 e.f1).wf = true)) : ∃ x : E, e = toS x := ⟨_, (toS_el e (wf_of h)).symm⟩
theorem rdS (X : List E) (i : Nat) : rd_T37 (X.map toS) (i : Int) = toS (X.getD i 0) := by
  unfold rd_T37; rw [Int.toNat_natCast, ← z6l, List.getD_eq_getElem?_getD, List.getD_eq_getElem?_getD, List.getElem?_map]
  cases X[i]? <;> rfl
theorem rdR (X : List E) (i : Nat) : z1A (X.map toR) (i : Int) = toR (X.getD i 0) := by
  unfold z1A; rw [Int.toNat_natCast, ← toR_zero, List.getD_eq_getElem?_getD, List.getD_eq_getElem?_getD, List.getElem?_map]
  cases X[i]? <;> rfl
end Go.Proofs.Ytklkmflhnljbdaa.Sp
/- The document's product by shifts and masks is the tower's. Own text; nothing of the program in it. -/
namespace Go.Proofs.Ytklkmflhnljbdaa.Tw
set_option linter.unusedVariables false
set_option linter.unusedSimpArgs false
theorem z3a {n a b : Nat} (hb : b < Q n) : (a * Q n + b) / Q n = a := by rw [Nat.mul_comm, Nat.mul_add_div (z2G n), Nat.div_eq_of_lt hb, Nat.add_zero]
theorem z3b {n a b : Nat} (hb : b < Q n) : (a * Q n + b) % Q n = b := by rw [Nat.mul_comm, Nat.mul_add_mod, Nat.mod_eq_of_lt hb]
theorem z5X {n a b c d : Nat} (hb : b < Q n) (hd : d < Q n) : (a * Q n + b) &&& (c * Q n + d) = (a &&& c) * Q n + (b &&& d) := by
  have h1 : ((a * Q n + b) &&& (c * Q n + d)) / Q n = a &&& c := by
    have e1 := z3a (n := n) (a := a) hb
    have e2 := z3a (n := n) (a := c) hd
    unfold Q at *
    rw [Nat.and_div_two_pow, e1, e2]
  have h2 : ((a * Q n + b) &&& (c * Q n + d)) % Q n = b &&& d := by
    have e1 := z3b (n := n) (a := a) hb
    have e2 := z3b (n := n) (a := c) hd
    unfold Q at *
    rw [Nat.and_mod_two_pow, e1, e2]
  have := Nat.div_add_mod ((a * Q n + b) &&& (c * Q n + d)) (Q n)
  rw [h1, h2, Nat.mul_comm] at this
  exact this.symm
theorem z7o {n a b c d : Nat} (hb : b < Q n) (hd : d < Q n) : (a * Q n + b) ||| (c * Q n + d) = (a ||| c) * Q n + (b ||| d) := by
  have h1 : ((a * Q n + b) ||| (c * Q n + d)) / Q n = a ||| c := by
    have e1 := z3a (n := n) (a := a) hb
    have e2 := z3a (n := n) (a := c) hd
    unfold Q at *
    rw [Nat.or_div_two_pow, e1, e2]
  have h2 : ((a * Q n + b) ||| (c * Q n + d)) % Q n = b ||| d := by
    have e1 := z3b (n := n) (a := a) hb
    have e2 := z3b (n := n) (a := c) hd
    unfold Q at *
    rw [Nat.or_mod_two_pow, e1, e2]
  have := Nat.div_add_mod ((a * Q n + b) ||| (c * Q n + d)) (Q n)
  rw [h1, h2, Nat.mul_comm] at this
  exact this.symm
theorem or_lt {n x y : Nat} (hx : x < Q n) (hy : y < Q n) : x ||| y < Q n := Nat.or_lt_two_pow hx hy
/-- The lower halves of all blocks of 2^(j+1) bits in a word of 2^n. -/
def M (j : Nat) : Nat → Nat
  | 0 => 0
  | n + 1 => if n = j then Q j - 1 else if n < j then 0 else M j n * Q n + M j n
theorem M_base (j : Nat) : M j (j + 1) = Q j - 1 := by simp [M]
theorem z6L {j n : Nat} (h : j + 1 ≤ n) : M j (n + 1) = M j n * Q n + M j n := by
  rw [M, if_neg (by omega), if_neg (by omega)]
/-- What is left of a word without its highest block of 2^j bits. -/
def H (j n : Nat) : Nat := 2 ^ (2 ^ n - 2 ^ j)
theorem z6o {j n : Nat} (h : j ≤ n) : H j n * Q j = Q n := by
  have := Nat.pow_le_pow_right (show 2 > 0 by decide) h
  unfold H Q; rw [← Nat.pow_add, Nat.sub_add_cancel this]
theorem H_pos (j n : Nat) : 0 < H j n := Nat.two_pow_pos _
theorem z6K {j n : Nat} (h : j ≤ n) : H j (n + 1) = H j n * Q n := by
  have := Nat.pow_le_pow_right (show 2 > 0 by decide) h
  unfold H Q; rw [← Nat.pow_add]; congr 1; rw [Nat.pow_succ]; omega
theorem H_self (j : Nat) : H j j = 1 := by unfold H; rw [Nat.sub_self, Nat.pow_zero]
theorem H_base (j : Nat) : H j (j + 1) = Q j := by rw [z6K (Nat.le_refl _), H_self, Nat.one_mul]
theorem H_le {j n : Nat} (h : j ≤ n) : H j n ≤ Q n := by rw [← z6o h]; exact Nat.le_mul_of_pos_right _ (z2G j)
theorem lt_H_mul {j n x : Nat} (h : j ≤ n) (hx : x < H j n) : x * Q j < Q n := by
  rw [← z6o h]; exact Nat.mul_lt_mul_of_pos_right hx (z2G j)
theorem M_lt {j : Nat} : ∀ d, M j (j + 1 + d) < H j (j + 1 + d)
  | 0 => by rw [Nat.add_zero, M_base, H_base]; have := z2G j; omega
  | d + 1 => by
    have ih := M_lt (j := j) d
    rw [← Nat.add_assoc, z6L (by omega), z6K (by omega)]
    have h2 : M j (j + 1 + d) < Q (j + 1 + d) := Nat.lt_of_lt_of_le ih (H_le (by omega))
    have h3 : M j (j + 1 + d) * Q (j + 1 + d) + Q (j + 1 + d) ≤ H j (j + 1 + d) * Q (j + 1 + d) := by
      have := Nat.mul_le_mul_right (Q (j + 1 + d)) ih
      rw [Nat.succ_mul] at this; exact this
    omega
theorem M_lt' {j n : Nat} (h : j + 1 ≤ n) : M j n < H j n := by
  obtain ⟨d, rfl⟩ := Nat.le.dest h; exact M_lt d
theorem M_lt_Q {j n : Nat} (h : j + 1 ≤ n) : M j n < Q n := Nat.lt_of_lt_of_le (M_lt' h) (H_le (by omega))
theorem z2I {x m b : Nat} (h : m < b) : x &&& m < b := Nat.lt_of_le_of_lt Nat.and_le_right h
/-- A word times the generator of the level j, block by block. -/
def tw (n : Nat) : Nat → Nat → Nat
  | 0, v => v
  | j + 1, v => (((v &&& M j n) ^^^ tw n j ((v / Q j) &&& M j n)) * Q j) % Q n ||| ((v / Q j) &&& M j n)
theorem z5l (j : Nat) : val (gen j) < Q j := z1B _
theorem z6h {j g : Nat} (hg : g < Q j) : ∀ d u, u < H j (j + d) → val (of (j + d) g * of (j + d) u) < H j (j + d)
  | 0, u, hu => by
    rw [Nat.add_zero, H_self] at hu ⊢
    have : u = 0 := by omega
    rw [this, z31, mul_zero, z1N]; decide
  | d + 1, u, hu => by
    rw [← Nat.add_assoc] at hu ⊢
    rw [z6K (Nat.le_add_right _ _)] at hu ⊢
    have hg' : g < Q (j + d) := Nat.lt_of_lt_of_le hg (z3j (Nat.le_add_right _ _))
    have e1 : of (j + d + 1) g = up (of (j + d) g) := z5o hg'
    rw [e1, z3E, z1V, z2k, z2r, z2n, z2k, z2r]
    have h1 := z6h hg d (u / Q (j + d)) (Nat.div_lt_of_lt_mul (by rw [Nat.mul_comm]; exact hu))
    have h2 := z1B (of (j + d) g * of (j + d) (u % Q (j + d)))
    have h3 : val (of (j + d) g * of (j + d) (u / Q (j + d))) * Q (j + d) + Q (j + d) ≤ H j (j + d) * Q (j + d) := by
      have := Nat.mul_le_mul_right (Q (j + d)) h1
      rw [Nat.succ_mul] at this; exact this
    omega
theorem tw_split {j : Nat} (C : ∀ n, j ≤ n → ∀ v, v < Q n → tw n j v = val (of n (val (gen j)) * of n v)) (D : ∀ n, j ≤ n → ∀ h l, h < Q n → l < Q n → tw (n + 1) j (h * Q n + l) = tw n j h * Q n + tw n j l) :
    ∀ n, j + 1 ≤ n → ∀ h l, h < Q n → l < Q n → tw (n + 1) (j + 1) (h * Q n + l) = tw n (j + 1) h * Q n + tw n (j + 1) l ∧ tw n (j + 1) l < Q n := by
  intro n hn h l hh hl
  have hM := M_lt' hn
  have hMQ := M_lt_Q hn
  have hjn : j ≤ n := by omega
  have hQj := z2G j
  -- the higher parts
  have hdiv : (h * Q n + l) / Q j = (h / Q j) * Q n + ((h % Q j) * H j n + l / Q j) := by
    have e1 : h * Q n = (h * H j n) * Q j := by rw [← z6o hjn, Nat.mul_assoc]
    rw [e1, Nat.mul_comm (h * H j n), Nat.mul_add_div hQj]
    have e2 := Nat.div_add_mod h (Q j)
    have e3 : h * H j n = (h / Q j) * Q n + (h % Q j) * H j n := by
      conv => lhs; rw [← e2]
      rw [Nat.add_mul, ← z6o hjn]
      congr 1
      rw [Nat.mul_comm (Q j), Nat.mul_assoc, Nat.mul_comm (Q j)]
    rw [e3, Nat.add_assoc]
  have hlq : l / Q j < H j n := Nat.div_lt_of_lt_mul (by rw [Nat.mul_comm, z6o hjn]; exact hl)
  have hl' : (h % Q j) * H j n + l / Q j < Q n := by
    have h1 : (h % Q j) * H j n + H j n ≤ Q j * H j n := by
      have := Nat.mul_le_mul_right (H j n) (Nat.mod_lt h hQj)
      rw [Nat.succ_mul] at this; exact this
    rw [Nat.mul_comm (Q j), z6o hjn] at h1
    omega
  have hand : ((h % Q j) * H j n + l / Q j) &&& M j n = (l / Q j) &&& M j n := by
    have e1 : ∀ x, x &&& M j n = (x % H j n) &&& M j n := fun x => by
      have h3 : x &&& M j n < H j n := z2I hM
      have h4 : (x &&& M j n) % H j n = x &&& M j n := Nat.mod_eq_of_lt h3
      rw [← h4]; unfold H; rw [Nat.and_mod_two_pow]
      rw [show M j n % 2 ^ (2 ^ n - 2 ^ j) = M j n from Nat.mod_eq_of_lt hM]
    rw [e1, Nat.mul_comm, Nat.mul_add_mod, ← e1]
  have hhi : ((h * Q n + l) / Q j) &&& M j (n + 1) = ((h / Q j) &&& M j n) * Q n + ((l / Q j) &&& M j n) := by
    rw [z6L hn, hdiv, z5X hl' hMQ, hand]
  have hlo : (h * Q n + l) &&& M j (n + 1) = (h &&& M j n) * Q n + (l &&& M j n) := by rw [z6L hn, z5X hl hMQ]
  have b1 : (h / Q j) &&& M j n < Q n := z2I hMQ
  have b2 : (l / Q j) &&& M j n < Q n := z2I hMQ
  have b3 : l &&& M j n < H j n := z2I hM
  have b4 : (l / Q j) &&& M j n < H j n := z2I hM
  have b5 : tw n j ((l / Q j) &&& M j n) < H j n := by
    rw [C n hjn _ b2]
    obtain ⟨d, rfl⟩ := Nat.le.dest hjn
    exact z6h (z5l j) d _ b4
  have b6 : (l &&& M j n) ^^^ tw n j ((l / Q j) &&& M j n) < H j n := Nat.xor_lt_two_pow b3 b5
  have b7 := lt_H_mul hjn b6
  have b8 : tw n j ((l / Q j) &&& M j n) < Q n := Nat.lt_of_lt_of_le b5 (H_le hjn)
  have b9 : l &&& M j n < Q n := z2I hMQ
  constructor
  · simp only [tw]
    rw [hhi, hlo, D n hjn _ _ b1 b2, z6n b9 b8, Nat.add_mul]
    have e5 : ∀ X Y : Nat, Y < Q n → (X * Q n * Q j + Y) % Q (n + 1) = ((X * Q j) % Q n) * Q n + Y := by
      intro X Y hY
      rw [show X * Q n * Q j = X * Q j * Q n by rw [Nat.mul_assoc, Nat.mul_comm (Q n), ← Nat.mul_assoc], z2X]
      rw [Nat.mul_comm (X * Q j), Nat.mod_mul, Nat.mul_add_mod, Nat.mod_eq_of_lt hY, Nat.mul_add_div (z2G n), Nat.div_eq_of_lt hY, Nat.add_zero, Nat.mul_comm (Q n), Nat.add_comm]
    rw [e5 _ _ b7, z7o b7 b2, Nat.mod_eq_of_lt b7]
  · simp only [tw]
    exact or_lt (Nat.mod_lt _ (z2G n)) b2
theorem z7x : ∀ j, (∀ n, j ≤ n → ∀ v, v < Q n → tw n j v = val (of n (val (gen j)) * of n v)) ∧ (∀ n, j ≤ n → ∀ h l, h < Q n → l < Q n → tw (n + 1) j (h * Q n + l) = tw n j h * Q n + tw n j l)
  | 0 => ⟨fun n _ v hv => by rw [z62, z2F, of_one, one_mul, z2l _ _ hv]; rfl, fun n _ h l _ _ => rfl⟩
  | j + 1 => by
    obtain ⟨C, D⟩ := z7x j
    have D' := tw_split C D
    refine ⟨?_, fun n hn h l hh hl => (D' n hn h l hh hl).1⟩
    intro n hn
    obtain ⟨d, rfl⟩ := Nat.le.dest hn
    clear hn
    induction d with
    | zero =>
      intro v hv
      rw [Nat.add_zero] at hv ⊢
      have hQj := z2G j
      have hd : v / Q j < Q j := Nat.div_lt_of_lt_mul (by rw [← z2X]; exact hv)
      have hm : v % Q j < Q j := Nat.mod_lt _ hQj
      have hmask : ∀ x, x &&& M j (j + 1) = x % Q j := fun x => by rw [M_base]; unfold Q; rw [Nat.and_two_pow_sub_one_eq_mod]
      have e1 : tw (j + 1) j (v / Q j) = val (gen j * of j (v / Q j)) := by
        rw [C (j + 1) (by omega) _ (Nat.lt_of_lt_of_le hd (z6N j)), z4s (d := 1) (z5l j) hd, z27]
      simp only [tw]
      rw [hmask, hmask, Nat.mod_eq_of_lt hd, e1]
      have hv2 := z1B (gen j * of j (v / Q j))
      have hX := z2v hm hv2
      rw [Nat.mod_eq_of_lt (show _ * Q j < Q (j + 1) by rw [z2X]; exact Nat.mul_lt_mul_of_pos_right hX hQj)]
      have hor : ∀ X, X * Q j ||| (v / Q j) = X * Q j + v / Q j := fun X => by
        have := z7o (n := j) (a := X) (b := 0) (c := 0) (d := v / Q j) hQj hd
        simpa using this
      rw [hor, z27, z1V]
      congr 1
      · congr 1
        rw [z2a, z2u, z2C, one_mul, zero_mul, one_mul, add_zero, z2n, z2k, z2r, z1U, z2l _ _ hm]
      · rw [z2f, z2u, z2C, one_mul, zero_mul, zero_add, z2n, z2k, z2l _ _ hd]
    | succ d ih =>
      intro v hv
      rw [← Nat.add_assoc] at hv ⊢
      have hvd := Nat.div_add_mod v (Q (j + 1 + d))
      rw [Nat.mul_comm] at hvd
      have h1 : v / Q (j + 1 + d) < Q (j + 1 + d) := Nat.div_lt_of_lt_mul (by rw [← z2X]; exact hv)
      have h2 : v % Q (j + 1 + d) < Q (j + 1 + d) := Nat.mod_lt _ (z2G _)
      have hg : val (gen (j + 1)) < Q (j + 1 + d) := Nat.lt_of_lt_of_le (z5l (j + 1)) (z3j (Nat.le_add_right _ _))
      have e1 : of (j + 1 + d + 1) (val (gen (j + 1))) = up (of (j + 1 + d) (val (gen (j + 1)))) := z5o hg
      rw [e1, z3E, z1V, z2k, z2r, z2n, z2k, z2r, ← ih _ h1, ← ih _ h2]
      conv => lhs; rw [← hvd]
      exact (D' (j + 1 + d) (by omega) _ _ h1 h2).1
theorem tw_eq {j n v : Nat} (h : j ≤ n) (hv : v < Q n) : tw n j v = val (of n (val (gen j)) * of n v) := (z7x j).1 n h v hv
/-- A bit of a level is a product of generators. -/
def gp (n : Nat) : Nat → Nat → T n
  | 0, _ => 1
  | m + 1, i => (if i.testBit m then of n (val (gen (m + 1))) else 1) * gp n m i
theorem gp_up {n : Nat} : ∀ m i, m ≤ n → gp (n + 1) m i = up (gp n m i)
  | 0, i, _ => rfl
  | m + 1, i, h => by
    show (if i.testBit m then of (n + 1) (val (gen (m + 1))) else 1) * gp (n + 1) m i = up ((if i.testBit m then of n (val (gen (m + 1))) else 1) * gp n m i)
    rw [z7A, gp_up m i (by omega)]
    congr 1
    split
    · exact z5o (Nat.lt_of_lt_of_le (z5l (m + 1)) (z3j h))
    · rfl
theorem gp_mod {n : Nat} : ∀ m i k, m ≤ k → gp n m (i % 2 ^ k) = gp n m i
  | 0, i, k, _ => rfl
  | m + 1, i, k, h => by
    show (if (i % 2 ^ k).testBit m then _ else _) * gp n m (i % 2 ^ k) = (if i.testBit m then _ else _) * gp n m i
    rw [gp_mod m i k (by omega), Nat.testBit_mod_two_pow, decide_eq_true (by omega), Bool.true_and]
theorem gp_bit : ∀ n i, i < 2 ^ n → gp n n i = of n (2 ^ i)
  | 0, i, h => by
    have : i = 0 := by simpa using h
    rw [this]; rfl
  | n + 1, i, h => by
    show (if i.testBit n then of (n + 1) (val (gen (n + 1))) else 1) * gp (n + 1) n i = of (n + 1) (2 ^ i)
    rw [gp_up n i (Nat.le_refl _), ← gp_mod n i n (Nat.le_refl _), gp_bit n _ (Nat.mod_lt _ (Nat.two_pow_pos n))]
    rw [Nat.pow_succ] at h
    by_cases c : i < 2 ^ n
    · rw [Nat.testBit_lt_two_pow c, Nat.mod_eq_of_lt c]
      rw [z5o (show 2 ^ i < Q n from Nat.pow_lt_pow_right (by decide) c)]
      simp only [Bool.false_eq_true, if_false, one_mul]; rfl
    · have hi : i % 2 ^ n = i - 2 ^ n := by rw [Nat.mod_eq_sub_mod (by omega), Nat.mod_eq_of_lt (by omega)]
      have hb : i.testBit n = true := by
        have := Nat.testBit_two_pow_add_eq (i - 2 ^ n) n
        rw [show 2 ^ n + (i - 2 ^ n) = i by omega, Nat.testBit_lt_two_pow (show i - 2 ^ n < 2 ^ n by omega)] at this
        simpa using this
      rw [hb, if_pos rfl, hi, z27]
      have e : 2 ^ i = 2 ^ (i - 2 ^ n) * Q n + 0 := by
        unfold Q; rw [← Nat.pow_add, Nat.add_zero]; congr 1; omega
      rw [e, z2n, z3a (z2G n), z3b (z2G n), z31]
      apply ext
      · rw [z2a, z2u, z2C, z35, z4q, one_mul, zero_mul, mul_zero, mul_zero, add_zero, add_zero]; rfl
      · rw [z2f, z2u, z2C, z35, zero_mul, mul_zero, add_zero]; rfl
/-- An element is the sum of its bits. -/
theorem bits_sum {n : Nat} (b k : Nat) (hb : b < Q n) (hk : k < 2 ^ n) : of n (b % 2 ^ (k + 1)) = of n (b % 2 ^ k) + (if b.testBit k then of n (2 ^ k) else 0) := by
  have h2 : 2 ^ k < Q n := Nat.pow_lt_pow_right (by decide) hk
  have h1 : b % 2 ^ k < Q n := Nat.lt_trans (Nat.mod_lt _ (Nat.two_pow_pos k)) h2
  have e : b % 2 ^ (k + 1) = b % 2 ^ k ^^^ (if b.testBit k then 2 ^ k else 0) := by
    apply Nat.eq_of_testBit_eq
    intro i
    rw [Nat.testBit_xor, Nat.testBit_mod_two_pow, Nat.testBit_mod_two_pow]
    by_cases hi : i = k
    · subst hi
      cases hbi : b.testBit i <;> simp
    · by_cases hlt : i < k
      · have : decide (i < k + 1) = true := decide_eq_true (by omega)
        rw [this, decide_eq_true hlt]
        split
        · rw [Nat.testBit_two_pow_of_ne (by omega)]; simp
        · simp
      · rw [decide_eq_false (by omega), decide_eq_false hlt]
        split
        · rw [Nat.testBit_two_pow_of_ne (by omega)]; simp
        · simp
  rw [e]
  split
  · rw [z7m h1 h2]
  · rw [Nat.xor_zero, add_zero]
end Go.Proofs.Ytklkmflhnljbdaa.Tw
namespace Go.Proofs.Ytklkmflhnljbdaa.P
open Go.RowKit Go.Proofs.YtklkmflhnljbdaaW.PrintWords Go.Proofs.YtklkmflhnljbdaaW.PrintLast Go.Proofs.YtklkmflhnljbdaaW.PrintMore
attribute [local go_sem] z17 z19 z1m z1n zU zV z18 z1a   -- for this text's walks alone
set_option linter.unusedVariables false
set_option linter.unusedSimpArgs false
def zN.j0 : Nat → Int → Bool → Option (Int × Int)
 | 0,_,_=>none
 | k + 1,x0,x8=>if x8 = true then (some (0,0)) else (if x0 > 63 then (if 0 ≤ (IntKind.u64.wrap (wrap64 (x0 - 64))) then (some (shl .u64 1 (IntKind.u64.wrap (wrap64 (x0 - 64))),0)) else (none)) else (if 0 ≤ (IntKind.u64.wrap (x0)) then (some (0,shl .u64 1 (IntKind.u64.wrap (x0)))) else (none)))
def zN.f (k : Nat) (a0 : Int) : Option (Int × Int):=if a0 < 0 then (zN.j0 k a0 true) else (zN.j0 k a0 (decide (a0 > 127)))
theorem zN.z1b : ∀ k,(∀ y0 y1,LeO (zN.j0 k y0 y1) (zN.j0 (k + 1) y0 y1))
 | 0=>fun _ _ r h=>by simp [zN.j0] at h
 | k + 1=>by
  have ih0:=zN.z1b k
  · intro y0 y1
    unfold zN.j0
    repeat' first
    | (with_reducible exact ih0 _ _)
    | (with_reducible exact LeO.refl _)
    | (with_reducible exact LeO.none _)
    | (with_reducible refine LeO.ite ?_ ?_)
    | (with_reducible refine LeO.bind ?_ (fun _=>?_))
    | exact ih0 _ _
    | exact LeO.none _
    | refine LeO.ite ?_ ?_
    | refine LeO.bind ?_ (fun _=>?_)
theorem zN.mono : ∀ a0 k,LeO (zN.f k a0) (zN.f (k + 1) a0):=by
 intro a0 k
 have ih0:=zN.z1b k
 unfold zN.f
 repeat' first
  | (with_reducible exact ih0 _ _)
  | (with_reducible exact LeO.refl _)
  | (with_reducible exact LeO.none _)
  | (with_reducible refine LeO.ite ?_ ?_)
  | (with_reducible refine LeO.bind ?_ (fun _=>?_))
  | exact ih0 _ _
  | exact LeO.none _
  | refine LeO.ite ?_ ?_
  | refine LeO.bind ?_ (fun _=>?_)
set_option maxHeartbeats 8000000 in
set_option maxRecDepth 100000 in
theorem zN.calls (k : Nat) (a0 : Int) (r1 : Int) (r2 : Int) (w : World) (h : zN.f k a0 = some (r1,r2)) :
 Calls Try.prog 65 #[.int .i64 a0] w fun e w'=>e = .returned (.agg #[.int .u64 r1,.int .u64 r2]) ∧ Below w.heap.size w w':=by
 have hu48:=Try.underlying48
 have HB:=z4.mk (Below.refl w.heap.size w)
 have H : (if a0 < 0 then (zN.j0 k a0 true) else (zN.j0 k a0 (decide (a0 > 127)))) = some (r1,r2):=h
 clear h
 have HC2:=z4.mk H
 clear H
 go_enter Try.func65,Try.ntmps65
 go_upto_region 1 with (first|((with_reducible refine zr (N:=2) rfl ?_);refine zy ?hg (N:=2) ?hd (cs:=#[.int .u64 0,.int .u64 0]) (t:=48) ?hr ?_;(case hd=>rfl);(case hg=>rfl);(case hr=>first|(go_simp;done)|(go_simp;rfl));intro gb101 hg w3 hbox hb;have n0_:=z4.mk (z9 zz45 hb);have n1_:=z4.mk (hbox);have n2_:=z4.mk ((by rw [hg];exact (ze zz45) : w.heap.size ≤ gb101));have n3_:=z4.mk ((by rw [hg];exact (ze zz45) : w.heap.size ≤ gb101));clear HB;have HB:=n0_;have BK101:=n1_;have GW101:=n2_;have GE101:=n3_;clear n0_ n1_ n2_ n3_;clear hb hbox hg))
 (try simp only [Act.put,List.setIfInBounds_toArray,List.set_cons_zero,List.set_cons_succ])
 go_cut [8] (fun v8 wc=>∃ (kq : Nat) (x8_1 : Bool),v8 = .bool x8_1 ∧ z4 (zN.j0 kq a0 x8_1 = some (r1,r2)) ∧ z4 (kq ≤ k) ∧ z4 (wc.heap[gb101]? = some (.cells #[.int .u64 0,.int .u64 0] 48 (0,0))) ∧ z4 (Below w.heap.size w wc))
 case first =>
  have H:=HC2.out
  clear HC2
  by_cases c4 : a0 < 0
  rotate_left
  · rw [if_neg c4] at H
    have c4b0 : decide (a0 < 0) = false:=decide_eq_false c4
    clear c4
    (first|rw [c4b0]|(simp only [zY,z16];rw [c4b0])|skip)
    have H':=z4.mk H
    clear H
    go_wp2
    go_meet
    case rel=>exact ⟨_,(decide (a0 > 127)),zz81,H',⟨by first|omega|exact Nat.le_refl _⟩,⟨by (with_reducible repeat (first|refine z8 ?_ _|refine zb ?_|refine z7 ?_ _));exact BK101.out⟩,⟨by repeat (first|(with_reducible first|exact HB.out|apply zg|apply z6|apply zc|refine zd ?_ GE101.out)|exact HB.out)⟩⟩
  rw [if_pos c4] at H
  have c4b0 : decide (a0 < 0) = true:=decide_eq_true c4
  clear c4
  (first|rw [c4b0]|(simp only [zY,z16];rw [c4b0])|skip)
  have H':=z4.mk H
  clear H
  go_wp2
  go_meet
  case rel=>exact ⟨_,(true),zz81,H',⟨by first|omega|exact Nat.le_refl _⟩,⟨by (with_reducible repeat (first|refine z8 ?_ _|refine zb ?_|refine z7 ?_ _));exact BK101.out⟩,⟨by repeat (first|(with_reducible first|exact HB.out|apply zg|apply z6|apply zc|refine zd ?_ GE101.out)|exact HB.out)⟩⟩
 case rest =>
  clear HC2
  (try clear p2);(try clear c4);(try clear c4b0)
  obtain ⟨kq,x8_1,rfl,HA,HJ1,BK101,HB⟩:=hcut
  cases kq with
  | zero=>exact absurd HA.out (by simp [zN.j0])
  | succ kj1 =>
   have H:=HA.out
   clear HA
   simp only [zN.j0] at H
   by_cases c5 : x8_1 = true
   · subst c5
     have H1 : (some (0,0)) = some (r1,r2):=by rw [if_pos rfl] at H;exact H
     clear H
     have H:=H1
     clear H1
     simp only [Option.some.injEq,Prod.mk.injEq] at H
     obtain ⟨rfl,rfl⟩:=H
     have hcz6_0 : wc.cell? ⟨gb101,0,none⟩ = some (.int .u64 0):=(zf BK101.out 0).trans rfl
     have hcz6_1 : wc.cell? ⟨gb101,1,none⟩ = some (.int .u64 0):=(zf BK101.out 1).trans rfl
     have hfz6_0:=za BK101.out 0
     have hfz6_1:=za BK101.out 1
     go_wp2
     refine bodyPost_ret (results_cell_row rfl _ _ gb101 48 #[.int .u64 0,.int .u64 0] (0,0) _ rfl zz7 Try.underlying48 rfl zz84) rfl ?_
     exact ⟨by first|rfl|(simp [zi,zj] <;> rfl)|(simp [*,zi,zj] <;> rfl),by repeat (first|(with_reducible first|exact HB.out|apply zg|apply z6|apply zc|refine zd ?_ GE101.out)|exact HB.out)⟩
   replace c5:=Bool.eq_false_iff.mpr c5
   subst c5
   have H1 : (if a0 > 63 then (if 0 ≤ (IntKind.u64.wrap (wrap64 (a0 - 64))) then (some (shl .u64 1 (IntKind.u64.wrap (wrap64 (a0 - 64))),0)) else (none)) else (if 0 ≤ (IntKind.u64.wrap (a0)) then (some (0,shl .u64 1 (IntKind.u64.wrap (a0)))) else (none))) = some (r1,r2):=by rw [if_neg (show ¬ (false = true) by decide)] at H;exact H
   clear H
   have H:=H1
   clear H1
   by_cases c7 : a0 > 63
   · rw [if_pos c7] at H
     have c7b0 : decide (63 < a0) = true:=decide_eq_true c7
     clear c7
     obtain ⟨ji8,hji8⟩ : ∃ j_ : Int,(IntKind.u64.wrap (wrap64 (a0 - 64))) = j_:=⟨_,rfl⟩
     replace H : (if 0 ≤ (ji8) then (some (shl .u64 1 (ji8),0)) else (none)) = some (r1,r2):=by first|(rw [hji8] at H;exact H)|(simp only [hji8] at H ⊢;exact H)
     by_cases c9 : 0 ≤ (ji8)
     rotate_left
     · rw [if_neg c9] at H
       exact absurd H zz87
     rw [if_pos c9] at H
     have c9b0:=eq_true c9
     have c9b1 : decide (0 ≤ (ji8)) = true:=decide_eq_true c9
     clear c9
     obtain ⟨ji10,hji10⟩ : ∃ j_ : Int,(shl .u64 1 (ji8)) = j_:=⟨_,rfl⟩
     replace H : (some (ji10,0)) = some (r1,r2):=by first|(rw [hji10] at H;exact H)|(simp only [hji10] at H ⊢;exact H)
     have hji10_ : (IntKind.u64.wrap (1 * 2 ^ min (ji8).toNat 64)) = ji10:=hji10
     have hji10z : (ji8) ≤ 64 → (IntKind.u64.wrap (1 * 2 ^ (ji8).toNat)) = ji10:=z1L hji10
     have hji10n0 : 0 ≤ ji10:=by rw [← hji10];exact Int.emod_nonneg _ zz85
     have hji10n1 : decide (0 ≤ ji10) = true:=decide_eq_true hji10n0
     replace hji10n0:=eq_true hji10n0
     have hji10u : (IntKind.u64.wrap (2 ^ min (ji8).toNat 64)) = ji10:=by have h_:=hji10_;rw [Int.one_mul] at h_;exact h_
     have hji10v : (ji8) ≤ 64 → (IntKind.u64.wrap (2 ^ (ji8).toNat)) = ji10:=fun hle_=>by have h_:=hji10z hle_;rw [Int.one_mul] at h_;exact h_
     simp only [Option.some.injEq,Prod.mk.injEq] at H
     obtain ⟨rfl,rfl⟩:=H
     have hcz11_0 : wc.cell? ⟨gb101,0,none⟩ = some (.int .u64 0):=(zf BK101.out 0).trans rfl
     have hcz11_1 : wc.cell? ⟨gb101,1,none⟩ = some (.int .u64 0):=(zf BK101.out 1).trans rfl
     have hfz11_0:=za BK101.out 0
     have hfz11_1:=za BK101.out 1
     go_wp2
     refine bodyPost_ret (results_cell_row rfl _ _ gb101 48 #[.int .u64 ji10,.int .u64 0] (0,0) _ rfl (by (with_reducible repeat (first|refine z8 ?_ _|refine zb ?_|refine z7 ?_ _));refine zX (cs:=#[.int .u64 ji10,.int .u64 0]) ?_ 1 _ rfl;(with_reducible repeat (first|refine z8 ?_ _|refine zb ?_|refine z7 ?_ _));refine zX (cs:=#[.int .u64 0,.int .u64 0]) ?_ 0 _ rfl;(with_reducible repeat (first|refine z8 ?_ _|refine zb ?_|refine z7 ?_ _));exact BK101.out) Try.underlying48 rfl zz84) rfl ?_
     exact ⟨by first|rfl|(simp [zi,zj] <;> rfl)|(simp only [← hji8,← hji10];first|rfl|(simp [zi,zj] <;> rfl))|(simp [*,zi,zj] <;> rfl),by repeat (first|(with_reducible first|exact HB.out|apply zg|apply z6|apply zc|refine zd ?_ GE101.out)|exact HB.out)⟩
   rw [if_neg c7] at H
   have c7b0 : decide (63 < a0) = false:=decide_eq_false c7
   clear c7
   obtain ⟨ji12,hji12⟩ : ∃ j_ : Int,(IntKind.u64.wrap (a0)) = j_:=⟨_,rfl⟩
   replace H : (if 0 ≤ (ji12) then (some (0,shl .u64 1 (ji12))) else (none)) = some (r1,r2):=by first|(rw [hji12] at H;exact H)|(simp only [hji12] at H ⊢;exact H)
   by_cases c13 : 0 ≤ (ji12)
   rotate_left
   · rw [if_neg c13] at H
     exact absurd H zz87
   rw [if_pos c13] at H
   have c13b0:=eq_true c13
   have c13b1 : decide (0 ≤ (ji12)) = true:=decide_eq_true c13
   clear c13
   obtain ⟨ji14,hji14⟩ : ∃ j_ : Int,(shl .u64 1 (ji12)) = j_:=⟨_,rfl⟩
   replace H : (some (0,ji14)) = some (r1,r2):=by first|(rw [hji14] at H;exact H)|(simp only [hji14] at H ⊢;exact H)
   have hji14_ : (IntKind.u64.wrap (1 * 2 ^ min (ji12).toNat 64)) = ji14:=hji14
   have hji14z : (ji12) ≤ 64 → (IntKind.u64.wrap (1 * 2 ^ (ji12).toNat)) = ji14:=z1L hji14
   have hji14n0 : 0 ≤ ji14:=by rw [← hji14];exact Int.emod_nonneg _ zz85
   have hji14n1 : decide (0 ≤ ji14) = true:=decide_eq_true hji14n0
   replace hji14n0:=eq_true hji14n0
   have hji14u : (IntKind.u64.wrap (2 ^ min (ji12).toNat 64)) = ji14:=by have h_:=hji14_;rw [Int.one_mul] at h_;exact h_
   have hji14v : (ji12) ≤ 64 → (IntKind.u64.wrap (2 ^ (ji12).toNat)) = ji14:=fun hle_=>by have h_:=hji14z hle_;rw [Int.one_mul] at h_;exact h_
   simp only [Option.some.injEq,Prod.mk.injEq] at H
   obtain ⟨rfl,rfl⟩:=H
   have hcz15_0 : wc.cell? ⟨gb101,0,none⟩ = some (.int .u64 0):=(zf BK101.out 0).trans rfl
   have hcz15_1 : wc.cell? ⟨gb101,1,none⟩ = some (.int .u64 0):=(zf BK101.out 1).trans rfl
   have hfz15_0:=za BK101.out 0
   have hfz15_1:=za BK101.out 1
   go_wp2
   refine bodyPost_ret (results_cell_row rfl _ _ gb101 48 #[.int .u64 0,.int .u64 ji14] (0,0) _ rfl zz7 Try.underlying48 rfl zz84) rfl ?_
   exact ⟨by first|rfl|(simp [zi,zj] <;> rfl)|(simp only [← hji12,← hji14];first|rfl|(simp [zi,zj] <;> rfl))|(simp [*,zi,zj] <;> rfl),by repeat (first|(with_reducible first|exact HB.out|apply zg|apply z6|apply zc|refine zd ?_ GE101.out)|exact HB.out)⟩
end Go.Proofs.Ytklkmflhnljbdaa.P
namespace Go.Proofs.Ytklkmflhnljbdaa.P
open Go.RowKit Go.Proofs.YtklkmflhnljbdaaW.PrintWords Go.Proofs.YtklkmflhnljbdaaW.PrintLast Go.Proofs.YtklkmflhnljbdaaW.PrintMore
attribute [local go_sem] z17 z19 z1m z1n zU zV z18 z1a   -- for this text's walks alone
set_option linter.unusedVariables false
set_option linter.unusedSimpArgs false
def z1i.f (k : Nat) (a0_0 : Int) (a0_1 : Int) (a1 : Int) : Option (Bool):=(zN.f k a1).bind fun bt102=>(some ((Go.bits .or .u64 (Go.bits .and .u64 a0_1 bt102.2) (Go.bits .and .u64 a0_0 bt102.1)) != 0))
theorem z1i.mono : ∀ a0 a1 a2 k,LeO (z1i.f k a0 a1 a2) (z1i.f (k + 1) a0 a1 a2):=by
 intro a0 a1 a2 k
 unfold z1i.f
 repeat' first
  | (with_reducible exact zN.mono _ _)
  | (with_reducible exact LeO.refl _)
  | (with_reducible exact LeO.none _)
  | (with_reducible refine LeO.ite ?_ ?_)
  | (with_reducible refine LeO.bind ?_ (fun _=>?_))
  | exact zN.mono _ _
  | exact LeO.none _
  | refine LeO.ite ?_ ?_
  | refine LeO.bind ?_ (fun _=>?_)
set_option maxHeartbeats 8000000 in
set_option maxRecDepth 100000 in
theorem z1i.calls (k : Nat) (a0_0 : Int) (a0_1 : Int) (a1 : Int) (r : Bool) (w : World) (h : z1i.f k a0_0 a0_1 a1 = some r) :
 Calls Try.prog 72 #[.agg #[.int .u64 a0_0,.int .u64 a0_1],.int .i64 a1] w fun e w'=>e = .returned (.bool r) ∧ Below w.heap.size w w':=by
 have hu48:=Try.underlying48
 have HB:=z4.mk (Below.refl w.heap.size w)
 have H : ((zN.f k a1).bind fun bt102=>(some ((Go.bits .or .u64 (Go.bits .and .u64 a0_1 bt102.2) (Go.bits .and .u64 a0_0 bt102.1)) != 0))) = some r:=h
 clear h
 replace H:=Option.bind_eq_some_iff.mp H
 obtain ⟨⟨t102,t103⟩,A30,H⟩:=H
 replace H : (some ((Go.bits .or .u64 (Go.bits .and .u64 a0_1 t103) (Go.bits .and .u64 a0_0 t102)) != 0)) = some r:=H
 have A3:=z4.mk A30
 clear A30
 obtain rfl:=Option.some.inj H
 go_enter Try.func72,Try.ntmps72
 go_wp2_with (first|((with_reducible refine zr (N:=2) rfl ?_);refine zy ?hg (N:=2) ?hd (cs:=#[.int .u64 a0_0,.int .u64 a0_1]) (t:=48) ?hr ?_;(case hd=>rfl);(case hg=>rfl);(case hr=>first|(go_simp;done)|(go_simp;rfl));intro gb101 hg w4 hbox hb;have n0_:=z4.mk (z9 zz45 hb);have n1_:=z4.mk (hbox);have n2_:=z4.mk ((by rw [hg];exact (ze zz45) : w.heap.size ≤ gb101));have n3_:=z4.mk ((by rw [hg];exact (ze zz45) : w.heap.size ≤ gb101));clear HB;have HB:=n0_;have BK101:=n1_;have GW101:=n2_;have GE101:=n3_;clear n0_ n1_ n2_ n3_;clear hb hbox hg)|((with_reducible refine zl (f:=65) rfl ?_);refine goesL_ (some 7) rfl rfl Try.func65 zz84 rfl #[.int .i64 a1] rfl zz44 ?_;(with_reducible refine (zN.calls k a1 t102 t103 _ A3.out).mono ?_);rintro e w5 ⟨rfl,hb⟩;refine ⟨_,rfl,?_⟩;have n0_:=z4.mk (zh (g:=gb101) (o:=.cells #[.int .u64 a0_0,.int .u64 a0_1] 48 (0,0)) zz46 hb);have n1_:=z4.mk (z9 zz40 hb);clear BK101;clear HB;have BK101:=n0_;have HB:=n1_;clear n0_ n1_;(try clear hb);(try clear hb2);(try clear hk);(try clear hi))|((with_reducible refine zr (N:=5) rfl ?_);refine zy ?hg (N:=5) ?hd (cs:=#[.int .u64 0,.int .u64 0]) (t:=48) ?hr ?_;(case hd=>rfl);(case hg=>rfl);(case hr=>first|(go_simp;done)|(go_simp;rfl));intro gb104 hg w6 hbox hb;have n0_:=z4.mk (zh (g:=gb101) (o:=.cells #[.int .u64 a0_0,.int .u64 a0_1] 48 (0,0)) zz46 hb);have n1_:=z4.mk (z9 zz40 hb);have n2_:=z4.mk (hbox);have n3_:=z4.mk ((by rw [hg];exact (ze zz40) : w.heap.size ≤ gb104));have n4_:=z4.mk ((by rw [hg];exact (ze zz40) : w.heap.size ≤ gb104));have n5_:=z4.mk ((by rw [hg];exact Nat.ne_of_lt (zO (g:=gb101) (o:=.cells #[.int .u64 a0_0,.int .u64 a0_1] 48 (0,0)) zz46) : gb101 ≠ gb104));have n6_:=z4.mk ((by rw [hg];exact Nat.ne_of_gt (zO (g:=gb101) (o:=.cells #[.int .u64 a0_0,.int .u64 a0_1] 48 (0,0)) zz46) : gb104 ≠ gb101));clear BK101;clear HB;have BK101:=n0_;have HB:=n1_;have BK104:=n2_;have GW104:=n3_;have GE104:=n4_;have NB101_104:=n5_;have NB104_101:=n6_;clear n0_ n1_ n2_ n3_ n4_ n5_ n6_;clear hb hbox hg;have hnb7:=NB104_101.out;have hnc7:=NB101_104.out;have hcz8_0 : w6.cell? ⟨gb104,0,none⟩ = some (.int .u64 0):=(zf BK104.out 0).trans rfl;have hcz8_1 : w6.cell? ⟨gb104,1,none⟩ = some (.int .u64 0):=(zf BK104.out 1).trans rfl;have hfz8_0:=za BK104.out 0;have hfz8_1:=za BK104.out 1;have hcz9_0 : w6.cell? ⟨gb101,0,none⟩ = some (.int .u64 a0_0):=(zf BK101.out 0).trans rfl;have hcz9_1 : w6.cell? ⟨gb101,1,none⟩ = some (.int .u64 a0_1):=(zf BK101.out 1).trans rfl;have hfz9_0:=za BK101.out 0;have hfz9_1:=za BK101.out 1))
 go_ret
 exact ⟨by first|rfl|(simp [zi,zj] <;> rfl)|(simp [*,zi,zj] <;> rfl),by repeat (first|(with_reducible first|exact HB.out|apply zg|apply z6|apply zc|refine zd ?_ GE101.out|refine zd ?_ GE104.out)|exact HB.out)⟩
end Go.Proofs.Ytklkmflhnljbdaa.P
namespace Go.Proofs.Ytklkmflhnljbdaa.P
open Go.RowKit Go.Proofs.YtklkmflhnljbdaaW.PrintWords Go.Proofs.YtklkmflhnljbdaaW.PrintLast Go.Proofs.YtklkmflhnljbdaaW.PrintMore
attribute [local go_sem] z17 z19 z1m z1n zU zV z18 z1a   -- for this text's walks alone
set_option linter.unusedVariables false
set_option linter.unusedSimpArgs false
def z1h.f (a0 : Int) : Option (Int):=(some (([6148914691236517205,3689348814741910323,1085102592571150095,71777214294589695,281470681808895,4294967295] : List Int) : List Int)).bind fun y101=>(if 0 ≤ a0 then (if a0 < (y101.length : Int) then (some (rd y101 a0)) else (none)) else (none))
set_option maxHeartbeats 8000000 in
set_option maxRecDepth 100000 in
theorem z1h.calls (a0 : Int) (r : Int) (w : World) (h : z1h.f a0 = some r) :
 Calls Try.prog 131 #[.int .i64 a0] w fun e w'=>e = .returned (.int .u64 r) ∧ Below w.heap.size w w':=by
 have HB:=z4.mk (Below.refl w.heap.size w)
 have H : ((some (([6148914691236517205,3689348814741910323,1085102592571150095,71777214294589695,281470681808895,4294967295] : List Int) : List Int)).bind fun y101=>(if 0 ≤ a0 then (if a0 < (y101.length : Int) then (some (rd y101 a0)) else (none)) else (none))) = some r:=h
 clear h
 obtain ⟨y101,hy101⟩ : ∃ y_ : List Int,y_ = (([6148914691236517205,3689348814741910323,1085102592571150095,71777214294589695,281470681808895,4294967295] : List Int)):=⟨_,rfl⟩
 replace H : (if 0 ≤ a0 then (if a0 < (y101.length : Int) then (some (rd y101 a0)) else (none)) else (none)) = some r:=by first|(rw [hy101];with_reducible exact H)|(have H2_:=(Option.bind_some _ _).symm.trans H;rw [hy101];with_reducible exact H2_)|(have H2_:=(Option.bind_some _ _).symm.trans H;with_reducible exact H2_)|with_reducible exact H|(rw [hy101];exact H)|exact H
 have Ny101:=z4.mk hy101
 clear hy101
 by_cases c2 : 0 ≤ a0
 rotate_left
 · rw [if_neg c2] at H
   exact absurd H zz87
 rw [if_pos c2] at H
 have c2b0 : decide (0 ≤ a0) = true:=decide_eq_true c2
 clear c2
 by_cases c3 : a0 < (y101.length : Int)
 rotate_left
 · rw [if_neg c3] at H
   exact absurd H zz87
 rw [if_pos c3] at H
 have c3b0 : decide (a0 < (y101.length : Int)) = true:=decide_eq_true c3
 clear c3
 obtain rfl:=Option.some.inj H
 go_enter Try.func131,Try.ntmps131
 go_wp2_with (first|((with_reducible refine zr (N:=4) rfl ?_);refine Kd.z2b (Kd.int .u64) _ 35 ?hg (N:=4) ?hd (xs:=([6148914691236517205,3689348814741910323,1085102592571150095,71777214294589695,281470681808895,4294967295] : List Int)) (inner:=[.int .u64 6148914691236517205,.int .u64 3689348814741910323,.int .u64 1085102592571150095,.int .u64 71777214294589695,.int .u64 281470681808895,.int .u64 4294967295]) (ok:=fun _=>True) (okp:=fun _=>True) ?hr ?hp (fun _ hk=>hk) trivial (Below.refl _ _) (Nat.le_refl _) zz87 ?_;(case hd=>rfl);(case hg=>rfl);(case hr=>first|(go_simp;done)|(go_simp;rfl));(case hp=>exact (Reps.one (show Kd.M (Kd.int .u64) _ _ _ 6148914691236517205 [.int .u64 6148914691236517205] from rfl) (Reps.one (show Kd.M (Kd.int .u64) _ _ _ 3689348814741910323 [.int .u64 3689348814741910323] from rfl) (Reps.one (show Kd.M (Kd.int .u64) _ _ _ 1085102592571150095 [.int .u64 1085102592571150095] from rfl) (Reps.one (show Kd.M (Kd.int .u64) _ _ _ 71777214294589695 [.int .u64 71777214294589695] from rfl) (Reps.one (show Kd.M (Kd.int .u64) _ _ _ 281470681808895 [.int .u64 281470681808895] from rfl) (Reps.one (show Kd.M (Kd.int .u64) _ _ _ 4294967295 [.int .u64 4294967295] from rfl) (Reps.none _ _))))))));intro v102 w4 ho5 hb hg_ hnew_;clear hg_ hnew_;(first|rw [← Ny101.out] at ho5|(simp only [Int.reduceToNat] at ho5;rw [← Ny101.out] at ho5));have n0_:=z4.mk (Kd.z1e ho5 (ze zz45));have n1_:=z4.mk (z9 zz45 hb);clear HB;have HO103:=n0_;have HB:=n1_;clear n0_ n1_;clear hb ho5;obtain ⟨Ao6,co6,eo6⟩:=Kd.z1j HO103.out;subst eo6;have p104 : 0 ≤ (a0 : Int):=of_decide_eq_true zz80;have q104 : a0 < (y101.length : Int):=of_decide_eq_true zz80;obtain ⟨ad104,e104,hx104_0⟩:=Kd.z5g (Kd.zv HO103.out).2.2 a0 p104 q104;cases e104;replace p104:=eq_true p104;replace q104:=eq_true q104))
 go_ret
 exact ⟨by first|rfl|(simp [zi,zj] <;> rfl)|(simp [*,zi,zj] <;> rfl),by repeat (first|(with_reducible first|exact HB.out|apply zg|apply z6|apply zc)|exact HB.out)⟩
end Go.Proofs.Ytklkmflhnljbdaa.P
namespace Go.Proofs.Ytklkmflhnljbdaa.P
open Go.RowKit Go.Proofs.YtklkmflhnljbdaaW.PrintWords Go.Proofs.YtklkmflhnljbdaaW.PrintLast Go.Proofs.YtklkmflhnljbdaaW.PrintMore
attribute [local go_sem] z17 z19 z1m z1n zU zV z18 z1a   -- for this text's walks alone
set_option linter.unusedVariables false
set_option linter.unusedSimpArgs false
def zp.f : Nat → Int → Int → Option (Int)
 | 0,_,_=>none
 | k + 1,a0,a1=>if a0 < 0 then (some a1) else (if 0 ≤ (IntKind.u64.wrap (a0)) then ((z1h.f a0).bind fun t101=>((z1h.f a0).bind fun t102=>((zp.f k (wrap64 (a0 - 1)) (Go.bits .and .u64 (shr .u64 a1 (shl .u64 1 (IntKind.u64.wrap (a0)))) t101)).bind fun t103=>(some (Go.bits .or .u64 (shl .u64 (Go.bits .xor .u64 (Go.bits .and .u64 a1 t102) t103) (shl .u64 1 (IntKind.u64.wrap (a0)))) (Go.bits .and .u64 (shr .u64 a1 (shl .u64 1 (IntKind.u64.wrap (a0)))) t101)))))) else (none))
theorem zp.z1b : ∀ k,(∀ y0 y1,LeO (zp.f k y0 y1) (zp.f (k + 1) y0 y1))
 | 0=>fun _ _ r h=>by simp [zp.f] at h
 | k + 1=>by
  have ih0:=zp.z1b k
  · intro y0 y1
    unfold zp.f
    repeat' first
    | (with_reducible exact ih0 _ _)
    | (with_reducible exact LeO.refl _)
    | (with_reducible exact LeO.none _)
    | (with_reducible refine LeO.ite ?_ ?_)
    | (with_reducible refine LeO.bind ?_ (fun _=>?_))
    | exact ih0 _ _
    | exact LeO.none _
    | refine LeO.ite ?_ ?_
    | refine LeO.bind ?_ (fun _=>?_)
theorem zp.mono : ∀ a0 a1 k,LeO (zp.f k a0 a1) (zp.f (k + 1) a0 a1):=by
 intro a0 a1 k
 have ih0:=zp.z1b k
 exact ih0 a0 a1
set_option maxHeartbeats 8000000 in
set_option maxRecDepth 100000 in
theorem zp.calls (k : Nat) : ∀ (a0 : Int) (a1 : Int) (r : Int) (w : World) (h : zp.f k a0 a1 = some r),
 Calls Try.prog 121 #[.int .i64 a0,.int .u64 a1] w fun e w'=>e = .returned (.int .u64 r) ∧ Below w.heap.size w w':=by
 induction k using Nat.strongRecOn with
 | _ k ih =>
 intro a0 a1 r w h
 cases k with
 | zero=>exact absurd h (by simp [zp.f])
 | succ k =>
 simp only [zp.f] at h
 have HB:=z4.mk (Below.refl w.heap.size w)
 have H : (if a0 < 0 then (some a1) else (if 0 ≤ (IntKind.u64.wrap (a0)) then ((z1h.f a0).bind fun t101=>((z1h.f a0).bind fun t102=>((zp.f k (wrap64 (a0 - 1)) (Go.bits .and .u64 (shr .u64 a1 (shl .u64 1 (IntKind.u64.wrap (a0)))) t101)).bind fun t103=>(some (Go.bits .or .u64 (shl .u64 (Go.bits .xor .u64 (Go.bits .and .u64 a1 t102) t103) (shl .u64 1 (IntKind.u64.wrap (a0)))) (Go.bits .and .u64 (shr .u64 a1 (shl .u64 1 (IntKind.u64.wrap (a0)))) t101)))))) else (none))) = some r:=h
 clear h
 by_cases c3 : a0 < 0
 · rw [if_pos c3] at H
   have c3b0 : decide (a0 < 0) = true:=decide_eq_true c3
   clear c3
   obtain rfl:=Option.some.inj H
   go_enter Try.func121,Try.ntmps121
   go_wp2
   go_ret
   exact ⟨by first|rfl|(simp [zi,zj] <;> rfl)|(simp [*,zi,zj] <;> rfl),by repeat (first|(with_reducible first|exact HB.out|apply zg|apply z6|apply zc)|exact HB.out)⟩
 rw [if_neg c3] at H
 have c3b0 : decide (a0 < 0) = false:=decide_eq_false c3
 clear c3
 obtain ⟨ji4,hji4⟩ : ∃ j_ : Int,(IntKind.u64.wrap (a0)) = j_:=⟨_,rfl⟩
 replace H : (if 0 ≤ (ji4) then ((z1h.f a0).bind fun t101=>((z1h.f a0).bind fun t102=>((zp.f k (wrap64 (a0 - 1)) (Go.bits .and .u64 (shr .u64 a1 (shl .u64 1 (ji4))) t101)).bind fun t103=>(some (Go.bits .or .u64 (shl .u64 (Go.bits .xor .u64 (Go.bits .and .u64 a1 t102) t103) (shl .u64 1 (ji4))) (Go.bits .and .u64 (shr .u64 a1 (shl .u64 1 (ji4))) t101)))))) else (none)) = some r:=by first|(rw [hji4] at H;exact H)|(simp only [hji4] at H ⊢;exact H)
 by_cases c5 : 0 ≤ (ji4)
 rotate_left
 · rw [if_neg c5] at H
   exact absurd H zz87
 rw [if_pos c5] at H
 have c5b0:=eq_true c5
 have c5b1 : decide (0 ≤ (ji4)) = true:=decide_eq_true c5
 clear c5
 obtain ⟨ji6,hji6⟩ : ∃ j_ : Int,(shl .u64 1 (ji4)) = j_:=⟨_,rfl⟩
 replace H : ((z1h.f a0).bind fun t101=>((z1h.f a0).bind fun t102=>((zp.f k (wrap64 (a0 - 1)) (Go.bits .and .u64 (shr .u64 a1 (ji6)) t101)).bind fun t103=>(some (Go.bits .or .u64 (shl .u64 (Go.bits .xor .u64 (Go.bits .and .u64 a1 t102) t103) (ji6)) (Go.bits .and .u64 (shr .u64 a1 (ji6)) t101)))))) = some r:=by first|(rw [hji6] at H;exact H)|(simp only [hji6] at H ⊢;exact H)
 have hji6_ : (IntKind.u64.wrap (1 * 2 ^ min (ji4).toNat 64)) = ji6:=hji6
 have hji6z : (ji4) ≤ 64 → (IntKind.u64.wrap (1 * 2 ^ (ji4).toNat)) = ji6:=z1L hji6
 have hji6n0 : 0 ≤ ji6:=by rw [← hji6];exact Int.emod_nonneg _ zz85
 have hji6n1 : decide (0 ≤ ji6) = true:=decide_eq_true hji6n0
 replace hji6n0:=eq_true hji6n0
 have hji6u : (IntKind.u64.wrap (2 ^ min (ji4).toNat 64)) = ji6:=by have h_:=hji6_;rw [Int.one_mul] at h_;exact h_
 have hji6v : (ji4) ≤ 64 → (IntKind.u64.wrap (2 ^ (ji4).toNat)) = ji6:=fun hle_=>by have h_:=hji6z hle_;rw [Int.one_mul] at h_;exact h_
 obtain ⟨ji7,hji7⟩ : ∃ j_ : Int,(shr .u64 a1 (ji6)) = j_:=⟨_,rfl⟩
 replace H : ((z1h.f a0).bind fun t101=>((z1h.f a0).bind fun t102=>((zp.f k (wrap64 (a0 - 1)) (Go.bits .and .u64 (ji7) t101)).bind fun t103=>(some (Go.bits .or .u64 (shl .u64 (Go.bits .xor .u64 (Go.bits .and .u64 a1 t102) t103) (ji6)) (Go.bits .and .u64 (ji7) t101)))))) = some r:=by first|(rw [hji7] at H;exact H)|(simp only [hji7] at H ⊢;exact H)
 have hji7_ : (a1 / 2 ^ min (ji6).toNat 64) = ji7:=hji7
 have hji7z : (ji6) ≤ 64 → (a1 / 2 ^ (ji6).toNat) = ji7:=z2K hji7
 replace H:=Option.bind_eq_some_iff.mp H
 obtain ⟨t101,A80,H⟩:=H
 replace H : ((z1h.f a0).bind fun t102=>((zp.f k (wrap64 (a0 - 1)) (Go.bits .and .u64 (ji7) t101)).bind fun t103=>(some (Go.bits .or .u64 (shl .u64 (Go.bits .xor .u64 (Go.bits .and .u64 a1 t102) t103) (ji6)) (Go.bits .and .u64 (ji7) t101))))) = some r:=H
 have A8:=z4.mk A80
 clear A80
 replace H:=Option.bind_eq_some_iff.mp H
 obtain ⟨t102,A90,H⟩:=H
 replace H : ((zp.f k (wrap64 (a0 - 1)) (Go.bits .and .u64 (ji7) t101)).bind fun t103=>(some (Go.bits .or .u64 (shl .u64 (Go.bits .xor .u64 (Go.bits .and .u64 a1 t102) t103) (ji6)) (Go.bits .and .u64 (ji7) t101)))) = some r:=H
 have A9:=z4.mk A90
 clear A90
 replace H:=Option.bind_eq_some_iff.mp H
 obtain ⟨t103,A100,H⟩:=H
 replace H : (some (Go.bits .or .u64 (shl .u64 (Go.bits .xor .u64 (Go.bits .and .u64 a1 t102) t103) (ji6)) (Go.bits .and .u64 (ji7) t101))) = some r:=H
 have A10:=z4.mk A100
 clear A100
 obtain ⟨ji11,hji11⟩ : ∃ j_ : Int,(shl .u64 (Go.bits .xor .u64 (Go.bits .and .u64 a1 t102) t103) (ji6)) = j_:=⟨_,rfl⟩
 replace H : (some (Go.bits .or .u64 (ji11) (Go.bits .and .u64 (ji7) t101))) = some r:=by first|(rw [hji11] at H;exact H)|(simp only [hji11] at H ⊢;exact H)
 (try rw [hji11] at A8)
 (try rw [hji11] at A9)
 (try rw [hji11] at A10)
 have hji11_ : (IntKind.u64.wrap ((Go.bits .xor .u64 (Go.bits .and .u64 a1 t102) t103) * 2 ^ min (ji6).toNat 64)) = ji11:=hji11
 have hji11z : (ji6) ≤ 64 → (IntKind.u64.wrap ((Go.bits .xor .u64 (Go.bits .and .u64 a1 t102) t103) * 2 ^ (ji6).toNat)) = ji11:=z1L hji11
 have hji11n0 : 0 ≤ ji11:=by rw [← hji11];exact Int.emod_nonneg _ zz85
 have hji11n1 : decide (0 ≤ ji11) = true:=decide_eq_true hji11n0
 replace hji11n0:=eq_true hji11n0
 obtain rfl:=Option.some.inj H
 go_enter Try.func121,Try.ntmps121
 go_wp2_with (first|((with_reducible refine zl (f:=131) rfl ?_);refine goesL_ (some 18) rfl rfl Try.func131 zz84 rfl #[.int .i64 a0] rfl zz44 ?_;(with_reducible refine (z1h.calls a0 t101 _ A8.out).mono ?_);rintro e w12 ⟨rfl,hb⟩;refine ⟨_,rfl,?_⟩;have n0_:=z4.mk (z9 zz45 hb);clear HB;have HB:=n0_;clear n0_;(try clear hb);(try clear hb2);(try clear hk);(try clear hi))|((with_reducible refine zl (f:=131) rfl ?_);refine goesL_ (some 22) rfl rfl Try.func131 zz84 rfl #[.int .i64 a0] rfl zz44 ?_;(with_reducible refine (z1h.calls a0 t102 _ A9.out).mono ?_);rintro e w13 ⟨rfl,hb⟩;refine ⟨_,rfl,?_⟩;have n0_:=z4.mk (z9 zz45 hb);clear HB;have HB:=n0_;clear n0_;(try clear hb);(try clear hb2);(try clear hk);(try clear hi))|((with_reducible refine zl (f:=121) rfl ?_);refine goesL_ (some 28) rfl rfl Try.func121 zz84 rfl #[.int .i64 (wrap64 (a0 - 1)),.int .u64 (Go.bits .and .u64 (ji7) t101)] rfl zz39 ?_;(with_reducible refine (ih k zz86 (wrap64 (a0 - 1)) (Go.bits .and .u64 (ji7) t101) t103 _ A10.out).mono ?_);rintro e w14 ⟨rfl,hb⟩;refine ⟨_,rfl,?_⟩;have n0_:=z4.mk (z9 zz45 hb);clear HB;have HB:=n0_;clear n0_;(try clear hb);(try clear hb2);(try clear hk);(try clear hi)))
 go_ret
 exact ⟨by first|rfl|(simp [zi,zj] <;> rfl)|(simp only [← hji4,← hji6,← hji7,← hji11];first|rfl|(simp [zi,zj] <;> rfl))|(simp [*,zi,zj] <;> rfl),by repeat (first|(with_reducible first|exact HB.out|apply zg|apply z6|apply zc)|exact HB.out)⟩
end Go.Proofs.Ytklkmflhnljbdaa.P
namespace Go.Proofs.Ytklkmflhnljbdaa.P
open Go.RowKit Go.Proofs.YtklkmflhnljbdaaW.PrintWords Go.Proofs.YtklkmflhnljbdaaW.PrintLast Go.Proofs.YtklkmflhnljbdaaW.PrintMore
attribute [local go_sem] z17 z19 z1m z1n zU zV z18 z1a   -- for this text's walks alone
set_option linter.unusedVariables false
set_option linter.unusedSimpArgs false
def zA.f (k : Nat) (a0 : Int) (a1_0 : Int) (a1_1 : Int) : Option (Int × Int):=if a0 < 6 then ((zp.f k a0 a1_0).bind fun t103=>((zp.f k a0 a1_1).bind fun t104=>(some (t103,t104)))) else ((zp.f k 5 a1_0).bind fun t105=>(some (Go.bits .xor .u64 a1_1 t105,a1_0)))
theorem zA.mono : ∀ a0 a1 a2 k,LeO (zA.f k a0 a1 a2) (zA.f (k + 1) a0 a1 a2):=by
 intro a0 a1 a2 k
 unfold zA.f
 repeat' first
  | (with_reducible exact zp.mono _ _ _)
  | (with_reducible exact LeO.refl _)
  | (with_reducible exact LeO.none _)
  | (with_reducible refine LeO.ite ?_ ?_)
  | (with_reducible refine LeO.bind ?_ (fun _=>?_))
  | exact zp.mono _ _ _
  | exact LeO.none _
  | refine LeO.ite ?_ ?_
  | refine LeO.bind ?_ (fun _=>?_)
def zA.T2 : Bool × List (List Nat × List Nat):=(true,[([],[]),([],[]),([1],[1]),([0,2],[0,2]),([],[]),([],[]),([5],[5]),([4,6,3],[4,6]),([3,7],[3,7]),([8,7,0,1,2,3,4,5,6,7,8],[8])])
def zA.B2 : List Nat:=[0,0,2,7,0,0,32,127,255,511]
theorem zA.tab2 : rtab .any (opsOf Try.f99 2) = zA.T2:=by kernel_rfl
theorem zA.bits2 : waitsOk zA.T2.2 zA.B2 = true:=by kernel_rfl
def zA.T3 : Bool × List (List Nat × List Nat):=(true,[([],[]),([0],[0]),([],[]),([2],[2]),([3],[3]),([1,4],[1,4]),([],[]),([6],[6]),([5,7],[5,7]),([8,4,0,1,2,3,4,5,6,7,8],[8])])
def zA.B3 : List Nat:=[0,1,0,4,12,31,0,64,255,511]
theorem zA.tab3 : rtab .any (opsOf Try.f99 3) = zA.T3:=by kernel_rfl
theorem zA.bits3 : waitsOk zA.T3.2 zA.B3 = true:=by kernel_rfl
set_option maxHeartbeats 8000000 in
set_option maxRecDepth 100000 in
theorem zA.calls (k : Nat) (a0 : Int) (a1_0 : Int) (a1_1 : Int) (r1 : Int) (r2 : Int) (w : World) (h : zA.f k a0 a1_0 a1_1 = some (r1,r2)) :
 Calls Try.prog 99 #[.int .i64 a0,.agg #[.int .u64 a1_0,.int .u64 a1_1]] w fun e w'=>e = .returned (.agg #[.int .u64 r1,.int .u64 r2]) ∧ Below w.heap.size w w':=by
 have hu48:=Try.underlying48
 have HB:=z4.mk (Below.refl w.heap.size w)
 have H : (if a0 < 6 then ((zp.f k a0 a1_0).bind fun t103=>((zp.f k a0 a1_1).bind fun t104=>(some (t103,t104)))) else ((zp.f k 5 a1_0).bind fun t105=>(some (Go.bits .xor .u64 a1_1 t105,a1_0)))) = some (r1,r2):=h
 clear h
 by_cases c3 : a0 < 6
 rotate_left
 · rw [if_neg c3] at H
   have c3b0 : decide (a0 < 6) = false:=decide_eq_false c3
   clear c3
   replace H:=Option.bind_eq_some_iff.mp H
   obtain ⟨t105,A130,H⟩:=H
   replace H : (some (Go.bits .xor .u64 a1_1 t105,a1_0)) = some (r1,r2):=H
   have A13:=z4.mk A130
   clear A130
   simp only [Option.some.injEq,Prod.mk.injEq] at H
   obtain ⟨rfl,rfl⟩:=H
   go_enter Try.func99,Try.ntmps99
   try go_wp2_with (first|((with_reducible refine zr (N:=3) rfl ?_);refine zy ?hg (N:=3) ?hd (cs:=#[.int .u64 a1_0,.int .u64 a1_1]) (t:=48) ?hr ?_;(case hd=>rfl);(case hg=>rfl);(case hr=>first|(go_simp;done)|(go_simp;rfl));intro gb101 hg w14 hbox hb;have n0_:=z4.mk (z9 zz45 hb);have n1_:=z4.mk (hbox);have n2_:=z4.mk ((by rw [hg];exact (ze zz45) : w.heap.size ≤ gb101));have n3_:=z4.mk ((by rw [hg];exact (ze zz45) : w.heap.size ≤ gb101));clear HB;have HB:=n0_;have BK101:=n1_;have GW101:=n2_;have GE101:=n3_;clear n0_ n1_ n2_ n3_;clear hb hbox hg)|((with_reducible refine zr (N:=4) rfl ?_);refine zy ?hg (N:=4) ?hd (cs:=#[.int .u64 0,.int .u64 0]) (t:=48) ?hr ?_;(case hd=>rfl);(case hg=>rfl);(case hr=>first|(go_simp;done)|(go_simp;rfl));intro gb102 hg w15 hbox hb;have n0_:=z4.mk (zh (g:=gb101) (o:=.cells #[.int .u64 a1_0,.int .u64 a1_1] 48 (0,0)) zz46 hb);have n1_:=z4.mk (z9 zz40 hb);have n2_:=z4.mk (hbox);have n3_:=z4.mk ((by rw [hg];exact (ze zz40) : w.heap.size ≤ gb102));have n4_:=z4.mk ((by rw [hg];exact (ze zz40) : w.heap.size ≤ gb102));have n5_:=z4.mk ((by rw [hg];exact Nat.ne_of_lt (zO (g:=gb101) (o:=.cells #[.int .u64 a1_0,.int .u64 a1_1] 48 (0,0)) zz46) : gb101 ≠ gb102));have n6_:=z4.mk ((by rw [hg];exact Nat.ne_of_gt (zO (g:=gb101) (o:=.cells #[.int .u64 a1_0,.int .u64 a1_1] 48 (0,0)) zz46) : gb102 ≠ gb101));clear BK101;clear HB;have BK101:=n0_;have HB:=n1_;have BK102:=n2_;have GW102:=n3_;have GE102:=n4_;have NB101_102:=n5_;have NB102_101:=n6_;clear n0_ n1_ n2_ n3_ n4_ n5_ n6_;clear hb hbox hg))
   have n0_:=z4.mk (zb BK101.out)
   have n1_:=z4.mk (zb BK102.out)
   have n2_:=z4.mk (zc HB.out)
   clear BK101
   clear BK102
   clear HB
   have BK101:=n0_
   have BK102:=n1_
   have HB:=n2_
   clear n0_ n1_ n2_
   refine start_ (n:=10) (S:=fun w'=>w'.cell? ⟨gb101,0,none⟩ = some (.int .u64 a1_0) ∧ w'.cell? ⟨gb101,1,none⟩ = some (.int .u64 a1_1)) (ds:=[]) #[false,false,false,false,false,false,false,false,false,false] zz84 rfl rfl ⟨(zf BK101.out 0).trans rfl,(zf BK101.out 1).trans rfl⟩ (fun hHeld=>?_);refine z2e zA.tab3 zA.bits3 (fun HT_ HW_=>?_)
   generalize w15.drew = w16 at BK101 BK102 HB hHeld ⊢
   refine pure_ (i:=0) (N:=some 16) (v:=?_) (a':=?_) #[true,false,false,false,false,false,false,false,false,false] rfl rfl (z1v HT_.out zz84) (fun _ _ _ h=>h) (Or.inl ⟨by rfl,?_⟩) ?_ ?_
   rotate_left
   · intro w'
     go_simp
     with_reducible rfl
   rotate_left
   · simp only [Act.put,List.setIfInBounds_toArray,List.set_cons_zero,List.set_cons_succ,zY,z16]
     rfl
   refine pure_ (i:=2) (N:=some 18) (v:=?_) (a':=?_) #[true,false,true,false,false,false,false,false,false,false] rfl rfl (z1v HT_.out zz84) (fun _ _ _ h=>h) (Or.inl ⟨by rfl,?_⟩) ?_ ?_
   rotate_left
   · intro w'
     go_simp
     with_reducible rfl
   rotate_left
   · simp only [Act.put,List.setIfInBounds_toArray,List.set_cons_zero,List.set_cons_succ,zY,z16]
     rfl
   refine pure_ (i:=6) (N:=some 22) (v:=?_) (a':=?_) #[true,false,true,false,false,false,true,false,false,false] rfl rfl (z1v HT_.out zz84) (fun _ _ _ h=>h) (Or.inl ⟨by rfl,?_⟩) ?_ ?_
   rotate_left
   · intro w'
     go_simp
     with_reducible rfl
   rotate_left
   · simp only [Act.put,List.setIfInBounds_toArray,List.set_cons_zero,List.set_cons_succ,zY,z16]
     rfl
   refine take_ (i:=1) (N:=some 17) (v:=?_) (a':=?_) #[true,true,true,false,false,false,true,false,false,false] rfl rfl (z1S HT_.out HW_.out zz84) (fun _ _ _ h=>h) (Or.inl ⟨by rfl,?_⟩) hHeld ?_ ?_
   rotate_left
   · rintro w' ⟨s0,s1⟩
     go_simp
     with_reducible rfl
   rotate_left
   · simp only [Act.put,List.setIfInBounds_toArray,List.set_cons_zero,List.set_cons_succ,zY,z16]
     rfl
   refine take_ (i:=3) (N:=some 19) (v:=?_) (a':=?_) #[true,true,true,true,false,false,true,false,false,false] rfl rfl (z1S HT_.out HW_.out zz84) (fun _ _ _ h=>h) (Or.inl ⟨by rfl,?_⟩) hHeld ?_ ?_
   rotate_left
   · rintro w' ⟨s0,s1⟩
     go_simp
     with_reducible rfl
   rotate_left
   · simp only [Act.put,List.setIfInBounds_toArray,List.set_cons_zero,List.set_cons_succ,zY,z16]
     rfl
   refine take_ (i:=7) (N:=some 23) (v:=?_) (a':=?_) #[true,true,true,true,false,false,true,true,false,false] rfl rfl (z1S HT_.out HW_.out zz84) (fun _ _ _ h=>h) (Or.inl ⟨by rfl,?_⟩) hHeld ?_ ?_
   rotate_left
   · rintro w' ⟨s0,s1⟩
     go_simp
     with_reducible rfl
   rotate_left
   · simp only [Act.put,List.setIfInBounds_toArray,List.set_cons_zero,List.set_cons_succ,zY,z16]
     rfl
   refine one_ (i:=4) (N:=some 20) #[true,true,true,true,true,false,true,true,false,false] rfl rfl (z20 HT_.out zz84) zz85 (fun K hK=>?_)
   refine goes_ Try.func121 zz84 rfl #[.int .i64 5,.int .u64 a1_0] zz88 rfl rfl zz44 ?_
   with_reducible refine (zp.calls k 5 a1_0 t105 _ A13.out).mono ?_
   rintro e w17 ⟨rfl,hb⟩
   refine ⟨_,rfl,?_⟩
   have n0_:=z4.mk (zh (g:=gb101) (o:=.cells #[.int .u64 a1_0,.int .u64 a1_1] 48 (0,0)) zz46 hb)
   have n1_:=z4.mk (zh (g:=gb102) (o:=.cells #[.int .u64 0,.int .u64 0] 48 (0,0)) zz47 hb)
   have n2_:=z4.mk (z9 zz33 hb)
   clear BK101
   clear BK102
   clear HB
   have BK101:=n0_
   have BK102:=n1_
   have HB:=n2_
   clear n0_ n1_ n2_
   (try clear hb)
   (try clear hb2)
   (try clear hk)
   (try clear hi)
   refine hK.out _ _ ⟨(zf BK101.out 0).trans rfl,(zf BK101.out 1).trans rfl⟩ (fun hHeld=>?_)
   clear hK K
   refine norm_ (a':=?_) ?_ ?_
   rotate_left
   · show Act.put _ (some 20) _ = _
     simp only [Act.put,List.setIfInBounds_toArray,List.set_cons_zero,List.set_cons_succ,zY,z16]
     rfl
   refine pure_ (i:=5) (N:=some 21) (v:=?_) (a':=?_) #[true,true,true,true,true,true,true,true,false,false] rfl rfl (z1v HT_.out zz84) (fun _ _ _ h=>h) (Or.inl ⟨by rfl,?_⟩) ?_ ?_
   rotate_left
   · intro w'
     go_simp
     with_reducible rfl
   rotate_left
   · simp only [Act.put,List.setIfInBounds_toArray,List.set_cons_zero,List.set_cons_succ,zY,z16]
     rfl
   refine pure_ (i:=8) (N:=some 24) (v:=?_) (a':=?_) #[true,true,true,true,true,true,true,true,true,false] rfl rfl (z1v HT_.out zz84) (fun _ _ _ h=>h) (Or.inl ⟨by rfl,?_⟩) ?_ ?_
   rotate_left
   · intro w'
     go_simp
     with_reducible rfl
   rotate_left
   · simp only [Act.put,List.setIfInBounds_toArray,List.set_cons_zero,List.set_cons_succ,zY,z16]
     rfl
   refine one_ (i:=9) (N:=none) #[true,true,true,true,true,true,true,true,true,true] rfl rfl (z20 HT_.out zz84) zz85 (fun K hK=>?_)
   have hs18 : w17.cell? ⟨gb102,0,none⟩ = some (.int .u64 0):=(zf BK102.out 0).trans rfl
   have hfs18:=za BK102.out 0
   have hns18_0:=NB101_102.out
   have hms18_0:=NB102_101.out
   have hs19 : w17.cell? ⟨gb102,1,none⟩ = some (.int .u64 0):=(zf BK102.out 1).trans rfl
   have hfs19:=za BK102.out 1
   have hns19_0:=NB101_102.out
   have hms19_0:=NB102_101.out
   refine skip_ (w1:=?_) zz88 rfl ?_ ?_
   rotate_left
   · go_simp
     rfl
   refine hK.out _ _ ⟨((z2x (p:=⟨gb102,_,none⟩) NB101_102.out _).trans (((z2x (p:=⟨gb102,_,none⟩) NB101_102.out _).trans (hHeld.1)))),((z2x (p:=⟨gb102,_,none⟩) NB101_102.out _).trans (((z2x (p:=⟨gb102,_,none⟩) NB101_102.out _).trans (hHeld.2))))⟩ (fun hHeld=>?_)
   clear hK K
   refine done_ (z2B HT_.out zz84) ?_
   try go_wp2
   refine bodyPost_ret (results_cell_row rfl _ _ gb102 48 #[.int .u64 (Go.bits .xor .u64 a1_1 t105),.int .u64 a1_0] (0,0) _ rfl (by (with_reducible repeat (first|refine z8 ?_ _|refine zb ?_|refine z7 ?_ _));refine zX (cs:=#[.int .u64 (Go.bits .xor .u64 a1_1 t105),.int .u64 0]) ?_ 1 _ rfl;(with_reducible repeat (first|refine z8 ?_ _|refine zb ?_|refine z7 ?_ _));refine zX (cs:=#[.int .u64 0,.int .u64 0]) ?_ 0 _ rfl;(with_reducible repeat (first|refine z8 ?_ _|refine zb ?_|refine z7 ?_ _));exact BK102.out) Try.underlying48 rfl zz84) rfl ?_
   exact ⟨by first|rfl|(simp [zi,zj] <;> rfl)|(simp [*,zi,zj] <;> rfl),by repeat (first|(with_reducible first|exact HB.out|apply zg|apply z6|apply zc|refine zd ?_ GE101.out|refine zd ?_ GE102.out)|exact HB.out)⟩
 rw [if_pos c3] at H
 have c3b0 : decide (a0 < 6) = true:=decide_eq_true c3
 clear c3
 replace H:=Option.bind_eq_some_iff.mp H
 obtain ⟨t103,A40,H⟩:=H
 replace H : ((zp.f k a0 a1_1).bind fun t104=>(some (t103,t104))) = some (r1,r2):=H
 have A4:=z4.mk A40
 clear A40
 replace H:=Option.bind_eq_some_iff.mp H
 obtain ⟨t104,A50,H⟩:=H
 replace H : (some (t103,t104)) = some (r1,r2):=H
 have A5:=z4.mk A50
 clear A50
 simp only [Option.some.injEq,Prod.mk.injEq] at H
 obtain ⟨rfl,rfl⟩:=H
 go_enter Try.func99,Try.ntmps99
 try go_wp2_with (first|((with_reducible refine zr (N:=3) rfl ?_);refine zy ?hg (N:=3) ?hd (cs:=#[.int .u64 a1_0,.int .u64 a1_1]) (t:=48) ?hr ?_;(case hd=>rfl);(case hg=>rfl);(case hr=>first|(go_simp;done)|(go_simp;rfl));intro gb101 hg w6 hbox hb;have n0_:=z4.mk (z9 zz45 hb);have n1_:=z4.mk (hbox);have n2_:=z4.mk ((by rw [hg];exact (ze zz45) : w.heap.size ≤ gb101));have n3_:=z4.mk ((by rw [hg];exact (ze zz45) : w.heap.size ≤ gb101));clear HB;have HB:=n0_;have BK101:=n1_;have GW101:=n2_;have GE101:=n3_;clear n0_ n1_ n2_ n3_;clear hb hbox hg)|((with_reducible refine zr (N:=4) rfl ?_);refine zy ?hg (N:=4) ?hd (cs:=#[.int .u64 0,.int .u64 0]) (t:=48) ?hr ?_;(case hd=>rfl);(case hg=>rfl);(case hr=>first|(go_simp;done)|(go_simp;rfl));intro gb102 hg w7 hbox hb;have n0_:=z4.mk (zh (g:=gb101) (o:=.cells #[.int .u64 a1_0,.int .u64 a1_1] 48 (0,0)) zz46 hb);have n1_:=z4.mk (z9 zz40 hb);have n2_:=z4.mk (hbox);have n3_:=z4.mk ((by rw [hg];exact (ze zz40) : w.heap.size ≤ gb102));have n4_:=z4.mk ((by rw [hg];exact (ze zz40) : w.heap.size ≤ gb102));have n5_:=z4.mk ((by rw [hg];exact Nat.ne_of_lt (zO (g:=gb101) (o:=.cells #[.int .u64 a1_0,.int .u64 a1_1] 48 (0,0)) zz46) : gb101 ≠ gb102));have n6_:=z4.mk ((by rw [hg];exact Nat.ne_of_gt (zO (g:=gb101) (o:=.cells #[.int .u64 a1_0,.int .u64 a1_1] 48 (0,0)) zz46) : gb102 ≠ gb101));clear BK101;clear HB;have BK101:=n0_;have HB:=n1_;have BK102:=n2_;have GW102:=n3_;have GE102:=n4_;have NB101_102:=n5_;have NB102_101:=n6_;clear n0_ n1_ n2_ n3_ n4_ n5_ n6_;clear hb hbox hg))
 have n0_:=z4.mk (zb BK101.out)
 have n1_:=z4.mk (zb BK102.out)
 have n2_:=z4.mk (zc HB.out)
 clear BK101
 clear BK102
 clear HB
 have BK101:=n0_
 have BK102:=n1_
 have HB:=n2_
 clear n0_ n1_ n2_
 refine start_ (n:=10) (S:=fun w'=>w'.cell? ⟨gb101,0,none⟩ = some (.int .u64 a1_0) ∧ w'.cell? ⟨gb101,1,none⟩ = some (.int .u64 a1_1)) (ds:=[]) #[false,false,false,false,false,false,false,false,false,false] zz84 rfl rfl ⟨(zf BK101.out 0).trans rfl,(zf BK101.out 1).trans rfl⟩ (fun hHeld=>?_);refine z2e zA.tab2 zA.bits2 (fun HT_ HW_=>?_)
 generalize w7.drew = w8 at BK101 BK102 HB hHeld ⊢
 refine pure_ (i:=0) (N:=some 7) (v:=?_) (a':=?_) #[true,false,false,false,false,false,false,false,false,false] rfl rfl (z1v HT_.out zz84) (fun _ _ _ h=>h) (Or.inl ⟨by rfl,?_⟩) ?_ ?_
 rotate_left
 · intro w'
   go_simp
   with_reducible rfl
 rotate_left
 · simp only [Act.put,List.setIfInBounds_toArray,List.set_cons_zero,List.set_cons_succ,zY,z16]
   rfl
 refine pure_ (i:=1) (N:=some 8) (v:=?_) (a':=?_) #[true,true,false,false,false,false,false,false,false,false] rfl rfl (z1v HT_.out zz84) (fun _ _ _ h=>h) (Or.inl ⟨by rfl,?_⟩) ?_ ?_
 rotate_left
 · intro w'
   go_simp
   with_reducible rfl
 rotate_left
 · simp only [Act.put,List.setIfInBounds_toArray,List.set_cons_zero,List.set_cons_succ,zY,z16]
   rfl
 refine pure_ (i:=4) (N:=some 11) (v:=?_) (a':=?_) #[true,true,false,false,true,false,false,false,false,false] rfl rfl (z1v HT_.out zz84) (fun _ _ _ h=>h) (Or.inl ⟨by rfl,?_⟩) ?_ ?_
 rotate_left
 · intro w'
   go_simp
   with_reducible rfl
 rotate_left
 · simp only [Act.put,List.setIfInBounds_toArray,List.set_cons_zero,List.set_cons_succ,zY,z16]
   rfl
 refine pure_ (i:=5) (N:=some 12) (v:=?_) (a':=?_) #[true,true,false,false,true,true,false,false,false,false] rfl rfl (z1v HT_.out zz84) (fun _ _ _ h=>h) (Or.inl ⟨by rfl,?_⟩) ?_ ?_
 rotate_left
 · intro w'
   go_simp
   with_reducible rfl
 rotate_left
 · simp only [Act.put,List.setIfInBounds_toArray,List.set_cons_zero,List.set_cons_succ,zY,z16]
   rfl
 refine take_ (i:=2) (N:=some 9) (v:=?_) (a':=?_) #[true,true,true,false,true,true,false,false,false,false] rfl rfl (z1S HT_.out HW_.out zz84) (fun _ _ _ h=>h) (Or.inl ⟨by rfl,?_⟩) hHeld ?_ ?_
 rotate_left
 · rintro w' ⟨s0,s1⟩
   go_simp
   with_reducible rfl
 rotate_left
 · simp only [Act.put,List.setIfInBounds_toArray,List.set_cons_zero,List.set_cons_succ,zY,z16]
   rfl
 refine take_ (i:=6) (N:=some 13) (v:=?_) (a':=?_) #[true,true,true,false,true,true,true,false,false,false] rfl rfl (z1S HT_.out HW_.out zz84) (fun _ _ _ h=>h) (Or.inl ⟨by rfl,?_⟩) hHeld ?_ ?_
 rotate_left
 · rintro w' ⟨s0,s1⟩
   go_simp
   with_reducible rfl
 rotate_left
 · simp only [Act.put,List.setIfInBounds_toArray,List.set_cons_zero,List.set_cons_succ,zY,z16]
   rfl
 refine one_ (i:=3) (N:=some 10) #[true,true,true,true,true,true,true,false,false,false] rfl rfl (z20 HT_.out zz84) zz85 (fun K hK=>?_)
 refine goes_ Try.func121 zz84 rfl #[.int .i64 a0,.int .u64 a1_0] zz88 rfl rfl zz44 ?_
 with_reducible refine (zp.calls k a0 a1_0 t103 _ A4.out).mono ?_
 rintro e w9 ⟨rfl,hb⟩
 refine ⟨_,rfl,?_⟩
 have n0_:=z4.mk (zh (g:=gb101) (o:=.cells #[.int .u64 a1_0,.int .u64 a1_1] 48 (0,0)) zz46 hb)
 have n1_:=z4.mk (zh (g:=gb102) (o:=.cells #[.int .u64 0,.int .u64 0] 48 (0,0)) zz47 hb)
 have n2_:=z4.mk (z9 zz33 hb)
 clear BK101
 clear BK102
 clear HB
 have BK101:=n0_
 have BK102:=n1_
 have HB:=n2_
 clear n0_ n1_ n2_
 (try clear hb)
 (try clear hb2)
 (try clear hk)
 (try clear hi)
 refine hK.out _ _ ⟨(zf BK101.out 0).trans rfl,(zf BK101.out 1).trans rfl⟩ (fun hHeld=>?_)
 clear hK K
 refine norm_ (a':=?_) ?_ ?_
 rotate_left
 · show Act.put _ (some 10) _ = _
   simp only [Act.put,List.setIfInBounds_toArray,List.set_cons_zero,List.set_cons_succ,zY,z16]
   rfl
 refine one_ (i:=7) (N:=some 14) #[true,true,true,true,true,true,true,true,false,false] rfl rfl (z20 HT_.out zz84) zz85 (fun K hK=>?_)
 refine goes_ Try.func121 zz84 rfl #[.int .i64 a0,.int .u64 a1_1] zz88 rfl rfl zz44 ?_
 with_reducible refine (zp.calls k a0 a1_1 t104 _ A5.out).mono ?_
 rintro e w10 ⟨rfl,hb⟩
 refine ⟨_,rfl,?_⟩
 have n0_:=z4.mk (zh (g:=gb101) (o:=.cells #[.int .u64 a1_0,.int .u64 a1_1] 48 (0,0)) zz46 hb)
 have n1_:=z4.mk (zh (g:=gb102) (o:=.cells #[.int .u64 0,.int .u64 0] 48 (0,0)) zz47 hb)
 have n2_:=z4.mk (z9 zz33 hb)
 clear BK101
 clear BK102
 clear HB
 have BK101:=n0_
 have BK102:=n1_
 have HB:=n2_
 clear n0_ n1_ n2_
 (try clear hb)
 (try clear hb2)
 (try clear hk)
 (try clear hi)
 refine hK.out _ _ ⟨(zf BK101.out 0).trans rfl,(zf BK101.out 1).trans rfl⟩ (fun hHeld=>?_)
 clear hK K
 refine norm_ (a':=?_) ?_ ?_
 rotate_left
 · show Act.put _ (some 14) _ = _
   simp only [Act.put,List.setIfInBounds_toArray,List.set_cons_zero,List.set_cons_succ,zY,z16]
   rfl
 refine pure_ (i:=8) (N:=some 15) (v:=?_) (a':=?_) #[true,true,true,true,true,true,true,true,true,false] rfl rfl (z1v HT_.out zz84) (fun _ _ _ h=>h) (Or.inl ⟨by rfl,?_⟩) ?_ ?_
 rotate_left
 · intro w'
   go_simp
   with_reducible rfl
 rotate_left
 · simp only [Act.put,List.setIfInBounds_toArray,List.set_cons_zero,List.set_cons_succ,zY,z16]
   rfl
 refine one_ (i:=9) (N:=none) #[true,true,true,true,true,true,true,true,true,true] rfl rfl (z20 HT_.out zz84) zz85 (fun K hK=>?_)
 have hs11 : w10.cell? ⟨gb102,0,none⟩ = some (.int .u64 0):=(zf BK102.out 0).trans rfl
 have hfs11:=za BK102.out 0
 have hns11_0:=NB101_102.out
 have hms11_0:=NB102_101.out
 have hs12 : w10.cell? ⟨gb102,1,none⟩ = some (.int .u64 0):=(zf BK102.out 1).trans rfl
 have hfs12:=za BK102.out 1
 have hns12_0:=NB101_102.out
 have hms12_0:=NB102_101.out
 refine skip_ (w1:=?_) zz88 rfl ?_ ?_
 rotate_left
 · go_simp
   rfl
 refine hK.out _ _ ⟨((z2x (p:=⟨gb102,_,none⟩) NB101_102.out _).trans (((z2x (p:=⟨gb102,_,none⟩) NB101_102.out _).trans (hHeld.1)))),((z2x (p:=⟨gb102,_,none⟩) NB101_102.out _).trans (((z2x (p:=⟨gb102,_,none⟩) NB101_102.out _).trans (hHeld.2))))⟩ (fun hHeld=>?_)
 clear hK K
 refine done_ (z2B HT_.out zz84) ?_
 try go_wp2
 refine bodyPost_ret (results_cell_row rfl _ _ gb102 48 #[.int .u64 t103,.int .u64 t104] (0,0) _ rfl (by (with_reducible repeat (first|refine z8 ?_ _|refine zb ?_|refine z7 ?_ _));refine zX (cs:=#[.int .u64 t103,.int .u64 0]) ?_ 1 _ rfl;(with_reducible repeat (first|refine z8 ?_ _|refine zb ?_|refine z7 ?_ _));refine zX (cs:=#[.int .u64 0,.int .u64 0]) ?_ 0 _ rfl;(with_reducible repeat (first|refine z8 ?_ _|refine zb ?_|refine z7 ?_ _));exact BK102.out) Try.underlying48 rfl zz84) rfl ?_
 exact ⟨by first|rfl|(simp [zi,zj] <;> rfl)|(simp [*,zi,zj] <;> rfl),by repeat (first|(with_reducible first|exact HB.out|apply zg|apply z6|apply zc|refine zd ?_ GE101.out|refine zd ?_ GE102.out)|exact HB.out)⟩
end Go.Proofs.Ytklkmflhnljbdaa.P

/- Own text: merged by wip/tools/pack.py out of what the law SpanMaps reaches. -/
import Derived.Deep.Slices
import Derived.OpenShut
import Derived.ProofKit
import Derived.Laws.BitsLemmas
import Derived.Test.YtnhbdhgbmjcjdaaMSpanMapsa
import Derived.Test.YtnhbdhgbmjcjdaaMSpanMapsb
import Derived.Test.YtnhbdhgbmjcjdaaMSpanMapsc
import Derived.Test.YtnhbdhgbmjcjdaaMSpanMapsd
namespace Go.Proofs.Ytnhbdhgbmjcjdaa.P
open Go.RowKit Go.Proofs.YtnhbdhgbmjcjdaaW.PrintWords Go.Proofs.YtnhbdhgbmjcjdaaW.PrintLast Go.Proofs.YtnhbdhgbmjcjdaaW.PrintMore
attribute [local go_sem] z10 z12 z1h z1i zQ zR z11 z13   -- for this text's walks alone
set_option linter.unusedVariables false
set_option linter.unusedSimpArgs false
attribute [local go_sem high] eqA35 eqA38
mutual
def z2.j0 : Nat → List (S35) → List (S35) → Bool → Int → Int → Option (Bool)
 | 0,_,_,_,_,_=>none
 | k + 1,x0,x1,x46,x102000,x102001=>if x46 = true then ((zF.f k).bind fun t102=>(some t102)) else ((z19.f k x0 x102000 x102001).bind fun bt103=>((zg.f k x0).bind fun t107=>((zK.f k t107 x102000 x102001).bind fun bt110=>((zJ.f k x0 x1).bind fun bt114=>((zg.f k x0).bind fun t118=>((zg.f k x1).bind fun t121=>((zm.f k t118 t121).bind fun bt124=>(if (!(bt103.1 == bt110.1) || (!(bt103.2.1 == bt110.2.1))) = true then (z2.j1 k x1 bt103.2.2 bt114.1 bt114.2 true x102000 x102001 bt103.1 bt103.2.1) else (if bt103.2.2 = bt110.2.2 then ((zh.f k bt114.1 bt124.1).bind fun t128=>(if t128 = true then (z2.j1 k x1 bt103.2.2 bt114.1 bt114.2 (bt114.2 != bt124.2) x102000 x102001 bt103.1 bt103.2.1) else (z2.j1 k x1 bt103.2.2 bt114.1 bt114.2 true x102000 x102001 bt103.1 bt103.2.1))) else (z2.j1 k x1 bt103.2.2 bt114.1 bt114.2 true x102000 x102001 bt103.1 bt103.2.1))))))))))
def z2.j1 : Nat → List (S35) → Int → List (S35) → Int → Bool → Int → Int → Int → Int → Option (Bool)
 | 0,_,_,_,_,_,_,_,_,_=>none
 | k + 1,x1,x8,x11,x12,x93,x102000,x102001,x107000,x107001=>if x93 = true then (some false) else (if x8 = 0 then (z2.j2 k x1 x11 (x12 == 0) x102000 x102001 x107000 x107001) else (z2.j2 k x1 x11 false x102000 x102001 x107000 x107001))
def z2.j2 : Nat → List (S35) → List (S35) → Bool → Int → Int → Int → Int → Option (Bool)
 | 0,_,_,_,_,_,_,_=>none
 | k + 1,x1,x11,x99,x102000,x102001,x107000,x107001=>if x99 = true then ((z19.f k x1 x107000 x107001).bind fun bt129=>((z19.f k x11 x102000 x102001).bind fun bt133=>((zF.f k).bind fun t137=>(if t137 = true then (if bt129.2.2 = 0 then (if bt133.2.2 = 0 then (some (bt129.1 == bt133.1 && (bt129.2.1 == bt133.2.1))) else (some false)) else (some false)) else (some false))))) else ((zF.f k).bind fun t138=>(some t138))
end
def z2.f (k : Nat) (l0 : List (S35)) (l1 : List (S35)) (a2_0 : Int) (a2_1 : Int) : Option (Bool):=if (l0.length : Int) > 40 then (if (l0.length : Int) ≤ 128 then (z2.j0 k l0 l1 true a2_0 a2_1) else (if (l1.length : Int) > 40 then (if (l1.length : Int) ≤ 128 then (z2.j0 k l0 l1 true a2_0 a2_1) else (if (l0.length : Int) > 200 then (z2.j0 k l0 l1 true a2_0 a2_1) else (z2.j0 k l0 l1 (decide ((l1.length : Int) > 200)) a2_0 a2_1))) else (if (l0.length : Int) > 200 then (z2.j0 k l0 l1 true a2_0 a2_1) else (z2.j0 k l0 l1 (decide ((l1.length : Int) > 200)) a2_0 a2_1)))) else (if (l1.length : Int) > 40 then (if (l1.length : Int) ≤ 128 then (z2.j0 k l0 l1 true a2_0 a2_1) else (if (l0.length : Int) > 200 then (z2.j0 k l0 l1 true a2_0 a2_1) else (z2.j0 k l0 l1 (decide ((l1.length : Int) > 200)) a2_0 a2_1))) else (if (l0.length : Int) > 200 then (z2.j0 k l0 l1 true a2_0 a2_1) else (z2.j0 k l0 l1 (decide ((l1.length : Int) > 200)) a2_0 a2_1)))
theorem z2.zY : ∀ k,(∀ y0 y1 y2 y3 y4,LeO (z2.j0 k y0 y1 y2 y3 y4) (z2.j0 (k + 1) y0 y1 y2 y3 y4)) ∧ (∀ y0 y1 y2 y3 y4 y5 y6 y7 y8,LeO (z2.j1 k y0 y1 y2 y3 y4 y5 y6 y7 y8) (z2.j1 (k + 1) y0 y1 y2 y3 y4 y5 y6 y7 y8)) ∧ (∀ y0 y1 y2 y3 y4 y5 y6,LeO (z2.j2 k y0 y1 y2 y3 y4 y5 y6) (z2.j2 (k + 1) y0 y1 y2 y3 y4 y5 y6))
 | 0=>⟨fun _ _ _ _ _ r h=>by simp [z2.j0] at h,fun _ _ _ _ _ _ _ _ _ r h=>by simp [z2.j1] at h,fun _ _ _ _ _ _ _ r h=>by simp [z2.j2] at h⟩
 | k + 1=>by
  obtain ⟨ih0,ih1,ih2⟩:=z2.zY k
  refine ⟨?_,?_,?_⟩
  · intro y0 y1 y2 y3 y4
    unfold z2.j0
    repeat' first
    | (with_reducible exact ih0 _ _ _ _ _)
    | (with_reducible exact ih1 _ _ _ _ _ _ _ _ _)
    | (with_reducible exact ih2 _ _ _ _ _ _ _)
    | (with_reducible exact z19.mono _ _ _ _)
    | (with_reducible exact zJ.mono _ _ _)
    | (with_reducible exact zg.mono _ _)
    | (with_reducible exact zh.mono _ _ _)
    | (with_reducible exact zF.mono _)
    | (with_reducible exact zK.mono _ _ _ _)
    | (with_reducible exact zm.mono _ _ _)
    | (with_reducible exact LeO.refl _)
    | (with_reducible exact LeO.none _)
    | (with_reducible refine LeO.ite ?_ ?_)
    | (with_reducible refine LeO.bind ?_ (fun _=>?_))
    | exact ih0 _ _ _ _ _
    | exact ih1 _ _ _ _ _ _ _ _ _
    | exact ih2 _ _ _ _ _ _ _
    | exact z19.mono _ _ _ _
    | exact zJ.mono _ _ _
    | exact zg.mono _ _
    | exact zh.mono _ _ _
    | exact zF.mono _
    | exact zK.mono _ _ _ _
    | exact zm.mono _ _ _
    | exact LeO.none _
    | refine LeO.ite ?_ ?_
    | refine LeO.bind ?_ (fun _=>?_)
  · intro y0 y1 y2 y3 y4 y5 y6 y7 y8
    unfold z2.j1
    repeat' first
    | (with_reducible exact ih0 _ _ _ _ _)
    | (with_reducible exact ih1 _ _ _ _ _ _ _ _ _)
    | (with_reducible exact ih2 _ _ _ _ _ _ _)
    | (with_reducible exact z19.mono _ _ _ _)
    | (with_reducible exact zJ.mono _ _ _)
    | (with_reducible exact zg.mono _ _)
    | (with_reducible exact zh.mono _ _ _)
    | (with_reducible exact zF.mono _)
    | (with_reducible exact zK.mono _ _ _ _)
    | (with_reducible exact zm.mono _ _ _)
    | (with_reducible exact LeO.refl _)
    | (with_reducible exact LeO.none _)
    | (with_reducible refine LeO.ite ?_ ?_)
    | (with_reducible refine LeO.bind ?_ (fun _=>?_))
    | exact ih0 _ _ _ _ _
    | exact ih1 _ _ _ _ _ _ _ _ _
    | exact ih2 _ _ _ _ _ _ _
    | exact z19.mono _ _ _ _
    | exact zJ.mono _ _ _
    | exact zg.mono _ _
    | exact zh.mono _ _ _
    | exact zF.mono _
    | exact zK.mono _ _ _ _
    | exact zm.mono _ _ _
    | exact LeO.none _
    | refine LeO.ite ?_ ?_
    | refine LeO.bind ?_ (fun _=>?_)
  · intro y0 y1 y2 y3 y4 y5 y6
    unfold z2.j2
    repeat' first
    | (with_reducible exact ih0 _ _ _ _ _)
    | (with_reducible exact ih1 _ _ _ _ _ _ _ _ _)
    | (with_reducible exact ih2 _ _ _ _ _ _ _)
    | (with_reducible exact z19.mono _ _ _ _)
    | (with_reducible exact zJ.mono _ _ _)
    | (with_reducible exact zg.mono _ _)
    | (with_reducible exact zh.mono _ _ _)
    | (with_reducible exact zF.mono _)
    | (with_reducible exact zK.mono _ _ _ _)
    | (with_reducible exact zm.mono _ _ _)
    | (with_reducible exact LeO.refl _)
    | (with_reducible exact LeO.none _)
    | (with_reducible refine LeO.ite ?_ ?_)
    | (with_reducible refine LeO.bind ?_ (fun _=>?_))
    | exact ih0 _ _ _ _ _
    | exact ih1 _ _ _ _ _ _ _ _ _
    | exact ih2 _ _ _ _ _ _ _
    | exact z19.mono _ _ _ _
    | exact zJ.mono _ _ _
    | exact zg.mono _ _
    | exact zh.mono _ _ _
    | exact zF.mono _
    | exact zK.mono _ _ _ _
    | exact zm.mono _ _ _
    | exact LeO.none _
    | refine LeO.ite ?_ ?_
    | refine LeO.bind ?_ (fun _=>?_)
theorem z2.mono : ∀ a0 a1 a2 a3 k,LeO (z2.f k a0 a1 a2 a3) (z2.f (k + 1) a0 a1 a2 a3):=by
 intro a0 a1 a2 a3 k
 obtain ⟨ih0,ih1,ih2⟩:=z2.zY k
 unfold z2.f
 repeat' first
  | (with_reducible exact ih0 _ _ _ _ _)
  | (with_reducible exact ih1 _ _ _ _ _ _ _ _ _)
  | (with_reducible exact ih2 _ _ _ _ _ _ _)
  | (with_reducible exact z19.mono _ _ _ _)
  | (with_reducible exact zJ.mono _ _ _)
  | (with_reducible exact zg.mono _ _)
  | (with_reducible exact zh.mono _ _ _)
  | (with_reducible exact zF.mono _)
  | (with_reducible exact zK.mono _ _ _ _)
  | (with_reducible exact zm.mono _ _ _)
  | (with_reducible exact LeO.refl _)
  | (with_reducible exact LeO.none _)
  | (with_reducible refine LeO.ite ?_ ?_)
  | (with_reducible refine LeO.bind ?_ (fun _=>?_))
  | exact ih0 _ _ _ _ _
  | exact ih1 _ _ _ _ _ _ _ _ _
  | exact ih2 _ _ _ _ _ _ _
  | exact z19.mono _ _ _ _
  | exact zJ.mono _ _ _
  | exact zg.mono _ _
  | exact zh.mono _ _ _
  | exact zF.mono _
  | exact zK.mono _ _ _ _
  | exact zm.mono _ _ _
  | exact LeO.none _
  | refine LeO.ite ?_ ?_
  | refine LeO.bind ?_ (fun _=>?_)
def z2.T4 : Bool × List (List Nat × List Nat):=(true,[([],[]),([0],[0]),([],[]),([1,2,1],[1,2]),([3],[3]),([4],[4]),([4],[4]),([],[]),([7,5,3,0,1,2,3,4,5,7],[5,7]),([6,8,0,1,2,3,4,5,6,7,8],[6])])
def z2.B4 : List Nat:=[0,1,0,7,15,31,31,0,191,511]
theorem z2.tab4 : rtab .any (opsOf Try.f4 4) = z2.T4:=by kernel_rfl
theorem z2.bits4 : waitsOk z2.T4.2 z2.B4 = true:=by kernel_rfl
set_option maxHeartbeats 8000000 in
set_option maxRecDepth 100000 in
theorem z2.calls (k : Nat) (A0 : Option Addr) (c0 : Nat) (l0 : List (S35)) (A1 : Option Addr) (c1 : Nat) (l1 : List (S35)) (a2_0 : Int) (a2_1 : Int) (r : Bool) (w : World) (hr0 : Kd.C k35 w A0 l0.length l0) (hc0 : l0.length ≤ c0) (hr1 : Kd.C k35 w A1 l1.length l1) (hc1 : l1.length ≤ c1) (h : z2.f k l0 l1 a2_0 a2_1 = some r) :
 Calls Try.prog 4 #[.slice A0 l0.length c0,.slice A1 l1.length c1,.agg #[.int .u64 a2_0,.int .u64 a2_1]] w fun e w'=>e = .returned (.bool r) ∧ Below w.heap.size w w':=by
 have hu35:=Try.underlying35
 have hu38:=Try.underlying38
 have HR0:=z1.mk hr0
 have HC0:=z1.mk hc0
 clear hr0 hc0
 have HR1:=z1.mk hr1
 have HC1:=z1.mk hc1
 clear hr1 hc1
 have HB:=z1.mk (Below.refl w.heap.size w)
 have H : (if (l0.length : Int) > 40 then (if (l0.length : Int) ≤ 128 then (z2.j0 k l0 l1 true a2_0 a2_1) else (if (l1.length : Int) > 40 then (if (l1.length : Int) ≤ 128 then (z2.j0 k l0 l1 true a2_0 a2_1) else (if (l0.length : Int) > 200 then (z2.j0 k l0 l1 true a2_0 a2_1) else (z2.j0 k l0 l1 (decide ((l1.length : Int) > 200)) a2_0 a2_1))) else (if (l0.length : Int) > 200 then (z2.j0 k l0 l1 true a2_0 a2_1) else (z2.j0 k l0 l1 (decide ((l1.length : Int) > 200)) a2_0 a2_1)))) else (if (l1.length : Int) > 40 then (if (l1.length : Int) ≤ 128 then (z2.j0 k l0 l1 true a2_0 a2_1) else (if (l0.length : Int) > 200 then (z2.j0 k l0 l1 true a2_0 a2_1) else (z2.j0 k l0 l1 (decide ((l1.length : Int) > 200)) a2_0 a2_1))) else (if (l0.length : Int) > 200 then (z2.j0 k l0 l1 true a2_0 a2_1) else (z2.j0 k l0 l1 (decide ((l1.length : Int) > 200)) a2_0 a2_1)))) = some r:=h
 clear h
 have HC4:=z1.mk H
 clear H
 go_enter Try.func4,Try.ntmps4
 go_upto_region 1 with (first|((with_reducible refine zE (N:=5) rfl ?_);(try (refine z1n zz88 ?_;dsimp only));refine zC ?hg (N:=5) ?hd (cs:=#[.int .u64 a2_0,.int .u64 a2_1]) (t:=35) ?hr ?_;(case hd=>rfl);(case hg=>rfl);(case hr=>first|(go_simp;done)|(go_simp;rfl));intro gb101 hg w5 hbox hb;have n0_:=z1.mk (ze zz47 hb);have n1_:=z1.mk (hbox);have n2_:=z1.mk ((by rw [hg];exact (zf zz47) : w.heap.size ≤ gb101));have n3_:=z1.mk ((by rw [hg];exact (zf zz47) : w.heap.size ≤ gb101));clear HB;have HB:=n0_;have BK101:=n1_;have GW101:=n2_;have GE101:=n3_;clear n0_ n1_ n2_ n3_;clear hb hbox hg))
 (try simp only [Act.put,List.setIfInBounds_toArray,List.set_cons_zero,List.set_cons_succ])
 go_cut [46] (fun v46 wc=>∃ (kq : Nat) (x46_3 : Bool),v46 = .bool x46_3 ∧ z1 (z2.j0 kq l0 l1 x46_3 a2_0 a2_1 = some r) ∧ z1 (kq ≤ k) ∧ z1 (wc.heap[gb101]? = some (.cells #[.int .u64 a2_0,.int .u64 a2_1] 35 (0,0))) ∧ z1 (Below w.heap.size w wc))
 case first =>
  have H:=HC4.out
  clear HC4
  by_cases c6 : (l0.length : Int) > 40
  rotate_left
  · rw [if_neg c6] at H
    have c6b0 : decide (40 < (l0.length : Int)) = false:=decide_eq_false c6
    have c6b1 : decide (40 < l0.length) = false:=decide_eq_false zz86
    clear c6
    (first|rw [c6b0]|(simp only [zH,zI];rw [c6b0])|skip)
    by_cases c12 : (l1.length : Int) > 40
    rotate_left
    · rw [if_neg c12] at H
      have c12b0 : decide (40 < (l1.length : Int)) = false:=decide_eq_false c12
      have c12b1 : decide (40 < l1.length) = false:=decide_eq_false zz86
      clear c12
      by_cases c15 : (l0.length : Int) > 200
      rotate_left
      · rw [if_neg c15] at H
        have c15b0 : decide (200 < (l0.length : Int)) = false:=decide_eq_false c15
        have c15b1 : decide (200 < l0.length) = false:=decide_eq_false zz86
        clear c15
        have H':=z1.mk H
        clear H
        go_wp2
        go_meet
        case rel=>exact ⟨_,(decide ((l1.length : Int) > 200)),zz82,H',⟨by first|omega|exact Nat.le_refl _⟩,⟨by (with_reducible repeat (first|refine z8 ?_ _|refine zb ?_|refine z7 ?_ _));exact BK101.out⟩,⟨by repeat (first|(with_reducible first|exact HB.out|apply zd|apply z3|apply zc|refine za ?_ GE101.out)|exact HB.out)⟩⟩
      rw [if_pos c15] at H
      have c15b0 : decide (200 < (l0.length : Int)) = true:=decide_eq_true c15
      have c15b1 : decide (200 < l0.length) = true:=decide_eq_true zz86
      clear c15
      have H':=z1.mk H
      clear H
      go_wp2
      go_meet
      case rel=>exact ⟨_,(true),zz82,H',⟨by first|omega|exact Nat.le_refl _⟩,⟨by (with_reducible repeat (first|refine z8 ?_ _|refine zb ?_|refine z7 ?_ _));exact BK101.out⟩,⟨by repeat (first|(with_reducible first|exact HB.out|apply zd|apply z3|apply zc|refine za ?_ GE101.out)|exact HB.out)⟩⟩
    rw [if_pos c12] at H
    have c12b0 : decide (40 < (l1.length : Int)) = true:=decide_eq_true c12
    have c12b1 : decide (40 < l1.length) = true:=decide_eq_true zz86
    clear c12
    by_cases c13 : (l1.length : Int) ≤ 128
    · rw [if_pos c13] at H
      have c13b0 : decide ((l1.length : Int) ≤ 128) = true:=decide_eq_true c13
      have c13b1 : decide (l1.length ≤ 128) = true:=decide_eq_true zz86
      clear c13
      have H':=z1.mk H
      clear H
      go_wp2
      go_meet
      case rel=>exact ⟨_,(true),zz82,H',⟨by first|omega|exact Nat.le_refl _⟩,⟨by (with_reducible repeat (first|refine z8 ?_ _|refine zb ?_|refine z7 ?_ _));exact BK101.out⟩,⟨by repeat (first|(with_reducible first|exact HB.out|apply zd|apply z3|apply zc|refine za ?_ GE101.out)|exact HB.out)⟩⟩
    rw [if_neg c13] at H
    have c13b0 : decide ((l1.length : Int) ≤ 128) = false:=decide_eq_false c13
    have c13b1 : decide (l1.length ≤ 128) = false:=decide_eq_false zz86
    clear c13
    by_cases c14 : (l0.length : Int) > 200
    rotate_left
    · rw [if_neg c14] at H
      have c14b0 : decide (200 < (l0.length : Int)) = false:=decide_eq_false c14
      have c14b1 : decide (200 < l0.length) = false:=decide_eq_false zz86
      clear c14
      have H':=z1.mk H
      clear H
      go_wp2
      go_meet
      case rel=>exact ⟨_,(decide ((l1.length : Int) > 200)),zz82,H',⟨by first|omega|exact Nat.le_refl _⟩,⟨by (with_reducible repeat (first|refine z8 ?_ _|refine zb ?_|refine z7 ?_ _));exact BK101.out⟩,⟨by repeat (first|(with_reducible first|exact HB.out|apply zd|apply z3|apply zc|refine za ?_ GE101.out)|exact HB.out)⟩⟩
    rw [if_pos c14] at H
    have c14b0 : decide (200 < (l0.length : Int)) = true:=decide_eq_true c14
    have c14b1 : decide (200 < l0.length) = true:=decide_eq_true zz86
    clear c14
    have H':=z1.mk H
    clear H
    go_wp2
    go_meet
    case rel=>exact ⟨_,(true),zz82,H',⟨by first|omega|exact Nat.le_refl _⟩,⟨by (with_reducible repeat (first|refine z8 ?_ _|refine zb ?_|refine z7 ?_ _));exact BK101.out⟩,⟨by repeat (first|(with_reducible first|exact HB.out|apply zd|apply z3|apply zc|refine za ?_ GE101.out)|exact HB.out)⟩⟩
  rw [if_pos c6] at H
  have c6b0 : decide (40 < (l0.length : Int)) = true:=decide_eq_true c6
  have c6b1 : decide (40 < l0.length) = true:=decide_eq_true zz86
  clear c6
  (first|rw [c6b0]|(simp only [zH,zI];rw [c6b0])|skip)
  by_cases c7 : (l0.length : Int) ≤ 128
  · rw [if_pos c7] at H
    have c7b0 : decide ((l0.length : Int) ≤ 128) = true:=decide_eq_true c7
    have c7b1 : decide (l0.length ≤ 128) = true:=decide_eq_true zz86
    clear c7
    have H':=z1.mk H
    clear H
    go_wp2
    go_meet
    case rel=>exact ⟨_,(true),zz82,H',⟨by first|omega|exact Nat.le_refl _⟩,⟨by (with_reducible repeat (first|refine z8 ?_ _|refine zb ?_|refine z7 ?_ _));exact BK101.out⟩,⟨by repeat (first|(with_reducible first|exact HB.out|apply zd|apply z3|apply zc|refine za ?_ GE101.out)|exact HB.out)⟩⟩
  rw [if_neg c7] at H
  have c7b0 : decide ((l0.length : Int) ≤ 128) = false:=decide_eq_false c7
  have c7b1 : decide (l0.length ≤ 128) = false:=decide_eq_false zz86
  clear c7
  by_cases c8 : (l1.length : Int) > 40
  rotate_left
  · rw [if_neg c8] at H
    have c8b0 : decide (40 < (l1.length : Int)) = false:=decide_eq_false c8
    have c8b1 : decide (40 < l1.length) = false:=decide_eq_false zz86
    clear c8
    by_cases c11 : (l0.length : Int) > 200
    rotate_left
    · rw [if_neg c11] at H
      have c11b0 : decide (200 < (l0.length : Int)) = false:=decide_eq_false c11
      have c11b1 : decide (200 < l0.length) = false:=decide_eq_false zz86
      clear c11
      have H':=z1.mk H
      clear H
      go_wp2
      go_meet
      case rel=>exact ⟨_,(decide ((l1.length : Int) > 200)),zz82,H',⟨by first|omega|exact Nat.le_refl _⟩,⟨by (with_reducible repeat (first|refine z8 ?_ _|refine zb ?_|refine z7 ?_ _));exact BK101.out⟩,⟨by repeat (first|(with_reducible first|exact HB.out|apply zd|apply z3|apply zc|refine za ?_ GE101.out)|exact HB.out)⟩⟩
    rw [if_pos c11] at H
    have c11b0 : decide (200 < (l0.length : Int)) = true:=decide_eq_true c11
    have c11b1 : decide (200 < l0.length) = true:=decide_eq_true zz86
    clear c11
    have H':=z1.mk H
    clear H
    go_wp2
    go_meet
    case rel=>exact ⟨_,(true),zz82,H',⟨by first|omega|exact Nat.le_refl _⟩,⟨by (with_reducible repeat (first|refine z8 ?_ _|refine zb ?_|refine z7 ?_ _));exact BK101.out⟩,⟨by repeat (first|(with_reducible first|exact HB.out|apply zd|apply z3|apply zc|refine za ?_ GE101.out)|exact HB.out)⟩⟩
  rw [if_pos c8] at H
  have c8b0 : decide (40 < (l1.length : Int)) = true:=decide_eq_true c8
  have c8b1 : decide (40 < l1.length) = true:=decide_eq_true zz86
  clear c8
  by_cases c9 : (l1.length : Int) ≤ 128
  · rw [if_pos c9] at H
    have c9b0 : decide ((l1.length : Int) ≤ 128) = true:=decide_eq_true c9
    have c9b1 : decide (l1.length ≤ 128) = true:=decide_eq_true zz86
    clear c9
    have H':=z1.mk H
    clear H
    go_wp2
    go_meet
    case rel=>exact ⟨_,(true),zz82,H',⟨by first|omega|exact Nat.le_refl _⟩,⟨by (with_reducible repeat (first|refine z8 ?_ _|refine zb ?_|refine z7 ?_ _));exact BK101.out⟩,⟨by repeat (first|(with_reducible first|exact HB.out|apply zd|apply z3|apply zc|refine za ?_ GE101.out)|exact HB.out)⟩⟩
  rw [if_neg c9] at H
  have c9b0 : decide ((l1.length : Int) ≤ 128) = false:=decide_eq_false c9
  have c9b1 : decide (l1.length ≤ 128) = false:=decide_eq_false zz86
  clear c9
  by_cases c10 : (l0.length : Int) > 200
  rotate_left
  · rw [if_neg c10] at H
    have c10b0 : decide (200 < (l0.length : Int)) = false:=decide_eq_false c10
    have c10b1 : decide (200 < l0.length) = false:=decide_eq_false zz86
    clear c10
    have H':=z1.mk H
    clear H
    go_wp2
    go_meet
    case rel=>exact ⟨_,(decide ((l1.length : Int) > 200)),zz82,H',⟨by first|omega|exact Nat.le_refl _⟩,⟨by (with_reducible repeat (first|refine z8 ?_ _|refine zb ?_|refine z7 ?_ _));exact BK101.out⟩,⟨by repeat (first|(with_reducible first|exact HB.out|apply zd|apply z3|apply zc|refine za ?_ GE101.out)|exact HB.out)⟩⟩
  rw [if_pos c10] at H
  have c10b0 : decide (200 < (l0.length : Int)) = true:=decide_eq_true c10
  have c10b1 : decide (200 < l0.length) = true:=decide_eq_true zz86
  clear c10
  have H':=z1.mk H
  clear H
  go_wp2
  go_meet
  case rel=>exact ⟨_,(true),zz82,H',⟨by first|omega|exact Nat.le_refl _⟩,⟨by (with_reducible repeat (first|refine z8 ?_ _|refine zb ?_|refine z7 ?_ _));exact BK101.out⟩,⟨by repeat (first|(with_reducible first|exact HB.out|apply zd|apply z3|apply zc|refine za ?_ GE101.out)|exact HB.out)⟩⟩
 case rest =>
  clear HC4
  (try clear c1);(try clear p2);(try clear c4);(try clear c6);(try clear c6b0);(try clear c6b1);(try clear c7);(try clear c7b0);(try clear c7b1);(try clear c8);(try clear c8b0);(try clear c8b1);(try clear c9);(try clear c9b0);(try clear c9b1);(try clear c10);(try clear c10b0);(try clear c10b1);(try clear c11);(try clear c11b0);(try clear c11b1);(try clear c12);(try clear c12b0);(try clear c12b1);(try clear c13);(try clear c13b0);(try clear c13b1);(try clear c14);(try clear c14b0);(try clear c14b1);(try clear c15);(try clear c15b0);(try clear c15b1)
  obtain ⟨kq,x46_3,rfl,HA,HJ3,BK101,HB⟩:=hcut
  cases kq with
  | zero=>exact absurd HA.out (by simp [z2.j0])
  | succ kj3 =>
   have H:=HA.out
   clear HA
   simp only [z2.j0] at H
   by_cases c16 : x46_3 = true
   · subst c16
     have H1 : ((zF.f kj3).bind fun t102=>(some t102)) = some r:=by rw [if_pos rfl] at H;exact H
     clear H
     have H:=H1
     clear H1
     replace H:=Option.bind_eq_some_iff.mp H
     obtain ⟨t102,A170,H⟩:=H
     replace H : (some t102) = some r:=H
     have A17:=z1.mk A170
     clear A170
     obtain rfl:=Option.some.inj H
     go_wp2_with (first|((with_reducible refine zo (f:=10) rfl ?_);refine goesL_ (some 47) rfl rfl Try.func10 zz84 rfl #[] rfl zz45 ?_;(with_reducible refine (zF.calls kj3  t102 _ A17.out).mono ?_);rintro e w18 ⟨rfl,hb⟩;refine ⟨_,rfl,?_⟩;have n0_:=z1.mk (z9 (g:=gb101) (o:=.cells #[.int .u64 a2_0,.int .u64 a2_1] 35 (0,0)) zz49 hb);have n1_:=z1.mk (ze zz41 hb);clear BK101;clear HB;have BK101:=n0_;have HB:=n1_;clear n0_ n1_;(try clear hb);(try clear hb2);(try clear hk);(try clear hi)))
     go_ret
     exact ⟨by first|rfl|(simp [zi,zj] <;> rfl)|(simp [*,zi,zj] <;> rfl),by repeat (first|(with_reducible first|exact HB.out|apply zd|apply z3|apply zc|refine za ?_ GE101.out)|exact HB.out)⟩
   replace c16:=Bool.eq_false_iff.mpr c16
   subst c16
   have H1 : ((z19.f kj3 l0 a2_0 a2_1).bind fun bt103=>((zg.f kj3 l0).bind fun t107=>((zK.f kj3 t107 a2_0 a2_1).bind fun bt110=>((zJ.f kj3 l0 l1).bind fun bt114=>((zg.f kj3 l0).bind fun t118=>((zg.f kj3 l1).bind fun t121=>((zm.f kj3 t118 t121).bind fun bt124=>(if (!(bt103.1 == bt110.1) || (!(bt103.2.1 == bt110.2.1))) = true then (z2.j1 kj3 l1 bt103.2.2 bt114.1 bt114.2 true a2_0 a2_1 bt103.1 bt103.2.1) else (if bt103.2.2 = bt110.2.2 then ((zh.f kj3 bt114.1 bt124.1).bind fun t128=>(if t128 = true then (z2.j1 kj3 l1 bt103.2.2 bt114.1 bt114.2 (bt114.2 != bt124.2) a2_0 a2_1 bt103.1 bt103.2.1) else (z2.j1 kj3 l1 bt103.2.2 bt114.1 bt114.2 true a2_0 a2_1 bt103.1 bt103.2.1))) else (z2.j1 kj3 l1 bt103.2.2 bt114.1 bt114.2 true a2_0 a2_1 bt103.1 bt103.2.1)))))))))) = some r:=by rw [if_neg (show ¬ (false = true) by decide)] at H;exact H
   clear H
   have H:=H1
   clear H1
   replace H:=Option.bind_eq_some_iff.mp H
   obtain ⟨⟨t103,t104,t105⟩,A190,H⟩:=H
   replace H : ((zg.f kj3 l0).bind fun t107=>((zK.f kj3 t107 a2_0 a2_1).bind fun bt110=>((zJ.f kj3 l0 l1).bind fun bt114=>((zg.f kj3 l0).bind fun t118=>((zg.f kj3 l1).bind fun t121=>((zm.f kj3 t118 t121).bind fun bt124=>(if (!(t103 == bt110.1) || (!(t104 == bt110.2.1))) = true then (z2.j1 kj3 l1 t105 bt114.1 bt114.2 true a2_0 a2_1 t103 t104) else (if t105 = bt110.2.2 then ((zh.f kj3 bt114.1 bt124.1).bind fun t128=>(if t128 = true then (z2.j1 kj3 l1 t105 bt114.1 bt114.2 (bt114.2 != bt124.2) a2_0 a2_1 t103 t104) else (z2.j1 kj3 l1 t105 bt114.1 bt114.2 true a2_0 a2_1 t103 t104))) else (z2.j1 kj3 l1 t105 bt114.1 bt114.2 true a2_0 a2_1 t103 t104))))))))) = some r:=H
   have A19:=z1.mk A190
   clear A190
   replace H:=Option.bind_eq_some_iff.mp H
   obtain ⟨t107,A200,H⟩:=H
   replace H : ((zK.f kj3 t107 a2_0 a2_1).bind fun bt110=>((zJ.f kj3 l0 l1).bind fun bt114=>((zg.f kj3 l0).bind fun t118=>((zg.f kj3 l1).bind fun t121=>((zm.f kj3 t118 t121).bind fun bt124=>(if (!(t103 == bt110.1) || (!(t104 == bt110.2.1))) = true then (z2.j1 kj3 l1 t105 bt114.1 bt114.2 true a2_0 a2_1 t103 t104) else (if t105 = bt110.2.2 then ((zh.f kj3 bt114.1 bt124.1).bind fun t128=>(if t128 = true then (z2.j1 kj3 l1 t105 bt114.1 bt114.2 (bt114.2 != bt124.2) a2_0 a2_1 t103 t104) else (z2.j1 kj3 l1 t105 bt114.1 bt114.2 true a2_0 a2_1 t103 t104))) else (z2.j1 kj3 l1 t105 bt114.1 bt114.2 true a2_0 a2_1 t103 t104)))))))) = some r:=H
   have A20:=z1.mk A200
   clear A200
   replace H:=Option.bind_eq_some_iff.mp H
   obtain ⟨⟨t110,t111,t112⟩,A210,H⟩:=H
   replace H : ((zJ.f kj3 l0 l1).bind fun bt114=>((zg.f kj3 l0).bind fun t118=>((zg.f kj3 l1).bind fun t121=>((zm.f kj3 t118 t121).bind fun bt124=>(if (!(t103 == t110) || (!(t104 == t111))) = true then (z2.j1 kj3 l1 t105 bt114.1 bt114.2 true a2_0 a2_1 t103 t104) else (if t105 = t112 then ((zh.f kj3 bt114.1 bt124.1).bind fun t128=>(if t128 = true then (z2.j1 kj3 l1 t105 bt114.1 bt114.2 (bt114.2 != bt124.2) a2_0 a2_1 t103 t104) else (z2.j1 kj3 l1 t105 bt114.1 bt114.2 true a2_0 a2_1 t103 t104))) else (z2.j1 kj3 l1 t105 bt114.1 bt114.2 true a2_0 a2_1 t103 t104))))))) = some r:=H
   have A21:=z1.mk A210
   clear A210
   replace H:=Option.bind_eq_some_iff.mp H
   obtain ⟨⟨t114,t115⟩,A220,H⟩:=H
   replace H : ((zg.f kj3 l0).bind fun t118=>((zg.f kj3 l1).bind fun t121=>((zm.f kj3 t118 t121).bind fun bt124=>(if (!(t103 == t110) || (!(t104 == t111))) = true then (z2.j1 kj3 l1 t105 t114 t115 true a2_0 a2_1 t103 t104) else (if t105 = t112 then ((zh.f kj3 t114 bt124.1).bind fun t128=>(if t128 = true then (z2.j1 kj3 l1 t105 t114 t115 (t115 != bt124.2) a2_0 a2_1 t103 t104) else (z2.j1 kj3 l1 t105 t114 t115 true a2_0 a2_1 t103 t104))) else (z2.j1 kj3 l1 t105 t114 t115 true a2_0 a2_1 t103 t104)))))) = some r:=H
   have A22:=z1.mk A220
   clear A220
   replace H:=Option.bind_eq_some_iff.mp H
   obtain ⟨t118,A230,H⟩:=H
   replace H : ((zg.f kj3 l1).bind fun t121=>((zm.f kj3 t118 t121).bind fun bt124=>(if (!(t103 == t110) || (!(t104 == t111))) = true then (z2.j1 kj3 l1 t105 t114 t115 true a2_0 a2_1 t103 t104) else (if t105 = t112 then ((zh.f kj3 t114 bt124.1).bind fun t128=>(if t128 = true then (z2.j1 kj3 l1 t105 t114 t115 (t115 != bt124.2) a2_0 a2_1 t103 t104) else (z2.j1 kj3 l1 t105 t114 t115 true a2_0 a2_1 t103 t104))) else (z2.j1 kj3 l1 t105 t114 t115 true a2_0 a2_1 t103 t104))))) = some r:=H
   have A23:=z1.mk A230
   clear A230
   replace H:=Option.bind_eq_some_iff.mp H
   obtain ⟨t121,A240,H⟩:=H
   replace H : ((zm.f kj3 t118 t121).bind fun bt124=>(if (!(t103 == t110) || (!(t104 == t111))) = true then (z2.j1 kj3 l1 t105 t114 t115 true a2_0 a2_1 t103 t104) else (if t105 = t112 then ((zh.f kj3 t114 bt124.1).bind fun t128=>(if t128 = true then (z2.j1 kj3 l1 t105 t114 t115 (t115 != bt124.2) a2_0 a2_1 t103 t104) else (z2.j1 kj3 l1 t105 t114 t115 true a2_0 a2_1 t103 t104))) else (z2.j1 kj3 l1 t105 t114 t115 true a2_0 a2_1 t103 t104)))) = some r:=H
   have A24:=z1.mk A240
   clear A240
   replace H:=Option.bind_eq_some_iff.mp H
   obtain ⟨⟨t124,t125⟩,A250,H⟩:=H
   replace H : (if (!(t103 == t110) || (!(t104 == t111))) = true then (z2.j1 kj3 l1 t105 t114 t115 true a2_0 a2_1 t103 t104) else (if t105 = t112 then ((zh.f kj3 t114 t124).bind fun t128=>(if t128 = true then (z2.j1 kj3 l1 t105 t114 t115 (t115 != t125) a2_0 a2_1 t103 t104) else (z2.j1 kj3 l1 t105 t114 t115 true a2_0 a2_1 t103 t104))) else (z2.j1 kj3 l1 t105 t114 t115 true a2_0 a2_1 t103 t104))) = some r:=H
   have A25:=z1.mk A250
   clear A250
   have HC26:=z1.mk H
   clear H
   have hcz27_0 : wc.cell? ⟨gb101,0,none⟩ = some (.int .u64 a2_0):=(z5 BK101.out 0).trans rfl
   have hcz27_1 : wc.cell? ⟨gb101,1,none⟩ = some (.int .u64 a2_1):=(z5 BK101.out 1).trans rfl
   have hfz27_0:=z4 BK101.out 0
   have hfz27_1:=z4 BK101.out 1
   try go_wp2_with (first|((with_reducible refine zo (f:=15) rfl ?_);refine goesL_ (some 51) rfl rfl Try.func15 zz84 rfl #[.slice A0 l0.length c0,.agg #[.int .u64 a2_0,.int .u64 a2_1]] rfl zz45 ?_;(with_reducible refine (z19.calls kj3 _ _ l0 a2_0 a2_1 t103 t104 t105 _ ?side1 ?side2 A19.out).mono ?_);(case side1=>repeat (first|exact (Kd.z1A HR0.out HB.out)|(with_reducible refine Kd.z15 ?_ _)|(with_reducible refine Kd.z16 ?_ _)|(with_reducible refine Kd.z1m ?_)));(case side2=>exact HC0.out);rintro e w28 ⟨rfl,hb⟩;refine ⟨_,rfl,?_⟩;have n0_:=z1.mk (z9 (g:=gb101) (o:=.cells #[.int .u64 a2_0,.int .u64 a2_1] 35 (0,0)) zz49 hb);have n1_:=z1.mk (ze zz41 hb);clear BK101;clear HB;have BK101:=n0_;have HB:=n1_;clear n0_ n1_;(try clear hb);(try clear hb2);(try clear hk);(try clear hi))|((with_reducible refine zE (N:=7) rfl ?_);(try (refine z1n zz88 ?_;dsimp only));refine zC ?hg (N:=7) ?hd (cs:=#[.int .u64 0,.int .u64 0]) (t:=35) ?hr ?_;(case hd=>rfl);(case hg=>rfl);(case hr=>first|(go_simp;done)|(go_simp;rfl));intro gb106 hg w29 hbox hb;have n0_:=z1.mk (z9 (g:=gb101) (o:=.cells #[.int .u64 a2_0,.int .u64 a2_1] 35 (0,0)) zz49 hb);have n1_:=z1.mk (ze zz41 hb);have n2_:=z1.mk (hbox);have n3_:=z1.mk ((by rw [hg];exact (zf zz41) : w.heap.size ≤ gb106));have n4_:=z1.mk ((by rw [hg];exact (zf zz41) : w.heap.size ≤ gb106));have n5_:=z1.mk ((by rw [hg];exact Nat.ne_of_lt (zw (g:=gb101) (o:=.cells #[.int .u64 a2_0,.int .u64 a2_1] 35 (0,0)) zz49) : gb101 ≠ gb106));have n6_:=z1.mk ((by rw [hg];exact Nat.ne_of_gt (zw (g:=gb101) (o:=.cells #[.int .u64 a2_0,.int .u64 a2_1] 35 (0,0)) zz49) : gb106 ≠ gb101));clear BK101;clear HB;have BK101:=n0_;have HB:=n1_;have BK106:=n2_;have GW106:=n3_;have GE106:=n4_;have NB101_106:=n5_;have NB106_101:=n6_;clear n0_ n1_ n2_ n3_ n4_ n5_ n6_;clear hb hbox hg;have hnb30:=NB106_101.out;have hnc30:=NB101_106.out;have hcz31_0 : w29.cell? ⟨gb106,0,none⟩ = some (.int .u64 0):=(z5 BK106.out 0).trans rfl;have hcz31_1 : w29.cell? ⟨gb106,1,none⟩ = some (.int .u64 0):=(z5 BK106.out 1).trans rfl;have hfz31_0:=z4 BK106.out 0;have hfz31_1:=z4 BK106.out 1))
   have n0_ : z1 (((w29.setCell ⟨gb106,0,none⟩ (.int .u64 t103)).setCell ⟨gb106,1,none⟩ (.int .u64 t104)).heap[gb101]? = some (.cells #[.int .u64 a2_0,.int .u64 a2_1] 35 (0,0))):=⟨by (with_reducible repeat (first|refine z8 ?_ _|refine zb ?_|refine z7 ?_ _));refine zP ?_ NB101_106.out _;(with_reducible repeat (first|refine z8 ?_ _|refine zb ?_|refine z7 ?_ _));refine zP ?_ NB101_106.out _;(with_reducible repeat (first|refine z8 ?_ _|refine zb ?_|refine z7 ?_ _));exact BK101.out⟩
   have n1_ : z1 (((w29.setCell ⟨gb106,0,none⟩ (.int .u64 t103)).setCell ⟨gb106,1,none⟩ (.int .u64 t104)).heap[gb106]? = some (.cells #[.int .u64 t103,.int .u64 t104] 35 (0,0))):=⟨by (with_reducible repeat (first|refine z8 ?_ _|refine zb ?_|refine z7 ?_ _));refine zT (cs:=#[.int .u64 t103,.int .u64 0]) ?_ 1 _ rfl;(with_reducible repeat (first|refine z8 ?_ _|refine zb ?_|refine z7 ?_ _));refine zT (cs:=#[.int .u64 0,.int .u64 0]) ?_ 0 _ rfl;(with_reducible repeat (first|refine z8 ?_ _|refine zb ?_|refine z7 ?_ _));exact BK106.out⟩
   have n2_ : z1 (Below w.heap.size w ((w29.setCell ⟨gb106,0,none⟩ (.int .u64 t103)).setCell ⟨gb106,1,none⟩ (.int .u64 t104))):=⟨by repeat (first|(with_reducible first|exact HB.out|apply zd|apply z3|apply zc|refine za ?_ GE101.out|refine za ?_ GE106.out)|exact HB.out)⟩
   (try clear BK101)
   (try clear BK106)
   (try clear HB)
   generalize ((w29.setCell ⟨gb106,0,none⟩ (.int .u64 t103)).setCell ⟨gb106,1,none⟩ (.int .u64 t104)) = w32 at n0_ n1_ n2_ ⊢
   have BK101:=n0_
   have BK106:=n1_
   have HB:=n2_
   clear n0_ n1_ n2_
   have n0_:=z1.mk (zb BK101.out)
   have n1_:=z1.mk (zb BK106.out)
   have n2_:=z1.mk (zc HB.out)
   clear BK101
   clear BK106
   clear HB
   have BK101:=n0_
   have BK106:=n1_
   have HB:=n2_
   clear n0_ n1_ n2_
   refine start_ (n:=10) (S:=fun w'=>w'.cell? ⟨gb101,0,none⟩ = some (.int .u64 a2_0) ∧ w'.cell? ⟨gb101,1,none⟩ = some (.int .u64 a2_1)) (ds:=[]) #[false,false,false,false,false,false,false,false,false,false] zz84 rfl rfl ⟨(z5 BK101.out 0).trans rfl,(z5 BK101.out 1).trans rfl⟩ (fun hHeld=>?_);refine z23 z2.tab4 z2.bits4 (fun HT_ HW_=>?_)
   generalize w32.drew = w33 at BK101 BK106 HB hHeld ⊢
   refine pure_ (i:=0) (N:=some 55) (v:=?_) (a':=?_) #[true,false,false,false,false,false,false,false,false,false] rfl rfl (zW HT_.out zz84) (fun _ _ _ h=>h) (Or.inl ⟨by rfl,?_⟩) ?_ ?_
   rotate_left
   · intro w'
     go_simp
     with_reducible rfl
   rotate_left
   · simp only [Act.put,List.setIfInBounds_toArray,List.set_cons_zero,List.set_cons_succ,zH,zI]
     rfl
   refine take_ (i:=2) (N:=some 57) (v:=?_) (a':=?_) #[true,false,true,false,false,false,false,false,false,false] rfl rfl (z1N HT_.out HW_.out zz84) (fun _ _ _ h=>h) (Or.inl ⟨by rfl,?_⟩) hHeld ?_ ?_
   rotate_left
   · rintro w' ⟨s0,s1⟩
     go_simp
     with_reducible rfl
   rotate_left
   · simp only [Act.put,List.setIfInBounds_toArray,List.set_cons_zero,List.set_cons_succ,zH,zI]
     rfl
   refine join_ (σ:=Value × Nat) 2 #[true,true,true,true,true,true,true,true,false,false] (fun s_=>[(56,s_.1),(58,.tuple #[.agg #[.int .u64 t110,.int .u64 t111],.int .i64 t112]),(9,.pointer (some ⟨s_.2,0,none⟩)),(54,.tuple #[.agg #[.int .u64 t110,.int .u64 t111],.int .i64 t112]),(59,.agg #[.int .u64 t110,.int .u64 t111]),(60,.int .i64 t112)]) (fun s_ w'=>(w'.cell? ⟨gb101,0,none⟩ = some (.int .u64 a2_0) ∧ w'.cell? ⟨gb101,1,none⟩ = some (.int .u64 a2_1)) ∧ (Kd.R k38 38 w' w.heap.size (fun k_=>k_ ≠ s_.2) s_.1 t107) ∧ (w'.heap[gb101]? = some (.cells #[.int .u64 a2_0,.int .u64 a2_1] 35 (0,0))) ∧ (w'.heap[gb106]? = some (.cells #[.int .u64 t103,.int .u64 t104] 35 (0,0))) ∧ (w'.heap[s_.2]? = some (.cells #[.int .u64 0,.int .u64 0] 38 (0,0))) ∧ (w.heap.size ≤ s_.2) ∧ (w.heap.size ≤ s_.2) ∧ (gb101 ≠ s_.2) ∧ (s_.2 ≠ gb101) ∧ (gb106 ≠ s_.2) ∧ (s_.2 ≠ gb106) ∧ (Below w.heap.size w w')) ?_ ?_
   rotate_left
   · intro hCont
     refine two_ (i:=1) (j:=7) (Ni:=some 56) (Nj:=some 9) #[true,true,true,false,false,false,false,false,false,false] #[true,false,true,false,false,false,false,true,false,false] rfl rfl rfl rfl (two_of HT_.out zz84) zz85 zz85 (fun K hK=>?_) (fun K hK=>?_)
     · skip
       refine goes_ Try.func13 zz84 rfl #[.slice A0 l0.length c0] zz88 rfl rfl zz45 ?_
       with_reducible refine (zg.calls kj3 _ _ l0 t107 _ ?side1 ?side2 A20.out).mono ?_
       (case side1=>repeat (first|exact (Kd.z1A HR0.out HB.out)|(with_reducible refine Kd.z15 ?_ _)|(with_reducible refine Kd.z16 ?_ _)|(with_reducible refine Kd.z1m ?_)))
       (case side2=>exact HC0.out)
       rintro e w34 ⟨v108,rfl,ho0,hb⟩
       refine ⟨_,rfl,?_⟩
       have n0_:=z1.mk (Kd.z1q ho0 (zf zz38))
       have n1_:=z1.mk (z9 (g:=gb101) (o:=.cells #[.int .u64 a2_0,.int .u64 a2_1] 35 (0,0)) zz49 hb)
       have n2_:=z1.mk (z9 (g:=gb106) (o:=.cells #[.int .u64 t103,.int .u64 t104] 35 (0,0)) zz51 hb)
       have n3_:=z1.mk (ze zz38 hb)
       clear BK101
       clear BK106
       clear HB
       have HO109:=n0_
       have BK101:=n1_
       have BK106:=n2_
       have HB:=n3_
       clear n0_ n1_ n2_ n3_
       (try clear hb)
       (try clear hb2)
       (try clear hk)
       (try clear hi)
       (try clear ho0)
       obtain ⟨Ao35,co35,eo35⟩:=Kd.z1e HO109.out
       (first|subst eo35|(injection eo35 with f1_ f2_ f3_;have f4_:=f1_.symm;have f5_:=f3_.symm;clear f1_ f2_ f3_;subst f4_;subst f5_))
       refine hK.out _ _ ⟨(z5 BK101.out 0).trans rfl,(z5 BK101.out 1).trans rfl⟩ (fun hHeld=>?_)
       clear hK K
       refine norm_ (a':=?_) ?_ ?_
       rotate_left
       · show Act.put _ (some 56) _ = _
         simp only [Act.put,List.setIfInBounds_toArray,List.set_cons_zero,List.set_cons_succ,zH,zI]
         rfl
       refine two_ (i:=3) (j:=7) (Ni:=some 58) (Nj:=some 9) #[true,true,true,true,false,false,false,false,false,false] #[true,true,true,false,false,false,false,true,false,false] rfl rfl rfl rfl (two_of HT_.out zz84) zz85 zz85 (fun K hK=>?_) (fun K hK=>?_)
       · skip
         refine goes_ Try.func16 zz84 rfl #[.slice Ao35 t107.length co35,.agg #[.int .u64 a2_0,.int .u64 a2_1]] zz88 rfl rfl zz45 ?_
         with_reducible refine (zK.calls kj3 _ _ t107 a2_0 a2_1 t110 t111 t112 _ ?side1 ?side2 A21.out).mono ?_
         (case side1=>repeat (first|exact (Kd.zA HO109.out).2.2|(with_reducible refine Kd.z15 ?_ _)|(with_reducible refine Kd.z16 ?_ _)|(with_reducible refine Kd.z1m ?_)))
         (case side2=>exact (Kd.zA HO109.out).2.1)
         rintro e w36 ⟨rfl,hb⟩
         refine ⟨_,rfl,?_⟩
         have n0_:=z1.mk (Kd.zs zz68 hb)
         have n1_:=z1.mk (z9 (g:=gb101) (o:=.cells #[.int .u64 a2_0,.int .u64 a2_1] 35 (0,0)) zz49 hb)
         have n2_:=z1.mk (z9 (g:=gb106) (o:=.cells #[.int .u64 t103,.int .u64 t104] 35 (0,0)) zz51 hb)
         have n3_:=z1.mk (ze zz38 hb)
         clear HO109
         clear BK101
         clear BK106
         clear HB
         have HO109:=n0_
         have BK101:=n1_
         have BK106:=n2_
         have HB:=n3_
         clear n0_ n1_ n2_ n3_
         (try clear hb)
         (try clear hb2)
         (try clear hk)
         (try clear hi)
         refine hK.out _ _ ⟨(z5 BK101.out 0).trans rfl,(z5 BK101.out 1).trans rfl⟩ (fun hHeld=>?_)
         clear hK K
         refine norm_ (a':=?_) ?_ ?_
         rotate_left
         · show Act.put _ (some 58) _ = _
           simp only [Act.put,List.setIfInBounds_toArray,List.set_cons_zero,List.set_cons_succ,zH,zI]
           rfl
         refine pure_ (i:=4) (N:=some 54) (v:=?_) (a':=?_) #[true,true,true,true,true,false,false,false,false,false] rfl rfl (zW HT_.out zz84) (fun _ _ _ h=>h) (Or.inl ⟨by rfl,?_⟩) ?_ ?_
         rotate_left
         · intro w'
           go_simp
           with_reducible rfl
         rotate_left
         · simp only [Act.put,List.setIfInBounds_toArray,List.set_cons_zero,List.set_cons_succ,zH,zI]
           rfl
         refine pure_ (i:=5) (N:=some 59) (v:=?_) (a':=?_) #[true,true,true,true,true,true,false,false,false,false] rfl rfl (zW HT_.out zz84) (fun _ _ _ h=>h) (Or.inl ⟨by rfl,?_⟩) ?_ ?_
         rotate_left
         · intro w'
           go_simp
           with_reducible rfl
         rotate_left
         · simp only [Act.put,List.setIfInBounds_toArray,List.set_cons_zero,List.set_cons_succ,zH,zI]
           rfl
         refine pure_ (i:=6) (N:=some 60) (v:=?_) (a':=?_) #[true,true,true,true,true,true,true,false,false,false] rfl rfl (zW HT_.out zz84) (fun _ _ _ h=>h) (Or.inl ⟨by rfl,?_⟩) ?_ ?_
         rotate_left
         · intro w'
           go_simp
           with_reducible rfl
         rotate_left
         · simp only [Act.put,List.setIfInBounds_toArray,List.set_cons_zero,List.set_cons_succ,zH,zI]
           rfl
         refine one_ (i:=7) (N:=some 9) #[true,true,true,true,true,true,true,true,false,false] rfl rfl (z21 HT_.out zz84) zz85 (fun K hK=>?_)
         refine z4f ?hg (N:=9) ?hd (cs:=#[.int .u64 0,.int .u64 0]) (t:=38) ?hr ?_;(case hd=>rfl);(case hg=>rfl);(case hr=>first|(go_simp;done)|(go_simp;rfl))
         intro gb113 hg w37 hbox hb
         have n0_:=z1.mk (Kd.zs (Kd.z1B zz68 gb113 (Nat.le_of_eq hg.symm)) hb)
         have n1_:=z1.mk (z9 (g:=gb101) (o:=.cells #[.int .u64 a2_0,.int .u64 a2_1] 35 (0,0)) zz49 hb)
         have n2_:=z1.mk (z9 (g:=gb106) (o:=.cells #[.int .u64 t103,.int .u64 t104] 35 (0,0)) zz51 hb)
         have n3_:=z1.mk (ze zz38 hb)
         have n4_:=z1.mk (hbox)
         have n5_:=z1.mk ((by rw [hg];exact (zf zz38) : w.heap.size ≤ gb113))
         have n6_:=z1.mk ((by rw [hg];exact (zf zz38) : w.heap.size ≤ gb113))
         have n7_:=z1.mk ((by rw [hg];exact Nat.ne_of_lt (zw (g:=gb101) (o:=.cells #[.int .u64 a2_0,.int .u64 a2_1] 35 (0,0)) zz49) : gb101 ≠ gb113))
         have n8_:=z1.mk ((by rw [hg];exact Nat.ne_of_gt (zw (g:=gb101) (o:=.cells #[.int .u64 a2_0,.int .u64 a2_1] 35 (0,0)) zz49) : gb113 ≠ gb101))
         have n9_:=z1.mk ((by rw [hg];exact Nat.ne_of_lt (zw (g:=gb106) (o:=.cells #[.int .u64 t103,.int .u64 t104] 35 (0,0)) zz51) : gb106 ≠ gb113))
         have n10_:=z1.mk ((by rw [hg];exact Nat.ne_of_gt (zw (g:=gb106) (o:=.cells #[.int .u64 t103,.int .u64 t104] 35 (0,0)) zz51) : gb113 ≠ gb106))
         clear HO109
         clear BK101
         clear BK106
         clear HB
         have HO109:=n0_
         have BK101:=n1_
         have BK106:=n2_
         have HB:=n3_
         have BK113:=n4_
         have GW113:=n5_
         have GE113:=n6_
         have NB101_113:=n7_
         have NB113_101:=n8_
         have NB106_113:=n9_
         have NB113_106:=n10_
         clear n0_ n1_ n2_ n3_ n4_ n5_ n6_ n7_ n8_ n9_ n10_
         clear hb hbox hg
         refine hK.out _ _ ⟨(z5 BK101.out 0).trans rfl,(z5 BK101.out 1).trans rfl⟩ (fun hHeld=>?_)
         clear hK K
         refine norm_ (a':=?_) ?_ ?_
         rotate_left
         · show Act.put _ (some 9) _ = _
           simp only [Act.put,List.setIfInBounds_toArray,List.set_cons_zero,List.set_cons_succ,zH,zI]
           rfl
         exact norm_ zz78 (hCont (.slice Ao35 t107.length co35,gb113) _ ⟨hHeld,zz46,zz49,zz51,zz55,GW113.out,GE113.out,NB101_113.out,NB113_101.out,NB106_113.out,NB113_106.out,zz33⟩)
       · skip
         refine z4f ?hg (N:=9) ?hd (cs:=#[.int .u64 0,.int .u64 0]) (t:=38) ?hr ?_;(case hd=>rfl);(case hg=>rfl);(case hr=>first|(go_simp;done)|(go_simp;rfl))
         intro gb113 hg w35 hbox hb
         have n0_:=z1.mk (Kd.zs (Kd.z1B zz68 gb113 (Nat.le_of_eq hg.symm)) hb)
         have n1_:=z1.mk (z9 (g:=gb101) (o:=.cells #[.int .u64 a2_0,.int .u64 a2_1] 35 (0,0)) zz49 hb)
         have n2_:=z1.mk (z9 (g:=gb106) (o:=.cells #[.int .u64 t103,.int .u64 t104] 35 (0,0)) zz51 hb)
         have n3_:=z1.mk (ze zz38 hb)
         have n4_:=z1.mk (hbox)
         have n5_:=z1.mk ((by rw [hg];exact (zf zz38) : w.heap.size ≤ gb113))
         have n6_:=z1.mk ((by rw [hg];exact (zf zz38) : w.heap.size ≤ gb113))
         have n7_:=z1.mk ((by rw [hg];exact Nat.ne_of_lt (zw (g:=gb101) (o:=.cells #[.int .u64 a2_0,.int .u64 a2_1] 35 (0,0)) zz49) : gb101 ≠ gb113))
         have n8_:=z1.mk ((by rw [hg];exact Nat.ne_of_gt (zw (g:=gb101) (o:=.cells #[.int .u64 a2_0,.int .u64 a2_1] 35 (0,0)) zz49) : gb113 ≠ gb101))
         have n9_:=z1.mk ((by rw [hg];exact Nat.ne_of_lt (zw (g:=gb106) (o:=.cells #[.int .u64 t103,.int .u64 t104] 35 (0,0)) zz51) : gb106 ≠ gb113))
         have n10_:=z1.mk ((by rw [hg];exact Nat.ne_of_gt (zw (g:=gb106) (o:=.cells #[.int .u64 t103,.int .u64 t104] 35 (0,0)) zz51) : gb113 ≠ gb106))
         clear HO109
         clear BK101
         clear BK106
         clear HB
         have HO109:=n0_
         have BK101:=n1_
         have BK106:=n2_
         have HB:=n3_
         have BK113:=n4_
         have GW113:=n5_
         have GE113:=n6_
         have NB101_113:=n7_
         have NB113_101:=n8_
         have NB106_113:=n9_
         have NB113_106:=n10_
         clear n0_ n1_ n2_ n3_ n4_ n5_ n6_ n7_ n8_ n9_ n10_
         clear hb hbox hg
         obtain ⟨Ao36,co36,eo36⟩:=Kd.z1e HO109.out
         (first|subst eo36|(injection eo36 with f1_ f2_ f3_;have f4_:=f1_.symm;have f5_:=f3_.symm;clear f1_ f2_ f3_;subst f4_;subst f5_))
         refine hK.out _ _ ⟨(z5 BK101.out 0).trans rfl,(z5 BK101.out 1).trans rfl⟩ (fun hHeld=>?_)
         clear hK K
         refine norm_ (a':=?_) ?_ ?_
         rotate_left
         · show Act.put _ (some 9) _ = _
           simp only [Act.put,List.setIfInBounds_toArray,List.set_cons_zero,List.set_cons_succ,zH,zI]
           rfl
         refine one_ (i:=3) (N:=some 58) #[true,true,true,true,false,false,false,true,false,false] rfl rfl (z21 HT_.out zz84) zz85 (fun K hK=>?_)
         refine goes_ Try.func16 zz84 rfl #[.slice Ao36 t107.length co36,.agg #[.int .u64 a2_0,.int .u64 a2_1]] zz88 rfl rfl zz45 ?_
         with_reducible refine (zK.calls kj3 _ _ t107 a2_0 a2_1 t110 t111 t112 _ ?side1 ?side2 A21.out).mono ?_
         (case side1=>repeat (first|exact (Kd.zA HO109.out).2.2|(with_reducible refine Kd.z15 ?_ _)|(with_reducible refine Kd.z16 ?_ _)|(with_reducible refine Kd.z1m ?_)))
         (case side2=>exact (Kd.zA HO109.out).2.1)
         rintro e w37 ⟨rfl,hb⟩
         refine ⟨_,rfl,?_⟩
         have n0_:=z1.mk (Kd.zs zz68 hb)
         have n1_:=z1.mk (z9 (g:=gb101) (o:=.cells #[.int .u64 a2_0,.int .u64 a2_1] 35 (0,0)) zz49 hb)
         have n2_:=z1.mk (z9 (g:=gb106) (o:=.cells #[.int .u64 t103,.int .u64 t104] 35 (0,0)) zz51 hb)
         have n3_:=z1.mk (z9 (g:=gb113) (o:=.cells #[.int .u64 0,.int .u64 0] 38 (0,0)) zz55 hb)
         have n4_:=z1.mk (ze zz33 hb)
         clear HO109
         clear BK101
         clear BK106
         clear BK113
         clear HB
         have HO109:=n0_
         have BK101:=n1_
         have BK106:=n2_
         have BK113:=n3_
         have HB:=n4_
         clear n0_ n1_ n2_ n3_ n4_
         (try clear hb)
         (try clear hb2)
         (try clear hk)
         (try clear hi)
         refine hK.out _ _ ⟨(z5 BK101.out 0).trans rfl,(z5 BK101.out 1).trans rfl⟩ (fun hHeld=>?_)
         clear hK K
         refine norm_ (a':=?_) ?_ ?_
         rotate_left
         · show Act.put _ (some 58) _ = _
           simp only [Act.put,List.setIfInBounds_toArray,List.set_cons_zero,List.set_cons_succ,zH,zI]
           rfl
         refine pure_ (i:=4) (N:=some 54) (v:=?_) (a':=?_) #[true,true,true,true,true,false,false,true,false,false] rfl rfl (zW HT_.out zz84) (fun _ _ _ h=>h) (Or.inl ⟨by rfl,?_⟩) ?_ ?_
         rotate_left
         · intro w'
           go_simp
           with_reducible rfl
         rotate_left
         · simp only [Act.put,List.setIfInBounds_toArray,List.set_cons_zero,List.set_cons_succ,zH,zI]
           rfl
         refine pure_ (i:=5) (N:=some 59) (v:=?_) (a':=?_) #[true,true,true,true,true,true,false,true,false,false] rfl rfl (zW HT_.out zz84) (fun _ _ _ h=>h) (Or.inl ⟨by rfl,?_⟩) ?_ ?_
         rotate_left
         · intro w'
           go_simp
           with_reducible rfl
         rotate_left
         · simp only [Act.put,List.setIfInBounds_toArray,List.set_cons_zero,List.set_cons_succ,zH,zI]
           rfl
         refine pure_ (i:=6) (N:=some 60) (v:=?_) (a':=?_) #[true,true,true,true,true,true,true,true,false,false] rfl rfl (zW HT_.out zz84) (fun _ _ _ h=>h) (Or.inl ⟨by rfl,?_⟩) ?_ ?_
         rotate_left
         · intro w'
           go_simp
           with_reducible rfl
         rotate_left
         · simp only [Act.put,List.setIfInBounds_toArray,List.set_cons_zero,List.set_cons_succ,zH,zI]
           rfl
         exact norm_ zz78 (hCont (.slice Ao36 t107.length co36,gb113) _ ⟨hHeld,zz46,zz49,zz51,zz55,GW113.out,GE113.out,NB101_113.out,NB113_101.out,NB106_113.out,NB113_106.out,zz33⟩)
     · skip
       refine z4f ?hg (N:=9) ?hd (cs:=#[.int .u64 0,.int .u64 0]) (t:=38) ?hr ?_;(case hd=>rfl);(case hg=>rfl);(case hr=>first|(go_simp;done)|(go_simp;rfl))
       intro gb113 hg w34 hbox hb
       have n0_:=z1.mk (z9 (g:=gb101) (o:=.cells #[.int .u64 a2_0,.int .u64 a2_1] 35 (0,0)) zz49 hb)
       have n1_:=z1.mk (z9 (g:=gb106) (o:=.cells #[.int .u64 t103,.int .u64 t104] 35 (0,0)) zz51 hb)
       have n2_:=z1.mk (ze zz38 hb)
       have n3_:=z1.mk (hbox)
       have n4_:=z1.mk ((by rw [hg];exact (zf zz38) : w.heap.size ≤ gb113))
       have n5_:=z1.mk ((by rw [hg];exact (zf zz38) : w.heap.size ≤ gb113))
       have n6_:=z1.mk ((by rw [hg];exact Nat.ne_of_lt (zw (g:=gb101) (o:=.cells #[.int .u64 a2_0,.int .u64 a2_1] 35 (0,0)) zz49) : gb101 ≠ gb113))
       have n7_:=z1.mk ((by rw [hg];exact Nat.ne_of_gt (zw (g:=gb101) (o:=.cells #[.int .u64 a2_0,.int .u64 a2_1] 35 (0,0)) zz49) : gb113 ≠ gb101))
       have n8_:=z1.mk ((by rw [hg];exact Nat.ne_of_lt (zw (g:=gb106) (o:=.cells #[.int .u64 t103,.int .u64 t104] 35 (0,0)) zz51) : gb106 ≠ gb113))
       have n9_:=z1.mk ((by rw [hg];exact Nat.ne_of_gt (zw (g:=gb106) (o:=.cells #[.int .u64 t103,.int .u64 t104] 35 (0,0)) zz51) : gb113 ≠ gb106))
       clear BK101
       clear BK106
       clear HB
       have BK101:=n0_
       have BK106:=n1_
       have HB:=n2_
       have BK113:=n3_
       have GW113:=n4_
       have GE113:=n5_
       have NB101_113:=n6_
       have NB113_101:=n7_
       have NB106_113:=n8_
       have NB113_106:=n9_
       clear n0_ n1_ n2_ n3_ n4_ n5_ n6_ n7_ n8_ n9_
       clear hb hbox hg
       refine hK.out _ _ ⟨(z5 BK101.out 0).trans rfl,(z5 BK101.out 1).trans rfl⟩ (fun hHeld=>?_)
       clear hK K
       refine norm_ (a':=?_) ?_ ?_
       rotate_left
       · show Act.put _ (some 9) _ = _
         simp only [Act.put,List.setIfInBounds_toArray,List.set_cons_zero,List.set_cons_succ,zH,zI]
         rfl
       refine one_ (i:=1) (N:=some 56) #[true,true,true,false,false,false,false,true,false,false] rfl rfl (z21 HT_.out zz84) zz85 (fun K hK=>?_)
       refine goes_ Try.func13 zz84 rfl #[.slice A0 l0.length c0] zz88 rfl rfl zz45 ?_
       with_reducible refine (zg.calls kj3 _ _ l0 t107 _ ?side1 ?side2 A20.out).mono ?_
       (case side1=>repeat (first|exact (Kd.z1A HR0.out HB.out)|(with_reducible refine Kd.z15 ?_ _)|(with_reducible refine Kd.z16 ?_ _)|(with_reducible refine Kd.z1m ?_)))
       (case side2=>exact HC0.out)
       rintro e w35 ⟨v108,rfl,ho0,hb⟩
       refine ⟨_,rfl,?_⟩
       have n0_:=z1.mk (Kd.z1q (Kd.z3V ho0 (g:=gb113) (o:=.cells #[.int .u64 0,.int .u64 0] 38 (0,0)) zz55) (zf zz33))
       have n1_:=z1.mk (z9 (g:=gb101) (o:=.cells #[.int .u64 a2_0,.int .u64 a2_1] 35 (0,0)) zz49 hb)
       have n2_:=z1.mk (z9 (g:=gb106) (o:=.cells #[.int .u64 t103,.int .u64 t104] 35 (0,0)) zz51 hb)
       have n3_:=z1.mk (z9 (g:=gb113) (o:=.cells #[.int .u64 0,.int .u64 0] 38 (0,0)) zz55 hb)
       have n4_:=z1.mk (ze zz33 hb)
       clear BK101
       clear BK106
       clear BK113
       clear HB
       have HO109:=n0_
       have BK101:=n1_
       have BK106:=n2_
       have BK113:=n3_
       have HB:=n4_
       clear n0_ n1_ n2_ n3_ n4_
       (try clear hb)
       (try clear hb2)
       (try clear hk)
       (try clear hi)
       (try clear ho0)
       obtain ⟨Ao36,co36,eo36⟩:=Kd.z1e HO109.out
       (first|subst eo36|(injection eo36 with f1_ f2_ f3_;have f4_:=f1_.symm;have f5_:=f3_.symm;clear f1_ f2_ f3_;subst f4_;subst f5_))
       refine hK.out _ _ ⟨(z5 BK101.out 0).trans rfl,(z5 BK101.out 1).trans rfl⟩ (fun hHeld=>?_)
       clear hK K
       refine norm_ (a':=?_) ?_ ?_
       rotate_left
       · show Act.put _ (some 56) _ = _
         simp only [Act.put,List.setIfInBounds_toArray,List.set_cons_zero,List.set_cons_succ,zH,zI]
         rfl
       refine one_ (i:=3) (N:=some 58) #[true,true,true,true,false,false,false,true,false,false] rfl rfl (z21 HT_.out zz84) zz85 (fun K hK=>?_)
       refine goes_ Try.func16 zz84 rfl #[.slice Ao36 t107.length co36,.agg #[.int .u64 a2_0,.int .u64 a2_1]] zz88 rfl rfl zz45 ?_
       with_reducible refine (zK.calls kj3 _ _ t107 a2_0 a2_1 t110 t111 t112 _ ?side1 ?side2 A21.out).mono ?_
       (case side1=>repeat (first|exact (Kd.zA HO109.out).2.2|(with_reducible refine Kd.z15 ?_ _)|(with_reducible refine Kd.z16 ?_ _)|(with_reducible refine Kd.z1m ?_)))
       (case side2=>exact (Kd.zA HO109.out).2.1)
       rintro e w37 ⟨rfl,hb⟩
       refine ⟨_,rfl,?_⟩
       have n0_:=z1.mk (Kd.zs zz68 hb)
       have n1_:=z1.mk (z9 (g:=gb101) (o:=.cells #[.int .u64 a2_0,.int .u64 a2_1] 35 (0,0)) zz49 hb)
       have n2_:=z1.mk (z9 (g:=gb106) (o:=.cells #[.int .u64 t103,.int .u64 t104] 35 (0,0)) zz51 hb)
       have n3_:=z1.mk (z9 (g:=gb113) (o:=.cells #[.int .u64 0,.int .u64 0] 38 (0,0)) zz55 hb)
       have n4_:=z1.mk (ze zz33 hb)
       clear HO109
       clear BK101
       clear BK106
       clear BK113
       clear HB
       have HO109:=n0_
       have BK101:=n1_
       have BK106:=n2_
       have BK113:=n3_
       have HB:=n4_
       clear n0_ n1_ n2_ n3_ n4_
       (try clear hb)
       (try clear hb2)
       (try clear hk)
       (try clear hi)
       refine hK.out _ _ ⟨(z5 BK101.out 0).trans rfl,(z5 BK101.out 1).trans rfl⟩ (fun hHeld=>?_)
       clear hK K
       refine norm_ (a':=?_) ?_ ?_
       rotate_left
       · show Act.put _ (some 58) _ = _
         simp only [Act.put,List.setIfInBounds_toArray,List.set_cons_zero,List.set_cons_succ,zH,zI]
         rfl
       refine pure_ (i:=4) (N:=some 54) (v:=?_) (a':=?_) #[true,true,true,true,true,false,false,true,false,false] rfl rfl (zW HT_.out zz84) (fun _ _ _ h=>h) (Or.inl ⟨by rfl,?_⟩) ?_ ?_
       rotate_left
       · intro w'
         go_simp
         with_reducible rfl
       rotate_left
       · simp only [Act.put,List.setIfInBounds_toArray,List.set_cons_zero,List.set_cons_succ,zH,zI]
         rfl
       refine pure_ (i:=5) (N:=some 59) (v:=?_) (a':=?_) #[true,true,true,true,true,true,false,true,false,false] rfl rfl (zW HT_.out zz84) (fun _ _ _ h=>h) (Or.inl ⟨by rfl,?_⟩) ?_ ?_
       rotate_left
       · intro w'
         go_simp
         with_reducible rfl
       rotate_left
       · simp only [Act.put,List.setIfInBounds_toArray,List.set_cons_zero,List.set_cons_succ,zH,zI]
         rfl
       refine pure_ (i:=6) (N:=some 60) (v:=?_) (a':=?_) #[true,true,true,true,true,true,true,true,false,false] rfl rfl (zW HT_.out zz84) (fun _ _ _ h=>h) (Or.inl ⟨by rfl,?_⟩) ?_ ?_
       rotate_left
       · intro w'
         go_simp
         with_reducible rfl
       rotate_left
       · simp only [Act.put,List.setIfInBounds_toArray,List.set_cons_zero,List.set_cons_succ,zH,zI]
         rfl
       exact norm_ zz78 (hCont (.slice Ao36 t107.length co36,gb113) _ ⟨hHeld,zz46,zz49,zz51,zz55,GW113.out,GE113.out,NB101_113.out,NB113_101.out,NB106_113.out,NB113_106.out,zz33⟩)
   rintro ⟨v108,gb113⟩ w38 ⟨hS_,h0_,h1_,h2_,h3_,h4_,h5_,h6_,h7_,h8_,h9_,h10_⟩
   have n0_ : z1 (Kd.R k38 38 w38 w.heap.size (fun k_=>k_ ≠ gb113) v108 t107):=⟨h0_⟩
   have n1_ : z1 (w38.heap[gb101]? = some (.cells #[.int .u64 a2_0,.int .u64 a2_1] 35 (0,0))):=⟨h1_⟩
   have n2_ : z1 (w38.heap[gb106]? = some (.cells #[.int .u64 t103,.int .u64 t104] 35 (0,0))):=⟨h2_⟩
   have n3_ : z1 (w38.heap[gb113]? = some (.cells #[.int .u64 0,.int .u64 0] 38 (0,0))):=⟨h3_⟩
   have n4_ : z1 (w.heap.size ≤ gb113):=⟨h4_⟩
   have n5_ : z1 (w.heap.size ≤ gb113):=⟨h5_⟩
   have n6_ : z1 (gb101 ≠ gb113):=⟨h6_⟩
   have n7_ : z1 (gb113 ≠ gb101):=⟨h7_⟩
   have n8_ : z1 (gb106 ≠ gb113):=⟨h8_⟩
   have n9_ : z1 (gb113 ≠ gb106):=⟨h9_⟩
   have n10_ : z1 (Below w.heap.size w w38):=⟨h10_⟩
   clear BK101
   clear BK106
   clear HB
   clear h0_ h1_ h2_ h3_ h4_ h5_ h6_ h7_ h8_ h9_ h10_
   have HO109:=n0_
   have BK101:=n1_
   have BK106:=n2_
   have BK113:=n3_
   have GW113:=n4_
   have GE113:=n5_
   have NB101_113:=n6_
   have NB113_101:=n7_
   have NB106_113:=n8_
   have NB113_106:=n9_
   have HB:=n10_
   clear n0_ n1_ n2_ n3_ n4_ n5_ n6_ n7_ n8_ n9_ n10_
   have hHeld : w38.cell? ⟨gb101,0,none⟩ = some (.int .u64 a2_0) ∧ w38.cell? ⟨gb101,1,none⟩ = some (.int .u64 a2_1):=hS_
   refine norm_ (a':=?_) ?_ ?_
   rotate_left
   · simp only [putAll,Act.put,List.setIfInBounds_toArray,List.set_cons_zero,List.set_cons_succ]
     rfl
   refine one_ (i:=8) (N:=none) #[true,true,true,true,true,true,true,true,true,false] rfl rfl (z21 HT_.out zz84) zz85 (fun K hK=>?_)
   have hs39 : w38.cell? ⟨gb113,0,none⟩ = some (.int .u64 0):=(z5 BK113.out 0).trans rfl
   have hfs39:=z4 BK113.out 0
   have hns39_0:=NB101_113.out
   have hns39_1:=NB106_113.out
   have hms39_0:=NB113_101.out
   have hms39_1:=NB113_106.out
   have hs40 : w38.cell? ⟨gb113,1,none⟩ = some (.int .u64 0):=(z5 BK113.out 1).trans rfl
   have hfs40:=z4 BK113.out 1
   have hns40_0:=NB101_113.out
   have hns40_1:=NB106_113.out
   have hms40_0:=NB113_101.out
   have hms40_1:=NB113_106.out
   refine skip_ (w1:=?_) zz88 rfl ?_ ?_
   rotate_left
   · go_simp
     rfl
   refine hK.out _ _ ⟨((z1P (p:=⟨gb113,_,none⟩) NB101_113.out _).trans (((z1P (p:=⟨gb113,_,none⟩) NB101_113.out _).trans (hHeld.1)))),((z1P (p:=⟨gb113,_,none⟩) NB101_113.out _).trans (((z1P (p:=⟨gb113,_,none⟩) NB101_113.out _).trans (hHeld.2))))⟩ (fun hHeld=>?_)
   clear hK K
   refine pure_ (i:=9) (N:=some 10) (v:=?_) (a':=?_) #[true,true,true,true,true,true,true,true,true,true] rfl rfl (zW HT_.out zz84) (fun _ _ _ h=>h) (Or.inl ⟨by rfl,?_⟩) ?_ ?_
   rotate_left
   · intro w'
     go_simp
     with_reducible rfl
   rotate_left
   · simp only [Act.put,List.setIfInBounds_toArray,List.set_cons_zero,List.set_cons_succ,zH,zI]
     rfl
   refine done_ (z2A HT_.out zz84) ?_
   go_upto_region 7 with (first|((with_reducible refine zo (f:=17) rfl ?_);refine goesL_ (some 64) rfl rfl Try.func17 zz84 rfl #[.slice A0 l0.length c0,.slice A1 l1.length c1] rfl zz45 ?_;(with_reducible refine (zJ.calls kj3 _ _ l0 _ _ l1 t114 t115 _ ?side1 ?side2 ?side3 ?side4 A22.out).mono ?_);(case side1=>exact Kd.z1A HR0.out zz33);(case side2=>exact HC0.out);(case side3=>exact Kd.z1A HR1.out zz33);(case side4=>exact HC1.out);rintro e w41 ⟨v116,rfl,ho0,hb⟩;refine ⟨_,rfl,?_⟩;have n0_:=z1.mk (Kd.zs (by (with_reducible repeat (first|apply Kd.zL|apply Kd.zM|apply Kd.zS));exact (Kd.z1j (Kd.z1O (p:=⟨gb113,1,none⟩) (Kd.z1O (p:=⟨gb113,0,none⟩) (Kd.z1j HO109.out (fun k_ hk=>(⟨hk,hk⟩ : _ ∧ k_ ≠ gb113))) (fun _ hk=>hk.2) (.int .u64 t110)) (fun _ hk=>hk.2) (.int .u64 t111)) (fun _ h_=>h_.1))) hb);have n1_:=z1.mk (Kd.z1q (Kd.z3V (Kd.z3V ho0 (g:=gb101) (o:=.cells #[.int .u64 a2_0,.int .u64 a2_1] 35 (0,0)) zz14) (g:=gb106) (o:=.cells #[.int .u64 t103,.int .u64 t104] 35 (0,0)) zz15) (zf zz33));have n2_:=z1.mk (z9 (g:=gb101) (o:=.cells #[.int .u64 a2_0,.int .u64 a2_1] 35 (0,0)) zz14 hb);have n3_:=z1.mk (z9 (g:=gb106) (o:=.cells #[.int .u64 t103,.int .u64 t104] 35 (0,0)) zz15 hb);have n4_:=z1.mk (z9 (g:=gb113) (o:=.cells #[.int .u64 t110,.int .u64 t111] 38 (0,0)) (by (with_reducible repeat (first|refine z8 ?_ _|refine zb ?_|refine z7 ?_ _));refine zT (cs:=#[.int .u64 t110,.int .u64 0]) ?_ 1 _ rfl;(with_reducible repeat (first|refine z8 ?_ _|refine zb ?_|refine z7 ?_ _));refine zT (cs:=#[.int .u64 0,.int .u64 0]) ?_ 0 _ rfl;(with_reducible repeat (first|refine z8 ?_ _|refine zb ?_|refine z7 ?_ _));exact BK113.out) hb);have n5_:=z1.mk (ze zz33 hb);clear HO109;clear BK101;clear BK106;clear BK113;clear HB;have HO109:=n0_;have HO117:=n1_;have BK101:=n2_;have BK106:=n3_;have BK113:=n4_;have HB:=n5_;clear n0_ n1_ n2_ n3_ n4_ n5_;(try clear hb);(try clear hb2);(try clear hk);(try clear hi);(try clear ho0))|((with_reducible refine zo (f:=13) rfl ?_);refine goesL_ (some 69) rfl rfl Try.func13 zz84 rfl #[.slice A0 l0.length c0] rfl zz45 ?_;(with_reducible refine (zg.calls kj3 _ _ l0 t118 _ ?side1 ?side2 A23.out).mono ?_);(case side1=>repeat (first|exact (Kd.z1A HR0.out HB.out)|(with_reducible refine Kd.z15 ?_ _)|(with_reducible refine Kd.z16 ?_ _)|(with_reducible refine Kd.z1m ?_)));(case side2=>exact HC0.out);rintro e w42 ⟨v119,rfl,ho0,hb⟩;refine ⟨_,rfl,?_⟩;have n0_:=z1.mk (Kd.zU zz68 (Kd.z1o ho0) hb);have n1_:=z1.mk (Kd.zs zz69 hb);have n2_:=z1.mk (Kd.z1q (Kd.z3V (Kd.z1p ho0 (Kd.R_lt zz68)) (g:=gb113) (o:=.cells #[.int .u64 t110,.int .u64 t111] 38 (0,0)) zz55) (zf zz33));have n3_:=z1.mk (z9 (g:=gb101) (o:=.cells #[.int .u64 a2_0,.int .u64 a2_1] 35 (0,0)) zz49 hb);have n4_:=z1.mk (z9 (g:=gb106) (o:=.cells #[.int .u64 t103,.int .u64 t104] 35 (0,0)) zz51 hb);have n5_:=z1.mk (z9 (g:=gb113) (o:=.cells #[.int .u64 t110,.int .u64 t111] 38 (0,0)) zz55 hb);have n6_:=z1.mk (ze zz33 hb);clear HO109;clear HO117;clear BK101;clear BK106;clear BK113;clear HB;have HO109:=n0_;have HO117:=n1_;have HO120:=n2_;have BK101:=n3_;have BK106:=n4_;have BK113:=n5_;have HB:=n6_;clear n0_ n1_ n2_ n3_ n4_ n5_ n6_;(try clear hb);(try clear hb2);(try clear hk);(try clear hi);(try clear ho0))|((with_reducible refine zo (f:=13) rfl ?_);refine goesL_ (some 71) rfl rfl Try.func13 zz84 rfl #[.slice A1 l1.length c1] rfl zz45 ?_;(with_reducible refine (zg.calls kj3 _ _ l1 t121 _ ?side1 ?side2 A24.out).mono ?_);(case side1=>repeat (first|exact (Kd.z1A HR1.out HB.out)|(with_reducible refine Kd.z15 ?_ _)|(with_reducible refine Kd.z16 ?_ _)|(with_reducible refine Kd.z1m ?_)));(case side2=>exact HC1.out);rintro e w43 ⟨v122,rfl,ho0,hb⟩;refine ⟨_,rfl,?_⟩;have n0_:=z1.mk (Kd.zU zz68 (Kd.z1o ho0) hb);have n1_:=z1.mk (Kd.zs zz69 hb);have n2_:=z1.mk (Kd.zU zz70 (Kd.z1o ho0) hb);have n3_:=z1.mk (Kd.z1q (Kd.z3V (Kd.z1p (Kd.z1p ho0 (Kd.R_lt zz68)) (Kd.R_lt zz70)) (g:=gb113) (o:=.cells #[.int .u64 t110,.int .u64 t111] 38 (0,0)) zz55) (zf zz33));have n4_:=z1.mk (z9 (g:=gb101) (o:=.cells #[.int .u64 a2_0,.int .u64 a2_1] 35 (0,0)) zz49 hb);have n5_:=z1.mk (z9 (g:=gb106) (o:=.cells #[.int .u64 t103,.int .u64 t104] 35 (0,0)) zz51 hb);have n6_:=z1.mk (z9 (g:=gb113) (o:=.cells #[.int .u64 t110,.int .u64 t111] 38 (0,0)) zz55 hb);have n7_:=z1.mk (ze zz33 hb);clear HO109;clear HO117;clear HO120;clear BK101;clear BK106;clear BK113;clear HB;have HO109:=n0_;have HO117:=n1_;have HO120:=n2_;have HO123:=n3_;have BK101:=n4_;have BK106:=n5_;have BK113:=n6_;have HB:=n7_;clear n0_ n1_ n2_ n3_ n4_ n5_ n6_ n7_;(try clear hb);(try clear hb2);(try clear hk);(try clear hi);(try clear ho0);obtain ⟨Ao44,co44,eo44⟩:=Kd.z1e HO120.out;subst eo44;obtain ⟨Ao45,co45,eo45⟩:=Kd.z1e HO123.out;subst eo45)|((with_reducible refine zo (f:=18) rfl ?_);refine goesL_ (some 72) rfl rfl Try.func18 zz84 rfl #[.slice Ao44 t118.length co44,.slice Ao45 t121.length co45] rfl zz45 ?_;(with_reducible refine (zm.calls kj3 _ _ t118 _ _ t121 t124 t125 _ ?side1 ?side2 ?side3 ?side4 A25.out).mono ?_);(case side1=>repeat (first|exact (Kd.zA HO120.out).2.2|(with_reducible refine Kd.z15 ?_ _)|(with_reducible refine Kd.z16 ?_ _)|(with_reducible refine Kd.z1m ?_)));(case side2=>exact (Kd.zA HO120.out).2.1);(case side3=>repeat (first|exact (Kd.zA HO123.out).2.2|(with_reducible refine Kd.z15 ?_ _)|(with_reducible refine Kd.z16 ?_ _)|(with_reducible refine Kd.z1m ?_)));(case side4=>exact (Kd.zA HO123.out).2.1);rintro e w46 ⟨v126,rfl,ho0,hb⟩;refine ⟨_,rfl,?_⟩;have n0_:=z1.mk (Kd.zU zz68 (Kd.z1o ho0) hb);have n1_:=z1.mk (Kd.zs zz69 hb);have n2_:=z1.mk (Kd.zU zz70 (Kd.z1o ho0) hb);have n3_:=z1.mk (Kd.zU zz71 (Kd.z1o ho0) hb);have n4_:=z1.mk (Kd.z1q (Kd.z3V (Kd.z1p (Kd.z1p (Kd.z1p ho0 (Kd.R_lt zz68)) (Kd.R_lt zz70)) (Kd.R_lt zz71)) (g:=gb113) (o:=.cells #[.int .u64 t110,.int .u64 t111] 38 (0,0)) zz55) (zf zz33));have n5_:=z1.mk (z9 (g:=gb101) (o:=.cells #[.int .u64 a2_0,.int .u64 a2_1] 35 (0,0)) zz49 hb);have n6_:=z1.mk (z9 (g:=gb106) (o:=.cells #[.int .u64 t103,.int .u64 t104] 35 (0,0)) zz51 hb);have n7_:=z1.mk (z9 (g:=gb113) (o:=.cells #[.int .u64 t110,.int .u64 t111] 38 (0,0)) zz55 hb);have n8_:=z1.mk (ze zz33 hb);clear HO109;clear HO117;clear HO120;clear HO123;clear BK101;clear BK106;clear BK113;clear HB;have HO109:=n0_;have HO117:=n1_;have HO120:=n2_;have HO123:=n3_;have HO127:=n4_;have BK101:=n5_;have BK106:=n6_;have BK113:=n7_;have HB:=n8_;clear n0_ n1_ n2_ n3_ n4_ n5_ n6_ n7_ n8_;(try clear hb);(try clear hb2);(try clear hk);(try clear hi);(try clear ho0)))
   (try simp only [Act.put,List.setIfInBounds_toArray,List.set_cons_zero,List.set_cons_succ])
   go_cut [93] (fun v93 wc=>∃ (kq : Nat) (x93_25 : Bool),v93 = .bool x93_25 ∧ z1 (z2.j1 kq l1 t105 t114 t115 x93_25 a2_0 a2_1 t103 t104 = some r) ∧ z1 (kq ≤ kj3) ∧ z1 (Kd.R k35 35 wc w.heap.size (fun k_=>k_ ≠ gb101 ∧ k_ ≠ gb106) v116 t114) ∧ z1 (wc.heap[gb101]? = some (.cells #[.int .u64 a2_0,.int .u64 a2_1] 35 (0,0))) ∧ z1 (wc.heap[gb106]? = some (.cells #[.int .u64 t103,.int .u64 t104] 35 (0,0))) ∧ z1 (wc.heap[gb113]? = some (.cells #[.int .u64 t110,.int .u64 t111] 38 (0,0))) ∧ z1 (Below w.heap.size w wc))
   case first =>
    have H:=HC26.out
    clear HC26
    by_cases c47 : (!(t103 == t110) || (!(t104 == t111))) = true
    · rw [if_pos c47] at H
      have c47b0 : (!(t103 == t110) || (!(t104 == t111))) = true:=c47
      clear c47
      (first|rw [c47b0]|(simp only [zH,zI];rw [c47b0])|skip)
      have H':=z1.mk H
      clear H
      have hnb48:=NB106_101.out
      have hnc48:=NB101_106.out
      have hnb49:=NB106_113.out
      have hnc49:=NB113_106.out
      have hcz50_0 : w46.cell? ⟨gb106,0,none⟩ = some (.int .u64 t103):=(z5 BK106.out 0).trans rfl
      have hcz50_1 : w46.cell? ⟨gb106,1,none⟩ = some (.int .u64 t104):=(z5 BK106.out 1).trans rfl
      have hfz50_0:=z4 BK106.out 0
      have hfz50_1:=z4 BK106.out 1
      have hnb51:=NB113_101.out
      have hnc51:=NB101_113.out
      have hcz52_0 : w46.cell? ⟨gb113,0,none⟩ = some (.int .u64 t110):=(z5 BK113.out 0).trans rfl
      have hcz52_1 : w46.cell? ⟨gb113,1,none⟩ = some (.int .u64 t111):=(z5 BK113.out 1).trans rfl
      have hfz52_0:=z4 BK113.out 0
      have hfz52_1:=z4 BK113.out 1
      go_wp2
      go_meet
      case rel=>exact ⟨_,(true),zz82,H',⟨by have:=HJ3.out;first|omega|exact Nat.le_refl _⟩,⟨by (with_reducible repeat (first|apply Kd.zL|apply Kd.zM|apply Kd.zS));exact Kd.z1j HO117.out (fun _ hk=>⟨hk.1.2,hk.2⟩)⟩,⟨by (with_reducible repeat (first|refine z8 ?_ _|refine zb ?_|refine z7 ?_ _));exact BK101.out⟩,⟨by (with_reducible repeat (first|refine z8 ?_ _|refine zb ?_|refine z7 ?_ _));exact BK106.out⟩,⟨by (with_reducible repeat (first|refine z8 ?_ _|refine zb ?_|refine z7 ?_ _));exact BK113.out⟩,⟨by repeat (first|(with_reducible first|exact HB.out|apply zd|apply z3|apply zc|refine za ?_ GE101.out|refine za ?_ GE106.out|refine za ?_ GE113.out)|exact HB.out)⟩⟩
    rw [if_neg c47] at H
    have c47b0 : (!(t103 == t110) || (!(t104 == t111))) = false:=by simpa using c47
    clear c47
    (first|rw [c47b0]|(simp only [zH,zI];rw [c47b0])|skip)
    by_cases c53 : t105 = t112
    rotate_left
    · rw [if_neg c53] at H
      have c53b0 : (t105 == t112) = false:=beq_eq_false_iff_ne.mpr c53
      have c53b1 : (t105 != t112) = true:=bne_iff_ne.mpr c53
      have H':=z1.mk H
      clear H
      have hnb70:=NB106_101.out
      have hnc70:=NB101_106.out
      have hnb71:=NB106_113.out
      have hnc71:=NB113_106.out
      have hcz72_0 : w46.cell? ⟨gb106,0,none⟩ = some (.int .u64 t103):=(z5 BK106.out 0).trans rfl
      have hcz72_1 : w46.cell? ⟨gb106,1,none⟩ = some (.int .u64 t104):=(z5 BK106.out 1).trans rfl
      have hfz72_0:=z4 BK106.out 0
      have hfz72_1:=z4 BK106.out 1
      have hnb73:=NB113_101.out
      have hnc73:=NB101_113.out
      have hcz74_0 : w46.cell? ⟨gb113,0,none⟩ = some (.int .u64 t110):=(z5 BK113.out 0).trans rfl
      have hcz74_1 : w46.cell? ⟨gb113,1,none⟩ = some (.int .u64 t111):=(z5 BK113.out 1).trans rfl
      have hfz74_0:=z4 BK113.out 0
      have hfz74_1:=z4 BK113.out 1
      go_wp2
      go_meet
      case rel=>exact ⟨_,(true),zz82,H',⟨by have:=HJ3.out;first|omega|exact Nat.le_refl _⟩,⟨by (with_reducible repeat (first|apply Kd.zL|apply Kd.zM|apply Kd.zS));exact Kd.z1j HO117.out (fun _ hk=>⟨hk.1.2,hk.2⟩)⟩,⟨by (with_reducible repeat (first|refine z8 ?_ _|refine zb ?_|refine z7 ?_ _));exact BK101.out⟩,⟨by (with_reducible repeat (first|refine z8 ?_ _|refine zb ?_|refine z7 ?_ _));exact BK106.out⟩,⟨by (with_reducible repeat (first|refine z8 ?_ _|refine zb ?_|refine z7 ?_ _));exact BK113.out⟩,⟨by repeat (first|(with_reducible first|exact HB.out|apply zd|apply z3|apply zc|refine za ?_ GE101.out|refine za ?_ GE106.out|refine za ?_ GE113.out)|exact HB.out)⟩⟩
    rw [if_pos c53] at H
    have c53b0 : (t105 == t112) = true:=beq_iff_eq.mpr c53
    have c53b1 : (t105 != t112) = false:=bne_eq_false_iff_eq.mpr c53
    clear c53
    replace H:=Option.bind_eq_some_iff.mp H
    obtain ⟨t128,A540,H⟩:=H
    replace H : (if t128 = true then (z2.j1 kj3 l1 t105 t114 t115 (t115 != t125) a2_0 a2_1 t103 t104) else (z2.j1 kj3 l1 t105 t114 t115 true a2_0 a2_1 t103 t104)) = some r:=H
    have A54:=z1.mk A540
    clear A540
    by_cases c55 : t128 = true
    · subst c55
      have H1 : (z2.j1 kj3 l1 t105 t114 t115 (t115 != t125) a2_0 a2_1 t103 t104) = some r:=by rw [if_pos rfl] at H;exact H
      clear H
      have H:=H1
      clear H1
      have H':=z1.mk H
      clear H
      have hnb56:=NB106_101.out
      have hnc56:=NB101_106.out
      have hnb57:=NB106_113.out
      have hnc57:=NB113_106.out
      have hcz58_0 : w46.cell? ⟨gb106,0,none⟩ = some (.int .u64 t103):=(z5 BK106.out 0).trans rfl
      have hcz58_1 : w46.cell? ⟨gb106,1,none⟩ = some (.int .u64 t104):=(z5 BK106.out 1).trans rfl
      have hfz58_0:=z4 BK106.out 0
      have hfz58_1:=z4 BK106.out 1
      have hnb59:=NB113_101.out
      have hnc59:=NB101_113.out
      have hcz60_0 : w46.cell? ⟨gb113,0,none⟩ = some (.int .u64 t110):=(z5 BK113.out 0).trans rfl
      have hcz60_1 : w46.cell? ⟨gb113,1,none⟩ = some (.int .u64 t111):=(z5 BK113.out 1).trans rfl
      have hfz60_0:=z4 BK113.out 0
      have hfz60_1:=z4 BK113.out 1
      obtain ⟨Ao61,co61,eo61⟩:=Kd.z1e HO117.out
      subst eo61
      obtain ⟨Ao62,co62,eo62⟩:=Kd.z1e HO127.out
      subst eo62
      go_wp2_with (first|(go_at_call 14;(with_reducible refine (zh.calls kj3 _ _ t114 _ _ t124 true _ ?side1 ?side2 ?side3 ?side4 A54.out).mono ?_);(case side1=>repeat (first|exact (Kd.zA HO117.out).2.2|(with_reducible refine Kd.z15 ?_ _)|(with_reducible refine Kd.z16 ?_ _)|(with_reducible refine Kd.z1m ?_)));(case side2=>exact (Kd.zA HO117.out).2.1);(case side3=>repeat (first|exact (Kd.zA HO127.out).2.2|(with_reducible refine Kd.z15 ?_ _)|(with_reducible refine Kd.z16 ?_ _)|(with_reducible refine Kd.z1m ?_)));(case side4=>exact (Kd.zA HO127.out).2.1);rintro e w' ⟨rfl,⟨nd,rfl⟩⟩))
      go_meet
      case rel=>exact ⟨_,((t115 != t125)),zz82,H',⟨by have:=HJ3.out;first|omega|exact Nat.le_refl _⟩,⟨by (with_reducible repeat (first|apply Kd.zL|apply Kd.zM|apply Kd.zS));exact Kd.z1j HO117.out (fun _ hk=>⟨hk.1.2,hk.2⟩)⟩,⟨by (with_reducible repeat (first|refine z8 ?_ _|refine zb ?_|refine z7 ?_ _));exact BK101.out⟩,⟨by (with_reducible repeat (first|refine z8 ?_ _|refine zb ?_|refine z7 ?_ _));exact BK106.out⟩,⟨by (with_reducible repeat (first|refine z8 ?_ _|refine zb ?_|refine z7 ?_ _));exact BK113.out⟩,⟨by repeat (first|(with_reducible first|exact HB.out|apply zd|apply z3|apply zc|refine za ?_ GE101.out|refine za ?_ GE106.out|refine za ?_ GE113.out)|exact HB.out)⟩⟩
    replace c55:=Bool.eq_false_iff.mpr c55
    subst c55
    have H1 : (z2.j1 kj3 l1 t105 t114 t115 true a2_0 a2_1 t103 t104) = some r:=by rw [if_neg (show ¬ (false = true) by decide)] at H;exact H
    clear H
    have H:=H1
    clear H1
    have H':=z1.mk H
    clear H
    have hnb63:=NB106_101.out
    have hnc63:=NB101_106.out
    have hnb64:=NB106_113.out
    have hnc64:=NB113_106.out
    have hcz65_0 : w46.cell? ⟨gb106,0,none⟩ = some (.int .u64 t103):=(z5 BK106.out 0).trans rfl
    have hcz65_1 : w46.cell? ⟨gb106,1,none⟩ = some (.int .u64 t104):=(z5 BK106.out 1).trans rfl
    have hfz65_0:=z4 BK106.out 0
    have hfz65_1:=z4 BK106.out 1
    have hnb66:=NB113_101.out
    have hnc66:=NB101_113.out
    have hcz67_0 : w46.cell? ⟨gb113,0,none⟩ = some (.int .u64 t110):=(z5 BK113.out 0).trans rfl
    have hcz67_1 : w46.cell? ⟨gb113,1,none⟩ = some (.int .u64 t111):=(z5 BK113.out 1).trans rfl
    have hfz67_0:=z4 BK113.out 0
    have hfz67_1:=z4 BK113.out 1
    obtain ⟨Ao68,co68,eo68⟩:=Kd.z1e HO117.out
    subst eo68
    obtain ⟨Ao69,co69,eo69⟩:=Kd.z1e HO127.out
    subst eo69
    go_wp2_with (first|(go_at_call 14;(with_reducible refine (zh.calls kj3 _ _ t114 _ _ t124 false _ ?side1 ?side2 ?side3 ?side4 A54.out).mono ?_);(case side1=>repeat (first|exact (Kd.zA HO117.out).2.2|(with_reducible refine Kd.z15 ?_ _)|(with_reducible refine Kd.z16 ?_ _)|(with_reducible refine Kd.z1m ?_)));(case side2=>exact (Kd.zA HO117.out).2.1);(case side3=>repeat (first|exact (Kd.zA HO127.out).2.2|(with_reducible refine Kd.z15 ?_ _)|(with_reducible refine Kd.z16 ?_ _)|(with_reducible refine Kd.z1m ?_)));(case side4=>exact (Kd.zA HO127.out).2.1);rintro e w' ⟨rfl,⟨nd,rfl⟩⟩))
    go_meet
    case rel=>exact ⟨_,(true),zz82,H',⟨by have:=HJ3.out;first|omega|exact Nat.le_refl _⟩,⟨by (with_reducible repeat (first|apply Kd.zL|apply Kd.zM|apply Kd.zS));exact Kd.z1j HO117.out (fun _ hk=>⟨hk.1.2,hk.2⟩)⟩,⟨by (with_reducible repeat (first|refine z8 ?_ _|refine zb ?_|refine z7 ?_ _));exact BK101.out⟩,⟨by (with_reducible repeat (first|refine z8 ?_ _|refine zb ?_|refine z7 ?_ _));exact BK106.out⟩,⟨by (with_reducible repeat (first|refine z8 ?_ _|refine zb ?_|refine z7 ?_ _));exact BK113.out⟩,⟨by repeat (first|(with_reducible first|exact HB.out|apply zd|apply z3|apply zc|refine za ?_ GE101.out|refine za ?_ GE106.out|refine za ?_ GE113.out)|exact HB.out)⟩⟩
   case rest =>
    clear HC26
    (try clear c1);(try clear p2);(try clear c3);(try clear c4);(try clear c5);(try clear c6);(try clear c7);(try clear c13);(try clear c15);(try clear c16);(try clear c17);(try clear c18);(try clear c30);(try clear c47);(try clear c47b0);(try clear c48);(try clear c49);(try clear c51);(try clear c53);(try clear c53b0);(try clear c53b1);(try clear c55);(try clear c56);(try clear c57);(try clear c59);(try clear c63);(try clear c64);(try clear c66);(try clear c70);(try clear c71);(try clear c73);(try clear hcz27_0);(try clear hcz27_1);(try clear hcz31_0);(try clear hcz31_1);(try clear hcz50_0);(try clear hcz50_1);(try clear hcz52_0);(try clear hcz52_1);(try clear hcz58_0);(try clear hcz58_1);(try clear hcz60_0);(try clear hcz60_1);(try clear hcz65_0);(try clear hcz65_1);(try clear hcz67_0);(try clear hcz67_1);(try clear hcz72_0);(try clear hcz72_1);(try clear hcz74_0);(try clear hcz74_1);(try clear hfz27_0);(try clear hfz27_1);(try clear hfz31_0);(try clear hfz31_1);(try clear hfz50_0);(try clear hfz50_1);(try clear hfz52_0);(try clear hfz52_1);(try clear hfz58_0);(try clear hfz58_1);(try clear hfz60_0);(try clear hfz60_1);(try clear hfz65_0);(try clear hfz65_1);(try clear hfz67_0);(try clear hfz67_1);(try clear hfz72_0);(try clear hfz72_1);(try clear hfz74_0);(try clear hfz74_1)
    obtain ⟨kq,x93_25,rfl,HA,HJ25,HO_11,BK101,BK106,BK113,HB⟩:=hcut
    cases kq with
    | zero=>exact absurd HA.out (by simp [z2.j1])
    | succ kj25 =>
     have H:=HA.out
     clear HA
     simp only [z2.j1] at H
     by_cases c75 : x93_25 = true
     · subst c75
       have H1 : (some false) = some r:=by rw [if_pos rfl] at H;exact H
       clear H
       have H:=H1
       clear H1
       obtain rfl:=Option.some.inj H
       go_wp2
       go_ret
       exact ⟨by first|rfl|(simp [zi,zj] <;> rfl)|(simp [*,zi,zj] <;> rfl),by repeat (first|(with_reducible first|exact HB.out|apply zd|apply z3|apply zc|refine za ?_ GE101.out|refine za ?_ GE106.out|refine za ?_ GE113.out)|exact HB.out)⟩
     replace c75:=Bool.eq_false_iff.mpr c75
     subst c75
     have H1 : (if t105 = 0 then (z2.j2 kj25 l1 t114 (t115 == 0) a2_0 a2_1 t103 t104) else (z2.j2 kj25 l1 t114 false a2_0 a2_1 t103 t104)) = some r:=by rw [if_neg (show ¬ (false = true) by decide)] at H;exact H
     clear H
     have H:=H1
     clear H1
     have HC76:=z1.mk H
     clear H
     go_upto_region 9 with (fail)
     go_cut [99] (fun v99 wc=>∃ (kq : Nat) (x99_75 : Bool),v99 = .bool x99_75 ∧ z1 (z2.j2 kq l1 t114 x99_75 a2_0 a2_1 t103 t104 = some r) ∧ z1 (kq ≤ kj25) ∧ z1 (Kd.R k35 35 wc w.heap.size (fun k_=>k_ ≠ gb101 ∧ k_ ≠ gb106) v116 t114) ∧ z1 (wc.heap[gb101]? = some (.cells #[.int .u64 a2_0,.int .u64 a2_1] 35 (0,0))) ∧ z1 (wc.heap[gb106]? = some (.cells #[.int .u64 t103,.int .u64 t104] 35 (0,0))) ∧ z1 (wc.heap[gb113]? = some (.cells #[.int .u64 t110,.int .u64 t111] 38 (0,0))) ∧ z1 (Below w.heap.size w wc))
     case first =>
      have H:=HC76.out
      clear HC76
      by_cases c77 : t105 = 0
      rotate_left
      · rw [if_neg c77] at H
        have c77b0 : (t105 == 0) = false:=beq_eq_false_iff_ne.mpr c77
        have c77b1 : (t105 != 0) = true:=bne_iff_ne.mpr c77
        (first|rw [c77b0]|(simp only [zH,zI];rw [c77b0])|skip)
        have H':=z1.mk H
        clear H
        go_wp2
        go_meet
        case rel=>exact ⟨_,(false),zz82,H',⟨by have:=HJ3.out;have:=HJ25.out;first|omega|exact Nat.le_refl _⟩,⟨by (with_reducible repeat (first|apply Kd.zL|apply Kd.zM|apply Kd.zS));exact HO_11.out⟩,⟨by (with_reducible repeat (first|refine z8 ?_ _|refine zb ?_|refine z7 ?_ _));exact BK101.out⟩,⟨by (with_reducible repeat (first|refine z8 ?_ _|refine zb ?_|refine z7 ?_ _));exact BK106.out⟩,⟨by (with_reducible repeat (first|refine z8 ?_ _|refine zb ?_|refine z7 ?_ _));exact BK113.out⟩,⟨by repeat (first|(with_reducible first|exact HB.out|apply zd|apply z3|apply zc|refine za ?_ GE101.out|refine za ?_ GE106.out|refine za ?_ GE113.out)|exact HB.out)⟩⟩
      rw [if_pos c77] at H
      have c77b0 : (t105 == 0) = true:=beq_iff_eq.mpr c77
      have c77b1 : (t105 != 0) = false:=bne_eq_false_iff_eq.mpr c77
      clear c77
      (first|rw [c77b0]|(simp only [zH,zI];rw [c77b0])|skip)
      have H':=z1.mk H
      clear H
      go_wp2
      go_meet
      case rel=>exact ⟨_,((t115 == 0)),zz82,H',⟨by have:=HJ3.out;have:=HJ25.out;first|omega|exact Nat.le_refl _⟩,⟨by (with_reducible repeat (first|apply Kd.zL|apply Kd.zM|apply Kd.zS));exact HO_11.out⟩,⟨by (with_reducible repeat (first|refine z8 ?_ _|refine zb ?_|refine z7 ?_ _));exact BK101.out⟩,⟨by (with_reducible repeat (first|refine z8 ?_ _|refine zb ?_|refine z7 ?_ _));exact BK106.out⟩,⟨by (with_reducible repeat (first|refine z8 ?_ _|refine zb ?_|refine z7 ?_ _));exact BK113.out⟩,⟨by repeat (first|(with_reducible first|exact HB.out|apply zd|apply z3|apply zc|refine za ?_ GE101.out|refine za ?_ GE106.out|refine za ?_ GE113.out)|exact HB.out)⟩⟩
     case rest =>
      clear HC76
      (try clear c1);(try clear p2);(try clear c3);(try clear c4);(try clear c5);(try clear c6);(try clear c7);(try clear c13);(try clear c15);(try clear c16);(try clear c17);(try clear c18);(try clear c30);(try clear c47);(try clear c47b0);(try clear c48);(try clear c49);(try clear c51);(try clear c53);(try clear c53b0);(try clear c53b1);(try clear c55);(try clear c56);(try clear c57);(try clear c59);(try clear c63);(try clear c64);(try clear c66);(try clear c70);(try clear c71);(try clear c73);(try clear c75);(try clear c77);(try clear c77b0);(try clear c77b1);(try clear hcz27_0);(try clear hcz27_1);(try clear hcz31_0);(try clear hcz31_1);(try clear hcz50_0);(try clear hcz50_1);(try clear hcz52_0);(try clear hcz52_1);(try clear hcz58_0);(try clear hcz58_1);(try clear hcz60_0);(try clear hcz60_1);(try clear hcz65_0);(try clear hcz65_1);(try clear hcz67_0);(try clear hcz67_1);(try clear hcz72_0);(try clear hcz72_1);(try clear hcz74_0);(try clear hcz74_1);(try clear hfz27_0);(try clear hfz27_1);(try clear hfz31_0);(try clear hfz31_1);(try clear hfz50_0);(try clear hfz50_1);(try clear hfz52_0);(try clear hfz52_1);(try clear hfz58_0);(try clear hfz58_1);(try clear hfz60_0);(try clear hfz60_1);(try clear hfz65_0);(try clear hfz65_1);(try clear hfz67_0);(try clear hfz67_1);(try clear hfz72_0);(try clear hfz72_1);(try clear hfz74_0);(try clear hfz74_1);(try clear p2)
      obtain ⟨kq,x99_75,rfl,HA,HJ75,HO_11,BK101,BK106,BK113,HB⟩:=hcut
      cases kq with
      | zero=>exact absurd HA.out (by simp [z2.j2])
      | succ kj75 =>
       have H:=HA.out
       clear HA
       simp only [z2.j2] at H
       by_cases c78 : x99_75 = true
       rotate_left
       · replace c78:=Bool.eq_false_iff.mpr c78
         subst c78
         have H1 : ((zF.f kj75).bind fun t138=>(some t138)) = some r:=by rw [if_neg (show ¬ (false = true) by decide)] at H;exact H
         clear H
         have H:=H1
         clear H1
         replace H:=Option.bind_eq_some_iff.mp H
         obtain ⟨t138,A1670,H⟩:=H
         replace H : (some t138) = some r:=H
         have A167:=z1.mk A1670
         clear A1670
         obtain rfl:=Option.some.inj H
         go_wp2_with (first|((with_reducible refine zo (f:=10) rfl ?_);refine goesL_ (some 126) rfl rfl Try.func10 zz84 rfl #[] rfl zz45 ?_;(with_reducible refine (zF.calls kj75  t138 _ A167.out).mono ?_);rintro e w168 ⟨rfl,hb⟩;refine ⟨_,rfl,?_⟩;have n0_:=z1.mk (Kd.zs zz72 hb);have n1_:=z1.mk (z9 (g:=gb101) (o:=.cells #[.int .u64 a2_0,.int .u64 a2_1] 35 (0,0)) zz49 hb);have n2_:=z1.mk (z9 (g:=gb106) (o:=.cells #[.int .u64 t103,.int .u64 t104] 35 (0,0)) zz51 hb);have n3_:=z1.mk (z9 (g:=gb113) (o:=.cells #[.int .u64 t110,.int .u64 t111] 38 (0,0)) zz55 hb);have n4_:=z1.mk (ze zz33 hb);clear HO_11;clear BK101;clear BK106;clear BK113;clear HB;have HO_11:=n0_;have BK101:=n1_;have BK106:=n2_;have BK113:=n3_;have HB:=n4_;clear n0_ n1_ n2_ n3_ n4_;(try clear hb);(try clear hb2);(try clear hk);(try clear hi)))
         go_ret
         exact ⟨by first|rfl|(simp [zi,zj] <;> rfl)|(simp [*,zi,zj] <;> rfl),by repeat (first|(with_reducible first|exact HB.out|apply zd|apply z3|apply zc|refine za ?_ GE101.out|refine za ?_ GE106.out|refine za ?_ GE113.out)|exact HB.out)⟩
       subst c78
       have H1 : ((z19.f kj75 l1 t103 t104).bind fun bt129=>((z19.f kj75 t114 a2_0 a2_1).bind fun bt133=>((zF.f kj75).bind fun t137=>(if t137 = true then (if bt129.2.2 = 0 then (if bt133.2.2 = 0 then (some (bt129.1 == bt133.1 && (bt129.2.1 == bt133.2.1))) else (some false)) else (some false)) else (some false))))) = some r:=by rw [if_pos rfl] at H;exact H
       clear H
       have H:=H1
       clear H1
       replace H:=Option.bind_eq_some_iff.mp H
       obtain ⟨⟨t129,t130,t131⟩,A790,H⟩:=H
       replace H : ((z19.f kj75 t114 a2_0 a2_1).bind fun bt133=>((zF.f kj75).bind fun t137=>(if t137 = true then (if t131 = 0 then (if bt133.2.2 = 0 then (some (t129 == bt133.1 && (t130 == bt133.2.1))) else (some false)) else (some false)) else (some false)))) = some r:=H
       have A79:=z1.mk A790
       clear A790
       replace H:=Option.bind_eq_some_iff.mp H
       obtain ⟨⟨t133,t134,t135⟩,A800,H⟩:=H
       replace H : ((zF.f kj75).bind fun t137=>(if t137 = true then (if t131 = 0 then (if t135 = 0 then (some (t129 == t133 && (t130 == t134))) else (some false)) else (some false)) else (some false))) = some r:=H
       have A80:=z1.mk A800
       clear A800
       replace H:=Option.bind_eq_some_iff.mp H
       obtain ⟨t137,A810,H⟩:=H
       replace H : (if t137 = true then (if t131 = 0 then (if t135 = 0 then (some (t129 == t133 && (t130 == t134))) else (some false)) else (some false)) else (some false)) = some r:=H
       have A81:=z1.mk A810
       clear A810
       by_cases c82 : t137 = true
       rotate_left
       · replace c82:=Bool.eq_false_iff.mpr c82
         subst c82
         have H1 : (some false) = some r:=by rw [if_neg (show ¬ (false = true) by decide)] at H;exact H
         clear H
         have H:=H1
         clear H1
         obtain rfl:=Option.some.inj H
         have hnb147:=NB106_101.out
         have hnc147:=NB101_106.out
         have hnb148:=NB106_113.out
         have hnc148:=NB113_106.out
         have hcz149_0 : wc.cell? ⟨gb106,0,none⟩ = some (.int .u64 t103):=(z5 BK106.out 0).trans rfl
         have hcz149_1 : wc.cell? ⟨gb106,1,none⟩ = some (.int .u64 t104):=(z5 BK106.out 1).trans rfl
         have hfz149_0:=z4 BK106.out 0
         have hfz149_1:=z4 BK106.out 1
         go_wp2_with (first|((with_reducible refine zo (f:=15) rfl ?_);refine goesL_ (some 103) rfl rfl Try.func15 zz84 rfl #[.slice A1 l1.length c1,.agg #[.int .u64 t103,.int .u64 t104]] rfl zz45 ?_;(with_reducible refine (z19.calls kj75 _ _ l1 t103 t104 t129 t130 t131 _ ?side1 ?side2 A79.out).mono ?_);(case side1=>repeat (first|exact (Kd.z1A HR1.out HB.out)|(with_reducible refine Kd.z15 ?_ _)|(with_reducible refine Kd.z16 ?_ _)|(with_reducible refine Kd.z1m ?_)));(case side2=>exact HC1.out);rintro e w150 ⟨rfl,hb⟩;refine ⟨_,rfl,?_⟩;have n0_:=z1.mk (Kd.zs zz72 hb);have n1_:=z1.mk (z9 (g:=gb101) (o:=.cells #[.int .u64 a2_0,.int .u64 a2_1] 35 (0,0)) zz49 hb);have n2_:=z1.mk (z9 (g:=gb106) (o:=.cells #[.int .u64 t103,.int .u64 t104] 35 (0,0)) zz51 hb);have n3_:=z1.mk (z9 (g:=gb113) (o:=.cells #[.int .u64 t110,.int .u64 t111] 38 (0,0)) zz55 hb);have n4_:=z1.mk (ze zz33 hb);clear HO_11;clear BK101;clear BK106;clear BK113;clear HB;have HO_11:=n0_;have BK101:=n1_;have BK106:=n2_;have BK113:=n3_;have HB:=n4_;clear n0_ n1_ n2_ n3_ n4_;(try clear hb);(try clear hb2);(try clear hk);(try clear hi))|((with_reducible refine zE (N:=15) rfl ?_);(try (refine z1n zz88 ?_;dsimp only));refine zC ?hg (N:=15) ?hd (cs:=#[.int .u64 0,.int .u64 0]) (t:=35) ?hr ?_;(case hd=>rfl);(case hg=>rfl);(case hr=>first|(go_simp;done)|(go_simp;rfl));intro gb132 hg w151 hbox hb;have n0_:=z1.mk (Kd.zs (Kd.z1B zz72 gb132 (Nat.le_of_eq hg.symm)) hb);have n1_:=z1.mk (z9 (g:=gb101) (o:=.cells #[.int .u64 a2_0,.int .u64 a2_1] 35 (0,0)) zz49 hb);have n2_:=z1.mk (z9 (g:=gb106) (o:=.cells #[.int .u64 t103,.int .u64 t104] 35 (0,0)) zz51 hb);have n3_:=z1.mk (z9 (g:=gb113) (o:=.cells #[.int .u64 t110,.int .u64 t111] 38 (0,0)) zz55 hb);have n4_:=z1.mk (ze zz33 hb);have n5_:=z1.mk (hbox);have n6_:=z1.mk ((by rw [hg];exact (zf zz33) : w.heap.size ≤ gb132));have n7_:=z1.mk ((by rw [hg];exact (zf zz33) : w.heap.size ≤ gb132));have n8_:=z1.mk ((by rw [hg];exact Nat.ne_of_lt (zw (g:=gb101) (o:=.cells #[.int .u64 a2_0,.int .u64 a2_1] 35 (0,0)) zz49) : gb101 ≠ gb132));have n9_:=z1.mk ((by rw [hg];exact Nat.ne_of_gt (zw (g:=gb101) (o:=.cells #[.int .u64 a2_0,.int .u64 a2_1] 35 (0,0)) zz49) : gb132 ≠ gb101));have n10_:=z1.mk ((by rw [hg];exact Nat.ne_of_lt (zw (g:=gb106) (o:=.cells #[.int .u64 t103,.int .u64 t104] 35 (0,0)) zz51) : gb106 ≠ gb132));have n11_:=z1.mk ((by rw [hg];exact Nat.ne_of_gt (zw (g:=gb106) (o:=.cells #[.int .u64 t103,.int .u64 t104] 35 (0,0)) zz51) : gb132 ≠ gb106));have n12_:=z1.mk ((by rw [hg];exact Nat.ne_of_lt (zw (g:=gb113) (o:=.cells #[.int .u64 t110,.int .u64 t111] 38 (0,0)) zz55) : gb113 ≠ gb132));have n13_:=z1.mk ((by rw [hg];exact Nat.ne_of_gt (zw (g:=gb113) (o:=.cells #[.int .u64 t110,.int .u64 t111] 38 (0,0)) zz55) : gb132 ≠ gb113));clear HO_11;clear BK101;clear BK106;clear BK113;clear HB;have HO_11:=n0_;have BK101:=n1_;have BK106:=n2_;have BK113:=n3_;have HB:=n4_;have BK132:=n5_;have GW132:=n6_;have GE132:=n7_;have NB101_132:=n8_;have NB132_101:=n9_;have NB106_132:=n10_;have NB132_106:=n11_;have NB113_132:=n12_;have NB132_113:=n13_;clear n0_ n1_ n2_ n3_ n4_ n5_ n6_ n7_ n8_ n9_ n10_ n11_ n12_ n13_;clear hb hbox hg;have hnb152:=NB132_101.out;have hnc152:=NB101_132.out;have hnb153:=NB132_106.out;have hnc153:=NB106_132.out;have hnb154:=NB132_113.out;have hnc154:=NB113_132.out;have hcz155_0 : w151.cell? ⟨gb132,0,none⟩ = some (.int .u64 0):=(z5 BK132.out 0).trans rfl;have hcz155_1 : w151.cell? ⟨gb132,1,none⟩ = some (.int .u64 0):=(z5 BK132.out 1).trans rfl;have hfz155_0:=z4 BK132.out 0;have hfz155_1:=z4 BK132.out 1;have hnb156:=NB101_113.out;have hnc156:=NB113_101.out;have hcz157_0 : w151.cell? ⟨gb101,0,none⟩ = some (.int .u64 a2_0):=(z5 BK101.out 0).trans rfl;have hcz157_1 : w151.cell? ⟨gb101,1,none⟩ = some (.int .u64 a2_1):=(z5 BK101.out 1).trans rfl;have hfz157_0:=z4 BK101.out 0;have hfz157_1:=z4 BK101.out 1;obtain ⟨Ao158,co158,eo158⟩:=Kd.z1e HO_11.out;subst eo158)|((with_reducible refine zo (f:=15) rfl ?_);refine goesL_ (some 109) rfl rfl Try.func15 zz84 rfl #[.slice Ao158 t114.length co158,.agg #[.int .u64 a2_0,.int .u64 a2_1]] rfl zz45 ?_;(with_reducible refine (z19.calls kj75 _ _ t114 a2_0 a2_1 t133 t134 t135 _ ?side1 ?side2 A80.out).mono ?_);(case side1=>refine (Kd.zA (e:=35) (base:=w.heap.size) (ok:=fun k_=>((k_ ≠ gb101 ∧ k_ ≠ gb106) ∧ k_ ≠ gb132)) (n:=t114.length) (c:=co158) ?_).2.2;exact zz23);(case side2=>exact (Kd.zA HO_11.out).2.1);rintro e w159 ⟨rfl,hb⟩;refine ⟨_,rfl,?_⟩;have n0_:=z1.mk (Kd.zs zz23 hb);have n1_:=z1.mk (z9 (g:=gb101) (o:=.cells #[.int .u64 a2_0,.int .u64 a2_1] 35 (0,0)) zz16 hb);have n2_:=z1.mk (z9 (g:=gb106) (o:=.cells #[.int .u64 t103,.int .u64 t104] 35 (0,0)) zz17 hb);have n3_:=z1.mk (z9 (g:=gb113) (o:=.cells #[.int .u64 t110,.int .u64 t111] 38 (0,0)) zz18 hb);have n4_:=z1.mk (z9 (g:=gb132) (o:=.cells #[.int .u64 t129,.int .u64 t130] 35 (0,0)) zz5 hb);have n5_:=z1.mk (ze zz28 hb);clear HO_11;clear BK101;clear BK106;clear BK113;clear BK132;clear HB;have HO_11:=n0_;have BK101:=n1_;have BK106:=n2_;have BK113:=n3_;have BK132:=n4_;have HB:=n5_;clear n0_ n1_ n2_ n3_ n4_ n5_;(try clear hb);(try clear hb2);(try clear hk);(try clear hi))|((with_reducible refine zE (N:=17) rfl ?_);(try (refine z1n zz88 ?_;dsimp only));refine zC ?hg (N:=17) ?hd (cs:=#[.int .u64 0,.int .u64 0]) (t:=35) ?hr ?_;(case hd=>rfl);(case hg=>rfl);(case hr=>first|(go_simp;done)|(go_simp;rfl));intro gb136 hg w160 hbox hb;have n0_:=z1.mk (Kd.zs (Kd.z1B zz72 gb136 (Nat.le_of_eq hg.symm)) hb);have n1_:=z1.mk (z9 (g:=gb101) (o:=.cells #[.int .u64 a2_0,.int .u64 a2_1] 35 (0,0)) zz49 hb);have n2_:=z1.mk (z9 (g:=gb106) (o:=.cells #[.int .u64 t103,.int .u64 t104] 35 (0,0)) zz51 hb);have n3_:=z1.mk (z9 (g:=gb113) (o:=.cells #[.int .u64 t110,.int .u64 t111] 38 (0,0)) zz55 hb);have n4_:=z1.mk (z9 (g:=gb132) (o:=.cells #[.int .u64 t129,.int .u64 t130] 35 (0,0)) zz56 hb);have n5_:=z1.mk (ze zz28 hb);have n6_:=z1.mk (hbox);have n7_:=z1.mk ((by rw [hg];exact (zf zz28) : w.heap.size ≤ gb136));have n8_:=z1.mk ((by rw [hg];exact (zf zz28) : w.heap.size ≤ gb136));have n9_:=z1.mk ((by rw [hg];exact Nat.ne_of_lt (zw (g:=gb101) (o:=.cells #[.int .u64 a2_0,.int .u64 a2_1] 35 (0,0)) zz49) : gb101 ≠ gb136));have n10_:=z1.mk ((by rw [hg];exact Nat.ne_of_gt (zw (g:=gb101) (o:=.cells #[.int .u64 a2_0,.int .u64 a2_1] 35 (0,0)) zz49) : gb136 ≠ gb101));have n11_:=z1.mk ((by rw [hg];exact Nat.ne_of_lt (zw (g:=gb106) (o:=.cells #[.int .u64 t103,.int .u64 t104] 35 (0,0)) zz51) : gb106 ≠ gb136));have n12_:=z1.mk ((by rw [hg];exact Nat.ne_of_gt (zw (g:=gb106) (o:=.cells #[.int .u64 t103,.int .u64 t104] 35 (0,0)) zz51) : gb136 ≠ gb106));have n13_:=z1.mk ((by rw [hg];exact Nat.ne_of_lt (zw (g:=gb113) (o:=.cells #[.int .u64 t110,.int .u64 t111] 38 (0,0)) zz55) : gb113 ≠ gb136));have n14_:=z1.mk ((by rw [hg];exact Nat.ne_of_gt (zw (g:=gb113) (o:=.cells #[.int .u64 t110,.int .u64 t111] 38 (0,0)) zz55) : gb136 ≠ gb113));have n15_:=z1.mk ((by rw [hg];exact Nat.ne_of_lt (zw (g:=gb132) (o:=.cells #[.int .u64 t129,.int .u64 t130] 35 (0,0)) zz56) : gb132 ≠ gb136));have n16_:=z1.mk ((by rw [hg];exact Nat.ne_of_gt (zw (g:=gb132) (o:=.cells #[.int .u64 t129,.int .u64 t130] 35 (0,0)) zz56) : gb136 ≠ gb132));clear HO_11;clear BK101;clear BK106;clear BK113;clear BK132;clear HB;have HO_11:=n0_;have BK101:=n1_;have BK106:=n2_;have BK113:=n3_;have BK132:=n4_;have HB:=n5_;have BK136:=n6_;have GW136:=n7_;have GE136:=n8_;have NB101_136:=n9_;have NB136_101:=n10_;have NB106_136:=n11_;have NB136_106:=n12_;have NB113_136:=n13_;have NB136_113:=n14_;have NB132_136:=n15_;have NB136_132:=n16_;clear n0_ n1_ n2_ n3_ n4_ n5_ n6_ n7_ n8_ n9_ n10_ n11_ n12_ n13_ n14_ n15_ n16_;clear hb hbox hg;have hnb161:=NB136_101.out;have hnc161:=NB101_136.out;have hnb162:=NB136_106.out;have hnc162:=NB106_136.out;have hnb163:=NB136_113.out;have hnc163:=NB113_136.out;have hnb164:=NB136_132.out;have hnc164:=NB132_136.out;have hcz165_0 : w160.cell? ⟨gb136,0,none⟩ = some (.int .u64 0):=(z5 BK136.out 0).trans rfl;have hcz165_1 : w160.cell? ⟨gb136,1,none⟩ = some (.int .u64 0):=(z5 BK136.out 1).trans rfl;have hfz165_0:=z4 BK136.out 0;have hfz165_1:=z4 BK136.out 1)|((with_reducible refine zo (f:=10) rfl ?_);refine goesL_ (some 112) rfl rfl Try.func10 zz84 rfl #[] rfl zz45 ?_;(with_reducible refine (zF.calls kj75  false _ A81.out).mono ?_);rintro e w166 ⟨rfl,hb⟩;refine ⟨_,rfl,?_⟩;have n0_:=z1.mk (Kd.zs zz24 hb);have n1_:=z1.mk (z9 (g:=gb101) (o:=.cells #[.int .u64 a2_0,.int .u64 a2_1] 35 (0,0)) zz19 hb);have n2_:=z1.mk (z9 (g:=gb106) (o:=.cells #[.int .u64 t103,.int .u64 t104] 35 (0,0)) zz20 hb);have n3_:=z1.mk (z9 (g:=gb113) (o:=.cells #[.int .u64 t110,.int .u64 t111] 38 (0,0)) zz21 hb);have n4_:=z1.mk (z9 (g:=gb132) (o:=.cells #[.int .u64 t129,.int .u64 t130] 35 (0,0)) zz22 hb);have n5_:=z1.mk (z9 (g:=gb136) (o:=.cells #[.int .u64 t133,.int .u64 t134] 35 (0,0)) zz6 hb);have n6_:=z1.mk (ze zz25 hb);clear HO_11;clear BK101;clear BK106;clear BK113;clear BK132;clear BK136;clear HB;have HO_11:=n0_;have BK101:=n1_;have BK106:=n2_;have BK113:=n3_;have BK132:=n4_;have BK136:=n5_;have HB:=n6_;clear n0_ n1_ n2_ n3_ n4_ n5_ n6_;(try clear hb);(try clear hb2);(try clear hk);(try clear hi)))
         go_ret
         exact ⟨by first|rfl|(simp [zi,zj] <;> rfl)|(simp [*,zi,zj] <;> rfl),by repeat (first|(with_reducible first|exact HB.out|apply zd|apply z3|apply zc|refine za ?_ GE101.out|refine za ?_ GE106.out|refine za ?_ GE113.out|refine za ?_ GE132.out|refine za ?_ GE136.out)|exact HB.out)⟩
       subst c82
       have H1 : (if t131 = 0 then (if t135 = 0 then (some (t129 == t133 && (t130 == t134))) else (some false)) else (some false)) = some r:=by rw [if_pos rfl] at H;exact H
       clear H
       have H:=H1
       clear H1
       by_cases c83 : t131 = 0
       rotate_left
       · rw [if_neg c83] at H
         have c83b0 : (t131 == 0) = false:=beq_eq_false_iff_ne.mpr c83
         have c83b1 : (t131 != 0) = true:=bne_iff_ne.mpr c83
         obtain rfl:=Option.some.inj H
         have hnb127:=NB106_101.out
         have hnc127:=NB101_106.out
         have hnb128:=NB106_113.out
         have hnc128:=NB113_106.out
         have hcz129_0 : wc.cell? ⟨gb106,0,none⟩ = some (.int .u64 t103):=(z5 BK106.out 0).trans rfl
         have hcz129_1 : wc.cell? ⟨gb106,1,none⟩ = some (.int .u64 t104):=(z5 BK106.out 1).trans rfl
         have hfz129_0:=z4 BK106.out 0
         have hfz129_1:=z4 BK106.out 1
         go_wp2_with (first|((with_reducible refine zo (f:=15) rfl ?_);refine goesL_ (some 103) rfl rfl Try.func15 zz84 rfl #[.slice A1 l1.length c1,.agg #[.int .u64 t103,.int .u64 t104]] rfl zz45 ?_;(with_reducible refine (z19.calls kj75 _ _ l1 t103 t104 t129 t130 t131 _ ?side1 ?side2 A79.out).mono ?_);(case side1=>repeat (first|exact (Kd.z1A HR1.out HB.out)|(with_reducible refine Kd.z15 ?_ _)|(with_reducible refine Kd.z16 ?_ _)|(with_reducible refine Kd.z1m ?_)));(case side2=>exact HC1.out);rintro e w130 ⟨rfl,hb⟩;refine ⟨_,rfl,?_⟩;have n0_:=z1.mk (Kd.zs zz72 hb);have n1_:=z1.mk (z9 (g:=gb101) (o:=.cells #[.int .u64 a2_0,.int .u64 a2_1] 35 (0,0)) zz49 hb);have n2_:=z1.mk (z9 (g:=gb106) (o:=.cells #[.int .u64 t103,.int .u64 t104] 35 (0,0)) zz51 hb);have n3_:=z1.mk (z9 (g:=gb113) (o:=.cells #[.int .u64 t110,.int .u64 t111] 38 (0,0)) zz55 hb);have n4_:=z1.mk (ze zz33 hb);clear HO_11;clear BK101;clear BK106;clear BK113;clear HB;have HO_11:=n0_;have BK101:=n1_;have BK106:=n2_;have BK113:=n3_;have HB:=n4_;clear n0_ n1_ n2_ n3_ n4_;(try clear hb);(try clear hb2);(try clear hk);(try clear hi))|((with_reducible refine zE (N:=15) rfl ?_);(try (refine z1n zz88 ?_;dsimp only));refine zC ?hg (N:=15) ?hd (cs:=#[.int .u64 0,.int .u64 0]) (t:=35) ?hr ?_;(case hd=>rfl);(case hg=>rfl);(case hr=>first|(go_simp;done)|(go_simp;rfl));intro gb132 hg w131 hbox hb;have n0_:=z1.mk (Kd.zs (Kd.z1B zz72 gb132 (Nat.le_of_eq hg.symm)) hb);have n1_:=z1.mk (z9 (g:=gb101) (o:=.cells #[.int .u64 a2_0,.int .u64 a2_1] 35 (0,0)) zz49 hb);have n2_:=z1.mk (z9 (g:=gb106) (o:=.cells #[.int .u64 t103,.int .u64 t104] 35 (0,0)) zz51 hb);have n3_:=z1.mk (z9 (g:=gb113) (o:=.cells #[.int .u64 t110,.int .u64 t111] 38 (0,0)) zz55 hb);have n4_:=z1.mk (ze zz33 hb);have n5_:=z1.mk (hbox);have n6_:=z1.mk ((by rw [hg];exact (zf zz33) : w.heap.size ≤ gb132));have n7_:=z1.mk ((by rw [hg];exact (zf zz33) : w.heap.size ≤ gb132));have n8_:=z1.mk ((by rw [hg];exact Nat.ne_of_lt (zw (g:=gb101) (o:=.cells #[.int .u64 a2_0,.int .u64 a2_1] 35 (0,0)) zz49) : gb101 ≠ gb132));have n9_:=z1.mk ((by rw [hg];exact Nat.ne_of_gt (zw (g:=gb101) (o:=.cells #[.int .u64 a2_0,.int .u64 a2_1] 35 (0,0)) zz49) : gb132 ≠ gb101));have n10_:=z1.mk ((by rw [hg];exact Nat.ne_of_lt (zw (g:=gb106) (o:=.cells #[.int .u64 t103,.int .u64 t104] 35 (0,0)) zz51) : gb106 ≠ gb132));have n11_:=z1.mk ((by rw [hg];exact Nat.ne_of_gt (zw (g:=gb106) (o:=.cells #[.int .u64 t103,.int .u64 t104] 35 (0,0)) zz51) : gb132 ≠ gb106));have n12_:=z1.mk ((by rw [hg];exact Nat.ne_of_lt (zw (g:=gb113) (o:=.cells #[.int .u64 t110,.int .u64 t111] 38 (0,0)) zz55) : gb113 ≠ gb132));have n13_:=z1.mk ((by rw [hg];exact Nat.ne_of_gt (zw (g:=gb113) (o:=.cells #[.int .u64 t110,.int .u64 t111] 38 (0,0)) zz55) : gb132 ≠ gb113));clear HO_11;clear BK101;clear BK106;clear BK113;clear HB;have HO_11:=n0_;have BK101:=n1_;have BK106:=n2_;have BK113:=n3_;have HB:=n4_;have BK132:=n5_;have GW132:=n6_;have GE132:=n7_;have NB101_132:=n8_;have NB132_101:=n9_;have NB106_132:=n10_;have NB132_106:=n11_;have NB113_132:=n12_;have NB132_113:=n13_;clear n0_ n1_ n2_ n3_ n4_ n5_ n6_ n7_ n8_ n9_ n10_ n11_ n12_ n13_;clear hb hbox hg;have hnb132:=NB132_101.out;have hnc132:=NB101_132.out;have hnb133:=NB132_106.out;have hnc133:=NB106_132.out;have hnb134:=NB132_113.out;have hnc134:=NB113_132.out;have hcz135_0 : w131.cell? ⟨gb132,0,none⟩ = some (.int .u64 0):=(z5 BK132.out 0).trans rfl;have hcz135_1 : w131.cell? ⟨gb132,1,none⟩ = some (.int .u64 0):=(z5 BK132.out 1).trans rfl;have hfz135_0:=z4 BK132.out 0;have hfz135_1:=z4 BK132.out 1;have hnb136:=NB101_113.out;have hnc136:=NB113_101.out;have hcz137_0 : w131.cell? ⟨gb101,0,none⟩ = some (.int .u64 a2_0):=(z5 BK101.out 0).trans rfl;have hcz137_1 : w131.cell? ⟨gb101,1,none⟩ = some (.int .u64 a2_1):=(z5 BK101.out 1).trans rfl;have hfz137_0:=z4 BK101.out 0;have hfz137_1:=z4 BK101.out 1;obtain ⟨Ao138,co138,eo138⟩:=Kd.z1e HO_11.out;subst eo138)|((with_reducible refine zo (f:=15) rfl ?_);refine goesL_ (some 109) rfl rfl Try.func15 zz84 rfl #[.slice Ao138 t114.length co138,.agg #[.int .u64 a2_0,.int .u64 a2_1]] rfl zz45 ?_;(with_reducible refine (z19.calls kj75 _ _ t114 a2_0 a2_1 t133 t134 t135 _ ?side1 ?side2 A80.out).mono ?_);(case side1=>refine (Kd.zA (e:=35) (base:=w.heap.size) (ok:=fun k_=>((k_ ≠ gb101 ∧ k_ ≠ gb106) ∧ k_ ≠ gb132)) (n:=t114.length) (c:=co138) ?_).2.2;exact zz23);(case side2=>exact (Kd.zA HO_11.out).2.1);rintro e w139 ⟨rfl,hb⟩;refine ⟨_,rfl,?_⟩;have n0_:=z1.mk (Kd.zs zz23 hb);have n1_:=z1.mk (z9 (g:=gb101) (o:=.cells #[.int .u64 a2_0,.int .u64 a2_1] 35 (0,0)) zz16 hb);have n2_:=z1.mk (z9 (g:=gb106) (o:=.cells #[.int .u64 t103,.int .u64 t104] 35 (0,0)) zz17 hb);have n3_:=z1.mk (z9 (g:=gb113) (o:=.cells #[.int .u64 t110,.int .u64 t111] 38 (0,0)) zz18 hb);have n4_:=z1.mk (z9 (g:=gb132) (o:=.cells #[.int .u64 t129,.int .u64 t130] 35 (0,0)) zz5 hb);have n5_:=z1.mk (ze zz28 hb);clear HO_11;clear BK101;clear BK106;clear BK113;clear BK132;clear HB;have HO_11:=n0_;have BK101:=n1_;have BK106:=n2_;have BK113:=n3_;have BK132:=n4_;have HB:=n5_;clear n0_ n1_ n2_ n3_ n4_ n5_;(try clear hb);(try clear hb2);(try clear hk);(try clear hi))|((with_reducible refine zE (N:=17) rfl ?_);(try (refine z1n zz88 ?_;dsimp only));refine zC ?hg (N:=17) ?hd (cs:=#[.int .u64 0,.int .u64 0]) (t:=35) ?hr ?_;(case hd=>rfl);(case hg=>rfl);(case hr=>first|(go_simp;done)|(go_simp;rfl));intro gb136 hg w140 hbox hb;have n0_:=z1.mk (Kd.zs (Kd.z1B zz72 gb136 (Nat.le_of_eq hg.symm)) hb);have n1_:=z1.mk (z9 (g:=gb101) (o:=.cells #[.int .u64 a2_0,.int .u64 a2_1] 35 (0,0)) zz49 hb);have n2_:=z1.mk (z9 (g:=gb106) (o:=.cells #[.int .u64 t103,.int .u64 t104] 35 (0,0)) zz51 hb);have n3_:=z1.mk (z9 (g:=gb113) (o:=.cells #[.int .u64 t110,.int .u64 t111] 38 (0,0)) zz55 hb);have n4_:=z1.mk (z9 (g:=gb132) (o:=.cells #[.int .u64 t129,.int .u64 t130] 35 (0,0)) zz56 hb);have n5_:=z1.mk (ze zz28 hb);have n6_:=z1.mk (hbox);have n7_:=z1.mk ((by rw [hg];exact (zf zz28) : w.heap.size ≤ gb136));have n8_:=z1.mk ((by rw [hg];exact (zf zz28) : w.heap.size ≤ gb136));have n9_:=z1.mk ((by rw [hg];exact Nat.ne_of_lt (zw (g:=gb101) (o:=.cells #[.int .u64 a2_0,.int .u64 a2_1] 35 (0,0)) zz49) : gb101 ≠ gb136));have n10_:=z1.mk ((by rw [hg];exact Nat.ne_of_gt (zw (g:=gb101) (o:=.cells #[.int .u64 a2_0,.int .u64 a2_1] 35 (0,0)) zz49) : gb136 ≠ gb101));have n11_:=z1.mk ((by rw [hg];exact Nat.ne_of_lt (zw (g:=gb106) (o:=.cells #[.int .u64 t103,.int .u64 t104] 35 (0,0)) zz51) : gb106 ≠ gb136));have n12_:=z1.mk ((by rw [hg];exact Nat.ne_of_gt (zw (g:=gb106) (o:=.cells #[.int .u64 t103,.int .u64 t104] 35 (0,0)) zz51) : gb136 ≠ gb106));have n13_:=z1.mk ((by rw [hg];exact Nat.ne_of_lt (zw (g:=gb113) (o:=.cells #[.int .u64 t110,.int .u64 t111] 38 (0,0)) zz55) : gb113 ≠ gb136));have n14_:=z1.mk ((by rw [hg];exact Nat.ne_of_gt (zw (g:=gb113) (o:=.cells #[.int .u64 t110,.int .u64 t111] 38 (0,0)) zz55) : gb136 ≠ gb113));have n15_:=z1.mk ((by rw [hg];exact Nat.ne_of_lt (zw (g:=gb132) (o:=.cells #[.int .u64 t129,.int .u64 t130] 35 (0,0)) zz56) : gb132 ≠ gb136));have n16_:=z1.mk ((by rw [hg];exact Nat.ne_of_gt (zw (g:=gb132) (o:=.cells #[.int .u64 t129,.int .u64 t130] 35 (0,0)) zz56) : gb136 ≠ gb132));clear HO_11;clear BK101;clear BK106;clear BK113;clear BK132;clear HB;have HO_11:=n0_;have BK101:=n1_;have BK106:=n2_;have BK113:=n3_;have BK132:=n4_;have HB:=n5_;have BK136:=n6_;have GW136:=n7_;have GE136:=n8_;have NB101_136:=n9_;have NB136_101:=n10_;have NB106_136:=n11_;have NB136_106:=n12_;have NB113_136:=n13_;have NB136_113:=n14_;have NB132_136:=n15_;have NB136_132:=n16_;clear n0_ n1_ n2_ n3_ n4_ n5_ n6_ n7_ n8_ n9_ n10_ n11_ n12_ n13_ n14_ n15_ n16_;clear hb hbox hg;have hnb141:=NB136_101.out;have hnc141:=NB101_136.out;have hnb142:=NB136_106.out;have hnc142:=NB106_136.out;have hnb143:=NB136_113.out;have hnc143:=NB113_136.out;have hnb144:=NB136_132.out;have hnc144:=NB132_136.out;have hcz145_0 : w140.cell? ⟨gb136,0,none⟩ = some (.int .u64 0):=(z5 BK136.out 0).trans rfl;have hcz145_1 : w140.cell? ⟨gb136,1,none⟩ = some (.int .u64 0):=(z5 BK136.out 1).trans rfl;have hfz145_0:=z4 BK136.out 0;have hfz145_1:=z4 BK136.out 1)|((with_reducible refine zo (f:=10) rfl ?_);refine goesL_ (some 112) rfl rfl Try.func10 zz84 rfl #[] rfl zz45 ?_;(with_reducible refine (zF.calls kj75  true _ A81.out).mono ?_);rintro e w146 ⟨rfl,hb⟩;refine ⟨_,rfl,?_⟩;have n0_:=z1.mk (Kd.zs zz24 hb);have n1_:=z1.mk (z9 (g:=gb101) (o:=.cells #[.int .u64 a2_0,.int .u64 a2_1] 35 (0,0)) zz19 hb);have n2_:=z1.mk (z9 (g:=gb106) (o:=.cells #[.int .u64 t103,.int .u64 t104] 35 (0,0)) zz20 hb);have n3_:=z1.mk (z9 (g:=gb113) (o:=.cells #[.int .u64 t110,.int .u64 t111] 38 (0,0)) zz21 hb);have n4_:=z1.mk (z9 (g:=gb132) (o:=.cells #[.int .u64 t129,.int .u64 t130] 35 (0,0)) zz22 hb);have n5_:=z1.mk (z9 (g:=gb136) (o:=.cells #[.int .u64 t133,.int .u64 t134] 35 (0,0)) zz6 hb);have n6_:=z1.mk (ze zz25 hb);clear HO_11;clear BK101;clear BK106;clear BK113;clear BK132;clear BK136;clear HB;have HO_11:=n0_;have BK101:=n1_;have BK106:=n2_;have BK113:=n3_;have BK132:=n4_;have BK136:=n5_;have HB:=n6_;clear n0_ n1_ n2_ n3_ n4_ n5_ n6_;(try clear hb);(try clear hb2);(try clear hk);(try clear hi)))
         go_ret
         exact ⟨by first|rfl|(simp [zi,zj] <;> rfl)|(simp [*,zi,zj] <;> rfl),by repeat (first|(with_reducible first|exact HB.out|apply zd|apply z3|apply zc|refine za ?_ GE101.out|refine za ?_ GE106.out|refine za ?_ GE113.out|refine za ?_ GE132.out|refine za ?_ GE136.out)|exact HB.out)⟩
       rw [if_pos c83] at H
       have c83b0 : (t131 == 0) = true:=beq_iff_eq.mpr c83
       have c83b1 : (t131 != 0) = false:=bne_eq_false_iff_eq.mpr c83
       clear c83
       by_cases c84 : t135 = 0
       rotate_left
       · rw [if_neg c84] at H
         have c84b0 : (t135 == 0) = false:=beq_eq_false_iff_ne.mpr c84
         have c84b1 : (t135 != 0) = true:=bne_iff_ne.mpr c84
         obtain rfl:=Option.some.inj H
         have hnb107:=NB106_101.out
         have hnc107:=NB101_106.out
         have hnb108:=NB106_113.out
         have hnc108:=NB113_106.out
         have hcz109_0 : wc.cell? ⟨gb106,0,none⟩ = some (.int .u64 t103):=(z5 BK106.out 0).trans rfl
         have hcz109_1 : wc.cell? ⟨gb106,1,none⟩ = some (.int .u64 t104):=(z5 BK106.out 1).trans rfl
         have hfz109_0:=z4 BK106.out 0
         have hfz109_1:=z4 BK106.out 1
         go_wp2_with (first|((with_reducible refine zo (f:=15) rfl ?_);refine goesL_ (some 103) rfl rfl Try.func15 zz84 rfl #[.slice A1 l1.length c1,.agg #[.int .u64 t103,.int .u64 t104]] rfl zz45 ?_;(with_reducible refine (z19.calls kj75 _ _ l1 t103 t104 t129 t130 t131 _ ?side1 ?side2 A79.out).mono ?_);(case side1=>repeat (first|exact (Kd.z1A HR1.out HB.out)|(with_reducible refine Kd.z15 ?_ _)|(with_reducible refine Kd.z16 ?_ _)|(with_reducible refine Kd.z1m ?_)));(case side2=>exact HC1.out);rintro e w110 ⟨rfl,hb⟩;refine ⟨_,rfl,?_⟩;have n0_:=z1.mk (Kd.zs zz72 hb);have n1_:=z1.mk (z9 (g:=gb101) (o:=.cells #[.int .u64 a2_0,.int .u64 a2_1] 35 (0,0)) zz49 hb);have n2_:=z1.mk (z9 (g:=gb106) (o:=.cells #[.int .u64 t103,.int .u64 t104] 35 (0,0)) zz51 hb);have n3_:=z1.mk (z9 (g:=gb113) (o:=.cells #[.int .u64 t110,.int .u64 t111] 38 (0,0)) zz55 hb);have n4_:=z1.mk (ze zz33 hb);clear HO_11;clear BK101;clear BK106;clear BK113;clear HB;have HO_11:=n0_;have BK101:=n1_;have BK106:=n2_;have BK113:=n3_;have HB:=n4_;clear n0_ n1_ n2_ n3_ n4_;(try clear hb);(try clear hb2);(try clear hk);(try clear hi))|((with_reducible refine zE (N:=15) rfl ?_);(try (refine z1n zz88 ?_;dsimp only));refine zC ?hg (N:=15) ?hd (cs:=#[.int .u64 0,.int .u64 0]) (t:=35) ?hr ?_;(case hd=>rfl);(case hg=>rfl);(case hr=>first|(go_simp;done)|(go_simp;rfl));intro gb132 hg w111 hbox hb;have n0_:=z1.mk (Kd.zs (Kd.z1B zz72 gb132 (Nat.le_of_eq hg.symm)) hb);have n1_:=z1.mk (z9 (g:=gb101) (o:=.cells #[.int .u64 a2_0,.int .u64 a2_1] 35 (0,0)) zz49 hb);have n2_:=z1.mk (z9 (g:=gb106) (o:=.cells #[.int .u64 t103,.int .u64 t104] 35 (0,0)) zz51 hb);have n3_:=z1.mk (z9 (g:=gb113) (o:=.cells #[.int .u64 t110,.int .u64 t111] 38 (0,0)) zz55 hb);have n4_:=z1.mk (ze zz33 hb);have n5_:=z1.mk (hbox);have n6_:=z1.mk ((by rw [hg];exact (zf zz33) : w.heap.size ≤ gb132));have n7_:=z1.mk ((by rw [hg];exact (zf zz33) : w.heap.size ≤ gb132));have n8_:=z1.mk ((by rw [hg];exact Nat.ne_of_lt (zw (g:=gb101) (o:=.cells #[.int .u64 a2_0,.int .u64 a2_1] 35 (0,0)) zz49) : gb101 ≠ gb132));have n9_:=z1.mk ((by rw [hg];exact Nat.ne_of_gt (zw (g:=gb101) (o:=.cells #[.int .u64 a2_0,.int .u64 a2_1] 35 (0,0)) zz49) : gb132 ≠ gb101));have n10_:=z1.mk ((by rw [hg];exact Nat.ne_of_lt (zw (g:=gb106) (o:=.cells #[.int .u64 t103,.int .u64 t104] 35 (0,0)) zz51) : gb106 ≠ gb132));have n11_:=z1.mk ((by rw [hg];exact Nat.ne_of_gt (zw (g:=gb106) (o:=.cells #[.int .u64 t103,.int .u64 t104] 35 (0,0)) zz51) : gb132 ≠ gb106));have n12_:=z1.mk ((by rw [hg];exact Nat.ne_of_lt (zw (g:=gb113) (o:=.cells #[.int .u64 t110,.int .u64 t111] 38 (0,0)) zz55) : gb113 ≠ gb132));have n13_:=z1.mk ((by rw [hg];exact Nat.ne_of_gt (zw (g:=gb113) (o:=.cells #[.int .u64 t110,.int .u64 t111] 38 (0,0)) zz55) : gb132 ≠ gb113));clear HO_11;clear BK101;clear BK106;clear BK113;clear HB;have HO_11:=n0_;have BK101:=n1_;have BK106:=n2_;have BK113:=n3_;have HB:=n4_;have BK132:=n5_;have GW132:=n6_;have GE132:=n7_;have NB101_132:=n8_;have NB132_101:=n9_;have NB106_132:=n10_;have NB132_106:=n11_;have NB113_132:=n12_;have NB132_113:=n13_;clear n0_ n1_ n2_ n3_ n4_ n5_ n6_ n7_ n8_ n9_ n10_ n11_ n12_ n13_;clear hb hbox hg;have hnb112:=NB132_101.out;have hnc112:=NB101_132.out;have hnb113:=NB132_106.out;have hnc113:=NB106_132.out;have hnb114:=NB132_113.out;have hnc114:=NB113_132.out;have hcz115_0 : w111.cell? ⟨gb132,0,none⟩ = some (.int .u64 0):=(z5 BK132.out 0).trans rfl;have hcz115_1 : w111.cell? ⟨gb132,1,none⟩ = some (.int .u64 0):=(z5 BK132.out 1).trans rfl;have hfz115_0:=z4 BK132.out 0;have hfz115_1:=z4 BK132.out 1;have hnb116:=NB101_113.out;have hnc116:=NB113_101.out;have hcz117_0 : w111.cell? ⟨gb101,0,none⟩ = some (.int .u64 a2_0):=(z5 BK101.out 0).trans rfl;have hcz117_1 : w111.cell? ⟨gb101,1,none⟩ = some (.int .u64 a2_1):=(z5 BK101.out 1).trans rfl;have hfz117_0:=z4 BK101.out 0;have hfz117_1:=z4 BK101.out 1;obtain ⟨Ao118,co118,eo118⟩:=Kd.z1e HO_11.out;subst eo118)|((with_reducible refine zo (f:=15) rfl ?_);refine goesL_ (some 109) rfl rfl Try.func15 zz84 rfl #[.slice Ao118 t114.length co118,.agg #[.int .u64 a2_0,.int .u64 a2_1]] rfl zz45 ?_;(with_reducible refine (z19.calls kj75 _ _ t114 a2_0 a2_1 t133 t134 t135 _ ?side1 ?side2 A80.out).mono ?_);(case side1=>refine (Kd.zA (e:=35) (base:=w.heap.size) (ok:=fun k_=>((k_ ≠ gb101 ∧ k_ ≠ gb106) ∧ k_ ≠ gb132)) (n:=t114.length) (c:=co118) ?_).2.2;exact zz23);(case side2=>exact (Kd.zA HO_11.out).2.1);rintro e w119 ⟨rfl,hb⟩;refine ⟨_,rfl,?_⟩;have n0_:=z1.mk (Kd.zs zz23 hb);have n1_:=z1.mk (z9 (g:=gb101) (o:=.cells #[.int .u64 a2_0,.int .u64 a2_1] 35 (0,0)) zz16 hb);have n2_:=z1.mk (z9 (g:=gb106) (o:=.cells #[.int .u64 t103,.int .u64 t104] 35 (0,0)) zz17 hb);have n3_:=z1.mk (z9 (g:=gb113) (o:=.cells #[.int .u64 t110,.int .u64 t111] 38 (0,0)) zz18 hb);have n4_:=z1.mk (z9 (g:=gb132) (o:=.cells #[.int .u64 t129,.int .u64 t130] 35 (0,0)) zz5 hb);have n5_:=z1.mk (ze zz28 hb);clear HO_11;clear BK101;clear BK106;clear BK113;clear BK132;clear HB;have HO_11:=n0_;have BK101:=n1_;have BK106:=n2_;have BK113:=n3_;have BK132:=n4_;have HB:=n5_;clear n0_ n1_ n2_ n3_ n4_ n5_;(try clear hb);(try clear hb2);(try clear hk);(try clear hi))|((with_reducible refine zE (N:=17) rfl ?_);(try (refine z1n zz88 ?_;dsimp only));refine zC ?hg (N:=17) ?hd (cs:=#[.int .u64 0,.int .u64 0]) (t:=35) ?hr ?_;(case hd=>rfl);(case hg=>rfl);(case hr=>first|(go_simp;done)|(go_simp;rfl));intro gb136 hg w120 hbox hb;have n0_:=z1.mk (Kd.zs (Kd.z1B zz72 gb136 (Nat.le_of_eq hg.symm)) hb);have n1_:=z1.mk (z9 (g:=gb101) (o:=.cells #[.int .u64 a2_0,.int .u64 a2_1] 35 (0,0)) zz49 hb);have n2_:=z1.mk (z9 (g:=gb106) (o:=.cells #[.int .u64 t103,.int .u64 t104] 35 (0,0)) zz51 hb);have n3_:=z1.mk (z9 (g:=gb113) (o:=.cells #[.int .u64 t110,.int .u64 t111] 38 (0,0)) zz55 hb);have n4_:=z1.mk (z9 (g:=gb132) (o:=.cells #[.int .u64 t129,.int .u64 t130] 35 (0,0)) zz56 hb);have n5_:=z1.mk (ze zz28 hb);have n6_:=z1.mk (hbox);have n7_:=z1.mk ((by rw [hg];exact (zf zz28) : w.heap.size ≤ gb136));have n8_:=z1.mk ((by rw [hg];exact (zf zz28) : w.heap.size ≤ gb136));have n9_:=z1.mk ((by rw [hg];exact Nat.ne_of_lt (zw (g:=gb101) (o:=.cells #[.int .u64 a2_0,.int .u64 a2_1] 35 (0,0)) zz49) : gb101 ≠ gb136));have n10_:=z1.mk ((by rw [hg];exact Nat.ne_of_gt (zw (g:=gb101) (o:=.cells #[.int .u64 a2_0,.int .u64 a2_1] 35 (0,0)) zz49) : gb136 ≠ gb101));have n11_:=z1.mk ((by rw [hg];exact Nat.ne_of_lt (zw (g:=gb106) (o:=.cells #[.int .u64 t103,.int .u64 t104] 35 (0,0)) zz51) : gb106 ≠ gb136));have n12_:=z1.mk ((by rw [hg];exact Nat.ne_of_gt (zw (g:=gb106) (o:=.cells #[.int .u64 t103,.int .u64 t104] 35 (0,0)) zz51) : gb136 ≠ gb106));have n13_:=z1.mk ((by rw [hg];exact Nat.ne_of_lt (zw (g:=gb113) (o:=.cells #[.int .u64 t110,.int .u64 t111] 38 (0,0)) zz55) : gb113 ≠ gb136));have n14_:=z1.mk ((by rw [hg];exact Nat.ne_of_gt (zw (g:=gb113) (o:=.cells #[.int .u64 t110,.int .u64 t111] 38 (0,0)) zz55) : gb136 ≠ gb113));have n15_:=z1.mk ((by rw [hg];exact Nat.ne_of_lt (zw (g:=gb132) (o:=.cells #[.int .u64 t129,.int .u64 t130] 35 (0,0)) zz56) : gb132 ≠ gb136));have n16_:=z1.mk ((by rw [hg];exact Nat.ne_of_gt (zw (g:=gb132) (o:=.cells #[.int .u64 t129,.int .u64 t130] 35 (0,0)) zz56) : gb136 ≠ gb132));clear HO_11;clear BK101;clear BK106;clear BK113;clear BK132;clear HB;have HO_11:=n0_;have BK101:=n1_;have BK106:=n2_;have BK113:=n3_;have BK132:=n4_;have HB:=n5_;have BK136:=n6_;have GW136:=n7_;have GE136:=n8_;have NB101_136:=n9_;have NB136_101:=n10_;have NB106_136:=n11_;have NB136_106:=n12_;have NB113_136:=n13_;have NB136_113:=n14_;have NB132_136:=n15_;have NB136_132:=n16_;clear n0_ n1_ n2_ n3_ n4_ n5_ n6_ n7_ n8_ n9_ n10_ n11_ n12_ n13_ n14_ n15_ n16_;clear hb hbox hg;have hnb121:=NB136_101.out;have hnc121:=NB101_136.out;have hnb122:=NB136_106.out;have hnc122:=NB106_136.out;have hnb123:=NB136_113.out;have hnc123:=NB113_136.out;have hnb124:=NB136_132.out;have hnc124:=NB132_136.out;have hcz125_0 : w120.cell? ⟨gb136,0,none⟩ = some (.int .u64 0):=(z5 BK136.out 0).trans rfl;have hcz125_1 : w120.cell? ⟨gb136,1,none⟩ = some (.int .u64 0):=(z5 BK136.out 1).trans rfl;have hfz125_0:=z4 BK136.out 0;have hfz125_1:=z4 BK136.out 1)|((with_reducible refine zo (f:=10) rfl ?_);refine goesL_ (some 112) rfl rfl Try.func10 zz84 rfl #[] rfl zz45 ?_;(with_reducible refine (zF.calls kj75  true _ A81.out).mono ?_);rintro e w126 ⟨rfl,hb⟩;refine ⟨_,rfl,?_⟩;have n0_:=z1.mk (Kd.zs zz24 hb);have n1_:=z1.mk (z9 (g:=gb101) (o:=.cells #[.int .u64 a2_0,.int .u64 a2_1] 35 (0,0)) zz19 hb);have n2_:=z1.mk (z9 (g:=gb106) (o:=.cells #[.int .u64 t103,.int .u64 t104] 35 (0,0)) zz20 hb);have n3_:=z1.mk (z9 (g:=gb113) (o:=.cells #[.int .u64 t110,.int .u64 t111] 38 (0,0)) zz21 hb);have n4_:=z1.mk (z9 (g:=gb132) (o:=.cells #[.int .u64 t129,.int .u64 t130] 35 (0,0)) zz22 hb);have n5_:=z1.mk (z9 (g:=gb136) (o:=.cells #[.int .u64 t133,.int .u64 t134] 35 (0,0)) zz6 hb);have n6_:=z1.mk (ze zz25 hb);clear HO_11;clear BK101;clear BK106;clear BK113;clear BK132;clear BK136;clear HB;have HO_11:=n0_;have BK101:=n1_;have BK106:=n2_;have BK113:=n3_;have BK132:=n4_;have BK136:=n5_;have HB:=n6_;clear n0_ n1_ n2_ n3_ n4_ n5_ n6_;(try clear hb);(try clear hb2);(try clear hk);(try clear hi)))
         go_ret
         exact ⟨by first|rfl|(simp [zi,zj] <;> rfl)|(simp [*,zi,zj] <;> rfl),by repeat (first|(with_reducible first|exact HB.out|apply zd|apply z3|apply zc|refine za ?_ GE101.out|refine za ?_ GE106.out|refine za ?_ GE113.out|refine za ?_ GE132.out|refine za ?_ GE136.out)|exact HB.out)⟩
       rw [if_pos c84] at H
       have c84b0 : (t135 == 0) = true:=beq_iff_eq.mpr c84
       have c84b1 : (t135 != 0) = false:=bne_eq_false_iff_eq.mpr c84
       clear c84
       obtain rfl:=Option.some.inj H
       have hnb85:=NB106_101.out
       have hnc85:=NB101_106.out
       have hnb86:=NB106_113.out
       have hnc86:=NB113_106.out
       have hcz87_0 : wc.cell? ⟨gb106,0,none⟩ = some (.int .u64 t103):=(z5 BK106.out 0).trans rfl
       have hcz87_1 : wc.cell? ⟨gb106,1,none⟩ = some (.int .u64 t104):=(z5 BK106.out 1).trans rfl
       have hfz87_0:=z4 BK106.out 0
       have hfz87_1:=z4 BK106.out 1
       go_wp2_with (first|((with_reducible refine zo (f:=15) rfl ?_);refine goesL_ (some 103) rfl rfl Try.func15 zz84 rfl #[.slice A1 l1.length c1,.agg #[.int .u64 t103,.int .u64 t104]] rfl zz45 ?_;(with_reducible refine (z19.calls kj75 _ _ l1 t103 t104 t129 t130 t131 _ ?side1 ?side2 A79.out).mono ?_);(case side1=>repeat (first|exact (Kd.z1A HR1.out HB.out)|(with_reducible refine Kd.z15 ?_ _)|(with_reducible refine Kd.z16 ?_ _)|(with_reducible refine Kd.z1m ?_)));(case side2=>exact HC1.out);rintro e w88 ⟨rfl,hb⟩;refine ⟨_,rfl,?_⟩;have n0_:=z1.mk (Kd.zs zz72 hb);have n1_:=z1.mk (z9 (g:=gb101) (o:=.cells #[.int .u64 a2_0,.int .u64 a2_1] 35 (0,0)) zz49 hb);have n2_:=z1.mk (z9 (g:=gb106) (o:=.cells #[.int .u64 t103,.int .u64 t104] 35 (0,0)) zz51 hb);have n3_:=z1.mk (z9 (g:=gb113) (o:=.cells #[.int .u64 t110,.int .u64 t111] 38 (0,0)) zz55 hb);have n4_:=z1.mk (ze zz33 hb);clear HO_11;clear BK101;clear BK106;clear BK113;clear HB;have HO_11:=n0_;have BK101:=n1_;have BK106:=n2_;have BK113:=n3_;have HB:=n4_;clear n0_ n1_ n2_ n3_ n4_;(try clear hb);(try clear hb2);(try clear hk);(try clear hi))|((with_reducible refine zE (N:=15) rfl ?_);(try (refine z1n zz88 ?_;dsimp only));refine zC ?hg (N:=15) ?hd (cs:=#[.int .u64 0,.int .u64 0]) (t:=35) ?hr ?_;(case hd=>rfl);(case hg=>rfl);(case hr=>first|(go_simp;done)|(go_simp;rfl));intro gb132 hg w89 hbox hb;have n0_:=z1.mk (Kd.zs (Kd.z1B zz72 gb132 (Nat.le_of_eq hg.symm)) hb);have n1_:=z1.mk (z9 (g:=gb101) (o:=.cells #[.int .u64 a2_0,.int .u64 a2_1] 35 (0,0)) zz49 hb);have n2_:=z1.mk (z9 (g:=gb106) (o:=.cells #[.int .u64 t103,.int .u64 t104] 35 (0,0)) zz51 hb);have n3_:=z1.mk (z9 (g:=gb113) (o:=.cells #[.int .u64 t110,.int .u64 t111] 38 (0,0)) zz55 hb);have n4_:=z1.mk (ze zz33 hb);have n5_:=z1.mk (hbox);have n6_:=z1.mk ((by rw [hg];exact (zf zz33) : w.heap.size ≤ gb132));have n7_:=z1.mk ((by rw [hg];exact (zf zz33) : w.heap.size ≤ gb132));have n8_:=z1.mk ((by rw [hg];exact Nat.ne_of_lt (zw (g:=gb101) (o:=.cells #[.int .u64 a2_0,.int .u64 a2_1] 35 (0,0)) zz49) : gb101 ≠ gb132));have n9_:=z1.mk ((by rw [hg];exact Nat.ne_of_gt (zw (g:=gb101) (o:=.cells #[.int .u64 a2_0,.int .u64 a2_1] 35 (0,0)) zz49) : gb132 ≠ gb101));have n10_:=z1.mk ((by rw [hg];exact Nat.ne_of_lt (zw (g:=gb106) (o:=.cells #[.int .u64 t103,.int .u64 t104] 35 (0,0)) zz51) : gb106 ≠ gb132));have n11_:=z1.mk ((by rw [hg];exact Nat.ne_of_gt (zw (g:=gb106) (o:=.cells #[.int .u64 t103,.int .u64 t104] 35 (0,0)) zz51) : gb132 ≠ gb106));have n12_:=z1.mk ((by rw [hg];exact Nat.ne_of_lt (zw (g:=gb113) (o:=.cells #[.int .u64 t110,.int .u64 t111] 38 (0,0)) zz55) : gb113 ≠ gb132));have n13_:=z1.mk ((by rw [hg];exact Nat.ne_of_gt (zw (g:=gb113) (o:=.cells #[.int .u64 t110,.int .u64 t111] 38 (0,0)) zz55) : gb132 ≠ gb113));clear HO_11;clear BK101;clear BK106;clear BK113;clear HB;have HO_11:=n0_;have BK101:=n1_;have BK106:=n2_;have BK113:=n3_;have HB:=n4_;have BK132:=n5_;have GW132:=n6_;have GE132:=n7_;have NB101_132:=n8_;have NB132_101:=n9_;have NB106_132:=n10_;have NB132_106:=n11_;have NB113_132:=n12_;have NB132_113:=n13_;clear n0_ n1_ n2_ n3_ n4_ n5_ n6_ n7_ n8_ n9_ n10_ n11_ n12_ n13_;clear hb hbox hg;have hnb90:=NB132_101.out;have hnc90:=NB101_132.out;have hnb91:=NB132_106.out;have hnc91:=NB106_132.out;have hnb92:=NB132_113.out;have hnc92:=NB113_132.out;have hcz93_0 : w89.cell? ⟨gb132,0,none⟩ = some (.int .u64 0):=(z5 BK132.out 0).trans rfl;have hcz93_1 : w89.cell? ⟨gb132,1,none⟩ = some (.int .u64 0):=(z5 BK132.out 1).trans rfl;have hfz93_0:=z4 BK132.out 0;have hfz93_1:=z4 BK132.out 1;have hnb94:=NB101_113.out;have hnc94:=NB113_101.out;have hcz95_0 : w89.cell? ⟨gb101,0,none⟩ = some (.int .u64 a2_0):=(z5 BK101.out 0).trans rfl;have hcz95_1 : w89.cell? ⟨gb101,1,none⟩ = some (.int .u64 a2_1):=(z5 BK101.out 1).trans rfl;have hfz95_0:=z4 BK101.out 0;have hfz95_1:=z4 BK101.out 1;obtain ⟨Ao96,co96,eo96⟩:=Kd.z1e HO_11.out;subst eo96)|((with_reducible refine zo (f:=15) rfl ?_);refine goesL_ (some 109) rfl rfl Try.func15 zz84 rfl #[.slice Ao96 t114.length co96,.agg #[.int .u64 a2_0,.int .u64 a2_1]] rfl zz45 ?_;(with_reducible refine (z19.calls kj75 _ _ t114 a2_0 a2_1 t133 t134 t135 _ ?side1 ?side2 A80.out).mono ?_);(case side1=>refine (Kd.zA (e:=35) (base:=w.heap.size) (ok:=fun k_=>((k_ ≠ gb101 ∧ k_ ≠ gb106) ∧ k_ ≠ gb132)) (n:=t114.length) (c:=co96) ?_).2.2;exact zz23);(case side2=>exact (Kd.zA HO_11.out).2.1);rintro e w97 ⟨rfl,hb⟩;refine ⟨_,rfl,?_⟩;have n0_:=z1.mk (Kd.zs zz23 hb);have n1_:=z1.mk (z9 (g:=gb101) (o:=.cells #[.int .u64 a2_0,.int .u64 a2_1] 35 (0,0)) zz16 hb);have n2_:=z1.mk (z9 (g:=gb106) (o:=.cells #[.int .u64 t103,.int .u64 t104] 35 (0,0)) zz17 hb);have n3_:=z1.mk (z9 (g:=gb113) (o:=.cells #[.int .u64 t110,.int .u64 t111] 38 (0,0)) zz18 hb);have n4_:=z1.mk (z9 (g:=gb132) (o:=.cells #[.int .u64 t129,.int .u64 t130] 35 (0,0)) zz5 hb);have n5_:=z1.mk (ze zz28 hb);clear HO_11;clear BK101;clear BK106;clear BK113;clear BK132;clear HB;have HO_11:=n0_;have BK101:=n1_;have BK106:=n2_;have BK113:=n3_;have BK132:=n4_;have HB:=n5_;clear n0_ n1_ n2_ n3_ n4_ n5_;(try clear hb);(try clear hb2);(try clear hk);(try clear hi))|((with_reducible refine zE (N:=17) rfl ?_);(try (refine z1n zz88 ?_;dsimp only));refine zC ?hg (N:=17) ?hd (cs:=#[.int .u64 0,.int .u64 0]) (t:=35) ?hr ?_;(case hd=>rfl);(case hg=>rfl);(case hr=>first|(go_simp;done)|(go_simp;rfl));intro gb136 hg w98 hbox hb;have n0_:=z1.mk (Kd.zs (Kd.z1B zz72 gb136 (Nat.le_of_eq hg.symm)) hb);have n1_:=z1.mk (z9 (g:=gb101) (o:=.cells #[.int .u64 a2_0,.int .u64 a2_1] 35 (0,0)) zz49 hb);have n2_:=z1.mk (z9 (g:=gb106) (o:=.cells #[.int .u64 t103,.int .u64 t104] 35 (0,0)) zz51 hb);have n3_:=z1.mk (z9 (g:=gb113) (o:=.cells #[.int .u64 t110,.int .u64 t111] 38 (0,0)) zz55 hb);have n4_:=z1.mk (z9 (g:=gb132) (o:=.cells #[.int .u64 t129,.int .u64 t130] 35 (0,0)) zz56 hb);have n5_:=z1.mk (ze zz28 hb);have n6_:=z1.mk (hbox);have n7_:=z1.mk ((by rw [hg];exact (zf zz28) : w.heap.size ≤ gb136));have n8_:=z1.mk ((by rw [hg];exact (zf zz28) : w.heap.size ≤ gb136));have n9_:=z1.mk ((by rw [hg];exact Nat.ne_of_lt (zw (g:=gb101) (o:=.cells #[.int .u64 a2_0,.int .u64 a2_1] 35 (0,0)) zz49) : gb101 ≠ gb136));have n10_:=z1.mk ((by rw [hg];exact Nat.ne_of_gt (zw (g:=gb101) (o:=.cells #[.int .u64 a2_0,.int .u64 a2_1] 35 (0,0)) zz49) : gb136 ≠ gb101));have n11_:=z1.mk ((by rw [hg];exact Nat.ne_of_lt (zw (g:=gb106) (o:=.cells #[.int .u64 t103,.int .u64 t104] 35 (0,0)) zz51) : gb106 ≠ gb136));have n12_:=z1.mk ((by rw [hg];exact Nat.ne_of_gt (zw (g:=gb106) (o:=.cells #[.int .u64 t103,.int .u64 t104] 35 (0,0)) zz51) : gb136 ≠ gb106));have n13_:=z1.mk ((by rw [hg];exact Nat.ne_of_lt (zw (g:=gb113) (o:=.cells #[.int .u64 t110,.int .u64 t111] 38 (0,0)) zz55) : gb113 ≠ gb136));have n14_:=z1.mk ((by rw [hg];exact Nat.ne_of_gt (zw (g:=gb113) (o:=.cells #[.int .u64 t110,.int .u64 t111] 38 (0,0)) zz55) : gb136 ≠ gb113));have n15_:=z1.mk ((by rw [hg];exact Nat.ne_of_lt (zw (g:=gb132) (o:=.cells #[.int .u64 t129,.int .u64 t130] 35 (0,0)) zz56) : gb132 ≠ gb136));have n16_:=z1.mk ((by rw [hg];exact Nat.ne_of_gt (zw (g:=gb132) (o:=.cells #[.int .u64 t129,.int .u64 t130] 35 (0,0)) zz56) : gb136 ≠ gb132));clear HO_11;clear BK101;clear BK106;clear BK113;clear BK132;clear HB;have HO_11:=n0_;have BK101:=n1_;have BK106:=n2_;have BK113:=n3_;have BK132:=n4_;have HB:=n5_;have BK136:=n6_;have GW136:=n7_;have GE136:=n8_;have NB101_136:=n9_;have NB136_101:=n10_;have NB106_136:=n11_;have NB136_106:=n12_;have NB113_136:=n13_;have NB136_113:=n14_;have NB132_136:=n15_;have NB136_132:=n16_;clear n0_ n1_ n2_ n3_ n4_ n5_ n6_ n7_ n8_ n9_ n10_ n11_ n12_ n13_ n14_ n15_ n16_;clear hb hbox hg;have hnb99:=NB136_101.out;have hnc99:=NB101_136.out;have hnb100:=NB136_106.out;have hnc100:=NB106_136.out;have hnb101:=NB136_113.out;have hnc101:=NB113_136.out;have hnb102:=NB136_132.out;have hnc102:=NB132_136.out;have hcz103_0 : w98.cell? ⟨gb136,0,none⟩ = some (.int .u64 0):=(z5 BK136.out 0).trans rfl;have hcz103_1 : w98.cell? ⟨gb136,1,none⟩ = some (.int .u64 0):=(z5 BK136.out 1).trans rfl;have hfz103_0:=z4 BK136.out 0;have hfz103_1:=z4 BK136.out 1)|((with_reducible refine zo (f:=10) rfl ?_);refine goesL_ (some 112) rfl rfl Try.func10 zz84 rfl #[] rfl zz45 ?_;(with_reducible refine (zF.calls kj75  true _ A81.out).mono ?_);rintro e w104 ⟨rfl,hb⟩;refine ⟨_,rfl,?_⟩;have n0_:=z1.mk (Kd.zs zz24 hb);have n1_:=z1.mk (z9 (g:=gb101) (o:=.cells #[.int .u64 a2_0,.int .u64 a2_1] 35 (0,0)) zz19 hb);have n2_:=z1.mk (z9 (g:=gb106) (o:=.cells #[.int .u64 t103,.int .u64 t104] 35 (0,0)) zz20 hb);have n3_:=z1.mk (z9 (g:=gb113) (o:=.cells #[.int .u64 t110,.int .u64 t111] 38 (0,0)) zz21 hb);have n4_:=z1.mk (z9 (g:=gb132) (o:=.cells #[.int .u64 t129,.int .u64 t130] 35 (0,0)) zz22 hb);have n5_:=z1.mk (z9 (g:=gb136) (o:=.cells #[.int .u64 t133,.int .u64 t134] 35 (0,0)) zz6 hb);have n6_:=z1.mk (ze zz25 hb);clear HO_11;clear BK101;clear BK106;clear BK113;clear BK132;clear BK136;clear HB;have HO_11:=n0_;have BK101:=n1_;have BK106:=n2_;have BK113:=n3_;have BK132:=n4_;have BK136:=n5_;have HB:=n6_;clear n0_ n1_ n2_ n3_ n4_ n5_ n6_;(try clear hb);(try clear hb2);(try clear hk);(try clear hi);have hcz105_0 : w104.cell? ⟨gb132,0,none⟩ = some (.int .u64 t129):=(z5 BK132.out 0).trans rfl;have hcz105_1 : w104.cell? ⟨gb132,1,none⟩ = some (.int .u64 t130):=(z5 BK132.out 1).trans rfl;have hfz105_0:=z4 BK132.out 0;have hfz105_1:=z4 BK132.out 1;have hcz106_0 : w104.cell? ⟨gb136,0,none⟩ = some (.int .u64 t133):=(z5 BK136.out 0).trans rfl;have hcz106_1 : w104.cell? ⟨gb136,1,none⟩ = some (.int .u64 t134):=(z5 BK136.out 1).trans rfl;have hfz106_0:=z4 BK136.out 0;have hfz106_1:=z4 BK136.out 1))
       go_ret
       exact ⟨by first|rfl|(simp [zi,zj] <;> rfl)|(simp [*,zi,zj] <;> rfl),by repeat (first|(with_reducible first|exact HB.out|apply zd|apply z3|apply zc|refine za ?_ GE101.out|refine za ?_ GE106.out|refine za ?_ GE113.out|refine za ?_ GE132.out|refine za ?_ GE136.out)|exact HB.out)⟩
end Go.Proofs.Ytnhbdhgbmjcjdaa.P
/- What the arguments of a law read as: for each type that can be told, any reading of it is one of a value of its kind, with its numbers in their ranges. Own text. -/
namespace Go.Proofs.Ytnhbdhgbmjcjdaa.Reads
open Go.ChangeShapes Go.WideShapes Go.ChangeAt Go.RowKit Go.Deep Go.Proofs.YtnhbdhgbmjcjdaaW.PrintWords
set_option linter.unusedVariables false

/-- Whatever is read at type t is of kind d, and good. -/
def ReadsAs {α : Type} (P : Program) (t : TypeId) (d : Kd α) (good : α → Prop) : Prop :=
  ∀ {H : Type} (enc : TypeId × Value → H) (w : World) (base : Nat) (spare : Nat → Bool) (held : Bool) (fuel : Nat) (cs : List Value) (x : DataW H × List MemPlace), DataW.trod enc P w base spare held fuel t cs = some x → ∃ a, d.K w a cs ∧ good a

theorem z6i {P : Program} {t : TypeId} {k : IntKind} (ht : P.underlying t = some (.int k)) : ReadsAs P t (Kd.int k) (fun n => (Lit.int k n).wf = true) := by
  intro H enc w base spare held fuel cs x h
  obtain ⟨n, rfl, _, hw⟩ := DataW.trod_int ht h
  exact ⟨n, rfl, hw⟩
theorem op_bool {P : Program} {t : TypeId} (ht : P.underlying t = some .bool) : ReadsAs P t Kd.bool (fun _ => True) := by
  intro H enc w base spare held fuel cs x h
  obtain ⟨n, rfl, _⟩ := DataW.trod_bool ht h
  exact ⟨n, rfl, trivial⟩
theorem z4V (a : Addr) (i j : Nat) : (a.add i).add j = a.add (i + j) := Go.Deep.add_add a i j
theorem op_slice {α : Type} {P : Program} {t e : TypeId} {d : Kd α} {good : α → Prop} (ht : P.underlying t = some (.slice e)) (hc : P.cellsOf e = d.sz) (he : ReadsAs P e d good) : ReadsAs P t (Kd.slice e d) (fun l => (∀ x ∈ l, good x) ∧ l.length ≤ maxLen) := by
  intro H enc w base spare held fuel cs x h
  rcases open_slice ht h with ⟨rfl, _⟩ | ⟨a, len, cap, m, n, D, Pl, rfl, hb, hl, hm, hmm, rfl, hx⟩
  · exact ⟨[], ⟨none, 0, rfl, Nat.le_refl _, Kd.C_nil d w⟩, ⟨by simp, Nat.zero_le _⟩⟩
  · have hlm : len ≤ m := by rw [hmm]; split <;> omega
    have hex : ∀ i, i < len → ∃ y : α, ∃ c, c.length = d.sz ∧ d.K w y c ∧ good y ∧ ∀ j u, c[j]? = some u → w.cell? (a.add (i * d.sz + j)) = some u := by
      intro i hi
      obtain ⟨cs', h1, h2⟩ := hx i (by omega)
      obtain ⟨_, hlen, hcell⟩ := World.cells?_some h1
      obtain ⟨y, hK, hg⟩ := he enc w base spare held n cs' _ h2
      refine ⟨y, cs', by rw [hlen, hc], hK, hg, fun j u hu => ?_⟩
      have hj : j < P.cellsOf e := by rw [← hlen]; exact (List.getElem?_eq_some_iff.1 hu).1
      have := hcell j hj
      rw [z4V] at this
      rw [← hc, this]; exact hu
    have hmax : len ≤ 9223372036854775807 := by
      have h9 : len ≤ maxLen := by omega
      simpa [maxLen] using h9
    have hlen : (List.ofFn (fun i : Fin len => Classical.choose (hex i.1 i.2))).length = len := List.length_ofFn
    refine ⟨List.ofFn (fun i : Fin len => Classical.choose (hex i.1 i.2)), ⟨some a, cap, by rw [hlen], by rw [hlen]; exact hl, rfl, by rw [hlen]; exact hmax, fun _ => ⟨a, rfl, ?_⟩⟩, ?_, by rw [hlen]; omega⟩
    · intro j p hp
      obtain ⟨hj, hpj⟩ := List.getElem?_eq_some_iff.1 hp
      rw [List.length_ofFn] at hj
      rw [List.getElem_ofFn] at hpj
      obtain ⟨c, h1, h2, _, h4⟩ := Classical.choose_spec (hex j hj)
      exact ⟨c, h1, by rw [← hpj]; exact h2, h4⟩
    · intro y hy
      obtain ⟨i, rfl⟩ := List.mem_ofFn.1 hy
      obtain ⟨c, _, _, h3, _⟩ := Classical.choose_spec (hex i.1 i.2)
      exact h3

/-- Fields that lie one behind the other. -/
def ReadsFs {α : Type} (P : Program) (fs : List Field) (off : Nat) (d : Kd α) (good : α → Prop) : Prop :=
  ∀ {H : Type} (enc : TypeId × Value → H) (w : World) (base : Nat) (spare : Nat → Bool) (held : Bool) (n : Nat) (cs : List Value), cs.length = d.sz →
    (∀ f ∈ fs, off ≤ f.offset ∧ ∃ x, DataW.trod enc P w base spare held n f.type ((cs.drop (f.offset - off)).take (P.cellsOf f.type)) = some x) → ∃ a, d.K w a cs ∧ good a
theorem z6l {α : Type} {P : Program} {f : Field} {off : Nat} {d : Kd α} {good : α → Prop} (hs : P.cellsOf f.type = d.sz) (ho : f.offset = off) (he : ReadsAs P f.type d good) : ReadsFs P [f] off d good := by
  intro H enc w base spare held n cs hl h
  obtain ⟨_, x, hx⟩ := h f (by simp)
  rw [ho, Nat.sub_self, List.drop_zero, hs, ← hl, List.take_length] at hx
  exact he enc w base spare held n cs x hx
theorem z6k {α β : Type} {P : Program} {f : Field} {fs : List Field} {off : Nat} {d : Kd α} {d' : Kd β} {good : α → Prop} {good' : β → Prop} (hs : P.cellsOf f.type = d.sz) (ho : f.offset = off) (he : ReadsAs P f.type d good)
    (hr : ReadsFs P fs (off + d.sz) d' good') (hoff : ∀ g ∈ fs, off + d.sz ≤ g.offset) : ReadsFs P (f :: fs) off (Kd.pair d d') (fun x => good x.1 ∧ good' x.2) := by
  intro H enc w base spare held n cs hl h
  have hl' : cs.length = d.sz + d'.sz := hl
  obtain ⟨_, x, hx⟩ := h f (by simp)
  rw [ho, Nat.sub_self, List.drop_zero, hs] at hx
  obtain ⟨a, hK, hg⟩ := he enc w base spare held n _ x hx
  obtain ⟨b, hK', hg'⟩ := hr enc w base spare held n (cs.drop d.sz) (by rw [List.length_drop]; omega) (fun g hgm => by
    obtain ⟨_, y, hy⟩ := h g (by simp [hgm])
    have ho' := hoff g hgm
    refine ⟨ho', y, ?_⟩
    rw [List.drop_drop, show d.sz + (g.offset - (off + d.sz)) = g.offset - off by omega]
    exact hy)
  exact ⟨(a, b), ⟨cs.take d.sz, cs.drop d.sz, (List.take_append_drop _ _).symm, hK, hK'⟩, hg, hg'⟩
theorem z6j {α β : Type} {P : Program} {t : TypeId} {fs : Array Field} {l : List Field} {d : Kd α} {good : α → Prop} (f : β → α) (hsurj : ∀ a, ∃ b, f b = a) (ht : P.underlying t = some (.struct fs)) (hfl : fs.toList = l) (hs : P.cellsOf t = d.sz) (h : ReadsFs P l 0 d good) :
    ReadsAs P t (Kd.iso d f) (fun b => good (f b)) := by
  intro H enc w base spare held fuel cs x hx
  obtain ⟨xs, n, rfl, _, hlen, hxs, hall⟩ := DataW.trod_struct ht hx
  obtain ⟨a, hK, hg⟩ := h enc w base spare held n cs (by rw [hlen, hs]) (fun g hgm => by
    rw [← hfl] at hgm
    obtain ⟨i, hi, rfl⟩ := List.mem_iff_getElem.1 hgm
    have h1 := hall i fs.toList[i] (by simp at hi ⊢)
    have hi' : i < xs.length := by rw [hxs]; simpa using hi
    refine ⟨Nat.zero_le _, xs[i], ?_⟩
    rw [Nat.sub_zero, h1, List.getElem?_eq_getElem hi'])
  obtain ⟨b, rfl⟩ := hsurj a
  exact ⟨b, hK, hg⟩

/-- Elements of an array, one behind the other. -/
def ReadsAr {α : Type} (P : Program) (e : TypeId) (m : Nat) (d : Kd α) (good : α → Prop) : Prop :=
  ∀ {H : Type} (enc : TypeId × Value → H) (w : World) (base : Nat) (spare : Nat → Bool) (held : Bool) (n : Nat) (cs : List Value), cs.length = d.sz →
    (∀ i, i < m → ∃ x, DataW.trod enc P w base spare held n e ((cs.drop (i * P.cellsOf e)).take (P.cellsOf e)) = some x) → ∃ a, d.K w a cs ∧ good a
theorem opas_last {α : Type} {P : Program} {e : TypeId} {d : Kd α} {good : α → Prop} (hs : P.cellsOf e = d.sz) (he : ReadsAs P e d good) : ReadsAr P e 1 d good := by
  intro H enc w base spare held n cs hl h
  obtain ⟨x, hx⟩ := h 0 (by omega)
  rw [Nat.zero_mul, List.drop_zero, hs, ← hl, List.take_length] at hx
  exact he enc w base spare held n cs x hx
theorem opas_cons {α β : Type} {P : Program} {e : TypeId} {m : Nat} {d : Kd α} {d' : Kd β} {good : α → Prop} {good' : β → Prop} (hs : P.cellsOf e = d.sz) (he : ReadsAs P e d good) (hr : ReadsAr P e m d' good') :
    ReadsAr P e (m + 1) (Kd.pair d d') (fun x => good x.1 ∧ good' x.2) := by
  intro H enc w base spare held n cs hl h
  have hl' : cs.length = d.sz + d'.sz := hl
  obtain ⟨x, hx⟩ := h 0 (by omega)
  rw [Nat.zero_mul, List.drop_zero, hs] at hx
  obtain ⟨a, hK, hg⟩ := he enc w base spare held n _ x hx
  obtain ⟨b, hK', hg'⟩ := hr enc w base spare held n (cs.drop d.sz) (by rw [List.length_drop]; omega) (fun i hi => by
    obtain ⟨y, hy⟩ := h (i + 1) (by omega)
    refine ⟨y, ?_⟩
    rw [List.drop_drop, show d.sz + i * P.cellsOf e = (i + 1) * P.cellsOf e by rw [hs, Nat.add_mul]; omega]
    exact hy)
  exact ⟨(a, b), ⟨cs.take d.sz, cs.drop d.sz, (List.take_append_drop _ _).symm, hK, hK'⟩, hg, hg'⟩
theorem op_array {α β : Type} {P : Program} {t e : TypeId} {m : Nat} {d : Kd α} {good : α → Prop} (f : β → α) (hsurj : ∀ a, ∃ b, f b = a) (ht : P.underlying t = some (.array m e)) (hs : P.cellsOf t = d.sz) (h : ReadsAr P e m d good) :
    ReadsAs P t (Kd.iso d f) (fun b => good (f b)) := by
  intro H enc w base spare held fuel cs x hx
  obtain ⟨xs, n, rfl, _, hlen, hxs, hall⟩ := DataW.trod_array ht hx
  obtain ⟨a, hK, hg⟩ := h enc w base spare held n cs (by rw [hlen, hs]) (fun i hi => by
    have hi' : i < xs.length := by omega
    exact ⟨xs[i], by rw [hall i hi, List.getElem?_eq_getElem hi']⟩)
  obtain ⟨b, rfl⟩ := hsurj a
  exact ⟨b, hK, hg⟩
theorem z4I {P : Program} {w : World} {r : Reach} {base : Nat} {t e : TypeId} {m : Nat} {v : Value} (ht : P.underlying t = some (.array m e)) (h : Value.okWide P w r base t v) : ∃ cs, v = .agg cs ∧ cs.size = P.cellsOf t := by
  simp only [Value.okWide, ht] at h
  cases v <;> simp_all

/-- An argument that is a slice. -/
theorem z4A {α : Type} {P : Program} {H : Type} {enc : TypeId × Value → H} {W : World} {base : Nat} {spare : Nat → Bool} {held : Bool} {t e : TypeId} {d : Kd α} {good : List α → Prop} {v : Value} {dd : DataW H} {ps : List MemPlace}
    (hop : ReadsAs P t (Kd.slice e d) good) {e' : TypeId} (ht : P.underlying t = some (.slice e')) {r : Reach} {b : Nat} (hv : Value.okWide P W r b t v) (h : DataW.Trod enc P W base spare held t v dd ps) :
    ∃ (l : List α) (A : Option Addr) (c : Nat), v = .slice A l.length c ∧ l.length ≤ c ∧ Kd.C d W A l.length l ∧ good l := by
  obtain ⟨A, len, cap, rfl⟩ := okWide_slice ht hv
  obtain ⟨fuel, hf⟩ := h
  obtain ⟨l, ⟨A', c, hcs, hl, hC⟩, hg⟩ := hop enc W base spare held fuel _ _ hf
  simp [Value.cells] at hcs
  obtain ⟨rfl, rfl, rfl⟩ := hcs
  exact ⟨l, A, cap, rfl, hl, hC, hg⟩
theorem arg_int {P : Program} {H : Type} {enc : TypeId × Value → H} {W : World} {base : Nat} {spare : Nat → Bool} {held : Bool} {t : TypeId} {k : IntKind} {v : Value} {dd : DataW H} {ps : List MemPlace}
    (ht : P.underlying t = some (.int k)) {r : Reach} {b : Nat} (hv : Value.okWide P W r b t v) (h : DataW.Trod enc P W base spare held t v dd ps) :
    ∃ n, v = .int k n ∧ (Lit.int k n).wf = true := by
  obtain ⟨n, rfl⟩ := okWide_int ht hv
  obtain ⟨fuel, hf⟩ := h
  obtain ⟨l, hcs, hg⟩ := z6i ht enc W base spare held fuel _ _ hf
  have : n = l := by
    have h1 : ([Value.int k n] : List Value) = [.int k l] := hcs
    simpa using h1
  subst this
  exact ⟨n, rfl, hg⟩
theorem arg_bool {P : Program} {W : World} {t : TypeId} {v : Value} (ht : P.underlying t = some .bool) {r : Reach} {b : Nat} (hv : Value.okWide P W r b t v) : ∃ n, v = .bool n := okWide_bool ht hv
/-- An argument that is a struct: its cells. -/
theorem z5q {α : Type} {P : Program} {H : Type} {enc : TypeId × Value → H} {W : World} {base : Nat} {spare : Nat → Bool} {held : Bool} {t : TypeId} {fs : Array Field} {d : Kd α} {good : α → Prop} {v : Value} {dd : DataW H} {ps : List MemPlace}
    (hop : ReadsAs P t d good) (ht : P.underlying t = some (.struct fs)) {r : Reach} {b : Nat} (hv : Value.okWide P W r b t v) (h : DataW.Trod enc P W base spare held t v dd ps) :
    ∃ (a : α) (cs : List Value), v = .agg cs.toArray ∧ d.K W a cs ∧ good a := by
  obtain ⟨cs, rfl, _⟩ := okWide_struct ht hv
  obtain ⟨fuel, hf⟩ := h
  obtain ⟨a, hK, hg⟩ := hop enc W base spare held fuel _ _ hf
  exact ⟨a, cs.toList, by simp, hK, hg⟩
/-- An argument that is an array: its cells. -/
theorem arg_array {α : Type} {P : Program} {H : Type} {enc : TypeId × Value → H} {W : World} {base : Nat} {spare : Nat → Bool} {held : Bool} {t e : TypeId} {m : Nat} {d : Kd α} {good : α → Prop} {v : Value} {dd : DataW H} {ps : List MemPlace}
    (hop : ReadsAs P t d good) (ht : P.underlying t = some (.array m e)) {r : Reach} {b : Nat} (hv : Value.okWide P W r b t v) (h : DataW.Trod enc P W base spare held t v dd ps) :
    ∃ (a : α) (cs : List Value), v = .agg cs.toArray ∧ d.K W a cs ∧ good a := by
  obtain ⟨cs, rfl, _⟩ := z4I ht hv
  obtain ⟨fuel, hf⟩ := h
  obtain ⟨a, hK, hg⟩ := hop enc W base spare held fuel _ _ hf
  exact ⟨a, cs.toList, by simp, hK, hg⟩
end Go.Proofs.Ytnhbdhgbmjcjdaa.Reads
-- Own text: the statement that is left of the law SpanMaps, and what a reading of its arguments is.
namespace Go.Proofs.Ytnhbdhgbmjcjdaa.Stated.spanMaps
open Go.RowKit Go.Proofs.YtnhbdhgbmjcjdaaW.PrintWords Go.Proofs.Ytnhbdhgbmjcjdaa.P Go.Proofs.Ytnhbdhgbmjcjdaa.Reads
def Pure : Prop := ∀ (x0 : List (S35)) (x1 : List (S35)) (x2 : S35), (((∀ x_ ∈ x0, ((Lit.int .u64 x_.f0).wf = true) ∧ ((Lit.int .u64 x_.f1).wf = true)) ∧ x0.length ≤ maxLen)) → (((∀ x_ ∈ x1, ((Lit.int .u64 x_.f0).wf = true) ∧ ((Lit.int .u64 x_.f1).wf = true)) ∧ x1.length ≤ maxLen)) → (((Lit.int .u64 x2.f0).wf = true) ∧ ((Lit.int .u64 x2.f1).wf = true)) → ∃ k, z2.f k x0 x1 x2.f0 x2.f1 = some true
end Go.Proofs.Ytnhbdhgbmjcjdaa.Stated.spanMaps
/- Rounds: what is told by enough of them; and the arithmetic of whole numbers as the printed functions spell it. Own text. -/
namespace Go.Proofs.YtnhbdhgbmjcjdaaW.PrintWords
set_option linter.unusedVariables false
set_option linter.unusedSimpArgs false
namespace Ev
variable {α β : Type}
theorem ret (r : α) : Ev (fun _ => some r) r := ⟨0, fun _ _ => rfl⟩
theorem ret' {a r : α} (h : a = r) : Ev (fun _ => some a) r := h ▸ Ev.ret a
theorem const {o : Option α} {r : α} (h : o = some r) : Ev (fun _ => o) r := ⟨0, fun _ _ => h⟩
theorem pos {c : Prop} [Decidable c] {f g : Nat → Option α} {r : α} (h : c) (k : Ev f r) : Ev (fun n => if c then f n else g n) r := by
  simp only [if_pos h]; exact k
theorem neg {c : Prop} [Decidable c] {f g : Nat → Option α} {r : α} (h : ¬ c) (k : Ev g r) : Ev (fun n => if c then f n else g n) r := by
  simp only [if_neg h]; exact k
theorem bnd {g : Nat → Option α} {f : Nat → α → Option β} {a : α} {r : β} (h : Ev g a) (k : Ev (fun n => f n a) r) : Ev (fun n => (g n).bind (f n)) r := Ev.bind h k
theorem bnd0 {o : Option α} {f : Nat → α → Option β} {a : α} {r : β} (h : o = some a) (k : Ev (fun n => f n a) r) : Ev (fun n => o.bind (f n)) r := Ev.bind (Ev.const h) k
theorem uniq {g : Nat → Option α} {a b : α} (h : Ev g a) (k : Ev g b) : a = b := by
  obtain ⟨K, hK⟩ := h; obtain ⟨L, hL⟩ := k
  have := hK (max K L) (Nat.le_max_left _ _); rw [hL _ (Nat.le_max_right _ _)] at this
  exact (Option.some.inj this).symm
theorem eqn {g : Nat → Option α} {a b : α} (h : Ev g a) (e : a = b) : Ev g b := e ▸ h
end Ev
end Go.Proofs.YtnhbdhgbmjcjdaaW.PrintWords
namespace Go.Proofs.Ytnhbdhgbmjcjdaa.Ar
open Go.RowKit Go.Proofs.YtnhbdhgbmjcjdaaW.PrintWords Go.Proofs.YtnhbdhgbmjcjdaaW.PrintMore
set_option linter.unusedVariables false
set_option linter.unusedSimpArgs false
theorem i64_id {x : Int} (h0 : -9223372036854775808 ≤ x) (h1 : x ≤ 9223372036854775807) : IntKind.i64.wrap x = x := by rw [IntKind.wrap_i64]; omega
theorem z22 {x : Int} (h0 : -9223372036854775808 ≤ x) (h1 : x ≤ 9223372036854775807) : wrap64 x = x := by unfold wrap64; omega
theorem z1G {i L : Nat} (h : i < L) (hL : L ≤ 4611686018427387904) : wrap64 ((i : Int) + 1) = ((i + 1 : Nat) : Int) := by rw [z22 (by omega) (by omega)]; omega
theorem w64_add {i j : Nat} (h : i ≤ 2305843009213693952) (h' : j ≤ 2305843009213693952) : wrap64 ((i : Int) + (j : Int)) = ((i + j : Nat) : Int) := by rw [z22 (by omega) (by omega)]; omega
theorem w64_sub {i j : Nat} (h : j ≤ i) (h' : i ≤ 4611686018427387904) : wrap64 ((i : Int) - (j : Int)) = ((i - j : Nat) : Int) := by rw [z22 (by omega) (by omega)]; omega
theorem z2s {x : Int} (h0 : 0 ≤ x) (h1 : x < 18446744073709551616) : IntKind.u64.wrap x = x := by
  simp [IntKind.wrap, IntKind.bits, IntKind.signed]; omega
theorem z6r (w : Nat) (h : w ≤ 62) : shl .i64 1 (w : Int) = ((2 ^ w : Nat) : Int) := by
  unfold shl
  have h64 : IntKind.i64.bits = 64 := rfl
  rw [h64, Int.toNat_natCast, Nat.min_eq_left (by omega), Int.one_mul]
  have hp : (2 : Nat) ^ w ≤ 2 ^ 62 := Nat.pow_le_pow_right (by decide) h
  have hc : ((2 : Int) ^ w) = ((2 ^ w : Nat) : Int) := by simp
  rw [hc]
  have h62 : (2 : Nat) ^ 62 = 4611686018427387904 := by decide
  generalize 2 ^ w = p at hp ⊢
  exact i64_id (by omega) (by omega)
theorem z2G (w : Nat) (h : w ≤ 63) : shl .u64 1 (w : Int) = ((2 ^ w : Nat) : Int) := by
  unfold shl
  have h64 : IntKind.u64.bits = 64 := rfl
  rw [h64, Int.toNat_natCast, Nat.min_eq_left (by omega), Int.one_mul]
  have hp : (2 : Nat) ^ w ≤ 2 ^ 63 := Nat.pow_le_pow_right (by decide) h
  have hc : ((2 : Int) ^ w) = ((2 ^ w : Nat) : Int) := by simp
  rw [hc]
  have h63 : (2 : Nat) ^ 63 = 9223372036854775808 := by decide
  generalize 2 ^ w = p at hp ⊢
  exact z2s (by omega) (by omega)
theorem z4v (a w : Nat) (h : w ≤ 64) : shr .u64 (a : Int) (w : Int) = ((a / 2 ^ w : Nat) : Int) := by
  unfold shr
  have h64 : IntKind.u64.bits = 64 := rfl
  rw [h64, Int.toNat_natCast, Nat.min_eq_left h]; simp
theorem shr_i64 (a w : Nat) (h : w ≤ 64) : shr .i64 (a : Int) (w : Int) = ((a / 2 ^ w : Nat) : Int) := by
  unfold shr
  have h64 : IntKind.i64.bits = 64 := rfl
  rw [h64, Int.toNat_natCast, Nat.min_eq_left h]; simp
theorem z4e (op : BinOp) (a b : Nat) (ha : a < 2 ^ 64) (hb : b < 2 ^ 64) :
    (op = .and → Go.bits op .u64 a b = ((a &&& b : Nat) : Int)) ∧ (op = .or → Go.bits op .u64 a b = ((a ||| b : Nat) : Int)) ∧ (op = .xor → Go.bits op .u64 a b = ((a ^^^ b : Nat) : Int)) := by
  have ha' : a % 2 ^ IntKind.u64.bits = a := Nat.mod_eq_of_lt ha
  have hb' : b % 2 ^ IntKind.u64.bits = b := Nat.mod_eq_of_lt hb
  refine ⟨?_, ?_, ?_⟩ <;> rintro rfl <;> simp only [Go.bits, BitVec.ofInt_natCast, BitVec.toNat_and, BitVec.toNat_or, BitVec.toNat_xor, BitVec.toNat_ofNat, ha', hb']
  · exact z2s (Int.natCast_nonneg _) (by have := Nat.and_lt_two_pow a hb; omega)
  · exact z2s (Int.natCast_nonneg _) (by have := Nat.or_lt_two_pow ha hb; omega)
  · exact z2s (Int.natCast_nonneg _) (by have := Nat.xor_lt_two_pow ha hb; omega)
theorem z2f (a b : Nat) (ha : a < 2 ^ 64) (hb : b < 2 ^ 64) : Go.bits .and .u64 a b = ((a &&& b : Nat) : Int) := (z4e .and a b ha hb).1 rfl
theorem z5g (a b : Nat) (ha : a < 2 ^ 64) (hb : b < 2 ^ 64) : Go.bits .or .u64 a b = ((a ||| b : Nat) : Int) := (z4e .or a b ha hb).2.1 rfl
theorem z1L (a b : Nat) (ha : a < 2 ^ 64) (hb : b < 2 ^ 64) : Go.bits .xor .u64 a b = ((a ^^^ b : Nat) : Int) := (z4e .xor a b ha hb).2.2 rfl
theorem z4z (x w : Nat) (hx : x < 2 ^ 63) (hw : w ≤ 62) : Go.bits .and .i64 (x : Int) (((2 ^ w : Nat) : Int) - 1) = ((x % 2 ^ w : Nat) : Int) := by
  have := Go.bits_mask .i64 63 (by decide) (fun n h0 h1 => i64_id (by omega) (by omega)) w (by omega) (x : Int) (by omega) (by exact_mod_cast hx)
  have hc : (((2 ^ w : Nat) : Int) - 1) = 2 ^ w - 1 := by simp
  rw [hc, this]; simp
theorem two_pow_le {w : Nat} (h : w ≤ 6) : 2 ^ w ≤ 64 := Nat.pow_le_pow_right (n := 2) (by decide) h
theorem wf_i64 {x : Int} (h : (Lit.int .i64 x).wf = true) : -9223372036854775808 ≤ x ∧ x ≤ 9223372036854775807 := by
  simp only [Lit.wf, IntKind.min, IntKind.max, IntKind.signed, IntKind.bits, Bool.and_eq_true, decide_eq_true_eq] at h; simp at h; omega
theorem wf_u64 {x : Int} (h : (Lit.int .u64 x).wf = true) : 0 ≤ x ∧ x < 18446744073709551616 := by
  simp only [Lit.wf, IntKind.min, IntKind.max, IntKind.signed, IntKind.bits, Bool.and_eq_true, decide_eq_true_eq] at h; simp at h; omega
theorem rdOf_eq {α : Type} (d : α) (l : List α) (i : Nat) : rdOf d l (i : Int) = l.getD i d := by unfold rdOf; rw [Int.toNat_natCast]
end Go.Proofs.Ytnhbdhgbmjcjdaa.Ar
/- The tower of fields of characteristic two, as pairs of pairs of bits: its laws. Own text; nothing of the program in it. -/
namespace Go.Proofs.Ytnhbdhgbmjcjdaa.Tw
set_option linter.unusedVariables false
set_option linter.unusedSimpArgs false

/-- Level n: a bit, or two halves: the higher one and the lower one. -/
def T : Nat → Type
  | 0 => Bool
  | n + 1 => T n × T n
def zero : (n : Nat) → T n
  | 0 => false
  | n + 1 => (zero n, zero n)
def one : (n : Nat) → T n
  | 0 => true
  | n + 1 => (zero n, one n)
/-- The generator. -/
def gen : (n : Nat) → T n
  | 0 => true
  | n + 1 => (one n, zero n)
def add : {n : Nat} → T n → T n → T n
  | 0, a, b => Bool.xor a b
  | _ + 1, a, b => (add a.1 b.1, add a.2 b.2)
def mul : {n : Nat} → T n → T n → T n
  | 0, a, b => Bool.and a b
  | n + 1, a, b => (add (add (mul a.1 b.2) (mul a.2 b.1)) (mul (gen n) (mul a.1 b.1)), add (mul a.2 b.2) (mul a.1 b.1))
instance {n : Nat} : Add (T n) := ⟨add⟩
instance {n : Nat} : Mul (T n) := ⟨mul⟩
instance {n : Nat} : Zero (T n) := ⟨zero n⟩
instance {n : Nat} : One (T n) := ⟨one n⟩
instance : {n : Nat} → DecidableEq (T n)
  | 0 => inferInstanceAs (DecidableEq Bool)
  | n + 1 => let _ : DecidableEq (T n) := instDecidableEqT; inferInstanceAs (DecidableEq (T n × T n))
theorem z3r {n : Nat} (a b : T (n + 1)) : (a + b).1 = a.1 + b.1 := rfl
theorem z4d {n : Nat} (a b : T (n + 1)) : (a + b).2 = a.2 + b.2 := rfl
theorem z1X {n : Nat} (a b : T (n + 1)) : (a * b).1 = (a.1 * b.2 + a.2 * b.1) + gen n * (a.1 * b.1) := rfl
theorem z1Y {n : Nat} (a b : T (n + 1)) : (a * b).2 = a.2 * b.2 + a.1 * b.1 := rfl
theorem z3n {n : Nat} : (0 : T (n + 1)).1 = 0 := rfl
theorem z3o {n : Nat} : (0 : T (n + 1)).2 = 0 := rfl
theorem z4p {n : Nat} : (1 : T (n + 1)).1 = 0 := rfl
theorem z4q {n : Nat} : (1 : T (n + 1)).2 = 1 := rfl
theorem z2C {n : Nat} : (gen (n + 1)).1 = 1 := rfl
theorem z2D {n : Nat} : (gen (n + 1)).2 = 0 := rfl
theorem z5b : gen 0 = 1 := rfl
/-- The element of two halves. -/
def mk {n : Nat} (a b : T n) : T (n + 1) := (a, b)
theorem z2c {n : Nat} (a b : T n) : (mk a b).1 = a := rfl
theorem z2l {n : Nat} (a b : T n) : (mk a b).2 = b := rfl
theorem ext {n : Nat} {a b : T (n + 1)} (h1 : a.1 = b.1) (h2 : a.2 = b.2) : a = b := Prod.ext h1 h2

theorem add_comm : {n : Nat} → (a b : T n) → a + b = b + a
  | 0, a, b => Bool.xor_comm a b
  | n + 1, a, b => ext (add_comm a.1 b.1) (add_comm a.2 b.2)
theorem add_assoc : {n : Nat} → (a b c : T n) → a + b + c = a + (b + c)
  | 0, a, b, c => Bool.xor_assoc a b c
  | n + 1, a, b, c => ext (add_assoc a.1 b.1 c.1) (add_assoc a.2 b.2 c.2)
theorem zero_add : {n : Nat} → (a : T n) → 0 + a = a
  | 0, a => Bool.false_xor a
  | n + 1, a => ext (zero_add a.1) (zero_add a.2)
theorem z20 : {n : Nat} → (a : T n) → a + a = 0
  | 0, a => Bool.xor_self a
  | n + 1, a => ext (z20 a.1) (z20 a.2)
theorem add_zero {n : Nat} (a : T n) : a + 0 = a := by rw [add_comm, zero_add]
theorem z1M {n : Nat} (a b c : T n) : a + (b + c) = b + (a + c) := by rw [← add_assoc, add_comm a b, add_assoc]
theorem z4y {n : Nat} (a b : T n) : a + (a + b) = b := by rw [← add_assoc, z20, zero_add]
theorem z5T {n : Nat} {a b c : T n} (h : a + b = a + c) : b = c := by
  have := congrArg (a + ·) h
  simpa only [z4y] using this
theorem add_eq_zero {n : Nat} {a b : T n} (h : a + b = 0) : a = b := by
  have := congrArg (· + b) h
  simp only [add_assoc, z20, add_zero, zero_add] at this
  exact this
theorem eq_add_of {n : Nat} {a b c : T n} (h : a + b = c) : a = c + b := by rw [← h, add_assoc, z20, add_zero]

/-- The laws of products, all at once. -/
structure Laws (n : Nat) : Prop where
  comm : ∀ a b : T n, a * b = b * a
  zero_mul : ∀ a : T n, 0 * a = 0
  one_mul : ∀ a : T n, 1 * a = a
  mul_add : ∀ a b c : T n, a * (b + c) = a * b + a * c
  assoc : ∀ a b c : T n, a * b * c = a * (b * c)
theorem laws : (n : Nat) → Laws n
  | 0 => ⟨Bool.and_comm, Bool.false_and, Bool.true_and, by intro a b c; cases a <;> cases b <;> cases c <;> rfl, Bool.and_assoc⟩
  | n + 1 => by
    obtain ⟨comm, zmul, omul, madd, massoc⟩ := laws n
    have addm : ∀ a b c : T n, (a + b) * c = a * c + b * c := fun a b c => by rw [comm, madd, comm c a, comm c b]
    have mulz : ∀ a : T n, a * 0 = 0 := fun a => by rw [comm, zmul]
    have mulo : ∀ a : T n, a * 1 = a := fun a => by rw [comm, omul]
    have lcomm : ∀ a b c : T n, a * (b * c) = b * (a * c) := fun a b c => by rw [← massoc, comm a b, massoc]
    refine ⟨fun a b => ext ?_ ?_, fun a => ext ?_ ?_, fun a => ext ?_ ?_, fun a b c => ext ?_ ?_, fun a b c => ext ?_ ?_⟩
    · simp only [z1X]; rw [comm a.1 b.2, comm a.2 b.1, comm a.1 b.1, add_comm (b.2 * a.1)]
    · simp only [z1Y]; rw [comm a.2 b.2, comm a.1 b.1]
    · simp only [z1X, z3n, z3o, zmul, mulz, add_zero]
    · simp only [z1Y, z3n, z3o, zmul, mulz, add_zero]
    · simp only [z1X, z4p, z4q, zmul, mulz, omul, add_zero, zero_add]
    · simp only [z1Y, z4p, z4q, zmul, mulz, omul, add_zero, zero_add]
    · simp only [z1X, z3r, z4d, madd, addm, add_assoc, z1M, add_comm]
    · simp only [z1Y, z3r, z4d, madd, addm, add_assoc, z1M, add_comm]
    · simp only [z1X, z1Y, madd, addm, massoc, lcomm, comm, add_assoc, z1M, add_comm]
    · simp only [z1X, z1Y, madd, addm, massoc, lcomm, comm, add_assoc, z1M, add_comm]
section
variable {n : Nat} (a b c d : T n)
theorem mul_comm : a * b = b * a := (laws n).comm a b
theorem mul_assoc : a * b * c = a * (b * c) := (laws n).assoc a b c
theorem mul_left_comm : a * (b * c) = b * (a * c) := by rw [← mul_assoc, mul_comm a b, mul_assoc]
theorem zero_mul : 0 * a = 0 := (laws n).zero_mul a
theorem mul_zero : a * 0 = 0 := by rw [mul_comm, zero_mul]
theorem one_mul : 1 * a = a := (laws n).one_mul a
theorem mul_one : a * 1 = a := by rw [mul_comm, one_mul]
theorem mul_add : a * (b + c) = a * b + a * c := (laws n).mul_add a b c
theorem add_mul : (a + b) * c = a * c + b * c := by rw [mul_comm, mul_add, mul_comm c a, mul_comm c b]
theorem add_sq : (a + b) * (a + b) = a * a + b * b := by
  rw [mul_add, add_mul, add_mul, mul_comm b a, add_assoc, ← add_assoc (a * b), z20, zero_add]
end
end Go.Proofs.Ytnhbdhgbmjcjdaa.Tw
/- Elements of the tower as numbers: bits of the lower half first. Own text; nothing of the program in it. -/
namespace Go.Proofs.Ytnhbdhgbmjcjdaa.Tw
set_option linter.unusedVariables false
set_option linter.unusedSimpArgs false
/-- How many words of bits an element of a level is: 2 to the power 2^n. -/
def Q (n : Nat) : Nat := 2 ^ 2 ^ n
theorem z2i (n : Nat) : 0 < Q n := Nat.two_pow_pos _
theorem z2x (n : Nat) : Q (n + 1) = Q n * Q n := by unfold Q; rw [← Nat.pow_add, Nat.pow_succ 2 n, Nat.mul_two]
theorem z5O (n : Nat) : Q n ≤ Q (n + 1) := by rw [z2x]; exact Nat.le_mul_of_pos_left _ (z2i n)
theorem z2U {m n : Nat} (h : m ≤ n) : Q m ≤ Q n := Nat.pow_le_pow_right (by decide) (Nat.pow_le_pow_right (by decide) h)
theorem z5o : Q 6 = 2 ^ 64 := rfl
theorem z4c : Q 7 = 2 ^ 128 := rfl
def val : {n : Nat} → T n → Nat
  | 0, a => Bool.toNat a
  | n + 1, a => val a.1 * Q n + val a.2
def of : (n : Nat) → Nat → T n
  | 0, x => x % 2 == 1
  | n + 1, x => mk (of n (x / Q n)) (of n (x % Q n))
theorem val_zero_lvl (a : T 0) : val a = Bool.toNat a := rfl
theorem z1F {n : Nat} (a : T (n + 1)) : val a = val a.1 * Q n + val a.2 := rfl
theorem z1Z (n x : Nat) : of (n + 1) x = mk (of n (x / Q n)) (of n (x % Q n)) := rfl
theorem z1s : {n : Nat} → (a : T n) → val a < Q n
  | 0, a => by cases a <;> decide
  | n + 1, a => by
    rw [z1F, z2x]
    have h1 := z1s a.1
    have h2 := z1s a.2
    have h3 : val a.1 * Q n + Q n ≤ Q n * Q n := by
      have := Nat.mul_le_mul_right (Q n) h1
      rw [Nat.succ_mul] at this; exact this
    omega
theorem val_div {n : Nat} (a : T (n + 1)) : val a / Q n = val a.1 := by
  rw [z1F, Nat.mul_comm, Nat.mul_add_div (z2i n), Nat.div_eq_of_lt (z1s a.2), Nat.add_zero]
theorem val_mod {n : Nat} (a : T (n + 1)) : val a % Q n = val a.2 := by
  rw [z1F, Nat.mul_comm, Nat.mul_add_mod, Nat.mod_eq_of_lt (z1s a.2)]
theorem z1K : {n : Nat} → (a : T n) → of n (val a) = a
  | 0, a => by cases a <;> rfl
  | n + 1, a => by rw [z1Z, val_div, val_mod, z1K a.1, z1K a.2]; rfl
theorem z1U : (n : Nat) → (x : Nat) → x < Q n → val (of n x) = x
  | 0, x, h => by
    have h' : x < 2 := h
    have : x = 0 ∨ x = 1 := by omega
    rcases this with rfl | rfl <;> rfl
  | n + 1, x, h => by
    rw [z1Z, z1F, z2c, z2l]
    rw [z2x] at h
    rw [z1U n _ (Nat.div_lt_of_lt_mul h), z1U n _ (Nat.mod_lt _ (z2i n)), Nat.mul_comm]
    exact Nat.div_add_mod x (Q n)
theorem z2h {n : Nat} {a b : T n} (h : val a = val b) : a = b := by rw [← z1K a, h, z1K]
theorem z1z : (n : Nat) → val (0 : T n) = 0
  | 0 => rfl
  | n + 1 => by rw [z1F, z3n, z3o, z1z n, Nat.zero_mul]
theorem z2r : (n : Nat) → val (1 : T n) = 1
  | 0 => rfl
  | n + 1 => by rw [z1F, z4p, z4q, z1z n, z2r n, Nat.zero_mul]
theorem z2E (n : Nat) : of n 0 = 0 := by rw [← z1z n, z1K]
theorem of_one (n : Nat) : of n 1 = 1 := by rw [← z2r n, z1K]
theorem val_eq_zero {n : Nat} {a : T n} : val a = 0 ↔ a = 0 := ⟨fun h => z2h (h.trans (z1z n).symm), fun h => by rw [h, z1z]⟩
theorem z5m {n a b c d : Nat} (hb : b < Q n) (hd : d < Q n) : (a * Q n + b) ^^^ (c * Q n + d) = (a ^^^ c) * Q n + (b ^^^ d) := by
  have h1 : ((a * Q n + b) ^^^ (c * Q n + d)) / Q n = a ^^^ c := by
    unfold Q at *
    rw [Nat.xor_div_two_pow, Nat.mul_comm a, Nat.mul_comm c, Nat.mul_add_div (Nat.two_pow_pos _), Nat.mul_add_div (Nat.two_pow_pos _), Nat.div_eq_of_lt hb, Nat.div_eq_of_lt hd]; rfl
  have h2 : ((a * Q n + b) ^^^ (c * Q n + d)) % Q n = b ^^^ d := by
    unfold Q at *
    rw [Nat.xor_mod_two_pow, Nat.mul_comm a, Nat.mul_comm c, Nat.mul_add_mod, Nat.mul_add_mod, Nat.mod_eq_of_lt hb, Nat.mod_eq_of_lt hd]
  have := Nat.div_add_mod ((a * Q n + b) ^^^ (c * Q n + d)) (Q n)
  rw [h1, h2, Nat.mul_comm] at this
  exact this.symm
theorem z1E : {n : Nat} → (a b : T n) → val (a + b) = val a ^^^ val b
  | 0, a, b => by cases a <;> cases b <;> rfl
  | n + 1, a, b => by
    rw [z1F, z1F, z1F, z3r, z4d, z1E a.1 b.1, z1E a.2 b.2, z5m (z1s _) (z1s _)]
theorem z2a {n x y : Nat} (hx : x < Q n) (hy : y < Q n) : x ^^^ y < Q n := Nat.xor_lt_two_pow hx hy
theorem z6h {n x y : Nat} (hx : x < Q n) (hy : y < Q n) : of n (x ^^^ y) = of n x + of n y :=
  z2h (by rw [z1U _ _ (z2a hx hy), z1E, z1U _ _ hx, z1U _ _ hy])
/-- A number of a lower level: the higher half is 0. -/
theorem z4H {n x : Nat} (h : x < Q n) : of (n + 1) x = mk 0 (of n x) := by
  rw [z1Z, Nat.div_eq_of_lt h, Nat.mod_eq_of_lt h, z2E]
/-- One level up. -/
def up {n : Nat} (a : T n) : T (n + 1) := mk 0 a
theorem z2P {n : Nat} (a : T n) : (up a).1 = 0 := rfl
theorem z47 {n : Nat} (a : T n) : (up a).2 = a := rfl
theorem val_up {n : Nat} (a : T n) : val (up a) = val a := by rw [z1F, z2P, z47, z1z, Nat.zero_mul, Nat.zero_add]
theorem up_add {n : Nat} (a b : T n) : up (a + b) = up a + up b := ext (by rw [z3r, z2P, z2P, z2P, add_zero]) rfl
theorem up_mul {n : Nat} (a b : T n) : up (a * b) = up a * up b :=
  ext (by simp only [z1X, z2P, z47, zero_mul, mul_zero, add_zero]) (by simp only [z1Y, z2P, z47, zero_mul, add_zero])
theorem z39 {n : Nat} (a : T n) (b : T (n + 1)) : up a * b = mk (a * b.1) (a * b.2) :=
  ext (by simp only [z1X, z2P, z47, zero_mul, mul_zero, add_zero, zero_add, z2c]) (by simp only [z1Y, z2P, z47, zero_mul, add_zero, z2l])
theorem up_zero (n : Nat) : up (0 : T n) = 0 := rfl
theorem up_one (n : Nat) : up (1 : T n) = 1 := rfl
theorem up_inj {n : Nat} {a b : T n} (h : up a = up b) : a = b := congrArg (fun x : T (n + 1) => x.2) h
/-- Many levels up. -/
def ups {n : Nat} : (d : Nat) → T n → T (n + d)
  | 0, a => a
  | d + 1, a => up (ups d a)
theorem ups_add {n : Nat} (a b : T n) : (d : Nat) → ups d (a + b) = ups d a + ups d b
  | 0 => rfl
  | d + 1 => by show up (ups d (a + b)) = _; rw [ups_add a b d, up_add]; rfl
theorem z6v {n : Nat} (a b : T n) : (d : Nat) → ups d (a * b) = ups d a * ups d b
  | 0 => rfl
  | d + 1 => by show up (ups d (a * b)) = _; rw [z6v a b d, up_mul]; rfl
theorem z3M {n : Nat} (a : T n) : (d : Nat) → val (ups d a) = val a
  | 0 => rfl
  | d + 1 => by show val (up (ups d a)) = _; rw [val_up, z3M a d]
theorem ups_zero {n : Nat} (d : Nat) : ups d (0 : T n) = 0 := z2h (by rw [z3M, z1z, z1z])
theorem ups_one {n : Nat} (d : Nat) : ups d (1 : T n) = 1 := z2h (by rw [z3M, z2r, z2r])
theorem ups_of {n d x : Nat} (h : x < Q n) : ups d (of n x) = of (n + d) x := z2h (by rw [z3M, z1U _ _ h, z1U _ _ (Nat.lt_of_lt_of_le h (z2U (Nat.le_add_right _ _)))])
/-- Products of numbers of a lower level are of it. -/
theorem z3L {n d x y : Nat} (hx : x < Q n) (hy : y < Q n) : val (of (n + d) x * of (n + d) y) = val (of n x * of n y) := by
  rw [← ups_of hx, ← ups_of hy, ← z6v, z3M]
theorem z32 {l m x y : Nat} (h : l ≤ m) (hx : x < Q l) (hy : y < Q l) : val (of m x * of m y) = val (of l x * of l y) := by
  obtain ⟨d, rfl⟩ := Nat.le.dest h
  exact z3L hx hy
theorem z5K {l m x y : Nat} (h : l ≤ m) (hx : x < Q l) (hy : y < Q l) : val (of m x * of m y) < Q l := by
  rw [z32 h hx hy]; exact z1s _
end Go.Proofs.Ytnhbdhgbmjcjdaa.Tw
namespace Go.Proofs.Ytnhbdhgbmjcjdaa.P
open Go.RowKit Go.Proofs.YtnhbdhgbmjcjdaaW.PrintWords Go.Proofs.YtnhbdhgbmjcjdaaW.PrintLast Go.Proofs.YtnhbdhgbmjcjdaaW.PrintMore
attribute [local go_sem] z10 z12 z1h z1i zQ zR z11 z13   -- for this text's walks alone
set_option linter.unusedVariables false
set_option linter.unusedSimpArgs false
def z1a.j0 : Nat → Int → Bool → Int → Int → Option (Bool)
 | 0,_,_,_,_=>none
 | k + 1,x0,x5,x102000,x102001=>if x5 = true then (some false) else (if x0 = 7 then (some true) else (if x0 = 6 then (some (x102000 == 0)) else (if x102000 = 0 then (if 0 ≤ x0 then (some ((shr .u64 x102001 (shl .u64 1 x0)) == 0)) else (none)) else (some false))))
def z1a.f (k : Nat) (a0 : Int) (a1_0 : Int) (a1_1 : Int) : Option (Bool):=if a0 < 0 then (z1a.j0 k a0 true a1_0 a1_1) else (z1a.j0 k a0 (decide (a0 > 7)) a1_0 a1_1)
theorem z1a.zY : ∀ k,(∀ y0 y1 y2 y3,LeO (z1a.j0 k y0 y1 y2 y3) (z1a.j0 (k + 1) y0 y1 y2 y3))
 | 0=>fun _ _ _ _ r h=>by simp [z1a.j0] at h
 | k + 1=>by
  have ih0:=z1a.zY k
  · intro y0 y1 y2 y3
    unfold z1a.j0
    repeat' first
    | (with_reducible exact ih0 _ _ _ _)
    | (with_reducible exact LeO.refl _)
    | (with_reducible exact LeO.none _)
    | (with_reducible refine LeO.ite ?_ ?_)
    | (with_reducible refine LeO.bind ?_ (fun _=>?_))
    | exact ih0 _ _ _ _
    | exact LeO.none _
    | refine LeO.ite ?_ ?_
    | refine LeO.bind ?_ (fun _=>?_)
theorem z1a.mono : ∀ a0 a1 a2 k,LeO (z1a.f k a0 a1 a2) (z1a.f (k + 1) a0 a1 a2):=by
 intro a0 a1 a2 k
 have ih0:=z1a.zY k
 unfold z1a.f
 repeat' first
  | (with_reducible exact ih0 _ _ _ _)
  | (with_reducible exact LeO.refl _)
  | (with_reducible exact LeO.none _)
  | (with_reducible refine LeO.ite ?_ ?_)
  | (with_reducible refine LeO.bind ?_ (fun _=>?_))
  | exact ih0 _ _ _ _
  | exact LeO.none _
  | refine LeO.ite ?_ ?_
  | refine LeO.bind ?_ (fun _=>?_)
set_option maxHeartbeats 8000000 in
set_option maxRecDepth 100000 in
theorem z1a.calls (k : Nat) (a0 : Int) (a1_0 : Int) (a1_1 : Int) (r : Bool) (w : World) (h : z1a.f k a0 a1_0 a1_1 = some r) :
 Calls Try.prog 57 #[.int .i64 a0,.agg #[.int .u64 a1_0,.int .u64 a1_1]] w fun e w'=>e = .returned (.bool r) ∧ Below w.heap.size w w':=by
 have hu35:=Try.underlying35
 have HB:=z1.mk (Below.refl w.heap.size w)
 have H : (if a0 < 0 then (z1a.j0 k a0 true a1_0 a1_1) else (z1a.j0 k a0 (decide (a0 > 7)) a1_0 a1_1)) = some r:=h
 clear h
 have HC3:=z1.mk H
 clear H
 go_enter Try.func57,Try.ntmps57
 go_upto_region 1 with (first|((with_reducible refine zE (N:=3) rfl ?_);refine zC ?hg (N:=3) ?hd (cs:=#[.int .u64 a1_0,.int .u64 a1_1]) (t:=35) ?hr ?_;(case hd=>rfl);(case hg=>rfl);(case hr=>first|(go_simp;done)|(go_simp;rfl));intro gb101 hg w4 hbox hb;have n0_:=z1.mk (ze zz47 hb);have n1_:=z1.mk (hbox);have n2_:=z1.mk ((by rw [hg];exact (zf zz47) : w.heap.size ≤ gb101));have n3_:=z1.mk ((by rw [hg];exact (zf zz47) : w.heap.size ≤ gb101));clear HB;have HB:=n0_;have BK101:=n1_;have GW101:=n2_;have GE101:=n3_;clear n0_ n1_ n2_ n3_;clear hb hbox hg))
 repeat (go_quiet (first|((with_reducible refine zE (N:=3) rfl ?_);refine zC ?hg (N:=3) ?hd (cs:=#[.int .u64 a1_0,.int .u64 a1_1]) (t:=35) ?hr ?_;(case hd=>rfl);(case hg=>rfl);(case hr=>first|(go_simp;done)|(go_simp;rfl));intro gb101 hg w4 hbox hb;have n0_:=z1.mk (ze zz47 hb);have n1_:=z1.mk (hbox);have n2_:=z1.mk ((by rw [hg];exact (zf zz47) : w.heap.size ≤ gb101));have n3_:=z1.mk ((by rw [hg];exact (zf zz47) : w.heap.size ≤ gb101));clear HB;have HB:=n0_;have BK101:=n1_;have GW101:=n2_;have GE101:=n3_;clear n0_ n1_ n2_ n3_;clear hb hbox hg));go_upto_region 1 with (first|((with_reducible refine zE (N:=3) rfl ?_);refine zC ?hg (N:=3) ?hd (cs:=#[.int .u64 a1_0,.int .u64 a1_1]) (t:=35) ?hr ?_;(case hd=>rfl);(case hg=>rfl);(case hr=>first|(go_simp;done)|(go_simp;rfl));intro gb101 hg w4 hbox hb;have n0_:=z1.mk (ze zz47 hb);have n1_:=z1.mk (hbox);have n2_:=z1.mk ((by rw [hg];exact (zf zz47) : w.heap.size ≤ gb101));have n3_:=z1.mk ((by rw [hg];exact (zf zz47) : w.heap.size ≤ gb101));clear HB;have HB:=n0_;have BK101:=n1_;have GW101:=n2_;have GE101:=n3_;clear n0_ n1_ n2_ n3_;clear hb hbox hg)))
 (try simp only [Act.put,List.setIfInBounds_toArray,List.set_cons_zero,List.set_cons_succ])
 go_cut [5] (fun v5 wc=>∃ (kq : Nat) (x5_2 : Bool),v5 = .bool x5_2 ∧ z1 (z1a.j0 kq a0 x5_2 a1_0 a1_1 = some r) ∧ z1 (kq ≤ k) ∧ z1 (wc.heap[gb101]? = some (.cells #[.int .u64 a1_0,.int .u64 a1_1] 35 (0,0))) ∧ z1 (Below w.heap.size w wc))
 case first =>
  have H:=HC3.out
  clear HC3
  by_cases c5 : a0 < 0
  rotate_left
  · rw [if_neg c5] at H
    have c5b0 : decide (a0 < 0) = false:=decide_eq_false c5
    clear c5
    (first|rw [c5b0]|(simp only [zH,zI];rw [c5b0])|skip)
    have H':=z1.mk H
    clear H
    go_wp2
    repeat (go_quiet (fail);try go_wp2)
    go_meet
    case rel=>exact ⟨_,(decide (a0 > 7)),zz82,H',⟨by first|omega|exact Nat.le_refl _⟩,⟨by (with_reducible repeat (first|refine z8 ?_ _|refine zb ?_|refine z7 ?_ _));exact BK101.out⟩,⟨by repeat (first|(with_reducible first|exact HB.out|apply zd|apply z3|apply zc|refine za ?_ GE101.out)|exact HB.out)⟩⟩
  rw [if_pos c5] at H
  have c5b0 : decide (a0 < 0) = true:=decide_eq_true c5
  clear c5
  (first|rw [c5b0]|(simp only [zH,zI];rw [c5b0])|skip)
  have H':=z1.mk H
  clear H
  go_wp2
  repeat (go_quiet (fail);try go_wp2)
  go_meet
  case rel=>exact ⟨_,(true),zz82,H',⟨by first|omega|exact Nat.le_refl _⟩,⟨by (with_reducible repeat (first|refine z8 ?_ _|refine zb ?_|refine z7 ?_ _));exact BK101.out⟩,⟨by repeat (first|(with_reducible first|exact HB.out|apply zd|apply z3|apply zc|refine za ?_ GE101.out)|exact HB.out)⟩⟩
 case rest =>
  clear HC3
  (try clear p2);(try clear c5);(try clear c5b0)
  obtain ⟨kq,x5_2,rfl,HA,HJ2,BK101,HB⟩:=hcut
  cases kq with
  | zero=>exact absurd HA.out (by simp [z1a.j0])
  | succ kj2 =>
   have H:=HA.out
   clear HA
   simp only [z1a.j0] at H
   by_cases c6 : x5_2 = true
   · subst c6
     have H1 : (some false) = some r:=by rw [if_pos rfl] at H;exact H
     clear H
     have H:=H1
     clear H1
     obtain rfl:=Option.some.inj H
     go_wp2
     repeat (go_quiet (fail);try go_wp2)
     go_ret
     exact ⟨by first|rfl|(simp [zi,zj] <;> rfl)|(simp [*,zi,zj] <;> rfl),by repeat (first|(with_reducible first|exact HB.out|apply zd|apply z3|apply zc|refine za ?_ GE101.out)|exact HB.out)⟩
   replace c6:=Bool.eq_false_iff.mpr c6
   subst c6
   have H1 : (if a0 = 7 then (some true) else (if a0 = 6 then (some (a1_0 == 0)) else (if a1_0 = 0 then (if 0 ≤ a0 then (some ((shr .u64 a1_1 (shl .u64 1 a0)) == 0)) else (none)) else (some false)))) = some r:=by rw [if_neg (show ¬ (false = true) by decide)] at H;exact H
   clear H
   have H:=H1
   clear H1
   by_cases c7 : a0 = 7
   · rw [if_pos c7] at H
     have c7b0 : (a0 == 7) = true:=beq_iff_eq.mpr c7
     have c7b1 : (a0 != 7) = false:=bne_eq_false_iff_eq.mpr c7
     clear c7
     obtain rfl:=Option.some.inj H
     go_wp2
     repeat (go_quiet (fail);try go_wp2)
     go_ret
     exact ⟨by first|rfl|(simp [zi,zj] <;> rfl)|(simp [*,zi,zj] <;> rfl),by repeat (first|(with_reducible first|exact HB.out|apply zd|apply z3|apply zc|refine za ?_ GE101.out)|exact HB.out)⟩
   rw [if_neg c7] at H
   have c7b0 : (a0 == 7) = false:=beq_eq_false_iff_ne.mpr c7
   have c7b1 : (a0 != 7) = true:=bne_iff_ne.mpr c7
   by_cases c8 : a0 = 6
   · rw [if_pos c8] at H
     have c8b0 : (a0 == 6) = true:=beq_iff_eq.mpr c8
     have c8b1 : (a0 != 6) = false:=bne_eq_false_iff_eq.mpr c8
     clear c8
     obtain rfl:=Option.some.inj H
     have hcz9_0 : wc.cell? ⟨gb101,0,none⟩ = some (.int .u64 a1_0):=(z5 BK101.out 0).trans rfl
     have hcz9_1 : wc.cell? ⟨gb101,1,none⟩ = some (.int .u64 a1_1):=(z5 BK101.out 1).trans rfl
     have hfz9_0:=z4 BK101.out 0
     have hfz9_1:=z4 BK101.out 1
     go_wp2
     repeat (go_quiet (fail);try go_wp2)
     go_ret
     exact ⟨by first|rfl|(simp [zi,zj] <;> rfl)|(simp [*,zi,zj] <;> rfl),by repeat (first|(with_reducible first|exact HB.out|apply zd|apply z3|apply zc|refine za ?_ GE101.out)|exact HB.out)⟩
   rw [if_neg c8] at H
   have c8b0 : (a0 == 6) = false:=beq_eq_false_iff_ne.mpr c8
   have c8b1 : (a0 != 6) = true:=bne_iff_ne.mpr c8
   by_cases c10 : a1_0 = 0
   rotate_left
   · rw [if_neg c10] at H
     have c10b0 : (a1_0 == 0) = false:=beq_eq_false_iff_ne.mpr c10
     have c10b1 : (a1_0 != 0) = true:=bne_iff_ne.mpr c10
     obtain rfl:=Option.some.inj H
     have hcz15_0 : wc.cell? ⟨gb101,0,none⟩ = some (.int .u64 a1_0):=(z5 BK101.out 0).trans rfl
     have hcz15_1 : wc.cell? ⟨gb101,1,none⟩ = some (.int .u64 a1_1):=(z5 BK101.out 1).trans rfl
     have hfz15_0:=z4 BK101.out 0
     have hfz15_1:=z4 BK101.out 1
     go_wp2
     repeat (go_quiet (fail);try go_wp2)
     go_ret
     exact ⟨by first|rfl|(simp [zi,zj] <;> rfl)|(simp [*,zi,zj] <;> rfl),by repeat (first|(with_reducible first|exact HB.out|apply zd|apply z3|apply zc|refine za ?_ GE101.out)|exact HB.out)⟩
   rw [if_pos c10] at H
   have c10b0 : (a1_0 == 0) = true:=beq_iff_eq.mpr c10
   have c10b1 : (a1_0 != 0) = false:=bne_eq_false_iff_eq.mpr c10
   clear c10
   by_cases c11 : 0 ≤ a0
   rotate_left
   · rw [if_neg c11] at H
     exact absurd H zz87
   rw [if_pos c11] at H
   have c11b0:=eq_true c11
   have c11b1 : decide (0 ≤ a0) = true:=decide_eq_true c11
   clear c11
   obtain ⟨ji12,hji12⟩ : ∃ j_ : Int,(shl .u64 1 a0) = j_:=⟨_,rfl⟩
   replace H : (some ((shr .u64 a1_1 (ji12)) == 0)) = some r:=by first|(rw [hji12] at H;exact H)|(simp only [hji12] at H ⊢;exact H)
   have hji12_ : (IntKind.u64.wrap (1 * 2 ^ min a0.toNat 64)) = ji12:=hji12
   have hji12z : a0 ≤ 64 → (IntKind.u64.wrap (1 * 2 ^ a0.toNat)) = ji12:=z1I hji12
   have hji12n0 : 0 ≤ ji12:=by rw [← hji12];exact Int.emod_nonneg _ zz85
   have hji12n1 : decide (0 ≤ ji12) = true:=decide_eq_true hji12n0
   replace hji12n0:=eq_true hji12n0
   have hji12u : (IntKind.u64.wrap (2 ^ min a0.toNat 64)) = ji12:=by have h_:=hji12_;rw [Int.one_mul] at h_;exact h_
   have hji12v : a0 ≤ 64 → (IntKind.u64.wrap (2 ^ a0.toNat)) = ji12:=fun hle_=>by have h_:=hji12z hle_;rw [Int.one_mul] at h_;exact h_
   obtain ⟨ji13,hji13⟩ : ∃ j_ : Int,(shr .u64 a1_1 (ji12)) = j_:=⟨_,rfl⟩
   replace H : (some ((ji13) == 0)) = some r:=by first|(rw [hji13] at H;exact H)|(simp only [hji13] at H ⊢;exact H)
   have hji13_ : (a1_1 / 2 ^ min (ji12).toNat 64) = ji13:=hji13
   have hji13z : (ji12) ≤ 64 → (a1_1 / 2 ^ (ji12).toNat) = ji13:=z2m hji13
   obtain rfl:=Option.some.inj H
   have hcz14_0 : wc.cell? ⟨gb101,0,none⟩ = some (.int .u64 a1_0):=(z5 BK101.out 0).trans rfl
   have hcz14_1 : wc.cell? ⟨gb101,1,none⟩ = some (.int .u64 a1_1):=(z5 BK101.out 1).trans rfl
   have hfz14_0:=z4 BK101.out 0
   have hfz14_1:=z4 BK101.out 1
   go_wp2
   repeat (go_quiet (fail);try go_wp2)
   go_ret
   exact ⟨by first|rfl|(simp [zi,zj] <;> rfl)|(simp only [← hji12,← hji13];first|rfl|(simp [zi,zj] <;> rfl))|(simp [*,zi,zj] <;> rfl),by repeat (first|(with_reducible first|exact HB.out|apply zd|apply z3|apply zc|refine za ?_ GE101.out)|exact HB.out)⟩
end Go.Proofs.Ytnhbdhgbmjcjdaa.P
namespace Go.Proofs.Ytnhbdhgbmjcjdaa.P
open Go.RowKit Go.Proofs.YtnhbdhgbmjcjdaaW.PrintWords Go.Proofs.YtnhbdhgbmjcjdaaW.PrintLast Go.Proofs.YtnhbdhgbmjcjdaaW.PrintMore
attribute [local go_sem] z10 z12 z1h z1i zQ zR z11 z13   -- for this text's walks alone
set_option linter.unusedVariables false
set_option linter.unusedSimpArgs false
def z1w.f (a0 : Int) (a1 : Int) : Option (Int × Int):=if 0 ≤ (wrap64 (a0 - 1)) then (if 0 ≤ (shl .i64 1 (wrap64 (a0 - 1))) then (some (shr .u64 a1 (shl .i64 1 (wrap64 (a0 - 1))),Go.bits .and .u64 a1 (IntKind.u64.wrap ((shl .u64 1 (shl .i64 1 (wrap64 (a0 - 1)))) - 1)))) else (none)) else (none)
set_option maxHeartbeats 8000000 in
set_option maxRecDepth 100000 in
theorem z1w.calls (a0 : Int) (a1 : Int) (r1 : Int) (r2 : Int) (w : World) (h : z1w.f a0 a1 = some (r1,r2)) :
 Calls Try.prog 85 #[.int .i64 a0,.int .u64 a1] w fun e w'=>e = .returned (.tuple #[.int .u64 r1,.int .u64 r2]) ∧ Drawn0 w w':=by
 have H : (if 0 ≤ (wrap64 (a0 - 1)) then (if 0 ≤ (shl .i64 1 (wrap64 (a0 - 1))) then (some (shr .u64 a1 (shl .i64 1 (wrap64 (a0 - 1))),Go.bits .and .u64 a1 (IntKind.u64.wrap ((shl .u64 1 (shl .i64 1 (wrap64 (a0 - 1)))) - 1)))) else (none)) else (none)) = some (r1,r2):=h
 clear h
 obtain ⟨ji3,hji3⟩ : ∃ j_ : Int,(wrap64 (a0 - 1)) = j_:=⟨_,rfl⟩
 replace H : (if 0 ≤ (ji3) then (if 0 ≤ (shl .i64 1 (ji3)) then (some (shr .u64 a1 (shl .i64 1 (ji3)),Go.bits .and .u64 a1 (IntKind.u64.wrap ((shl .u64 1 (shl .i64 1 (ji3))) - 1)))) else (none)) else (none)) = some (r1,r2):=by first|(rw [hji3] at H;exact H)|(simp only [hji3] at H ⊢;exact H)
 have hji3w : (IntKind.i64.wrap (a0 - 1)) = ji3:=(zH _).trans hji3
 by_cases c4 : 0 ≤ (ji3)
 rotate_left
 · rw [if_neg c4] at H
   exact absurd H zz87
 rw [if_pos c4] at H
 have c4b0:=eq_true c4
 have c4b1 : decide (0 ≤ (ji3)) = true:=decide_eq_true c4
 clear c4
 obtain ⟨ji5,hji5⟩ : ∃ j_ : Int,(shl .i64 1 (ji3)) = j_:=⟨_,rfl⟩
 replace H : (if 0 ≤ (ji5) then (some (shr .u64 a1 (ji5),Go.bits .and .u64 a1 (IntKind.u64.wrap ((shl .u64 1 (ji5)) - 1)))) else (none)) = some (r1,r2):=by first|(rw [hji5] at H;exact H)|(simp only [hji5] at H ⊢;exact H)
 have hji5_ : (IntKind.i64.wrap (1 * 2 ^ min (ji3).toNat 64)) = ji5:=hji5
 have hji5z : (ji3) ≤ 64 → (IntKind.i64.wrap (1 * 2 ^ (ji3).toNat)) = ji5:=z1I hji5
 have hji5u : (IntKind.i64.wrap (2 ^ min (ji3).toNat 64)) = ji5:=by have h_:=hji5_;rw [Int.one_mul] at h_;exact h_
 have hji5v : (ji3) ≤ 64 → (IntKind.i64.wrap (2 ^ (ji3).toNat)) = ji5:=fun hle_=>by have h_:=hji5z hle_;rw [Int.one_mul] at h_;exact h_
 have hji5y : (wrap64 (1 * 2 ^ min (ji3).toNat 64)) = ji5:=(zH _).symm.trans hji5_
 have hji5x : (ji3) ≤ 64 → (wrap64 (1 * 2 ^ (ji3).toNat)) = ji5:=fun h_=>(zH _).symm.trans (hji5z h_)
 by_cases c6 : 0 ≤ (ji5)
 rotate_left
 · rw [if_neg c6] at H
   exact absurd H zz87
 rw [if_pos c6] at H
 have c6b0:=eq_true c6
 have c6b1 : decide (0 ≤ (ji5)) = true:=decide_eq_true c6
 clear c6
 obtain ⟨ji7,hji7⟩ : ∃ j_ : Int,(shr .u64 a1 (ji5)) = j_:=⟨_,rfl⟩
 replace H : (some (ji7,Go.bits .and .u64 a1 (IntKind.u64.wrap ((shl .u64 1 (ji5)) - 1)))) = some (r1,r2):=by first|(rw [hji7] at H;exact H)|(simp only [hji7] at H ⊢;exact H)
 have hji7_ : (a1 / 2 ^ min (ji5).toNat 64) = ji7:=hji7
 have hji7z : (ji5) ≤ 64 → (a1 / 2 ^ (ji5).toNat) = ji7:=z2m hji7
 have c8b0:=eq_true (of_decide_eq_true zz81 : 0 ≤ (ji5))
 obtain ⟨ji9,hji9⟩ : ∃ j_ : Int,(shl .u64 1 (ji5)) = j_:=⟨_,rfl⟩
 replace H : (some (ji7,Go.bits .and .u64 a1 (IntKind.u64.wrap ((ji9) - 1)))) = some (r1,r2):=by first|(rw [hji9] at H;exact H)|(simp only [hji9] at H ⊢;exact H)
 have hji9_ : (IntKind.u64.wrap (1 * 2 ^ min (ji5).toNat 64)) = ji9:=hji9
 have hji9z : (ji5) ≤ 64 → (IntKind.u64.wrap (1 * 2 ^ (ji5).toNat)) = ji9:=z1I hji9
 have hji9n0 : 0 ≤ ji9:=by rw [← hji9];exact Int.emod_nonneg _ zz85
 have hji9n1 : decide (0 ≤ ji9) = true:=decide_eq_true hji9n0
 replace hji9n0:=eq_true hji9n0
 have hji9u : (IntKind.u64.wrap (2 ^ min (ji5).toNat 64)) = ji9:=by have h_:=hji9_;rw [Int.one_mul] at h_;exact h_
 have hji9v : (ji5) ≤ 64 → (IntKind.u64.wrap (2 ^ (ji5).toNat)) = ji9:=fun hle_=>by have h_:=hji9z hle_;rw [Int.one_mul] at h_;exact h_
 simp only [Option.some.injEq,Prod.mk.injEq] at H
 obtain ⟨rfl,rfl⟩:=H
 go_enter Try.func85,Try.ntmps85
 go_wp2
 repeat (go_quiet (fail);try go_wp2)
 go_ret2
 exact ⟨by first|rfl|(simp;done)|(simp only [← hji3,← hji5,← hji7,← hji9] <;> (first|rfl|simp))|(simp [*];done),by repeat (first|exact Drawn0.refl _|apply Drawn0.step)⟩
end Go.Proofs.Ytnhbdhgbmjcjdaa.P
namespace Go.Proofs.Ytnhbdhgbmjcjdaa.P
open Go.RowKit Go.Proofs.YtnhbdhgbmjcjdaaW.PrintWords Go.Proofs.YtnhbdhgbmjcjdaaW.PrintLast Go.Proofs.YtnhbdhgbmjcjdaaW.PrintMore
attribute [local go_sem] z10 z12 z1h z1i zQ zR z11 z13   -- for this text's walks alone
set_option linter.unusedVariables false
set_option linter.unusedSimpArgs false
def z1x.f (a0 : Int) (a1 : Int) (a2 : Int) : Option (Int):=if 0 ≤ (wrap64 (a0 - 1)) then (some (Go.bits .or .u64 (shl .u64 a1 (shl .u64 1 (wrap64 (a0 - 1)))) a2)) else (none)
set_option maxHeartbeats 8000000 in
set_option maxRecDepth 100000 in
theorem z1x.calls (a0 : Int) (a1 : Int) (a2 : Int) (r : Int) (w : World) (h : z1x.f a0 a1 a2 = some r) :
 Calls Try.prog 86 #[.int .i64 a0,.int .u64 a1,.int .u64 a2] w fun e w'=>e = .returned (.int .u64 r) ∧ Drawn0 w w':=by
 have H : (if 0 ≤ (wrap64 (a0 - 1)) then (some (Go.bits .or .u64 (shl .u64 a1 (shl .u64 1 (wrap64 (a0 - 1)))) a2)) else (none)) = some r:=h
 clear h
 obtain ⟨ji4,hji4⟩ : ∃ j_ : Int,(wrap64 (a0 - 1)) = j_:=⟨_,rfl⟩
 replace H : (if 0 ≤ (ji4) then (some (Go.bits .or .u64 (shl .u64 a1 (shl .u64 1 (ji4))) a2)) else (none)) = some r:=by first|(rw [hji4] at H;exact H)|(simp only [hji4] at H ⊢;exact H)
 have hji4w : (IntKind.i64.wrap (a0 - 1)) = ji4:=(zH _).trans hji4
 by_cases c5 : 0 ≤ (ji4)
 rotate_left
 · rw [if_neg c5] at H
   exact absurd H zz87
 rw [if_pos c5] at H
 have c5b0:=eq_true c5
 have c5b1 : decide (0 ≤ (ji4)) = true:=decide_eq_true c5
 clear c5
 obtain ⟨ji6,hji6⟩ : ∃ j_ : Int,(shl .u64 1 (ji4)) = j_:=⟨_,rfl⟩
 replace H : (some (Go.bits .or .u64 (shl .u64 a1 (ji6)) a2)) = some r:=by first|(rw [hji6] at H;exact H)|(simp only [hji6] at H ⊢;exact H)
 have hji6_ : (IntKind.u64.wrap (1 * 2 ^ min (ji4).toNat 64)) = ji6:=hji6
 have hji6z : (ji4) ≤ 64 → (IntKind.u64.wrap (1 * 2 ^ (ji4).toNat)) = ji6:=z1I hji6
 have hji6n0 : 0 ≤ ji6:=by rw [← hji6];exact Int.emod_nonneg _ zz85
 have hji6n1 : decide (0 ≤ ji6) = true:=decide_eq_true hji6n0
 replace hji6n0:=eq_true hji6n0
 have hji6u : (IntKind.u64.wrap (2 ^ min (ji4).toNat 64)) = ji6:=by have h_:=hji6_;rw [Int.one_mul] at h_;exact h_
 have hji6v : (ji4) ≤ 64 → (IntKind.u64.wrap (2 ^ (ji4).toNat)) = ji6:=fun hle_=>by have h_:=hji6z hle_;rw [Int.one_mul] at h_;exact h_
 obtain ⟨ji7,hji7⟩ : ∃ j_ : Int,(shl .u64 a1 (ji6)) = j_:=⟨_,rfl⟩
 replace H : (some (Go.bits .or .u64 (ji7) a2)) = some r:=by first|(rw [hji7] at H;exact H)|(simp only [hji7] at H ⊢;exact H)
 have hji7_ : (IntKind.u64.wrap (a1 * 2 ^ min (ji6).toNat 64)) = ji7:=hji7
 have hji7z : (ji6) ≤ 64 → (IntKind.u64.wrap (a1 * 2 ^ (ji6).toNat)) = ji7:=z1I hji7
 have hji7n0 : 0 ≤ ji7:=by rw [← hji7];exact Int.emod_nonneg _ zz85
 have hji7n1 : decide (0 ≤ ji7) = true:=decide_eq_true hji7n0
 replace hji7n0:=eq_true hji7n0
 obtain rfl:=Option.some.inj H
 go_enter Try.func86,Try.ntmps86
 go_wp2
 go_ret
 exact ⟨by first|rfl|(simp;done)|(simp only [← hji4,← hji6,← hji7] <;> (first|rfl|simp))|(simp [*];done),by repeat (first|exact Drawn0.refl _|apply Drawn0.step)⟩
end Go.Proofs.Ytnhbdhgbmjcjdaa.P
namespace Go.Proofs.Ytnhbdhgbmjcjdaa.P
open Go.RowKit Go.Proofs.YtnhbdhgbmjcjdaaW.PrintWords Go.Proofs.YtnhbdhgbmjcjdaaW.PrintLast Go.Proofs.YtnhbdhgbmjcjdaaW.PrintMore
attribute [local go_sem] z10 z12 z1h z1i zQ zR z11 z13   -- for this text's walks alone
set_option linter.unusedVariables false
set_option linter.unusedSimpArgs false
def zO.f : Nat → Int → Int → Option (Int)
 | 0,_,_=>none
 | k + 1,a0,a1=>if a0 = 0 then (some a1) else ((z1w.f a0 a1).bind fun bt101=>((zO.f k (wrap64 (a0 - 1)) bt101.1).bind fun t103=>((z1x.f a0 (Go.bits .xor .u64 bt101.2 t103) bt101.1).bind fun t104=>(some t104))))
theorem zO.zY : ∀ k,(∀ y0 y1,LeO (zO.f k y0 y1) (zO.f (k + 1) y0 y1))
 | 0=>fun _ _ r h=>by simp [zO.f] at h
 | k + 1=>by
  have ih0:=zO.zY k
  · intro y0 y1
    unfold zO.f
    repeat' first
    | (with_reducible exact ih0 _ _)
    | (with_reducible exact LeO.refl _)
    | (with_reducible exact LeO.none _)
    | (with_reducible refine LeO.ite ?_ ?_)
    | (with_reducible refine LeO.bind ?_ (fun _=>?_))
    | exact ih0 _ _
    | exact LeO.none _
    | refine LeO.ite ?_ ?_
    | refine LeO.bind ?_ (fun _=>?_)
theorem zO.mono : ∀ a0 a1 k,LeO (zO.f k a0 a1) (zO.f (k + 1) a0 a1):=by
 intro a0 a1 k
 have ih0:=zO.zY k
 exact ih0 a0 a1
set_option maxHeartbeats 8000000 in
set_option maxRecDepth 100000 in
theorem zO.calls (k : Nat) : ∀ (a0 : Int) (a1 : Int) (r : Int) (w : World) (h : zO.f k a0 a1 = some r),
 Calls Try.prog 77 #[.int .i64 a0,.int .u64 a1] w fun e w'=>e = .returned (.int .u64 r) ∧ Drawn0 w w':=by
 induction k using Nat.strongRecOn with
 | _ k ih =>
 intro a0 a1 r w h
 cases k with
 | zero=>exact absurd h (by simp [zO.f])
 | succ k =>
 simp only [zO.f] at h
 have H : (if a0 = 0 then (some a1) else ((z1w.f a0 a1).bind fun bt101=>((zO.f k (wrap64 (a0 - 1)) bt101.1).bind fun t103=>((z1x.f a0 (Go.bits .xor .u64 bt101.2 t103) bt101.1).bind fun t104=>(some t104))))) = some r:=h
 clear h
 by_cases c3 : a0 = 0
 · rw [if_pos c3] at H
   have c3b0 : (a0 == 0) = true:=beq_iff_eq.mpr c3
   have c3b1 : (a0 != 0) = false:=bne_eq_false_iff_eq.mpr c3
   clear c3
   obtain rfl:=Option.some.inj H
   go_enter Try.func77,Try.ntmps77
   go_wp2
   go_ret
   exact ⟨by first|rfl|(simp;done)|(simp [*];done),by repeat (first|exact Drawn0.refl _|apply Drawn0.step)⟩
 rw [if_neg c3] at H
 have c3b0 : (a0 == 0) = false:=beq_eq_false_iff_ne.mpr c3
 have c3b1 : (a0 != 0) = true:=bne_iff_ne.mpr c3
 replace H:=Option.bind_eq_some_iff.mp H
 obtain ⟨⟨t101,t102⟩,A40,H⟩:=H
 replace H : ((zO.f k (wrap64 (a0 - 1)) t101).bind fun t103=>((z1x.f a0 (Go.bits .xor .u64 t102 t103) t101).bind fun t104=>(some t104))) = some r:=H
 have A4:=z1.mk A40
 clear A40
 replace H:=Option.bind_eq_some_iff.mp H
 obtain ⟨t103,A50,H⟩:=H
 replace H : ((z1x.f a0 (Go.bits .xor .u64 t102 t103) t101).bind fun t104=>(some t104)) = some r:=H
 have A5:=z1.mk A50
 clear A50
 replace H:=Option.bind_eq_some_iff.mp H
 obtain ⟨t104,A60,H⟩:=H
 replace H : (some t104) = some r:=H
 have A6:=z1.mk A60
 clear A60
 obtain rfl:=Option.some.inj H
 go_enter Try.func77,Try.ntmps77
 go_wp2_with (first|((with_reducible refine zo (f:=85) rfl ?_);refine goesL_ (some 13) rfl rfl Try.func85 zz84 rfl #[.int .i64 a0,.int .u64 a1] rfl zz45 ?_;(with_reducible refine (z1w.calls a0 a1 t101 t102 _ A4.out).mono ?_);rintro e w' ⟨rfl,⟨nd,rfl⟩⟩;refine ⟨_,rfl,?_⟩)|((with_reducible refine zo (f:=77) rfl ?_);refine goesL_ (some 21) rfl rfl Try.func77 zz84 rfl #[.int .i64 (wrap64 (a0 - 1)),.int .u64 t101] rfl zz45 ?_;(with_reducible refine (ih k zz86 (wrap64 (a0 - 1)) t101 t103 _ A5.out).mono ?_);rintro e w' ⟨rfl,⟨nd,rfl⟩⟩;refine ⟨_,rfl,?_⟩)|((with_reducible refine zo (f:=86) rfl ?_);refine goesL_ (some 24) rfl rfl Try.func86 zz84 rfl #[.int .i64 a0,.int .u64 (Go.bits .xor .u64 t102 t103),.int .u64 t101] rfl zz45 ?_;(with_reducible refine (z1x.calls a0 (Go.bits .xor .u64 t102 t103) t101 t104 _ A6.out).mono ?_);rintro e w' ⟨rfl,⟨nd,rfl⟩⟩;refine ⟨_,rfl,?_⟩))
 go_ret
 exact ⟨by first|rfl|(simp;done)|(simp [*];done),by repeat (first|exact Drawn0.refl _|apply Drawn0.step)⟩
end Go.Proofs.Ytnhbdhgbmjcjdaa.P

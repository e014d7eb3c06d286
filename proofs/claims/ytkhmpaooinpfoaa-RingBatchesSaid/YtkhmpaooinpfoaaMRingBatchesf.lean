/- Own text: merged by wip/tools/pack.py out of what the law RingBatches reaches. -/
import Derived.Deep.Slices
import Derived.OpenShut
import Derived.ProofKit
import Derived.Laws.BitsLemmas
import Derived.Test.YtkhmpaooinpfoaaMRingBatchesa
import Derived.Test.YtkhmpaooinpfoaaMRingBatchesb
import Derived.Test.YtkhmpaooinpfoaaMRingBatchesc
import Derived.Test.YtkhmpaooinpfoaaMRingBatchesd
import Derived.Test.YtkhmpaooinpfoaaMRingBatchese
namespace Go.Proofs.Ytkhmpaooinpfoaa.P
open Go.RowKit Go.Proofs.YtkhmpaooinpfoaaW.PrintWords Go.Proofs.YtkhmpaooinpfoaaW.PrintLast Go.Proofs.YtkhmpaooinpfoaaW.PrintMore
attribute [local go_sem] z12 z14 z1i z1j zU zV z13 z15   -- for this text's walks alone
set_option linter.unusedVariables false
set_option linter.unusedSimpArgs false
attribute [local go_sem high] eqA30 eqA40
mutual
def ze.j0 : Nat → Int → List (S30) → List (S30) → Bool → Option (Bool)
 | 0,_,_,_,_=>none
 | k + 1,x0,x1,x2,x29=>if x29 = true then ((zM.f k).bind fun t101=>(some t101)) else ((zA.f k x1).bind fun t102=>((zA.f k x2).bind fun t105=>((z1C.f k x0 x1 x2).bind fun bt108=>((z1g.f k x0 x1 x2).bind fun bt112=>((zm.f k x0 t102 t105).bind fun t116=>(if bt108.2.2 = t116 then (ze.j1 k t102 t105 t116 (bt112.2.2 != t116) bt108.1 bt108.2.1 bt112.1 bt112.2.1) else (ze.j1 k t102 t105 t116 true bt108.1 bt108.2.1 bt112.1 bt112.2.1)))))))
def ze.j1 : Nat → List (S40) → List (S40) → Int → Bool → Int → Int → Int → Int → Option (Bool)
 | 0,_,_,_,_,_,_,_,_=>none
 | k + 1,x7,x8,x13,x60,x112000,x112001,x116000,x116001=>if x60 = true then (some false) else (if x13 = 0 then ((zM.f k).bind fun t117=>(if t117 = true then ((zk.f k x7 x8).bind fun bt118=>(if (x112000 == bt118.1 && (x112001 == bt118.2)) = true then ((zn.f k x7 x8).bind fun bt120=>(some (x116000 == bt120.1 && (x116001 == bt120.2)))) else (some false))) else (some false))) else ((zM.f k).bind fun t122=>(if t122 = true then (if (x112000 == 0 && (x112001 == 0)) = true then (some (x116000 == 0 && (x116001 == 0))) else (some false)) else (some false))))
end
def ze.f (k : Nat) (a0 : Int) (l1 : List (S30)) (l2 : List (S30)) : Option (Bool):=if a0 > 5 then (if a0 ≤ 7 then (ze.j0 k a0 l1 l2 true) else (if (l1.length : Int) > 40 then (ze.j0 k a0 l1 l2 true) else (ze.j0 k a0 l1 l2 (decide ((l2.length : Int) > 6))))) else (if (l1.length : Int) > 40 then (ze.j0 k a0 l1 l2 true) else (ze.j0 k a0 l1 l2 (decide ((l2.length : Int) > 6))))
theorem ze.z17 : ∀ k,(∀ y0 y1 y2 y3,LeO (ze.j0 k y0 y1 y2 y3) (ze.j0 (k + 1) y0 y1 y2 y3)) ∧ (∀ y0 y1 y2 y3 y4 y5 y6 y7,LeO (ze.j1 k y0 y1 y2 y3 y4 y5 y6 y7) (ze.j1 (k + 1) y0 y1 y2 y3 y4 y5 y6 y7))
 | 0=>⟨fun _ _ _ _ r h=>by simp [ze.j0] at h,fun _ _ _ _ _ _ _ _ r h=>by simp [ze.j1] at h⟩
 | k + 1=>by
  obtain ⟨ih0,ih1⟩:=ze.z17 k
  refine ⟨?_,?_⟩
  · intro y0 y1 y2 y3
    unfold ze.j0
    repeat' first
    | (with_reducible exact ih0 _ _ _ _)
    | (with_reducible exact ih1 _ _ _ _ _ _ _ _)
    | (with_reducible exact z1C.mono _ _ _ _)
    | (with_reducible exact z1g.mono _ _ _ _)
    | (with_reducible exact zA.mono _ _)
    | (with_reducible exact zM.mono _)
    | (with_reducible exact zn.mono _ _ _)
    | (with_reducible exact zk.mono _ _ _)
    | (with_reducible exact zm.mono _ _ _ _)
    | (with_reducible exact LeO.refl _)
    | (with_reducible exact LeO.none _)
    | (with_reducible refine LeO.ite ?_ ?_)
    | (with_reducible refine LeO.bind ?_ (fun _=>?_))
    | exact ih0 _ _ _ _
    | exact ih1 _ _ _ _ _ _ _ _
    | exact z1C.mono _ _ _ _
    | exact z1g.mono _ _ _ _
    | exact zA.mono _ _
    | exact zM.mono _
    | exact zn.mono _ _ _
    | exact zk.mono _ _ _
    | exact zm.mono _ _ _ _
    | exact LeO.none _
    | refine LeO.ite ?_ ?_
    | refine LeO.bind ?_ (fun _=>?_)
  · intro y0 y1 y2 y3 y4 y5 y6 y7
    unfold ze.j1
    repeat' first
    | (with_reducible exact ih0 _ _ _ _)
    | (with_reducible exact ih1 _ _ _ _ _ _ _ _)
    | (with_reducible exact z1C.mono _ _ _ _)
    | (with_reducible exact z1g.mono _ _ _ _)
    | (with_reducible exact zA.mono _ _)
    | (with_reducible exact zM.mono _)
    | (with_reducible exact zn.mono _ _ _)
    | (with_reducible exact zk.mono _ _ _)
    | (with_reducible exact zm.mono _ _ _ _)
    | (with_reducible exact LeO.refl _)
    | (with_reducible exact LeO.none _)
    | (with_reducible refine LeO.ite ?_ ?_)
    | (with_reducible refine LeO.bind ?_ (fun _=>?_))
    | exact ih0 _ _ _ _
    | exact ih1 _ _ _ _ _ _ _ _
    | exact z1C.mono _ _ _ _
    | exact z1g.mono _ _ _ _
    | exact zA.mono _ _
    | exact zM.mono _
    | exact zn.mono _ _ _
    | exact zk.mono _ _ _
    | exact zm.mono _ _ _ _
    | exact LeO.none _
    | refine LeO.ite ?_ ?_
    | refine LeO.bind ?_ (fun _=>?_)
theorem ze.mono : ∀ a0 a1 a2 k,LeO (ze.f k a0 a1 a2) (ze.f (k + 1) a0 a1 a2):=by
 intro a0 a1 a2 k
 obtain ⟨ih0,ih1⟩:=ze.z17 k
 unfold ze.f
 repeat' first
  | (with_reducible exact ih0 _ _ _ _)
  | (with_reducible exact ih1 _ _ _ _ _ _ _ _)
  | (with_reducible exact z1C.mono _ _ _ _)
  | (with_reducible exact z1g.mono _ _ _ _)
  | (with_reducible exact zA.mono _ _)
  | (with_reducible exact zM.mono _)
  | (with_reducible exact zn.mono _ _ _)
  | (with_reducible exact zk.mono _ _ _)
  | (with_reducible exact zm.mono _ _ _ _)
  | (with_reducible exact LeO.refl _)
  | (with_reducible exact LeO.none _)
  | (with_reducible refine LeO.ite ?_ ?_)
  | (with_reducible refine LeO.bind ?_ (fun _=>?_))
  | exact ih0 _ _ _ _
  | exact ih1 _ _ _ _ _ _ _ _
  | exact z1C.mono _ _ _ _
  | exact z1g.mono _ _ _ _
  | exact zA.mono _ _
  | exact zM.mono _
  | exact zn.mono _ _ _
  | exact zk.mono _ _ _
  | exact zm.mono _ _ _ _
  | exact LeO.none _
  | refine LeO.ite ?_ ?_
  | refine LeO.bind ?_ (fun _=>?_)
def ze.T11 : Bool × List (List Nat × List Nat):=(true,[([],[]),([0,0],[0]),([1],[1]),([1],[1]),([1],[1]),([3,4,1,1],[1,3,4]),([2,5,1],[1,2,5]),([1,6],[1,6]),([7,5],[7]),([8],[8]),([8],[8]),([8],[8]),([10,11,8,8],[8,10,11]),([9,12,8],[8,9,12]),([8,13],[8,13]),([14,12,0,1,2,3,4,5,6,7,8,9,10,11,12,13,14],[14])])
def ze.B11 : List Nat:=[0,1,3,3,3,27,63,127,255,511,511,511,3583,8191,16383,32767]
theorem ze.tab11 : rtab .any (opsOf Try.f10 11) = ze.T11:=by kernel_rfl
theorem ze.bits11 : waitsOk ze.T11.2 ze.B11 = true:=by kernel_rfl
set_option maxHeartbeats 8000000 in
set_option maxRecDepth 100000 in
theorem ze.calls (k : Nat) (a0 : Int) (A1 : Option Addr) (c1 : Nat) (l1 : List (S30)) (A2 : Option Addr) (c2 : Nat) (l2 : List (S30)) (r : Bool) (w : World) (hr1 : Kd.C k30 w A1 l1.length l1) (hc1 : l1.length ≤ c1) (hr2 : Kd.C k30 w A2 l2.length l2) (hc2 : l2.length ≤ c2) (h : ze.f k a0 l1 l2 = some r) :
 Calls Try.prog 10 #[.int .i64 a0,.slice A1 l1.length c1,.slice A2 l2.length c2] w fun e w'=>e = .returned (.bool r) ∧ Below w.heap.size w w':=by
 have hu30:=Try.underlying30
 have HR1:=z1.mk hr1
 have HC1:=z1.mk hc1
 clear hr1 hc1
 have HR2:=z1.mk hr2
 have HC2:=z1.mk hc2
 clear hr2 hc2
 have HB:=z1.mk (Below.refl w.heap.size w)
 have H : (if a0 > 5 then (if a0 ≤ 7 then (ze.j0 k a0 l1 l2 true) else (if (l1.length : Int) > 40 then (ze.j0 k a0 l1 l2 true) else (ze.j0 k a0 l1 l2 (decide ((l2.length : Int) > 6))))) else (if (l1.length : Int) > 40 then (ze.j0 k a0 l1 l2 true) else (ze.j0 k a0 l1 l2 (decide ((l2.length : Int) > 6))))) = some r:=h
 clear h
 have HC4:=z1.mk H
 clear H
 go_enter Try.func10,Try.ntmps10
 go_upto_region 1 with (fail)
 go_cut [29] (fun v29 wc=>∃ (kq : Nat) (x29_3 : Bool),v29 = .bool x29_3 ∧ z1 (ze.j0 kq a0 l1 l2 x29_3 = some r) ∧ z1 (kq ≤ k) ∧ z1 (Below w.heap.size w wc))
 case first =>
  have H:=HC4.out
  clear HC4
  by_cases c5 : a0 > 5
  rotate_left
  · rw [if_neg c5] at H
    have c5b0 : decide (5 < a0) = false:=decide_eq_false c5
    clear c5
    (first|rw [c5b0]|(simp only [zH,zP];rw [c5b0])|skip)
    by_cases c8 : (l1.length : Int) > 40
    rotate_left
    · rw [if_neg c8] at H
      have c8b0 : decide (40 < (l1.length : Int)) = false:=decide_eq_false c8
      have c8b1 : decide (40 < l1.length) = false:=decide_eq_false zz92
      clear c8
      have H':=z1.mk H
      clear H
      go_wp2
      go_meet
      case rel=>exact ⟨_,(decide ((l2.length : Int) > 6)),zz86,H',⟨by first|omega|exact Nat.le_refl _⟩,⟨by repeat (first|(with_reducible first|exact HB.out|apply zd|apply z2|apply z9)|exact HB.out)⟩⟩
    rw [if_pos c8] at H
    have c8b0 : decide (40 < (l1.length : Int)) = true:=decide_eq_true c8
    have c8b1 : decide (40 < l1.length) = true:=decide_eq_true zz92
    clear c8
    have H':=z1.mk H
    clear H
    go_wp2
    go_meet
    case rel=>exact ⟨_,(true),zz86,H',⟨by first|omega|exact Nat.le_refl _⟩,⟨by repeat (first|(with_reducible first|exact HB.out|apply zd|apply z2|apply z9)|exact HB.out)⟩⟩
  rw [if_pos c5] at H
  have c5b0 : decide (5 < a0) = true:=decide_eq_true c5
  clear c5
  (first|rw [c5b0]|(simp only [zH,zP];rw [c5b0])|skip)
  by_cases c6 : a0 ≤ 7
  · rw [if_pos c6] at H
    have c6b0 : decide (a0 ≤ 7) = true:=decide_eq_true c6
    clear c6
    have H':=z1.mk H
    clear H
    go_wp2
    go_meet
    case rel=>exact ⟨_,(true),zz86,H',⟨by first|omega|exact Nat.le_refl _⟩,⟨by repeat (first|(with_reducible first|exact HB.out|apply zd|apply z2|apply z9)|exact HB.out)⟩⟩
  rw [if_neg c6] at H
  have c6b0 : decide (a0 ≤ 7) = false:=decide_eq_false c6
  clear c6
  by_cases c7 : (l1.length : Int) > 40
  rotate_left
  · rw [if_neg c7] at H
    have c7b0 : decide (40 < (l1.length : Int)) = false:=decide_eq_false c7
    have c7b1 : decide (40 < l1.length) = false:=decide_eq_false zz92
    clear c7
    have H':=z1.mk H
    clear H
    go_wp2
    go_meet
    case rel=>exact ⟨_,(decide ((l2.length : Int) > 6)),zz86,H',⟨by first|omega|exact Nat.le_refl _⟩,⟨by repeat (first|(with_reducible first|exact HB.out|apply zd|apply z2|apply z9)|exact HB.out)⟩⟩
  rw [if_pos c7] at H
  have c7b0 : decide (40 < (l1.length : Int)) = true:=decide_eq_true c7
  have c7b1 : decide (40 < l1.length) = true:=decide_eq_true zz92
  clear c7
  have H':=z1.mk H
  clear H
  go_wp2
  go_meet
  case rel=>exact ⟨_,(true),zz86,H',⟨by first|omega|exact Nat.le_refl _⟩,⟨by repeat (first|(with_reducible first|exact HB.out|apply zd|apply z2|apply z9)|exact HB.out)⟩⟩
 case rest =>
  clear HC4
  (try clear c1);(try clear c2);(try clear p2);(try clear c5);(try clear c5b0);(try clear c6);(try clear c6b0);(try clear c7);(try clear c7b0);(try clear c7b1);(try clear c8);(try clear c8b0);(try clear c8b1)
  obtain ⟨kq,x29_3,rfl,HA,HJ3,HB⟩:=hcut
  cases kq with
  | zero=>exact absurd HA.out (by simp [ze.j0])
  | succ kj3 =>
   have H:=HA.out
   clear HA
   simp only [ze.j0] at H
   by_cases c9 : x29_3 = true
   · subst c9
     have H1 : ((zM.f kj3).bind fun t101=>(some t101)) = some r:=by rw [if_pos rfl] at H;exact H
     clear H
     have H:=H1
     clear H1
     replace H:=Option.bind_eq_some_iff.mp H
     obtain ⟨t101,A100,H⟩:=H
     replace H : (some t101) = some r:=H
     have A10:=z1.mk A100
     clear A100
     obtain rfl:=Option.some.inj H
     go_wp2_with (first|((with_reducible refine zi (f:=53) rfl ?_);refine goesL_ (some 30) rfl rfl Try.func53 zz90 rfl #[] rfl zz48 ?_;(with_reducible refine (zM.calls kj3  t101 _ A10.out).mono ?_);rintro e w11 ⟨rfl,hb⟩;refine ⟨_,rfl,?_⟩;have n0_:=z1.mk (z3 zz49 hb);clear HB;have HB:=n0_;clear n0_;(try clear hb);(try clear hb2);(try clear hk);(try clear hi)))
     go_ret
     exact ⟨by first|rfl|(simp [zg,zh] <;> rfl)|(simp [*,zg,zh] <;> rfl),by repeat (first|(with_reducible first|exact HB.out|apply zd|apply z2|apply z9)|exact HB.out)⟩
   replace c9:=Bool.eq_false_iff.mpr c9
   subst c9
   have H1 : ((zA.f kj3 l1).bind fun t102=>((zA.f kj3 l2).bind fun t105=>((z1C.f kj3 a0 l1 l2).bind fun bt108=>((z1g.f kj3 a0 l1 l2).bind fun bt112=>((zm.f kj3 a0 t102 t105).bind fun t116=>(if bt108.2.2 = t116 then (ze.j1 kj3 t102 t105 t116 (bt112.2.2 != t116) bt108.1 bt108.2.1 bt112.1 bt112.2.1) else (ze.j1 kj3 t102 t105 t116 true bt108.1 bt108.2.1 bt112.1 bt112.2.1))))))) = some r:=by rw [if_neg (show ¬ (false = true) by decide)] at H;exact H
   clear H
   have H:=H1
   clear H1
   replace H:=Option.bind_eq_some_iff.mp H
   obtain ⟨t102,A120,H⟩:=H
   replace H : ((zA.f kj3 l2).bind fun t105=>((z1C.f kj3 a0 l1 l2).bind fun bt108=>((z1g.f kj3 a0 l1 l2).bind fun bt112=>((zm.f kj3 a0 t102 t105).bind fun t116=>(if bt108.2.2 = t116 then (ze.j1 kj3 t102 t105 t116 (bt112.2.2 != t116) bt108.1 bt108.2.1 bt112.1 bt112.2.1) else (ze.j1 kj3 t102 t105 t116 true bt108.1 bt108.2.1 bt112.1 bt112.2.1)))))) = some r:=H
   have A12:=z1.mk A120
   clear A120
   replace H:=Option.bind_eq_some_iff.mp H
   obtain ⟨t105,A130,H⟩:=H
   replace H : ((z1C.f kj3 a0 l1 l2).bind fun bt108=>((z1g.f kj3 a0 l1 l2).bind fun bt112=>((zm.f kj3 a0 t102 t105).bind fun t116=>(if bt108.2.2 = t116 then (ze.j1 kj3 t102 t105 t116 (bt112.2.2 != t116) bt108.1 bt108.2.1 bt112.1 bt112.2.1) else (ze.j1 kj3 t102 t105 t116 true bt108.1 bt108.2.1 bt112.1 bt112.2.1))))) = some r:=H
   have A13:=z1.mk A130
   clear A130
   replace H:=Option.bind_eq_some_iff.mp H
   obtain ⟨⟨t108,t109,t110⟩,A140,H⟩:=H
   replace H : ((z1g.f kj3 a0 l1 l2).bind fun bt112=>((zm.f kj3 a0 t102 t105).bind fun t116=>(if t110 = t116 then (ze.j1 kj3 t102 t105 t116 (bt112.2.2 != t116) t108 t109 bt112.1 bt112.2.1) else (ze.j1 kj3 t102 t105 t116 true t108 t109 bt112.1 bt112.2.1)))) = some r:=H
   have A14:=z1.mk A140
   clear A140
   replace H:=Option.bind_eq_some_iff.mp H
   obtain ⟨⟨t112,t113,t114⟩,A150,H⟩:=H
   replace H : ((zm.f kj3 a0 t102 t105).bind fun t116=>(if t110 = t116 then (ze.j1 kj3 t102 t105 t116 (t114 != t116) t108 t109 t112 t113) else (ze.j1 kj3 t102 t105 t116 true t108 t109 t112 t113))) = some r:=H
   have A15:=z1.mk A150
   clear A150
   replace H:=Option.bind_eq_some_iff.mp H
   obtain ⟨t116,A160,H⟩:=H
   replace H : (if t110 = t116 then (ze.j1 kj3 t102 t105 t116 (t114 != t116) t108 t109 t112 t113) else (ze.j1 kj3 t102 t105 t116 true t108 t109 t112 t113)) = some r:=H
   have A16:=z1.mk A160
   clear A160
   have HC17:=z1.mk H
   clear H
   go_upto_region 7 with (first|((with_reducible refine zi (f:=14) rfl ?_);refine goesL_ (some 32) rfl rfl Try.func14 zz90 rfl #[.slice A1 l1.length c1] rfl zz48 ?_;(with_reducible refine (zA.calls kj3 _ _ l1 t102 _ ?side1 ?side2 A12.out).mono ?_);(case side1=>repeat (first|exact (Kd.z1r HR1.out HB.out)|(with_reducible refine Kd.zQ ?_ _)|(with_reducible refine Kd.zR ?_ _)|(with_reducible refine Kd.z1d ?_)));(case side2=>exact HC1.out);rintro e w18 ⟨v103,rfl,ho0,hb⟩;refine ⟨_,rfl,?_⟩;have n0_:=z1.mk (Kd.z1h ho0 (zb zz49));have n1_:=z1.mk (z3 zz49 hb);clear HB;have HO104:=n0_;have HB:=n1_;clear n0_ n1_;(try clear hb);(try clear hb2);(try clear hk);(try clear hi);(try clear ho0))|((with_reducible refine zi (f:=14) rfl ?_);refine goesL_ (some 34) rfl rfl Try.func14 zz90 rfl #[.slice A2 l2.length c2] rfl zz48 ?_;(with_reducible refine (zA.calls kj3 _ _ l2 t105 _ ?side1 ?side2 A13.out).mono ?_);(case side1=>repeat (first|exact (Kd.z1r HR2.out HB.out)|(with_reducible refine Kd.zQ ?_ _)|(with_reducible refine Kd.zR ?_ _)|(with_reducible refine Kd.z1d ?_)));(case side2=>exact HC2.out);rintro e w19 ⟨v106,rfl,ho0,hb⟩;refine ⟨_,rfl,?_⟩;have n0_:=z1.mk (Kd.z1e zz62 (Kd.z1z ho0) hb);have n1_:=z1.mk (Kd.z1h (Kd.z1A ho0 (Kd.R_lt zz62)) (zb zz49));have n2_:=z1.mk (z3 zz49 hb);clear HO104;clear HB;have HO104:=n0_;have HO107:=n1_;have HB:=n2_;clear n0_ n1_ n2_;(try clear hb);(try clear hb2);(try clear hk);(try clear hi);(try clear ho0))|((with_reducible refine zi (f:=54) rfl ?_);refine goesL_ (some 39) rfl rfl Try.func54 zz90 rfl #[.int .i64 a0,.slice A1 l1.length c1,.slice A2 l2.length c2] rfl zz48 ?_;(with_reducible refine (z1C.calls kj3 a0 _ _ l1 _ _ l2 t108 t109 t110 _ ?side1 ?side2 ?side3 ?side4 A14.out).mono ?_);(case side1=>repeat (first|exact (Kd.z1r HR1.out HB.out)|(with_reducible refine Kd.zQ ?_ _)|(with_reducible refine Kd.zR ?_ _)|(with_reducible refine Kd.z1d ?_)));(case side2=>exact HC1.out);(case side3=>repeat (first|exact (Kd.z1r HR2.out HB.out)|(with_reducible refine Kd.zQ ?_ _)|(with_reducible refine Kd.zR ?_ _)|(with_reducible refine Kd.z1d ?_)));(case side4=>exact HC2.out);rintro e w20 ⟨rfl,hb⟩;refine ⟨_,rfl,?_⟩;have n0_:=z1.mk (Kd.zq zz62 hb);have n1_:=z1.mk (Kd.zq zz68 hb);have n2_:=z1.mk (z3 zz49 hb);clear HO104;clear HO107;clear HB;have HO104:=n0_;have HO107:=n1_;have HB:=n2_;clear n0_ n1_ n2_;(try clear hb);(try clear hb2);(try clear hk);(try clear hi))|((with_reducible refine zp (N:=9) rfl ?_);(try (refine z1c zz94 ?_;dsimp only));refine zt ?hg (N:=9) ?hd (cs:=#[.int .u64 0,.int .u64 0]) (t:=30) ?hr ?_;(case hd=>rfl);(case hg=>rfl);(case hr=>first|(go_simp;done)|(go_simp;rfl));intro gb111 hg w21 hbox hb;have n0_:=z1.mk (Kd.zq zz62 hb);have n1_:=z1.mk (Kd.zq zz68 hb);have n2_:=z1.mk (z3 zz49 hb);have n3_:=z1.mk (hbox);have n4_:=z1.mk ((by rw [hg];exact (zb zz49) : w.heap.size ≤ gb111));have n5_:=z1.mk ((by rw [hg];exact (zb zz49) : w.heap.size ≤ gb111));clear HO104;clear HO107;clear HB;have HO104:=n0_;have HO107:=n1_;have HB:=n2_;have BK111:=n3_;have GW111:=n4_;have GE111:=n5_;clear n0_ n1_ n2_ n3_ n4_ n5_;clear hb hbox hg;have hcz22_0 : w21.cell? ⟨gb111,0,none⟩ = some (.int .u64 0):=(z7 BK111.out 0).trans rfl;have hcz22_1 : w21.cell? ⟨gb111,1,none⟩ = some (.int .u64 0):=(z7 BK111.out 1).trans rfl;have hfz22_0:=z6 BK111.out 0;have hfz22_1:=z6 BK111.out 1)|((with_reducible refine zi (f:=55) rfl ?_);refine goesL_ (some 46) rfl rfl Try.func55 zz90 rfl #[.int .i64 a0,.slice A1 l1.length c1,.slice A2 l2.length c2] rfl zz48 ?_;(with_reducible refine (z1g.calls kj3 a0 _ _ l1 _ _ l2 t112 t113 t114 _ ?side1 ?side2 ?side3 ?side4 A15.out).mono ?_);(case side1=>exact Kd.z1r HR1.out zz45);(case side2=>exact HC1.out);(case side3=>exact Kd.z1r HR2.out zz45);(case side4=>exact HC2.out);rintro e w23 ⟨rfl,hb⟩;refine ⟨_,rfl,?_⟩;have n0_:=z1.mk (Kd.zq (by (with_reducible repeat (first|apply Kd.zI|apply Kd.zJ|apply Kd.zT));exact (Kd.z18 (Kd.z1M (p:=⟨gb111,1,none⟩) (Kd.z1M (p:=⟨gb111,0,none⟩) (Kd.z3g HO104.out BK111.out zz91) (fun _ hk=>hk.2) (.int .u64 t108)) (fun _ hk=>hk.2) (.int .u64 t109)) (fun _ h_=>h_.1))) hb);have n1_:=z1.mk (Kd.zq (by (with_reducible repeat (first|apply Kd.zI|apply Kd.zJ|apply Kd.zT));exact (Kd.z18 (Kd.z1M (p:=⟨gb111,1,none⟩) (Kd.z1M (p:=⟨gb111,0,none⟩) (Kd.z3g HO107.out BK111.out zz91) (fun _ hk=>hk.2) (.int .u64 t108)) (fun _ hk=>hk.2) (.int .u64 t109)) (fun _ h_=>h_.1))) hb);have n2_:=z1.mk (zc (g:=gb111) (o:=.cells #[.int .u64 t108,.int .u64 t109] 30 (0,0)) (by (with_reducible repeat (first|refine z5 ?_ _|refine z8 ?_|refine z4 ?_ _));refine zX (cs:=#[.int .u64 t108,.int .u64 0]) ?_ 1 _ rfl;(with_reducible repeat (first|refine z5 ?_ _|refine z8 ?_|refine z4 ?_ _));refine zX (cs:=#[.int .u64 0,.int .u64 0]) ?_ 0 _ rfl;(with_reducible repeat (first|refine z5 ?_ _|refine z8 ?_|refine z4 ?_ _));exact BK111.out) hb);have n3_:=z1.mk (z3 zz45 hb);clear HO104;clear HO107;clear BK111;clear HB;have HO104:=n0_;have HO107:=n1_;have BK111:=n2_;have HB:=n3_;clear n0_ n1_ n2_ n3_;(try clear hb);(try clear hb2);(try clear hk);(try clear hi))|((with_reducible refine zp (N:=11) rfl ?_);(try (refine z1c zz94 ?_;dsimp only));refine zt ?hg (N:=11) ?hd (cs:=#[.int .u64 0,.int .u64 0]) (t:=30) ?hr ?_;(case hd=>rfl);(case hg=>rfl);(case hr=>first|(go_simp;done)|(go_simp;rfl));intro gb115 hg w24 hbox hb;have n0_:=z1.mk (Kd.zq zz62 hb);have n1_:=z1.mk (Kd.zq zz68 hb);have n2_:=z1.mk (zc (g:=gb111) (o:=.cells #[.int .u64 t108,.int .u64 t109] 30 (0,0)) zz55 hb);have n3_:=z1.mk (z3 zz45 hb);have n4_:=z1.mk (hbox);have n5_:=z1.mk ((by rw [hg];exact (zb zz45) : w.heap.size ≤ gb115));have n6_:=z1.mk ((by rw [hg];exact (zb zz45) : w.heap.size ≤ gb115));have n7_:=z1.mk ((by rw [hg];exact Nat.ne_of_lt (zL (g:=gb111) (o:=.cells #[.int .u64 t108,.int .u64 t109] 30 (0,0)) zz55) : gb111 ≠ gb115));have n8_:=z1.mk ((by rw [hg];exact Nat.ne_of_gt (zL (g:=gb111) (o:=.cells #[.int .u64 t108,.int .u64 t109] 30 (0,0)) zz55) : gb115 ≠ gb111));clear HO104;clear HO107;clear BK111;clear HB;have HO104:=n0_;have HO107:=n1_;have BK111:=n2_;have HB:=n3_;have BK115:=n4_;have GW115:=n5_;have GE115:=n6_;have NB111_115:=n7_;have NB115_111:=n8_;clear n0_ n1_ n2_ n3_ n4_ n5_ n6_ n7_ n8_;clear hb hbox hg;have hnb25:=NB115_111.out;have hnc25:=NB111_115.out;have hcz26_0 : w24.cell? ⟨gb115,0,none⟩ = some (.int .u64 0):=(z7 BK115.out 0).trans rfl;have hcz26_1 : w24.cell? ⟨gb115,1,none⟩ = some (.int .u64 0):=(z7 BK115.out 1).trans rfl;have hfz26_0:=z6 BK115.out 0;have hfz26_1:=z6 BK115.out 1;obtain ⟨Ao27,co27,eo27⟩:=Kd.z1q HO104.out;subst eo27;obtain ⟨Ao28,co28,eo28⟩:=Kd.z1q HO107.out;subst eo28)|((with_reducible refine zi (f:=56) rfl ?_);refine goesL_ (some 52) rfl rfl Try.func56 zz90 rfl #[.int .i64 a0,.slice Ao27 t102.length co27,.slice Ao28 t105.length co28] rfl zz48 ?_;(with_reducible refine (zm.calls kj3 a0 _ _ t102 _ _ t105 t116 _ ?side1 ?side2 ?side3 ?side4 A16.out).mono ?_);(case side1=>refine (Kd.zs (e:=40) (base:=w.heap.size) (ok:=fun k_=>(True ∧ some k_ ≠ (.slice Ao28 t105.length co28 : Value).ownBlock)) (n:=t102.length) (c:=co27) ?_).2.2;exact zz24);(case side2=>exact (Kd.zs HO104.out).2.1);(case side3=>refine (Kd.zs (e:=40) (base:=w.heap.size) (ok:=fun k_=>(True ∧ some k_ ≠ (.slice Ao27 t102.length co27 : Value).ownBlock)) (n:=t105.length) (c:=co28) ?_).2.2;exact zz25);(case side4=>exact (Kd.zs HO107.out).2.1);rintro e w29 ⟨rfl,hb⟩;refine ⟨_,rfl,?_⟩;have n0_:=z1.mk (Kd.zq zz24 hb);have n1_:=z1.mk (Kd.zq zz25 hb);have n2_:=z1.mk (zc (g:=gb111) (o:=.cells #[.int .u64 t108,.int .u64 t109] 30 (0,0)) (by (with_reducible repeat (first|refine z5 ?_ _|refine z8 ?_|refine z4 ?_ _));refine zZ ?_ NB111_115.out _;(with_reducible repeat (first|refine z5 ?_ _|refine z8 ?_|refine z4 ?_ _));refine zZ ?_ NB111_115.out _;(with_reducible repeat (first|refine z5 ?_ _|refine z8 ?_|refine z4 ?_ _));exact BK111.out) hb);have n3_:=z1.mk (zc (g:=gb115) (o:=.cells #[.int .u64 t112,.int .u64 t113] 30 (0,0)) (by (with_reducible repeat (first|refine z5 ?_ _|refine z8 ?_|refine z4 ?_ _));refine zX (cs:=#[.int .u64 t112,.int .u64 0]) ?_ 1 _ rfl;(with_reducible repeat (first|refine z5 ?_ _|refine z8 ?_|refine z4 ?_ _));refine zX (cs:=#[.int .u64 0,.int .u64 0]) ?_ 0 _ rfl;(with_reducible repeat (first|refine z5 ?_ _|refine z8 ?_|refine z4 ?_ _));exact BK115.out) hb);have n4_:=z1.mk (z3 zz40 hb);clear HO104;clear HO107;clear BK111;clear BK115;clear HB;have HO104:=n0_;have HO107:=n1_;have BK111:=n2_;have BK115:=n3_;have HB:=n4_;clear n0_ n1_ n2_ n3_ n4_;(try clear hb);(try clear hb2);(try clear hk);(try clear hi)))
   (try simp only [Act.put,List.setIfInBounds_toArray,List.set_cons_zero,List.set_cons_succ])
   go_cut [60] (fun v60 wc=>∃ (kq : Nat) (x60_16 : Bool),v60 = .bool x60_16 ∧ z1 (ze.j1 kq t102 t105 t116 x60_16 t108 t109 t112 t113 = some r) ∧ z1 (kq ≤ kj3) ∧ z1 (Kd.R k40 40 wc w.heap.size (fun k_=>some k_ ≠ ((.slice Ao28 t105.length co28) : Value).ownBlock) (.slice Ao27 t102.length co27) t102) ∧ z1 (Kd.R k40 40 wc w.heap.size (fun k_=>some k_ ≠ ((.slice Ao27 t102.length co27) : Value).ownBlock) (.slice Ao28 t105.length co28) t105) ∧ z1 (wc.heap[gb111]? = some (.cells #[.int .u64 t108,.int .u64 t109] 30 (0,0))) ∧ z1 (wc.heap[gb115]? = some (.cells #[.int .u64 t112,.int .u64 t113] 30 (0,0))) ∧ z1 (Below w.heap.size w wc))
   case first =>
    have H:=HC17.out
    clear HC17
    by_cases c30 : t110 = t116
    rotate_left
    · rw [if_neg c30] at H
      have c30b0 : (t110 == t116) = false:=beq_eq_false_iff_ne.mpr c30
      have c30b1 : (t110 != t116) = true:=bne_iff_ne.mpr c30
      (first|rw [c30b0]|(simp only [zH,zP];rw [c30b0])|skip)
      have H':=z1.mk H
      clear H
      go_wp2
      go_meet
      case rel=>exact ⟨_,(true),zz86,H',⟨by have:=HJ3.out;first|omega|exact Nat.le_refl _⟩,⟨by (with_reducible repeat (first|apply Kd.zI|apply Kd.zJ|apply Kd.zT));exact Kd.z18 HO104.out (fun _ hk=>hk.2)⟩,⟨by (with_reducible repeat (first|apply Kd.zI|apply Kd.zJ|apply Kd.zT));exact Kd.z18 HO107.out (fun _ hk=>hk.2)⟩,⟨by (with_reducible repeat (first|refine z5 ?_ _|refine z8 ?_|refine z4 ?_ _));exact BK111.out⟩,⟨by (with_reducible repeat (first|refine z5 ?_ _|refine z8 ?_|refine z4 ?_ _));exact BK115.out⟩,⟨by repeat (first|(with_reducible first|exact HB.out|apply zd|apply z2|apply z9|refine za ?_ GE111.out|refine za ?_ GE115.out)|exact HB.out)⟩⟩
    rw [if_pos c30] at H
    have c30b0 : (t110 == t116) = true:=beq_iff_eq.mpr c30
    have c30b1 : (t110 != t116) = false:=bne_eq_false_iff_eq.mpr c30
    clear c30
    (first|rw [c30b0]|(simp only [zH,zP];rw [c30b0])|skip)
    have H':=z1.mk H
    clear H
    go_wp2
    go_meet
    case rel=>exact ⟨_,((t114 != t116)),zz86,H',⟨by have:=HJ3.out;first|omega|exact Nat.le_refl _⟩,⟨by (with_reducible repeat (first|apply Kd.zI|apply Kd.zJ|apply Kd.zT));exact Kd.z18 HO104.out (fun _ hk=>hk.2)⟩,⟨by (with_reducible repeat (first|apply Kd.zI|apply Kd.zJ|apply Kd.zT));exact Kd.z18 HO107.out (fun _ hk=>hk.2)⟩,⟨by (with_reducible repeat (first|refine z5 ?_ _|refine z8 ?_|refine z4 ?_ _));exact BK111.out⟩,⟨by (with_reducible repeat (first|refine z5 ?_ _|refine z8 ?_|refine z4 ?_ _));exact BK115.out⟩,⟨by repeat (first|(with_reducible first|exact HB.out|apply zd|apply z2|apply z9|refine za ?_ GE111.out|refine za ?_ GE115.out)|exact HB.out)⟩⟩
   case rest =>
    clear HC17
    (try clear c1);(try clear c2);(try clear p2);(try clear c3);(try clear c5);(try clear c5b0);(try clear c6);(try clear c6b0);(try clear c7);(try clear c7b0);(try clear c7b1);(try clear c8);(try clear c8b0);(try clear c8b1);(try clear c9);(try clear c10);(try clear c14);(try clear c25);(try clear c30);(try clear c30b0);(try clear c30b1);(try clear hcz22_0);(try clear hcz22_1);(try clear hcz26_0);(try clear hcz26_1);(try clear hfz22_0);(try clear hfz22_1);(try clear hfz26_0);(try clear hfz26_1);(try clear p2)
    obtain ⟨kq,x60_16,rfl,HA,HJ16,HO_7,HO_8,BK111,BK115,HB⟩:=hcut
    cases kq with
    | zero=>exact absurd HA.out (by simp [ze.j1])
    | succ kj16 =>
     have H:=HA.out
     clear HA
     simp only [ze.j1] at H
     by_cases c31 : x60_16 = true
     · subst c31
       have H1 : (some false) = some r:=by rw [if_pos rfl] at H;exact H
       clear H
       have H:=H1
       clear H1
       obtain rfl:=Option.some.inj H
       go_wp2
       go_ret
       exact ⟨by first|rfl|(simp [zg,zh] <;> rfl)|(simp [*,zg,zh] <;> rfl),by repeat (first|(with_reducible first|exact HB.out|apply zd|apply z2|apply z9|refine za ?_ GE111.out|refine za ?_ GE115.out)|exact HB.out)⟩
     replace c31:=Bool.eq_false_iff.mpr c31
     subst c31
     have H1 : (if t116 = 0 then ((zM.f kj16).bind fun t117=>(if t117 = true then ((zk.f kj16 t102 t105).bind fun bt118=>(if (t108 == bt118.1 && (t109 == bt118.2)) = true then ((zn.f kj16 t102 t105).bind fun bt120=>(some (t112 == bt120.1 && (t113 == bt120.2)))) else (some false))) else (some false))) else ((zM.f kj16).bind fun t122=>(if t122 = true then (if (t108 == 0 && (t109 == 0)) = true then (some (t112 == 0 && (t113 == 0))) else (some false)) else (some false)))) = some r:=by rw [if_neg (show ¬ (false = true) by decide)] at H;exact H
     clear H
     have H:=H1
     clear H1
     by_cases c32 : t116 = 0
     rotate_left
     · rw [if_neg c32] at H
       have c32b0 : (t116 == 0) = false:=beq_eq_false_iff_ne.mpr c32
       have c32b1 : (t116 != 0) = true:=bne_iff_ne.mpr c32
       replace H:=Option.bind_eq_some_iff.mp H
       obtain ⟨t122,A470,H⟩:=H
       replace H : (if t122 = true then (if (t108 == 0 && (t109 == 0)) = true then (some (t112 == 0 && (t113 == 0))) else (some false)) else (some false)) = some r:=H
       have A47:=z1.mk A470
       clear A470
       by_cases c48 : t122 = true
       rotate_left
       · replace c48:=Bool.eq_false_iff.mpr c48
         subst c48
         have H1 : (some false) = some r:=by rw [if_neg (show ¬ (false = true) by decide)] at H;exact H
         clear H
         have H:=H1
         clear H1
         obtain rfl:=Option.some.inj H
         go_wp2_with (first|((with_reducible refine zi (f:=53) rfl ?_);refine goesL_ (some 63) rfl rfl Try.func53 zz90 rfl #[] rfl zz48 ?_;(with_reducible refine (zM.calls kj16  false _ A47.out).mono ?_);rintro e w57 ⟨rfl,hb⟩;refine ⟨_,rfl,?_⟩;have n0_:=z1.mk (Kd.zq zz74 hb);have n1_:=z1.mk (Kd.zq zz71 hb);have n2_:=z1.mk (zc (g:=gb111) (o:=.cells #[.int .u64 t108,.int .u64 t109] 30 (0,0)) zz55 hb);have n3_:=z1.mk (zc (g:=gb115) (o:=.cells #[.int .u64 t112,.int .u64 t113] 30 (0,0)) zz58 hb);have n4_:=z1.mk (z3 zz40 hb);clear HO_7;clear HO_8;clear BK111;clear BK115;clear HB;have HO_7:=n0_;have HO_8:=n1_;have BK111:=n2_;have BK115:=n3_;have HB:=n4_;clear n0_ n1_ n2_ n3_ n4_;(try clear hb);(try clear hb2);(try clear hk);(try clear hi)))
         go_ret
         exact ⟨by first|rfl|(simp [zg,zh] <;> rfl)|(simp [*,zg,zh] <;> rfl),by repeat (first|(with_reducible first|exact HB.out|apply zd|apply z2|apply z9|refine za ?_ GE111.out|refine za ?_ GE115.out)|exact HB.out)⟩
       subst c48
       have H1 : (if (t108 == 0 && (t109 == 0)) = true then (some (t112 == 0 && (t113 == 0))) else (some false)) = some r:=by rw [if_pos rfl] at H;exact H
       clear H
       have H:=H1
       clear H1
       by_cases c49 : (t108 == 0 && (t109 == 0)) = true
       · rw [if_pos c49] at H
         have c49b0 : (t108 == 0 && (t109 == 0)) = true:=c49
         (try (have c49b1 : decide (t108 = 0 && (t109 == 0)) = true:=by simpa using c49))
         (try (have c49b2 : (t108 == 0 && (t109 == 0)) = true:=by simpa using c49))
         clear c49
         obtain rfl:=Option.some.inj H
         go_wp2_with (first|((with_reducible refine zi (f:=53) rfl ?_);refine goesL_ (some 63) rfl rfl Try.func53 zz90 rfl #[] rfl zz48 ?_;(with_reducible refine (zM.calls kj16  true _ A47.out).mono ?_);rintro e w50 ⟨rfl,hb⟩;refine ⟨_,rfl,?_⟩;have n0_:=z1.mk (Kd.zq zz74 hb);have n1_:=z1.mk (Kd.zq zz71 hb);have n2_:=z1.mk (zc (g:=gb111) (o:=.cells #[.int .u64 t108,.int .u64 t109] 30 (0,0)) zz55 hb);have n3_:=z1.mk (zc (g:=gb115) (o:=.cells #[.int .u64 t112,.int .u64 t113] 30 (0,0)) zz58 hb);have n4_:=z1.mk (z3 zz40 hb);clear HO_7;clear HO_8;clear BK111;clear BK115;clear HB;have HO_7:=n0_;have HO_8:=n1_;have BK111:=n2_;have BK115:=n3_;have HB:=n4_;clear n0_ n1_ n2_ n3_ n4_;(try clear hb);(try clear hb2);(try clear hk);(try clear hi);have hnb51:=NB111_115.out;have hnc51:=NB115_111.out;have hcz52_0 : w50.cell? ⟨gb111,0,none⟩ = some (.int .u64 t108):=(z7 BK111.out 0).trans rfl;have hcz52_1 : w50.cell? ⟨gb111,1,none⟩ = some (.int .u64 t109):=(z7 BK111.out 1).trans rfl;have hfz52_0:=z6 BK111.out 0;have hfz52_1:=z6 BK111.out 1;have hcz53_0 : w50.cell? ⟨gb115,0,none⟩ = some (.int .u64 t112):=(z7 BK115.out 0).trans rfl;have hcz53_1 : w50.cell? ⟨gb115,1,none⟩ = some (.int .u64 t113):=(z7 BK115.out 1).trans rfl;have hfz53_0:=z6 BK115.out 0;have hfz53_1:=z6 BK115.out 1))
         go_ret
         exact ⟨by first|rfl|(simp [zg,zh] <;> rfl)|(simp [*,zg,zh] <;> rfl),by repeat (first|(with_reducible first|exact HB.out|apply zd|apply z2|apply z9|refine za ?_ GE111.out|refine za ?_ GE115.out)|exact HB.out)⟩
       rw [if_neg c49] at H
       have c49b0 : (t108 == 0 && (t109 == 0)) = false:=by simpa using c49
       (try (have c49b1 : decide (t108 = 0 && (t109 == 0)) = false:=by simpa using c49))
       (try (have c49b2 : (t108 == 0 && (t109 == 0)) = false:=by simpa using c49))
       (try (have c49b3 : ¬ (t108 = 0 && (t109 == 0)):=by simpa using c49))
       clear c49
       obtain rfl:=Option.some.inj H
       go_wp2_with (first|((with_reducible refine zi (f:=53) rfl ?_);refine goesL_ (some 63) rfl rfl Try.func53 zz90 rfl #[] rfl zz48 ?_;(with_reducible refine (zM.calls kj16  true _ A47.out).mono ?_);rintro e w54 ⟨rfl,hb⟩;refine ⟨_,rfl,?_⟩;have n0_:=z1.mk (Kd.zq zz74 hb);have n1_:=z1.mk (Kd.zq zz71 hb);have n2_:=z1.mk (zc (g:=gb111) (o:=.cells #[.int .u64 t108,.int .u64 t109] 30 (0,0)) zz55 hb);have n3_:=z1.mk (zc (g:=gb115) (o:=.cells #[.int .u64 t112,.int .u64 t113] 30 (0,0)) zz58 hb);have n4_:=z1.mk (z3 zz40 hb);clear HO_7;clear HO_8;clear BK111;clear BK115;clear HB;have HO_7:=n0_;have HO_8:=n1_;have BK111:=n2_;have BK115:=n3_;have HB:=n4_;clear n0_ n1_ n2_ n3_ n4_;(try clear hb);(try clear hb2);(try clear hk);(try clear hi);have hnb55:=NB111_115.out;have hnc55:=NB115_111.out;have hcz56_0 : w54.cell? ⟨gb111,0,none⟩ = some (.int .u64 t108):=(z7 BK111.out 0).trans rfl;have hcz56_1 : w54.cell? ⟨gb111,1,none⟩ = some (.int .u64 t109):=(z7 BK111.out 1).trans rfl;have hfz56_0:=z6 BK111.out 0;have hfz56_1:=z6 BK111.out 1))
       go_ret
       exact ⟨by first|rfl|(simp [zg,zh] <;> rfl)|(simp [*,zg,zh] <;> rfl),by repeat (first|(with_reducible first|exact HB.out|apply zd|apply z2|apply z9|refine za ?_ GE111.out|refine za ?_ GE115.out)|exact HB.out)⟩
     rw [if_pos c32] at H
     have c32b0 : (t116 == 0) = true:=beq_iff_eq.mpr c32
     have c32b1 : (t116 != 0) = false:=bne_eq_false_iff_eq.mpr c32
     clear c32
     replace H:=Option.bind_eq_some_iff.mp H
     obtain ⟨t117,A330,H⟩:=H
     replace H : (if t117 = true then ((zk.f kj16 t102 t105).bind fun bt118=>(if (t108 == bt118.1 && (t109 == bt118.2)) = true then ((zn.f kj16 t102 t105).bind fun bt120=>(some (t112 == bt120.1 && (t113 == bt120.2)))) else (some false))) else (some false)) = some r:=H
     have A33:=z1.mk A330
     clear A330
     by_cases c34 : t117 = true
     rotate_left
     · replace c34:=Bool.eq_false_iff.mpr c34
       subst c34
       have H1 : (some false) = some r:=by rw [if_neg (show ¬ (false = true) by decide)] at H;exact H
       clear H
       have H:=H1
       clear H1
       obtain rfl:=Option.some.inj H
       try go_wp2
       have n0_:=z1.mk (Kd.zT HO_7.out)
       have n1_:=z1.mk (Kd.zT HO_8.out)
       have n2_:=z1.mk (z8 BK111.out)
       have n3_:=z1.mk (z8 BK115.out)
       have n4_:=z1.mk (z9 HB.out)
       clear HO_7
       clear HO_8
       clear BK111
       clear BK115
       clear HB
       have HO_7:=n0_
       have HO_8:=n1_
       have BK111:=n2_
       have BK115:=n3_
       have HB:=n4_
       clear n0_ n1_ n2_ n3_ n4_
       refine start_ (n:=16) (S:=fun w'=>True) (ds:=[]) #[false,false,false,false,false,false,false,false,false,false,false,false,false,false,false,false] zz90 rfl rfl trivial (fun hHeld=>?_);refine z25 ze.tab11 ze.bits11 (fun HT_ HW_=>?_)
       generalize wc.drew = w45 at HO_7 HO_8 BK111 BK115 HB hHeld ⊢
       refine one_ (i:=0) (N:=some 74) #[true,false,false,false,false,false,false,false,false,false,false,false,false,false,false,false] rfl rfl (z1N HT_.out zz90) zz91 (fun K hK=>?_)
       refine goes_ Try.func53 zz90 rfl #[] zz94 rfl rfl zz48 ?_
       with_reducible refine (zM.calls kj16  false _ A33.out).mono ?_
       rintro e w46 ⟨rfl,hb⟩
       refine ⟨_,rfl,?_⟩
       have n0_:=z1.mk (Kd.zq zz74 hb)
       have n1_:=z1.mk (Kd.zq zz71 hb)
       have n2_:=z1.mk (zc (g:=gb111) (o:=.cells #[.int .u64 t108,.int .u64 t109] 30 (0,0)) zz55 hb)
       have n3_:=z1.mk (zc (g:=gb115) (o:=.cells #[.int .u64 t112,.int .u64 t113] 30 (0,0)) zz58 hb)
       have n4_:=z1.mk (z3 zz40 hb)
       clear HO_7
       clear HO_8
       clear BK111
       clear BK115
       clear HB
       have HO_7:=n0_
       have HO_8:=n1_
       have BK111:=n2_
       have BK115:=n3_
       have HB:=n4_
       clear n0_ n1_ n2_ n3_ n4_
       (try clear hb)
       (try clear hb2)
       (try clear hk)
       (try clear hi)
       refine hK.out _ _ trivial (fun hHeld=>?_)
       clear hK K
       refine norm_ (a':=?_) ?_ ?_
       rotate_left
       · show Act.put _ (some 74) _ = _
         simp only [Act.put,List.setIfInBounds_toArray,List.set_cons_zero,List.set_cons_succ,zH,zP]
         rfl
       refine pure_ (i:=1) (N:=some 75) (v:=?_) (a':=?_) #[true,true,false,false,false,false,false,false,false,false,false,false,false,false,false,false] rfl rfl (z19 HT_.out zz90) (fun _ _ _ h=>h) (Or.inl ⟨by rfl,?_⟩) ?_ ?_
       rotate_left
       · intro w'
         go_simp
         with_reducible rfl
       rotate_left
       · simp only [Act.put,List.setIfInBounds_toArray,List.set_cons_zero,List.set_cons_succ,zH,zP]
         rfl
       refine pure_ (i:=2) (N:=some 76) (v:=undef) (a':=?_) #[true,true,true,false,false,false,false,false,false,false,false,false,false,false,false,false] rfl rfl (z19 HT_.out zz90) (fun _ _ _ h=>h) (Or.inr ⟨by rfl,rfl⟩) ?_ ?_
       rotate_left
       · simp only [Act.put,List.setIfInBounds_toArray,List.set_cons_zero,List.set_cons_succ,zH,zP]
         rfl
       refine pure_ (i:=3) (N:=some 77) (v:=undef) (a':=?_) #[true,true,true,true,false,false,false,false,false,false,false,false,false,false,false,false] rfl rfl (z19 HT_.out zz90) (fun _ _ _ h=>h) (Or.inr ⟨by rfl,rfl⟩) ?_ ?_
       rotate_left
       · simp only [Act.put,List.setIfInBounds_toArray,List.set_cons_zero,List.set_cons_succ,zH,zP]
         rfl
       refine pure_ (i:=4) (N:=some 78) (v:=undef) (a':=?_) #[true,true,true,true,true,false,false,false,false,false,false,false,false,false,false,false] rfl rfl (z19 HT_.out zz90) (fun _ _ _ h=>h) (Or.inr ⟨by rfl,rfl⟩) ?_ ?_
       rotate_left
       · simp only [Act.put,List.setIfInBounds_toArray,List.set_cons_zero,List.set_cons_succ,zH,zP]
         rfl
       refine pure_ (i:=5) (N:=some 79) (v:=undef) (a':=?_) #[true,true,true,true,true,true,false,false,false,false,false,false,false,false,false,false] rfl rfl (z19 HT_.out zz90) (fun _ _ _ h=>h) (Or.inr ⟨by rfl,rfl⟩) ?_ ?_
       rotate_left
       · simp only [Act.put,List.setIfInBounds_toArray,List.set_cons_zero,List.set_cons_succ,zH,zP]
         rfl
       refine pure_ (i:=6) (N:=some 80) (v:=undef) (a':=?_) #[true,true,true,true,true,true,true,false,false,false,false,false,false,false,false,false] rfl rfl (z19 HT_.out zz90) (fun _ _ _ h=>h) (Or.inr ⟨by rfl,rfl⟩) ?_ ?_
       rotate_left
       · simp only [Act.put,List.setIfInBounds_toArray,List.set_cons_zero,List.set_cons_succ,zH,zP]
         rfl
       refine pure_ (i:=7) (N:=some 81) (v:=?_) (a':=?_) #[true,true,true,true,true,true,true,true,false,false,false,false,false,false,false,false] rfl rfl (z19 HT_.out zz90) (fun _ _ _ h=>h) (Or.inl ⟨by rfl,?_⟩) ?_ ?_
       rotate_left
       · intro w'
         go_simp
         with_reducible rfl
       rotate_left
       · simp only [Act.put,List.setIfInBounds_toArray,List.set_cons_zero,List.set_cons_succ,zH,zP]
         rfl
       refine pure_ (i:=8) (N:=some 82) (v:=?_) (a':=?_) #[true,true,true,true,true,true,true,true,true,false,false,false,false,false,false,false] rfl rfl (z19 HT_.out zz90) (fun _ _ _ h=>h) (Or.inl ⟨by rfl,?_⟩) ?_ ?_
       rotate_left
       · intro w'
         go_simp
         with_reducible rfl
       rotate_left
       · simp only [Act.put,List.setIfInBounds_toArray,List.set_cons_zero,List.set_cons_succ,zH,zP]
         rfl
       refine pure_ (i:=9) (N:=some 83) (v:=undef) (a':=?_) #[true,true,true,true,true,true,true,true,true,true,false,false,false,false,false,false] rfl rfl (z19 HT_.out zz90) (fun _ _ _ h=>h) (Or.inr ⟨by rfl,rfl⟩) ?_ ?_
       rotate_left
       · simp only [Act.put,List.setIfInBounds_toArray,List.set_cons_zero,List.set_cons_succ,zH,zP]
         rfl
       refine pure_ (i:=10) (N:=some 84) (v:=undef) (a':=?_) #[true,true,true,true,true,true,true,true,true,true,true,false,false,false,false,false] rfl rfl (z19 HT_.out zz90) (fun _ _ _ h=>h) (Or.inr ⟨by rfl,rfl⟩) ?_ ?_
       rotate_left
       · simp only [Act.put,List.setIfInBounds_toArray,List.set_cons_zero,List.set_cons_succ,zH,zP]
         rfl
       refine pure_ (i:=11) (N:=some 85) (v:=undef) (a':=?_) #[true,true,true,true,true,true,true,true,true,true,true,true,false,false,false,false] rfl rfl (z19 HT_.out zz90) (fun _ _ _ h=>h) (Or.inr ⟨by rfl,rfl⟩) ?_ ?_
       rotate_left
       · simp only [Act.put,List.setIfInBounds_toArray,List.set_cons_zero,List.set_cons_succ,zH,zP]
         rfl
       refine pure_ (i:=12) (N:=some 86) (v:=undef) (a':=?_) #[true,true,true,true,true,true,true,true,true,true,true,true,true,false,false,false] rfl rfl (z19 HT_.out zz90) (fun _ _ _ h=>h) (Or.inr ⟨by rfl,rfl⟩) ?_ ?_
       rotate_left
       · simp only [Act.put,List.setIfInBounds_toArray,List.set_cons_zero,List.set_cons_succ,zH,zP]
         rfl
       refine pure_ (i:=13) (N:=some 87) (v:=undef) (a':=?_) #[true,true,true,true,true,true,true,true,true,true,true,true,true,true,false,false] rfl rfl (z19 HT_.out zz90) (fun _ _ _ h=>h) (Or.inr ⟨by rfl,rfl⟩) ?_ ?_
       rotate_left
       · simp only [Act.put,List.setIfInBounds_toArray,List.set_cons_zero,List.set_cons_succ,zH,zP]
         rfl
       refine pure_ (i:=14) (N:=some 88) (v:=?_) (a':=?_) #[true,true,true,true,true,true,true,true,true,true,true,true,true,true,true,false] rfl rfl (z19 HT_.out zz90) (fun _ _ _ h=>h) (Or.inl ⟨by rfl,?_⟩) ?_ ?_
       rotate_left
       · intro w'
         go_simp
         with_reducible rfl
       rotate_left
       · simp only [Act.put,List.setIfInBounds_toArray,List.set_cons_zero,List.set_cons_succ,zH,zP]
         rfl
       refine pure_ (i:=15) (N:=some 6) (v:=?_) (a':=?_) #[true,true,true,true,true,true,true,true,true,true,true,true,true,true,true,true] rfl rfl (z19 HT_.out zz90) (fun _ _ _ h=>h) (Or.inl ⟨by rfl,?_⟩) ?_ ?_
       rotate_left
       · intro w'
         go_simp
         with_reducible rfl
       rotate_left
       · simp only [Act.put,List.setIfInBounds_toArray,List.set_cons_zero,List.set_cons_succ,zH,zP]
         rfl
       refine done_ (z2i HT_.out zz90) ?_
       try go_wp2
       go_ret
       exact ⟨by first|rfl|(simp [zg,zh] <;> rfl)|(simp [*,zg,zh] <;> rfl),by repeat (first|(with_reducible first|exact HB.out|apply zd|apply z2|apply z9|refine za ?_ GE111.out|refine za ?_ GE115.out)|exact HB.out)⟩
     subst c34
     have H1 : ((zk.f kj16 t102 t105).bind fun bt118=>(if (t108 == bt118.1 && (t109 == bt118.2)) = true then ((zn.f kj16 t102 t105).bind fun bt120=>(some (t112 == bt120.1 && (t113 == bt120.2)))) else (some false))) = some r:=by rw [if_pos rfl] at H;exact H
     clear H
     have H:=H1
     clear H1
     replace H:=Option.bind_eq_some_iff.mp H
     obtain ⟨⟨t118,t119⟩,A350,H⟩:=H
     replace H : (if (t108 == t118 && (t109 == t119)) = true then ((zn.f kj16 t102 t105).bind fun bt120=>(some (t112 == bt120.1 && (t113 == bt120.2)))) else (some false)) = some r:=H
     have A35:=z1.mk A350
     clear A350
     by_cases c36 : (t108 == t118 && (t109 == t119)) = true
     rotate_left
     · rw [if_neg c36] at H
       have c36b0 : (t108 == t118 && (t109 == t119)) = false:=by simpa using c36
       (try (have c36b1 : decide (t108 = t118 && (t109 == t119)) = false:=by simpa using c36))
       (try (have c36b2 : (t108 == t118 && (t109 == t119)) = false:=by simpa using c36))
       (try (have c36b3 : ¬ (t108 = t118 && (t109 == t119)):=by simpa using c36))
       clear c36
       obtain rfl:=Option.some.inj H
       try go_wp2
       have n0_:=z1.mk (Kd.zT HO_7.out)
       have n1_:=z1.mk (Kd.zT HO_8.out)
       have n2_:=z1.mk (z8 BK111.out)
       have n3_:=z1.mk (z8 BK115.out)
       have n4_:=z1.mk (z9 HB.out)
       clear HO_7
       clear HO_8
       clear BK111
       clear BK115
       clear HB
       have HO_7:=n0_
       have HO_8:=n1_
       have BK111:=n2_
       have BK115:=n3_
       have HB:=n4_
       clear n0_ n1_ n2_ n3_ n4_
       refine start_ (n:=16) (S:=fun w'=>w'.cell? ⟨gb111,0,none⟩ = some (.int .u64 t108) ∧ w'.cell? ⟨gb111,1,none⟩ = some (.int .u64 t109)) (ds:=[]) #[false,false,false,false,false,false,false,false,false,false,false,false,false,false,false,false] zz90 rfl rfl ⟨(z7 BK111.out 0).trans rfl,(z7 BK111.out 1).trans rfl⟩ (fun hHeld=>?_);refine z25 ze.tab11 ze.bits11 (fun HT_ HW_=>?_)
       generalize wc.drew = w42 at HO_7 HO_8 BK111 BK115 HB hHeld ⊢
       refine one_ (i:=0) (N:=some 74) #[true,false,false,false,false,false,false,false,false,false,false,false,false,false,false,false] rfl rfl (z1N HT_.out zz90) zz91 (fun K hK=>?_)
       refine goes_ Try.func53 zz90 rfl #[] zz94 rfl rfl zz48 ?_
       with_reducible refine (zM.calls kj16  true _ A33.out).mono ?_
       rintro e w43 ⟨rfl,hb⟩
       refine ⟨_,rfl,?_⟩
       have n0_:=z1.mk (Kd.zq zz74 hb)
       have n1_:=z1.mk (Kd.zq zz71 hb)
       have n2_:=z1.mk (zc (g:=gb111) (o:=.cells #[.int .u64 t108,.int .u64 t109] 30 (0,0)) zz55 hb)
       have n3_:=z1.mk (zc (g:=gb115) (o:=.cells #[.int .u64 t112,.int .u64 t113] 30 (0,0)) zz58 hb)
       have n4_:=z1.mk (z3 zz40 hb)
       clear HO_7
       clear HO_8
       clear BK111
       clear BK115
       clear HB
       have HO_7:=n0_
       have HO_8:=n1_
       have BK111:=n2_
       have BK115:=n3_
       have HB:=n4_
       clear n0_ n1_ n2_ n3_ n4_
       (try clear hb)
       (try clear hb2)
       (try clear hk)
       (try clear hi)
       refine hK.out _ _ ⟨(z7 BK111.out 0).trans rfl,(z7 BK111.out 1).trans rfl⟩ (fun hHeld=>?_)
       clear hK K
       refine norm_ (a':=?_) ?_ ?_
       rotate_left
       · show Act.put _ (some 74) _ = _
         simp only [Act.put,List.setIfInBounds_toArray,List.set_cons_zero,List.set_cons_succ,zH,zP]
         rfl
       refine pure_ (i:=1) (N:=some 75) (v:=?_) (a':=?_) #[true,true,false,false,false,false,false,false,false,false,false,false,false,false,false,false] rfl rfl (z19 HT_.out zz90) (fun _ _ _ h=>h) (Or.inl ⟨by rfl,?_⟩) ?_ ?_
       rotate_left
       · intro w'
         go_simp
         with_reducible rfl
       rotate_left
       · simp only [Act.put,List.setIfInBounds_toArray,List.set_cons_zero,List.set_cons_succ,zH,zP]
         rfl
       refine pure_ (i:=3) (N:=some 77) (v:=?_) (a':=?_) #[true,true,false,true,false,false,false,false,false,false,false,false,false,false,false,false] rfl rfl (z19 HT_.out zz90) (fun _ _ _ h=>h) (Or.inl ⟨by rfl,?_⟩) ?_ ?_
       rotate_left
       · intro w'
         go_simp
         with_reducible rfl
       rotate_left
       · simp only [Act.put,List.setIfInBounds_toArray,List.set_cons_zero,List.set_cons_succ,zH,zP]
         rfl
       refine pure_ (i:=4) (N:=some 78) (v:=?_) (a':=?_) #[true,true,false,true,true,false,false,false,false,false,false,false,false,false,false,false] rfl rfl (z19 HT_.out zz90) (fun _ _ _ h=>h) (Or.inl ⟨by rfl,?_⟩) ?_ ?_
       rotate_left
       · intro w'
         go_simp
         with_reducible rfl
       rotate_left
       · simp only [Act.put,List.setIfInBounds_toArray,List.set_cons_zero,List.set_cons_succ,zH,zP]
         rfl
       refine take_ (i:=2) (N:=some 76) (v:=?_) (a':=?_) #[true,true,true,true,true,false,false,false,false,false,false,false,false,false,false,false] rfl rfl (z1I HT_.out HW_.out zz90) (fun _ _ _ h=>h) (Or.inl ⟨by rfl,?_⟩) hHeld ?_ ?_
       rotate_left
       · rintro w' ⟨s0,s1⟩
         go_simp
         with_reducible rfl
       rotate_left
       · simp only [Act.put,List.setIfInBounds_toArray,List.set_cons_zero,List.set_cons_succ,zH,zP]
         rfl
       refine one_ (i:=5) (N:=some 79) #[true,true,true,true,true,true,false,false,false,false,false,false,false,false,false,false] rfl rfl (z1N HT_.out zz90) zz91 (fun K hK=>?_)
       refine goes_ Try.func57 zz90 rfl #[.slice Ao27 t102.length co27,.slice Ao28 t105.length co28] zz94 rfl rfl zz48 ?_
       with_reducible refine (zk.calls kj16 _ _ t102 _ _ t105 t118 t119 _ ?side1 ?side2 ?side3 ?side4 A35.out).mono ?_
       (case side1=>repeat (first|exact (Kd.zs HO_7.out).2.2|(with_reducible refine Kd.zQ ?_ _)|(with_reducible refine Kd.zR ?_ _)|(with_reducible refine Kd.z1d ?_)))
       (case side2=>exact (Kd.zs HO_7.out).2.1)
       (case side3=>repeat (first|exact (Kd.zs HO_8.out).2.2|(with_reducible refine Kd.zQ ?_ _)|(with_reducible refine Kd.zR ?_ _)|(with_reducible refine Kd.z1d ?_)))
       (case side4=>exact (Kd.zs HO_8.out).2.1)
       rintro e w44 ⟨rfl,hb⟩
       refine ⟨_,rfl,?_⟩
       have n0_:=z1.mk (Kd.zq zz74 hb)
       have n1_:=z1.mk (Kd.zq zz71 hb)
       have n2_:=z1.mk (zc (g:=gb111) (o:=.cells #[.int .u64 t108,.int .u64 t109] 30 (0,0)) zz55 hb)
       have n3_:=z1.mk (zc (g:=gb115) (o:=.cells #[.int .u64 t112,.int .u64 t113] 30 (0,0)) zz58 hb)
       have n4_:=z1.mk (z3 zz40 hb)
       clear HO_7
       clear HO_8
       clear BK111
       clear BK115
       clear HB
       have HO_7:=n0_
       have HO_8:=n1_
       have BK111:=n2_
       have BK115:=n3_
       have HB:=n4_
       clear n0_ n1_ n2_ n3_ n4_
       (try clear hb)
       (try clear hb2)
       (try clear hk)
       (try clear hi)
       refine hK.out _ _ ⟨(z7 BK111.out 0).trans rfl,(z7 BK111.out 1).trans rfl⟩ (fun hHeld=>?_)
       clear hK K
       refine norm_ (a':=?_) ?_ ?_
       rotate_left
       · show Act.put _ (some 79) _ = _
         simp only [Act.put,List.setIfInBounds_toArray,List.set_cons_zero,List.set_cons_succ,zH,zP]
         rfl
       refine pure_ (i:=6) (N:=some 80) (v:=?_) (a':=?_) #[true,true,true,true,true,true,true,false,false,false,false,false,false,false,false,false] rfl rfl (z19 HT_.out zz90) (fun _ _ _ h=>h) (Or.inl ⟨by rfl,?_⟩) ?_ ?_
       rotate_left
       · intro w'
         go_simp
         with_reducible rfl
       rotate_left
       · simp only [Act.put,List.setIfInBounds_toArray,List.set_cons_zero,List.set_cons_succ,zH,zP]
         rfl
       refine pure_ (i:=7) (N:=some 81) (v:=?_) (a':=?_) #[true,true,true,true,true,true,true,true,false,false,false,false,false,false,false,false] rfl rfl (z19 HT_.out zz90) (fun _ _ _ h=>h) (Or.inl ⟨by rfl,?_⟩) ?_ ?_
       rotate_left
       · intro w'
         go_simp
         with_reducible rfl
       rotate_left
       · simp only [Act.put,List.setIfInBounds_toArray,List.set_cons_zero,List.set_cons_succ,zH,zP]
         rfl
       refine pure_ (i:=8) (N:=some 82) (v:=?_) (a':=?_) #[true,true,true,true,true,true,true,true,true,false,false,false,false,false,false,false] rfl rfl (z19 HT_.out zz90) (fun _ _ _ h=>h) (Or.inl ⟨by rfl,?_⟩) ?_ ?_
       rotate_left
       · intro w'
         go_simp
         with_reducible rfl
       rotate_left
       · simp only [Act.put,List.setIfInBounds_toArray,List.set_cons_zero,List.set_cons_succ,zH,zP]
         rfl
       refine pure_ (i:=9) (N:=some 83) (v:=undef) (a':=?_) #[true,true,true,true,true,true,true,true,true,true,false,false,false,false,false,false] rfl rfl (z19 HT_.out zz90) (fun _ _ _ h=>h) (Or.inr ⟨by rfl,rfl⟩) ?_ ?_
       rotate_left
       · simp only [Act.put,List.setIfInBounds_toArray,List.set_cons_zero,List.set_cons_succ,zH,zP]
         rfl
       refine pure_ (i:=10) (N:=some 84) (v:=undef) (a':=?_) #[true,true,true,true,true,true,true,true,true,true,true,false,false,false,false,false] rfl rfl (z19 HT_.out zz90) (fun _ _ _ h=>h) (Or.inr ⟨by rfl,rfl⟩) ?_ ?_
       rotate_left
       · simp only [Act.put,List.setIfInBounds_toArray,List.set_cons_zero,List.set_cons_succ,zH,zP]
         rfl
       refine pure_ (i:=11) (N:=some 85) (v:=undef) (a':=?_) #[true,true,true,true,true,true,true,true,true,true,true,true,false,false,false,false] rfl rfl (z19 HT_.out zz90) (fun _ _ _ h=>h) (Or.inr ⟨by rfl,rfl⟩) ?_ ?_
       rotate_left
       · simp only [Act.put,List.setIfInBounds_toArray,List.set_cons_zero,List.set_cons_succ,zH,zP]
         rfl
       refine pure_ (i:=12) (N:=some 86) (v:=undef) (a':=?_) #[true,true,true,true,true,true,true,true,true,true,true,true,true,false,false,false] rfl rfl (z19 HT_.out zz90) (fun _ _ _ h=>h) (Or.inr ⟨by rfl,rfl⟩) ?_ ?_
       rotate_left
       · simp only [Act.put,List.setIfInBounds_toArray,List.set_cons_zero,List.set_cons_succ,zH,zP]
         rfl
       refine pure_ (i:=13) (N:=some 87) (v:=undef) (a':=?_) #[true,true,true,true,true,true,true,true,true,true,true,true,true,true,false,false] rfl rfl (z19 HT_.out zz90) (fun _ _ _ h=>h) (Or.inr ⟨by rfl,rfl⟩) ?_ ?_
       rotate_left
       · simp only [Act.put,List.setIfInBounds_toArray,List.set_cons_zero,List.set_cons_succ,zH,zP]
         rfl
       refine pure_ (i:=14) (N:=some 88) (v:=?_) (a':=?_) #[true,true,true,true,true,true,true,true,true,true,true,true,true,true,true,false] rfl rfl (z19 HT_.out zz90) (fun _ _ _ h=>h) (Or.inl ⟨by rfl,?_⟩) ?_ ?_
       rotate_left
       · intro w'
         go_simp
         with_reducible rfl
       rotate_left
       · simp only [Act.put,List.setIfInBounds_toArray,List.set_cons_zero,List.set_cons_succ,zH,zP]
         rfl
       refine pure_ (i:=15) (N:=some 6) (v:=?_) (a':=?_) #[true,true,true,true,true,true,true,true,true,true,true,true,true,true,true,true] rfl rfl (z19 HT_.out zz90) (fun _ _ _ h=>h) (Or.inl ⟨by rfl,?_⟩) ?_ ?_
       rotate_left
       · intro w'
         go_simp
         with_reducible rfl
       rotate_left
       · simp only [Act.put,List.setIfInBounds_toArray,List.set_cons_zero,List.set_cons_succ,zH,zP]
         rfl
       refine done_ (z2i HT_.out zz90) ?_
       try go_wp2
       go_ret
       exact ⟨by first|rfl|(simp [zg,zh] <;> rfl)|(simp [*,zg,zh] <;> rfl),by repeat (first|(with_reducible first|exact HB.out|apply zd|apply z2|apply z9|refine za ?_ GE111.out|refine za ?_ GE115.out)|exact HB.out)⟩
     rw [if_pos c36] at H
     have c36b0 : (t108 == t118 && (t109 == t119)) = true:=c36
     (try (have c36b1 : decide (t108 = t118 && (t109 == t119)) = true:=by simpa using c36))
     (try (have c36b2 : (t108 == t118 && (t109 == t119)) = true:=by simpa using c36))
     clear c36
     replace H:=Option.bind_eq_some_iff.mp H
     obtain ⟨⟨t120,t121⟩,A370,H⟩:=H
     replace H : (some (t112 == t120 && (t113 == t121))) = some r:=H
     have A37:=z1.mk A370
     clear A370
     obtain rfl:=Option.some.inj H
     try go_wp2
     have n0_:=z1.mk (Kd.zT HO_7.out)
     have n1_:=z1.mk (Kd.zT HO_8.out)
     have n2_:=z1.mk (z8 BK111.out)
     have n3_:=z1.mk (z8 BK115.out)
     have n4_:=z1.mk (z9 HB.out)
     clear HO_7
     clear HO_8
     clear BK111
     clear BK115
     clear HB
     have HO_7:=n0_
     have HO_8:=n1_
     have BK111:=n2_
     have BK115:=n3_
     have HB:=n4_
     clear n0_ n1_ n2_ n3_ n4_
     refine start_ (n:=16) (S:=fun w'=>w'.cell? ⟨gb111,0,none⟩ = some (.int .u64 t108) ∧ w'.cell? ⟨gb111,1,none⟩ = some (.int .u64 t109) ∧ w'.cell? ⟨gb115,0,none⟩ = some (.int .u64 t112) ∧ w'.cell? ⟨gb115,1,none⟩ = some (.int .u64 t113)) (ds:=[]) #[false,false,false,false,false,false,false,false,false,false,false,false,false,false,false,false] zz90 rfl rfl ⟨(z7 BK111.out 0).trans rfl,(z7 BK111.out 1).trans rfl,(z7 BK115.out 0).trans rfl,(z7 BK115.out 1).trans rfl⟩ (fun hHeld=>?_);refine z25 ze.tab11 ze.bits11 (fun HT_ HW_=>?_)
     generalize wc.drew = w38 at HO_7 HO_8 BK111 BK115 HB hHeld ⊢
     refine one_ (i:=0) (N:=some 74) #[true,false,false,false,false,false,false,false,false,false,false,false,false,false,false,false] rfl rfl (z1N HT_.out zz90) zz91 (fun K hK=>?_)
     refine goes_ Try.func53 zz90 rfl #[] zz94 rfl rfl zz48 ?_
     with_reducible refine (zM.calls kj16  true _ A33.out).mono ?_
     rintro e w39 ⟨rfl,hb⟩
     refine ⟨_,rfl,?_⟩
     have n0_:=z1.mk (Kd.zq zz74 hb)
     have n1_:=z1.mk (Kd.zq zz71 hb)
     have n2_:=z1.mk (zc (g:=gb111) (o:=.cells #[.int .u64 t108,.int .u64 t109] 30 (0,0)) zz55 hb)
     have n3_:=z1.mk (zc (g:=gb115) (o:=.cells #[.int .u64 t112,.int .u64 t113] 30 (0,0)) zz58 hb)
     have n4_:=z1.mk (z3 zz40 hb)
     clear HO_7
     clear HO_8
     clear BK111
     clear BK115
     clear HB
     have HO_7:=n0_
     have HO_8:=n1_
     have BK111:=n2_
     have BK115:=n3_
     have HB:=n4_
     clear n0_ n1_ n2_ n3_ n4_
     (try clear hb)
     (try clear hb2)
     (try clear hk)
     (try clear hi)
     refine hK.out _ _ ⟨(z7 BK111.out 0).trans rfl,(z7 BK111.out 1).trans rfl,(z7 BK115.out 0).trans rfl,(z7 BK115.out 1).trans rfl⟩ (fun hHeld=>?_)
     clear hK K
     refine norm_ (a':=?_) ?_ ?_
     rotate_left
     · show Act.put _ (some 74) _ = _
       simp only [Act.put,List.setIfInBounds_toArray,List.set_cons_zero,List.set_cons_succ,zH,zP]
       rfl
     refine pure_ (i:=1) (N:=some 75) (v:=?_) (a':=?_) #[true,true,false,false,false,false,false,false,false,false,false,false,false,false,false,false] rfl rfl (z19 HT_.out zz90) (fun _ _ _ h=>h) (Or.inl ⟨by rfl,?_⟩) ?_ ?_
     rotate_left
     · intro w'
       go_simp
       with_reducible rfl
     rotate_left
     · simp only [Act.put,List.setIfInBounds_toArray,List.set_cons_zero,List.set_cons_succ,zH,zP]
       rfl
     refine pure_ (i:=3) (N:=some 77) (v:=?_) (a':=?_) #[true,true,false,true,false,false,false,false,false,false,false,false,false,false,false,false] rfl rfl (z19 HT_.out zz90) (fun _ _ _ h=>h) (Or.inl ⟨by rfl,?_⟩) ?_ ?_
     rotate_left
     · intro w'
       go_simp
       with_reducible rfl
     rotate_left
     · simp only [Act.put,List.setIfInBounds_toArray,List.set_cons_zero,List.set_cons_succ,zH,zP]
       rfl
     refine pure_ (i:=4) (N:=some 78) (v:=?_) (a':=?_) #[true,true,false,true,true,false,false,false,false,false,false,false,false,false,false,false] rfl rfl (z19 HT_.out zz90) (fun _ _ _ h=>h) (Or.inl ⟨by rfl,?_⟩) ?_ ?_
     rotate_left
     · intro w'
       go_simp
       with_reducible rfl
     rotate_left
     · simp only [Act.put,List.setIfInBounds_toArray,List.set_cons_zero,List.set_cons_succ,zH,zP]
       rfl
     refine take_ (i:=2) (N:=some 76) (v:=?_) (a':=?_) #[true,true,true,true,true,false,false,false,false,false,false,false,false,false,false,false] rfl rfl (z1I HT_.out HW_.out zz90) (fun _ _ _ h=>h) (Or.inl ⟨by rfl,?_⟩) hHeld ?_ ?_
     rotate_left
     · rintro w' ⟨s0,s1,s2,s3⟩
       go_simp
       with_reducible rfl
     rotate_left
     · simp only [Act.put,List.setIfInBounds_toArray,List.set_cons_zero,List.set_cons_succ,zH,zP]
       rfl
     refine one_ (i:=5) (N:=some 79) #[true,true,true,true,true,true,false,false,false,false,false,false,false,false,false,false] rfl rfl (z1N HT_.out zz90) zz91 (fun K hK=>?_)
     refine goes_ Try.func57 zz90 rfl #[.slice Ao27 t102.length co27,.slice Ao28 t105.length co28] zz94 rfl rfl zz48 ?_
     with_reducible refine (zk.calls kj16 _ _ t102 _ _ t105 t118 t119 _ ?side1 ?side2 ?side3 ?side4 A35.out).mono ?_
     (case side1=>repeat (first|exact (Kd.zs HO_7.out).2.2|(with_reducible refine Kd.zQ ?_ _)|(with_reducible refine Kd.zR ?_ _)|(with_reducible refine Kd.z1d ?_)))
     (case side2=>exact (Kd.zs HO_7.out).2.1)
     (case side3=>repeat (first|exact (Kd.zs HO_8.out).2.2|(with_reducible refine Kd.zQ ?_ _)|(with_reducible refine Kd.zR ?_ _)|(with_reducible refine Kd.z1d ?_)))
     (case side4=>exact (Kd.zs HO_8.out).2.1)
     rintro e w40 ⟨rfl,hb⟩
     refine ⟨_,rfl,?_⟩
     have n0_:=z1.mk (Kd.zq zz74 hb)
     have n1_:=z1.mk (Kd.zq zz71 hb)
     have n2_:=z1.mk (zc (g:=gb111) (o:=.cells #[.int .u64 t108,.int .u64 t109] 30 (0,0)) zz55 hb)
     have n3_:=z1.mk (zc (g:=gb115) (o:=.cells #[.int .u64 t112,.int .u64 t113] 30 (0,0)) zz58 hb)
     have n4_:=z1.mk (z3 zz40 hb)
     clear HO_7
     clear HO_8
     clear BK111
     clear BK115
     clear HB
     have HO_7:=n0_
     have HO_8:=n1_
     have BK111:=n2_
     have BK115:=n3_
     have HB:=n4_
     clear n0_ n1_ n2_ n3_ n4_
     (try clear hb)
     (try clear hb2)
     (try clear hk)
     (try clear hi)
     refine hK.out _ _ ⟨(z7 BK111.out 0).trans rfl,(z7 BK111.out 1).trans rfl,(z7 BK115.out 0).trans rfl,(z7 BK115.out 1).trans rfl⟩ (fun hHeld=>?_)
     clear hK K
     refine norm_ (a':=?_) ?_ ?_
     rotate_left
     · show Act.put _ (some 79) _ = _
       simp only [Act.put,List.setIfInBounds_toArray,List.set_cons_zero,List.set_cons_succ,zH,zP]
       rfl
     refine pure_ (i:=6) (N:=some 80) (v:=?_) (a':=?_) #[true,true,true,true,true,true,true,false,false,false,false,false,false,false,false,false] rfl rfl (z19 HT_.out zz90) (fun _ _ _ h=>h) (Or.inl ⟨by rfl,?_⟩) ?_ ?_
     rotate_left
     · intro w'
       go_simp
       with_reducible rfl
     rotate_left
     · simp only [Act.put,List.setIfInBounds_toArray,List.set_cons_zero,List.set_cons_succ,zH,zP]
       rfl
     refine pure_ (i:=7) (N:=some 81) (v:=?_) (a':=?_) #[true,true,true,true,true,true,true,true,false,false,false,false,false,false,false,false] rfl rfl (z19 HT_.out zz90) (fun _ _ _ h=>h) (Or.inl ⟨by rfl,?_⟩) ?_ ?_
     rotate_left
     · intro w'
       go_simp
       with_reducible rfl
     rotate_left
     · simp only [Act.put,List.setIfInBounds_toArray,List.set_cons_zero,List.set_cons_succ,zH,zP]
       rfl
     refine pure_ (i:=8) (N:=some 82) (v:=?_) (a':=?_) #[true,true,true,true,true,true,true,true,true,false,false,false,false,false,false,false] rfl rfl (z19 HT_.out zz90) (fun _ _ _ h=>h) (Or.inl ⟨by rfl,?_⟩) ?_ ?_
     rotate_left
     · intro w'
       go_simp
       with_reducible rfl
     rotate_left
     · simp only [Act.put,List.setIfInBounds_toArray,List.set_cons_zero,List.set_cons_succ,zH,zP]
       rfl
     refine pure_ (i:=10) (N:=some 84) (v:=?_) (a':=?_) #[true,true,true,true,true,true,true,true,true,false,true,false,false,false,false,false] rfl rfl (z19 HT_.out zz90) (fun _ _ _ h=>h) (Or.inl ⟨by rfl,?_⟩) ?_ ?_
     rotate_left
     · intro w'
       go_simp
       with_reducible rfl
     rotate_left
     · simp only [Act.put,List.setIfInBounds_toArray,List.set_cons_zero,List.set_cons_succ,zH,zP]
       rfl
     refine pure_ (i:=11) (N:=some 85) (v:=?_) (a':=?_) #[true,true,true,true,true,true,true,true,true,false,true,true,false,false,false,false] rfl rfl (z19 HT_.out zz90) (fun _ _ _ h=>h) (Or.inl ⟨by rfl,?_⟩) ?_ ?_
     rotate_left
     · intro w'
       go_simp
       with_reducible rfl
     rotate_left
     · simp only [Act.put,List.setIfInBounds_toArray,List.set_cons_zero,List.set_cons_succ,zH,zP]
       rfl
     refine take_ (i:=9) (N:=some 83) (v:=?_) (a':=?_) #[true,true,true,true,true,true,true,true,true,true,true,true,false,false,false,false] rfl rfl (z1I HT_.out HW_.out zz90) (fun _ _ _ h=>h) (Or.inl ⟨by rfl,?_⟩) hHeld ?_ ?_
     rotate_left
     · rintro w' ⟨s0,s1,s2,s3⟩
       go_simp
       with_reducible rfl
     rotate_left
     · simp only [Act.put,List.setIfInBounds_toArray,List.set_cons_zero,List.set_cons_succ,zH,zP]
       rfl
     refine one_ (i:=12) (N:=some 86) #[true,true,true,true,true,true,true,true,true,true,true,true,true,false,false,false] rfl rfl (z1N HT_.out zz90) zz91 (fun K hK=>?_)
     refine goes_ Try.func58 zz90 rfl #[.slice Ao27 t102.length co27,.slice Ao28 t105.length co28] zz94 rfl rfl zz48 ?_
     with_reducible refine (zn.calls kj16 _ _ t102 _ _ t105 t120 t121 _ ?side1 ?side2 ?side3 ?side4 A37.out).mono ?_
     (case side1=>repeat (first|exact (Kd.zs HO_7.out).2.2|(with_reducible refine Kd.zQ ?_ _)|(with_reducible refine Kd.zR ?_ _)|(with_reducible refine Kd.z1d ?_)))
     (case side2=>exact (Kd.zs HO_7.out).2.1)
     (case side3=>repeat (first|exact (Kd.zs HO_8.out).2.2|(with_reducible refine Kd.zQ ?_ _)|(with_reducible refine Kd.zR ?_ _)|(with_reducible refine Kd.z1d ?_)))
     (case side4=>exact (Kd.zs HO_8.out).2.1)
     rintro e w41 ⟨rfl,hb⟩
     refine ⟨_,rfl,?_⟩
     have n0_:=z1.mk (Kd.zq zz74 hb)
     have n1_:=z1.mk (Kd.zq zz71 hb)
     have n2_:=z1.mk (zc (g:=gb111) (o:=.cells #[.int .u64 t108,.int .u64 t109] 30 (0,0)) zz55 hb)
     have n3_:=z1.mk (zc (g:=gb115) (o:=.cells #[.int .u64 t112,.int .u64 t113] 30 (0,0)) zz58 hb)
     have n4_:=z1.mk (z3 zz40 hb)
     clear HO_7
     clear HO_8
     clear BK111
     clear BK115
     clear HB
     have HO_7:=n0_
     have HO_8:=n1_
     have BK111:=n2_
     have BK115:=n3_
     have HB:=n4_
     clear n0_ n1_ n2_ n3_ n4_
     (try clear hb)
     (try clear hb2)
     (try clear hk)
     (try clear hi)
     refine hK.out _ _ ⟨(z7 BK111.out 0).trans rfl,(z7 BK111.out 1).trans rfl,(z7 BK115.out 0).trans rfl,(z7 BK115.out 1).trans rfl⟩ (fun hHeld=>?_)
     clear hK K
     refine norm_ (a':=?_) ?_ ?_
     rotate_left
     · show Act.put _ (some 86) _ = _
       simp only [Act.put,List.setIfInBounds_toArray,List.set_cons_zero,List.set_cons_succ,zH,zP]
       rfl
     refine pure_ (i:=13) (N:=some 87) (v:=?_) (a':=?_) #[true,true,true,true,true,true,true,true,true,true,true,true,true,true,false,false] rfl rfl (z19 HT_.out zz90) (fun _ _ _ h=>h) (Or.inl ⟨by rfl,?_⟩) ?_ ?_
     rotate_left
     · intro w'
       go_simp
       with_reducible rfl
     rotate_left
     · simp only [Act.put,List.setIfInBounds_toArray,List.set_cons_zero,List.set_cons_succ,zH,zP]
       rfl
     refine pure_ (i:=14) (N:=some 88) (v:=?_) (a':=?_) #[true,true,true,true,true,true,true,true,true,true,true,true,true,true,true,false] rfl rfl (z19 HT_.out zz90) (fun _ _ _ h=>h) (Or.inl ⟨by rfl,?_⟩) ?_ ?_
     rotate_left
     · intro w'
       go_simp
       with_reducible rfl
     rotate_left
     · simp only [Act.put,List.setIfInBounds_toArray,List.set_cons_zero,List.set_cons_succ,zH,zP]
       rfl
     refine pure_ (i:=15) (N:=some 6) (v:=?_) (a':=?_) #[true,true,true,true,true,true,true,true,true,true,true,true,true,true,true,true] rfl rfl (z19 HT_.out zz90) (fun _ _ _ h=>h) (Or.inl ⟨by rfl,?_⟩) ?_ ?_
     rotate_left
     · intro w'
       go_simp
       with_reducible rfl
     rotate_left
     · simp only [Act.put,List.setIfInBounds_toArray,List.set_cons_zero,List.set_cons_succ,zH,zP]
       rfl
     refine done_ (z2i HT_.out zz90) ?_
     try go_wp2
     go_ret
     exact ⟨by first|rfl|(simp [zg,zh] <;> rfl)|(simp [*,zg,zh] <;> rfl),by repeat (first|(with_reducible first|exact HB.out|apply zd|apply z2|apply z9|refine za ?_ GE111.out|refine za ?_ GE115.out)|exact HB.out)⟩
end Go.Proofs.Ytkhmpaooinpfoaa.P
/- What the arguments of a law read as: for each type that can be told, any reading of it is one of a value of its kind, with its numbers in their ranges. Own text. -/
namespace Go.Proofs.Ytkhmpaooinpfoaa.Reads
open Go.ChangeShapes Go.WideShapes Go.ChangeAt Go.RowKit Go.Deep Go.Proofs.YtkhmpaooinpfoaaW.PrintWords
set_option linter.unusedVariables false

/-- Whatever is read at type t is of kind d, and good. -/
def ReadsAs {α : Type} (P : Program) (t : TypeId) (d : Kd α) (good : α → Prop) : Prop :=
  ∀ {H : Type} (enc : TypeId × Value → H) (w : World) (base : Nat) (spare : Nat → Bool) (held : Bool) (fuel : Nat) (cs : List Value) (x : DataW H × List MemPlace), DataW.trod enc P w base spare held fuel t cs = some x → ∃ a, d.K w a cs ∧ good a

theorem z6X {P : Program} {t : TypeId} {k : IntKind} (ht : P.underlying t = some (.int k)) : ReadsAs P t (Kd.int k) (fun n => (Lit.int k n).wf = true) := by
  intro H enc w base spare held fuel cs x h
  obtain ⟨n, rfl, _, hw⟩ := DataW.trod_int ht h
  exact ⟨n, rfl, hw⟩
theorem op_bool {P : Program} {t : TypeId} (ht : P.underlying t = some .bool) : ReadsAs P t Kd.bool (fun _ => True) := by
  intro H enc w base spare held fuel cs x h
  obtain ⟨n, rfl, _⟩ := DataW.trod_bool ht h
  exact ⟨n, rfl, trivial⟩
theorem z5B (a : Addr) (i j : Nat) : (a.add i).add j = a.add (i + j) := Go.Deep.add_add a i j
theorem op_slice {α : Type} {P : Program} {t e : TypeId} {d : Kd α} {good : α → Prop} (ht : P.underlying t = some (.slice e)) (hc : P.cellsOf e = d.sz) (he : ReadsAs P e d good) : ReadsAs P t (Kd.slice e d) (fun l => (∀ x ∈ l, good x) ∧ l.length ≤ maxLen) := by
  intro H enc w base spare held fuel cs x h
  rcases open_slice ht h with ⟨rfl, _⟩ | ⟨a, len, cap, m, n, D, Pl, rfl, hb, hl, hm, hmm, rfl, hx⟩
  · exact ⟨[], ⟨none, 0, rfl, Nat.le_refl _, Kd.z2U d w⟩, ⟨by simp, Nat.zero_le _⟩⟩
  · have hlm : len ≤ m := by rw [hmm]; split <;> omega
    have hex : ∀ i, i < len → ∃ y : α, ∃ c, c.length = d.sz ∧ d.K w y c ∧ good y ∧ ∀ j u, c[j]? = some u → w.cell? (a.add (i * d.sz + j)) = some u := by
      intro i hi
      obtain ⟨cs', h1, h2⟩ := hx i (by omega)
      obtain ⟨_, hlen, hcell⟩ := World.cells?_some h1
      obtain ⟨y, hK, hg⟩ := he enc w base spare held n cs' _ h2
      refine ⟨y, cs', by rw [hlen, hc], hK, hg, fun j u hu => ?_⟩
      have hj : j < P.cellsOf e := by rw [← hlen]; exact (List.getElem?_eq_some_iff.1 hu).1
      have := hcell j hj
      rw [z5B] at this
      rw [← hc, this]; exact hu
    have hmax : len ≤ 9223372036854775807 := by
      have h9 : len ≤ maxLen := by omega
      simpa [maxLen] using h9
    have hlen : (List.ofFn (fun i : Fin len => Classical.choose (hex i.1 i.2))).length = len := List.length_ofFn
    refine ⟨List.ofFn (fun i : Fin len => Classical.choose (hex i.1 i.2)), ⟨some a, cap, by rw [hlen], by rw [hlen]; exact hl, rfl, by rw [hlen]; exact hmax, fun _ => ⟨a, rfl, ?_⟩⟩, ?_, by rw [hlen]; omega⟩
    · intro j p hp
      obtain ⟨hj, hpj⟩ := List.getElem?_eq_some_iff.1 hp
      rw [List.length_ofFn] at hj
      rw [List.getElem_ofFn] at hpj
      obtain ⟨c, h1, h2, _, h4⟩ := Classical.choose_spec (hex j hj)
      exact ⟨c, h1, by rw [← hpj]; exact h2, h4⟩
    · intro y hy
      obtain ⟨i, rfl⟩ := List.mem_ofFn.1 hy
      obtain ⟨c, _, _, h3, _⟩ := Classical.choose_spec (hex i.1 i.2)
      exact h3

/-- Fields that lie one behind the other. -/
def ReadsFs {α : Type} (P : Program) (fs : List Field) (off : Nat) (d : Kd α) (good : α → Prop) : Prop :=
  ∀ {H : Type} (enc : TypeId × Value → H) (w : World) (base : Nat) (spare : Nat → Bool) (held : Bool) (n : Nat) (cs : List Value), cs.length = d.sz →
    (∀ f ∈ fs, off ≤ f.offset ∧ ∃ x, DataW.trod enc P w base spare held n f.type ((cs.drop (f.offset - off)).take (P.cellsOf f.type)) = some x) → ∃ a, d.K w a cs ∧ good a
theorem z70 {α : Type} {P : Program} {f : Field} {off : Nat} {d : Kd α} {good : α → Prop} (hs : P.cellsOf f.type = d.sz) (ho : f.offset = off) (he : ReadsAs P f.type d good) : ReadsFs P [f] off d good := by
  intro H enc w base spare held n cs hl h
  obtain ⟨_, x, hx⟩ := h f (by simp)
  rw [ho, Nat.sub_self, List.drop_zero, hs, ← hl, List.take_length] at hx
  exact he enc w base spare held n cs x hx
theorem z6Z {α β : Type} {P : Program} {f : Field} {fs : List Field} {off : Nat} {d : Kd α} {d' : Kd β} {good : α → Prop} {good' : β → Prop} (hs : P.cellsOf f.type = d.sz) (ho : f.offset = off) (he : ReadsAs P f.type d good)
    (hr : ReadsFs P fs (off + d.sz) d' good') (hoff : ∀ g ∈ fs, off + d.sz ≤ g.offset) : ReadsFs P (f :: fs) off (Kd.pair d d') (fun x => good x.1 ∧ good' x.2) := by
  intro H enc w base spare held n cs hl h
  have hl' : cs.length = d.sz + d'.sz := hl
  obtain ⟨_, x, hx⟩ := h f (by simp)
  rw [ho, Nat.sub_self, List.drop_zero, hs] at hx
  obtain ⟨a, hK, hg⟩ := he enc w base spare held n _ x hx
  obtain ⟨b, hK', hg'⟩ := hr enc w base spare held n (cs.drop d.sz) (by rw [List.length_drop]; omega) (fun g hgm => by
    obtain ⟨_, y, hy⟩ := h g (by simp [hgm])
    have ho' := hoff g hgm
    refine ⟨ho', y, ?_⟩
    rw [List.drop_drop, show d.sz + (g.offset - (off + d.sz)) = g.offset - off by omega]
    exact hy)
  exact ⟨(a, b), ⟨cs.take d.sz, cs.drop d.sz, (List.take_append_drop _ _).symm, hK, hK'⟩, hg, hg'⟩
theorem z6Y {α β : Type} {P : Program} {t : TypeId} {fs : Array Field} {l : List Field} {d : Kd α} {good : α → Prop} (f : β → α) (hsurj : ∀ a, ∃ b, f b = a) (ht : P.underlying t = some (.struct fs)) (hfl : fs.toList = l) (hs : P.cellsOf t = d.sz) (h : ReadsFs P l 0 d good) :
    ReadsAs P t (Kd.iso d f) (fun b => good (f b)) := by
  intro H enc w base spare held fuel cs x hx
  obtain ⟨xs, n, rfl, _, hlen, hxs, hall⟩ := DataW.trod_struct ht hx
  obtain ⟨a, hK, hg⟩ := h enc w base spare held n cs (by rw [hlen, hs]) (fun g hgm => by
    rw [← hfl] at hgm
    obtain ⟨i, hi, rfl⟩ := List.mem_iff_getElem.1 hgm
    have h1 := hall i fs.toList[i] (by simp at hi ⊢)
    have hi' : i < xs.length := by rw [hxs]; simpa using hi
    refine ⟨Nat.zero_le _, xs[i], ?_⟩
    rw [Nat.sub_zero, h1, List.getElem?_eq_getElem hi'])
  obtain ⟨b, rfl⟩ := hsurj a
  exact ⟨b, hK, hg⟩

/-- Elements of an array, one behind the other. -/
def ReadsAr {α : Type} (P : Program) (e : TypeId) (m : Nat) (d : Kd α) (good : α → Prop) : Prop :=
  ∀ {H : Type} (enc : TypeId × Value → H) (w : World) (base : Nat) (spare : Nat → Bool) (held : Bool) (n : Nat) (cs : List Value), cs.length = d.sz →
    (∀ i, i < m → ∃ x, DataW.trod enc P w base spare held n e ((cs.drop (i * P.cellsOf e)).take (P.cellsOf e)) = some x) → ∃ a, d.K w a cs ∧ good a
theorem opas_last {α : Type} {P : Program} {e : TypeId} {d : Kd α} {good : α → Prop} (hs : P.cellsOf e = d.sz) (he : ReadsAs P e d good) : ReadsAr P e 1 d good := by
  intro H enc w base spare held n cs hl h
  obtain ⟨x, hx⟩ := h 0 (by omega)
  rw [Nat.zero_mul, List.drop_zero, hs, ← hl, List.take_length] at hx
  exact he enc w base spare held n cs x hx
theorem opas_cons {α β : Type} {P : Program} {e : TypeId} {m : Nat} {d : Kd α} {d' : Kd β} {good : α → Prop} {good' : β → Prop} (hs : P.cellsOf e = d.sz) (he : ReadsAs P e d good) (hr : ReadsAr P e m d' good') :
    ReadsAr P e (m + 1) (Kd.pair d d') (fun x => good x.1 ∧ good' x.2) := by
  intro H enc w base spare held n cs hl h
  have hl' : cs.length = d.sz + d'.sz := hl
  obtain ⟨x, hx⟩ := h 0 (by omega)
  rw [Nat.zero_mul, List.drop_zero, hs] at hx
  obtain ⟨a, hK, hg⟩ := he enc w base spare held n _ x hx
  obtain ⟨b, hK', hg'⟩ := hr enc w base spare held n (cs.drop d.sz) (by rw [List.length_drop]; omega) (fun i hi => by
    obtain ⟨y, hy⟩ := h (i + 1) (by omega)
    refine ⟨y, ?_⟩
    rw [List.drop_drop, show d.sz + i * P.cellsOf e = (i + 1) * P.cellsOf e by rw [hs, Nat.add_mul]; omega]
    exact hy)
  exact ⟨(a, b), ⟨cs.take d.sz, cs.drop d.sz, (List.take_append_drop _ _).symm, hK, hK'⟩, hg, hg'⟩
theorem op_array {α β : Type} {P : Program} {t e : TypeId} {m : Nat} {d : Kd α} {good : α → Prop} (f : β → α) (hsurj : ∀ a, ∃ b, f b = a) (ht : P.underlying t = some (.array m e)) (hs : P.cellsOf t = d.sz) (h : ReadsAr P e m d good) :
    ReadsAs P t (Kd.iso d f) (fun b => good (f b)) := by
  intro H enc w base spare held fuel cs x hx
  obtain ⟨xs, n, rfl, _, hlen, hxs, hall⟩ := DataW.trod_array ht hx
  obtain ⟨a, hK, hg⟩ := h enc w base spare held n cs (by rw [hlen, hs]) (fun i hi => by
    have hi' : i < xs.length := by omega
    exact ⟨xs[i], by rw [hall i hi, List.getElem?_eq_getElem hi']⟩)
  obtain ⟨b, rfl⟩ := hsurj a
  exact ⟨b, hK, hg⟩
theorem z5l {P : Program} {w : World} {r : Reach} {base : Nat} {t e : TypeId} {m : Nat} {v : Value} (ht : P.underlying t = some (.array m e)) (h : Value.okWide P w r base t v) : ∃ cs, v = .agg cs ∧ cs.size = P.cellsOf t := by
  simp only [Value.okWide, ht] at h
  cases v <;> simp_all

/-- An argument that is a slice. -/
theorem z5e {α : Type} {P : Program} {H : Type} {enc : TypeId × Value → H} {W : World} {base : Nat} {spare : Nat → Bool} {held : Bool} {t e : TypeId} {d : Kd α} {good : List α → Prop} {v : Value} {dd : DataW H} {ps : List MemPlace}
    (hop : ReadsAs P t (Kd.slice e d) good) {e' : TypeId} (ht : P.underlying t = some (.slice e')) {r : Reach} {b : Nat} (hv : Value.okWide P W r b t v) (h : DataW.Trod enc P W base spare held t v dd ps) :
    ∃ (l : List α) (A : Option Addr) (c : Nat), v = .slice A l.length c ∧ l.length ≤ c ∧ Kd.C d W A l.length l ∧ good l := by
  obtain ⟨A, len, cap, rfl⟩ := okWide_slice ht hv
  obtain ⟨fuel, hf⟩ := h
  obtain ⟨l, ⟨A', c, hcs, hl, hC⟩, hg⟩ := hop enc W base spare held fuel _ _ hf
  simp [Value.cells] at hcs
  obtain ⟨rfl, rfl, rfl⟩ := hcs
  exact ⟨l, A, cap, rfl, hl, hC, hg⟩
theorem arg_int {P : Program} {H : Type} {enc : TypeId × Value → H} {W : World} {base : Nat} {spare : Nat → Bool} {held : Bool} {t : TypeId} {k : IntKind} {v : Value} {dd : DataW H} {ps : List MemPlace}
    (ht : P.underlying t = some (.int k)) {r : Reach} {b : Nat} (hv : Value.okWide P W r b t v) (h : DataW.Trod enc P W base spare held t v dd ps) :
    ∃ n, v = .int k n ∧ (Lit.int k n).wf = true := by
  obtain ⟨n, rfl⟩ := okWide_int ht hv
  obtain ⟨fuel, hf⟩ := h
  obtain ⟨l, hcs, hg⟩ := z6X ht enc W base spare held fuel _ _ hf
  have : n = l := by
    have h1 : ([Value.int k n] : List Value) = [.int k l] := hcs
    simpa using h1
  subst this
  exact ⟨n, rfl, hg⟩
theorem arg_bool {P : Program} {W : World} {t : TypeId} {v : Value} (ht : P.underlying t = some .bool) {r : Reach} {b : Nat} (hv : Value.okWide P W r b t v) : ∃ n, v = .bool n := okWide_bool ht hv
/-- An argument that is a struct: its cells. -/
theorem arg_struct {α : Type} {P : Program} {H : Type} {enc : TypeId × Value → H} {W : World} {base : Nat} {spare : Nat → Bool} {held : Bool} {t : TypeId} {fs : Array Field} {d : Kd α} {good : α → Prop} {v : Value} {dd : DataW H} {ps : List MemPlace}
    (hop : ReadsAs P t d good) (ht : P.underlying t = some (.struct fs)) {r : Reach} {b : Nat} (hv : Value.okWide P W r b t v) (h : DataW.Trod enc P W base spare held t v dd ps) :
    ∃ (a : α) (cs : List Value), v = .agg cs.toArray ∧ d.K W a cs ∧ good a := by
  obtain ⟨cs, rfl, _⟩ := okWide_struct ht hv
  obtain ⟨fuel, hf⟩ := h
  obtain ⟨a, hK, hg⟩ := hop enc W base spare held fuel _ _ hf
  exact ⟨a, cs.toList, by simp, hK, hg⟩
/-- An argument that is an array: its cells. -/
theorem arg_array {α : Type} {P : Program} {H : Type} {enc : TypeId × Value → H} {W : World} {base : Nat} {spare : Nat → Bool} {held : Bool} {t e : TypeId} {m : Nat} {d : Kd α} {good : α → Prop} {v : Value} {dd : DataW H} {ps : List MemPlace}
    (hop : ReadsAs P t d good) (ht : P.underlying t = some (.array m e)) {r : Reach} {b : Nat} (hv : Value.okWide P W r b t v) (h : DataW.Trod enc P W base spare held t v dd ps) :
    ∃ (a : α) (cs : List Value), v = .agg cs.toArray ∧ d.K W a cs ∧ good a := by
  obtain ⟨cs, rfl, _⟩ := z5l ht hv
  obtain ⟨fuel, hf⟩ := h
  obtain ⟨a, hK, hg⟩ := hop enc W base spare held fuel _ _ hf
  exact ⟨a, cs.toList, by simp, hK, hg⟩
end Go.Proofs.Ytkhmpaooinpfoaa.Reads
-- Own text: the statement that is left of the law RingBatches, and what a reading of its arguments is.
namespace Go.Proofs.Ytkhmpaooinpfoaa.Stated.ringBatches
open Go.RowKit Go.Proofs.YtkhmpaooinpfoaaW.PrintWords Go.Proofs.Ytkhmpaooinpfoaa.P Go.Proofs.Ytkhmpaooinpfoaa.Reads
def Pure : Prop := ∀ (x0 : Int) (x1 : List (S30)) (x2 : List (S30)), ((Lit.int .i64 x0).wf = true) → (((∀ x_ ∈ x1, ((Lit.int .u64 x_.f0).wf = true) ∧ ((Lit.int .u64 x_.f1).wf = true)) ∧ x1.length ≤ maxLen)) → (((∀ x_ ∈ x2, ((Lit.int .u64 x_.f0).wf = true) ∧ ((Lit.int .u64 x_.f1).wf = true)) ∧ x2.length ≤ maxLen)) → ∃ k, ze.f k x0 x1 x2 = some true
end Go.Proofs.Ytkhmpaooinpfoaa.Stated.ringBatches
/- Rounds: what is told by enough of them; and the arithmetic of whole numbers as the printed functions spell it. Own text. -/
namespace Go.Proofs.YtkhmpaooinpfoaaW.PrintWords
set_option linter.unusedVariables false
set_option linter.unusedSimpArgs false
namespace Ev
variable {α β : Type}
theorem ret (r : α) : Ev (fun _ => some r) r := ⟨0, fun _ _ => rfl⟩
theorem ret' {a r : α} (h : a = r) : Ev (fun _ => some a) r := h ▸ Ev.ret a
theorem const {o : Option α} {r : α} (h : o = some r) : Ev (fun _ => o) r := ⟨0, fun _ _ => h⟩
theorem pos {c : Prop} [Decidable c] {f g : Nat → Option α} {r : α} (h : c) (k : Ev f r) : Ev (fun n => if c then f n else g n) r := by
  simp only [if_pos h]; exact k
theorem neg {c : Prop} [Decidable c] {f g : Nat → Option α} {r : α} (h : ¬ c) (k : Ev g r) : Ev (fun n => if c then f n else g n) r := by
  simp only [if_neg h]; exact k
theorem bnd {g : Nat → Option α} {f : Nat → α → Option β} {a : α} {r : β} (h : Ev g a) (k : Ev (fun n => f n a) r) : Ev (fun n => (g n).bind (f n)) r := Ev.bind h k
theorem bnd0 {o : Option α} {f : Nat → α → Option β} {a : α} {r : β} (h : o = some a) (k : Ev (fun n => f n a) r) : Ev (fun n => o.bind (f n)) r := Ev.bind (Ev.const h) k
theorem uniq {g : Nat → Option α} {a b : α} (h : Ev g a) (k : Ev g b) : a = b := by
  obtain ⟨K, hK⟩ := h; obtain ⟨L, hL⟩ := k
  have := hK (max K L) (Nat.le_max_left _ _); rw [hL _ (Nat.le_max_right _ _)] at this
  exact (Option.some.inj this).symm
theorem eqn {g : Nat → Option α} {a b : α} (h : Ev g a) (e : a = b) : Ev g b := e ▸ h
end Ev
end Go.Proofs.YtkhmpaooinpfoaaW.PrintWords
namespace Go.Proofs.Ytkhmpaooinpfoaa.Ar
open Go.RowKit Go.Proofs.YtkhmpaooinpfoaaW.PrintWords Go.Proofs.YtkhmpaooinpfoaaW.PrintMore
set_option linter.unusedVariables false
set_option linter.unusedSimpArgs false
theorem i64_id {x : Int} (h0 : -9223372036854775808 ≤ x) (h1 : x ≤ 9223372036854775807) : IntKind.i64.wrap x = x := by rw [IntKind.wrap_i64]; omega
theorem z2g {x : Int} (h0 : -9223372036854775808 ≤ x) (h1 : x ≤ 9223372036854775807) : wrap64 x = x := by unfold wrap64; omega
theorem z1O {i L : Nat} (h : i < L) (hL : L ≤ 4611686018427387904) : wrap64 ((i : Int) + 1) = ((i + 1 : Nat) : Int) := by rw [z2g (by omega) (by omega)]; omega
theorem w64_add {i j : Nat} (h : i ≤ 2305843009213693952) (h' : j ≤ 2305843009213693952) : wrap64 ((i : Int) + (j : Int)) = ((i + j : Nat) : Int) := by rw [z2g (by omega) (by omega)]; omega
theorem w64_sub {i j : Nat} (h : j ≤ i) (h' : i ≤ 4611686018427387904) : wrap64 ((i : Int) - (j : Int)) = ((i - j : Nat) : Int) := by rw [z2g (by omega) (by omega)]; omega
theorem z2T {x : Int} (h0 : 0 ≤ x) (h1 : x < 18446744073709551616) : IntKind.u64.wrap x = x := by
  simp [IntKind.wrap, IntKind.bits, IntKind.signed]; omega
theorem z3I (w : Nat) (h : w ≤ 62) : shl .i64 1 (w : Int) = ((2 ^ w : Nat) : Int) := by
  unfold shl
  have h64 : IntKind.i64.bits = 64 := rfl
  rw [h64, Int.toNat_natCast, Nat.min_eq_left (by omega), Int.one_mul]
  have hp : (2 : Nat) ^ w ≤ 2 ^ 62 := Nat.pow_le_pow_right (by decide) h
  have hc : ((2 : Int) ^ w) = ((2 ^ w : Nat) : Int) := by simp
  rw [hc]
  have h62 : (2 : Nat) ^ 62 = 4611686018427387904 := by decide
  generalize 2 ^ w = p at hp ⊢
  exact i64_id (by omega) (by omega)
theorem z33 (w : Nat) (h : w ≤ 63) : shl .u64 1 (w : Int) = ((2 ^ w : Nat) : Int) := by
  unfold shl
  have h64 : IntKind.u64.bits = 64 := rfl
  rw [h64, Int.toNat_natCast, Nat.min_eq_left (by omega), Int.one_mul]
  have hp : (2 : Nat) ^ w ≤ 2 ^ 63 := Nat.pow_le_pow_right (by decide) h
  have hc : ((2 : Int) ^ w) = ((2 ^ w : Nat) : Int) := by simp
  rw [hc]
  have h63 : (2 : Nat) ^ 63 = 9223372036854775808 := by decide
  generalize 2 ^ w = p at hp ⊢
  exact z2T (by omega) (by omega)
theorem z54 (a w : Nat) (h : w ≤ 64) : shr .u64 (a : Int) (w : Int) = ((a / 2 ^ w : Nat) : Int) := by
  unfold shr
  have h64 : IntKind.u64.bits = 64 := rfl
  rw [h64, Int.toNat_natCast, Nat.min_eq_left h]; simp
theorem shr_i64 (a w : Nat) (h : w ≤ 64) : shr .i64 (a : Int) (w : Int) = ((a / 2 ^ w : Nat) : Int) := by
  unfold shr
  have h64 : IntKind.i64.bits = 64 := rfl
  rw [h64, Int.toNat_natCast, Nat.min_eq_left h]; simp
theorem z4R (op : BinOp) (a b : Nat) (ha : a < 2 ^ 64) (hb : b < 2 ^ 64) :
    (op = .and → Go.bits op .u64 a b = ((a &&& b : Nat) : Int)) ∧ (op = .or → Go.bits op .u64 a b = ((a ||| b : Nat) : Int)) ∧ (op = .xor → Go.bits op .u64 a b = ((a ^^^ b : Nat) : Int)) := by
  have ha' : a % 2 ^ IntKind.u64.bits = a := Nat.mod_eq_of_lt ha
  have hb' : b % 2 ^ IntKind.u64.bits = b := Nat.mod_eq_of_lt hb
  refine ⟨?_, ?_, ?_⟩ <;> rintro rfl <;> simp only [Go.bits, BitVec.ofInt_natCast, BitVec.toNat_and, BitVec.toNat_or, BitVec.toNat_xor, BitVec.toNat_ofNat, ha', hb']
  · exact z2T (Int.natCast_nonneg _) (by have := Nat.and_lt_two_pow a hb; omega)
  · exact z2T (Int.natCast_nonneg _) (by have := Nat.or_lt_two_pow ha hb; omega)
  · exact z2T (Int.natCast_nonneg _) (by have := Nat.xor_lt_two_pow ha hb; omega)
theorem z2F (a b : Nat) (ha : a < 2 ^ 64) (hb : b < 2 ^ 64) : Go.bits .and .u64 a b = ((a &&& b : Nat) : Int) := (z4R .and a b ha hb).1 rfl
theorem z60 (a b : Nat) (ha : a < 2 ^ 64) (hb : b < 2 ^ 64) : Go.bits .or .u64 a b = ((a ||| b : Nat) : Int) := (z4R .or a b ha hb).2.1 rfl
theorem z2b (a b : Nat) (ha : a < 2 ^ 64) (hb : b < 2 ^ 64) : Go.bits .xor .u64 a b = ((a ^^^ b : Nat) : Int) := (z4R .xor a b ha hb).2.2 rfl
theorem z5d (x w : Nat) (hx : x < 2 ^ 63) (hw : w ≤ 62) : Go.bits .and .i64 (x : Int) (((2 ^ w : Nat) : Int) - 1) = ((x % 2 ^ w : Nat) : Int) := by
  have := Go.bits_mask .i64 63 (by decide) (fun n h0 h1 => i64_id (by omega) (by omega)) w (by omega) (x : Int) (by omega) (by exact_mod_cast hx)
  have hc : (((2 ^ w : Nat) : Int) - 1) = 2 ^ w - 1 := by simp
  rw [hc, this]; simp
theorem two_pow_le {w : Nat} (h : w ≤ 6) : 2 ^ w ≤ 64 := Nat.pow_le_pow_right (n := 2) (by decide) h
theorem wf_i64 {x : Int} (h : (Lit.int .i64 x).wf = true) : -9223372036854775808 ≤ x ∧ x ≤ 9223372036854775807 := by
  simp only [Lit.wf, IntKind.min, IntKind.max, IntKind.signed, IntKind.bits, Bool.and_eq_true, decide_eq_true_eq] at h; simp at h; omega
theorem wf_u64 {x : Int} (h : (Lit.int .u64 x).wf = true) : 0 ≤ x ∧ x < 18446744073709551616 := by
  simp only [Lit.wf, IntKind.min, IntKind.max, IntKind.signed, IntKind.bits, Bool.and_eq_true, decide_eq_true_eq] at h; simp at h; omega
theorem z77 {α : Type} (d : α) (l : List α) (i : Nat) : rdOf d l (i : Int) = l.getD i d := by unfold rdOf; rw [Int.toNat_natCast]
end Go.Proofs.Ytkhmpaooinpfoaa.Ar
/- The tower of fields of characteristic two, as pairs of pairs of bits: its laws. Own text; nothing of the program in it. -/
namespace Go.Proofs.Ytkhmpaooinpfoaa.Tw
set_option linter.unusedVariables false
set_option linter.unusedSimpArgs false

/-- Level n: a bit, or two halves: the higher one and the lower one. -/
def T : Nat → Type
  | 0 => Bool
  | n + 1 => T n × T n
def zero : (n : Nat) → T n
  | 0 => false
  | n + 1 => (zero n, zero n)
def one : (n : Nat) → T n
  | 0 => true
  | n + 1 => (zero n, one n)
/-- The generator. -/
def gen : (n : Nat) → T n
  | 0 => true
  | n + 1 => (one n, zero n)
def add : {n : Nat} → T n → T n → T n
  | 0, a, b => Bool.xor a b
  | _ + 1, a, b => (add a.1 b.1, add a.2 b.2)
def mul : {n : Nat} → T n → T n → T n
  | 0, a, b => Bool.and a b
  | n + 1, a, b => (add (add (mul a.1 b.2) (mul a.2 b.1)) (mul (gen n) (mul a.1 b.1)), add (mul a.2 b.2) (mul a.1 b.1))
instance {n : Nat} : Add (T n) := ⟨add⟩
instance {n : Nat} : Mul (T n) := ⟨mul⟩
instance {n : Nat} : Zero (T n) := ⟨zero n⟩
instance {n : Nat} : One (T n) := ⟨one n⟩
instance : {n : Nat} → DecidableEq (T n)
  | 0 => inferInstanceAs (DecidableEq Bool)
  | n + 1 => let _ : DecidableEq (T n) := instDecidableEqT; inferInstanceAs (DecidableEq (T n × T n))
theorem z44 {n : Nat} (a b : T (n + 1)) : (a + b).1 = a.1 + b.1 := rfl
theorem z4Q {n : Nat} (a b : T (n + 1)) : (a + b).2 = a.2 + b.2 := rfl
theorem z2m {n : Nat} (a b : T (n + 1)) : (a * b).1 = (a.1 * b.2 + a.2 * b.1) + gen n * (a.1 * b.1) := rfl
theorem z2n {n : Nat} (a b : T (n + 1)) : (a * b).2 = a.2 * b.2 + a.1 * b.1 := rfl
theorem z3Z {n : Nat} : (0 : T (n + 1)).1 = 0 := rfl
theorem z41 {n : Nat} : (0 : T (n + 1)).2 = 0 := rfl
theorem z4Z {n : Nat} : (1 : T (n + 1)).1 = 0 := rfl
theorem z50 {n : Nat} : (1 : T (n + 1)).2 = 1 := rfl
theorem z2Y {n : Nat} : (gen (n + 1)).1 = 1 := rfl
theorem z2Z {n : Nat} : (gen (n + 1)).2 = 0 := rfl
theorem z5T : gen 0 = 1 := rfl
/-- The element of two halves. -/
def mk {n : Nat} (a b : T n) : T (n + 1) := (a, b)
theorem z2B {n : Nat} (a b : T n) : (mk a b).1 = a := rfl
theorem z2J {n : Nat} (a b : T n) : (mk a b).2 = b := rfl
theorem ext {n : Nat} {a b : T (n + 1)} (h1 : a.1 = b.1) (h2 : a.2 = b.2) : a = b := Prod.ext h1 h2

theorem add_comm : {n : Nat} → (a b : T n) → a + b = b + a
  | 0, a, b => Bool.xor_comm a b
  | n + 1, a, b => ext (add_comm a.1 b.1) (add_comm a.2 b.2)
theorem add_assoc : {n : Nat} → (a b c : T n) → a + b + c = a + (b + c)
  | 0, a, b, c => Bool.xor_assoc a b c
  | n + 1, a, b, c => ext (add_assoc a.1 b.1 c.1) (add_assoc a.2 b.2 c.2)
theorem zero_add : {n : Nat} → (a : T n) → 0 + a = a
  | 0, a => Bool.false_xor a
  | n + 1, a => ext (zero_add a.1) (zero_add a.2)
theorem z2q : {n : Nat} → (a : T n) → a + a = 0
  | 0, a => Bool.xor_self a
  | n + 1, a => ext (z2q a.1) (z2q a.2)
theorem add_zero {n : Nat} (a : T n) : a + 0 = a := by rw [add_comm, zero_add]
theorem z2c {n : Nat} (a b c : T n) : a + (b + c) = b + (a + c) := by rw [← add_assoc, add_comm a b, add_assoc]
theorem z5c {n : Nat} (a b : T n) : a + (a + b) = b := by rw [← add_assoc, z2q, zero_add]
theorem z6x {n : Nat} {a b c : T n} (h : a + b = a + c) : b = c := by
  have := congrArg (a + ·) h
  simpa only [z5c] using this
theorem add_eq_zero {n : Nat} {a b : T n} (h : a + b = 0) : a = b := by
  have := congrArg (· + b) h
  simp only [add_assoc, z2q, add_zero, zero_add] at this
  exact this
theorem eq_add_of {n : Nat} {a b c : T n} (h : a + b = c) : a = c + b := by rw [← h, add_assoc, z2q, add_zero]

/-- The laws of products, all at once. -/
structure Laws (n : Nat) : Prop where
  comm : ∀ a b : T n, a * b = b * a
  zero_mul : ∀ a : T n, 0 * a = 0
  one_mul : ∀ a : T n, 1 * a = a
  mul_add : ∀ a b c : T n, a * (b + c) = a * b + a * c
  assoc : ∀ a b c : T n, a * b * c = a * (b * c)
theorem laws : (n : Nat) → Laws n
  | 0 => ⟨Bool.and_comm, Bool.false_and, Bool.true_and, by intro a b c; cases a <;> cases b <;> cases c <;> rfl, Bool.and_assoc⟩
  | n + 1 => by
    obtain ⟨comm, zmul, omul, madd, massoc⟩ := laws n
    have addm : ∀ a b c : T n, (a + b) * c = a * c + b * c := fun a b c => by rw [comm, madd, comm c a, comm c b]
    have mulz : ∀ a : T n, a * 0 = 0 := fun a => by rw [comm, zmul]
    have mulo : ∀ a : T n, a * 1 = a := fun a => by rw [comm, omul]
    have lcomm : ∀ a b c : T n, a * (b * c) = b * (a * c) := fun a b c => by rw [← massoc, comm a b, massoc]
    refine ⟨fun a b => ext ?_ ?_, fun a => ext ?_ ?_, fun a => ext ?_ ?_, fun a b c => ext ?_ ?_, fun a b c => ext ?_ ?_⟩
    · simp only [z2m]; rw [comm a.1 b.2, comm a.2 b.1, comm a.1 b.1, add_comm (b.2 * a.1)]
    · simp only [z2n]; rw [comm a.2 b.2, comm a.1 b.1]
    · simp only [z2m, z3Z, z41, zmul, mulz, add_zero]
    · simp only [z2n, z3Z, z41, zmul, mulz, add_zero]
    · simp only [z2m, z4Z, z50, zmul, mulz, omul, add_zero, zero_add]
    · simp only [z2n, z4Z, z50, zmul, mulz, omul, add_zero, zero_add]
    · simp only [z2m, z44, z4Q, madd, addm, add_assoc, z2c, add_comm]
    · simp only [z2n, z44, z4Q, madd, addm, add_assoc, z2c, add_comm]
    · simp only [z2m, z2n, madd, addm, massoc, lcomm, comm, add_assoc, z2c, add_comm]
    · simp only [z2m, z2n, madd, addm, massoc, lcomm, comm, add_assoc, z2c, add_comm]
section
variable {n : Nat} (a b c d : T n)
theorem mul_comm : a * b = b * a := (laws n).comm a b
theorem mul_assoc : a * b * c = a * (b * c) := (laws n).assoc a b c
theorem mul_left_comm : a * (b * c) = b * (a * c) := by rw [← mul_assoc, mul_comm a b, mul_assoc]
theorem zero_mul : 0 * a = 0 := (laws n).zero_mul a
theorem z2C : a * 0 = 0 := by rw [mul_comm, zero_mul]
theorem one_mul : 1 * a = a := (laws n).one_mul a
theorem mul_one : a * 1 = a := by rw [mul_comm, one_mul]
theorem mul_add : a * (b + c) = a * b + a * c := (laws n).mul_add a b c
theorem add_mul : (a + b) * c = a * c + b * c := by rw [mul_comm, mul_add, mul_comm c a, mul_comm c b]
theorem add_sq : (a + b) * (a + b) = a * a + b * b := by
  rw [mul_add, add_mul, add_mul, mul_comm b a, add_assoc, ← add_assoc (a * b), z2q, zero_add]
end
end Go.Proofs.Ytkhmpaooinpfoaa.Tw
/- Elements of the tower as numbers: bits of the lower half first. Own text; nothing of the program in it. -/
namespace Go.Proofs.Ytkhmpaooinpfoaa.Tw
set_option linter.unusedVariables false
set_option linter.unusedSimpArgs false
/-- How many words of bits an element of a level is: 2 to the power 2^n. -/
def Q (n : Nat) : Nat := 2 ^ 2 ^ n
theorem z2G (n : Nat) : 0 < Q n := Nat.two_pow_pos _
theorem z2V (n : Nat) : Q (n + 1) = Q n * Q n := by unfold Q; rw [← Nat.pow_add, Nat.pow_succ 2 n, Nat.mul_two]
theorem z6v (n : Nat) : Q n ≤ Q (n + 1) := by rw [z2V]; exact Nat.le_mul_of_pos_left _ (z2G n)
theorem z3l {m n : Nat} (h : m ≤ n) : Q m ≤ Q n := Nat.pow_le_pow_right (by decide) (Nat.pow_le_pow_right (by decide) h)
theorem z6c : Q 6 = 2 ^ 64 := rfl
theorem z5y : Q 7 = 2 ^ 128 := rfl
def val : {n : Nat} → T n → Nat
  | 0, a => Bool.toNat a
  | n + 1, a => val a.1 * Q n + val a.2
def of : (n : Nat) → Nat → T n
  | 0, x => x % 2 == 1
  | n + 1, x => mk (of n (x / Q n)) (of n (x % Q n))
theorem val_zero_lvl (a : T 0) : val a = Bool.toNat a := rfl
theorem z1Y {n : Nat} (a : T (n + 1)) : val a = val a.1 * Q n + val a.2 := rfl
theorem z2o (n x : Nat) : of (n + 1) x = mk (of n (x / Q n)) (of n (x % Q n)) := rfl
theorem z1B : {n : Nat} → (a : T n) → val a < Q n
  | 0, a => by cases a <;> decide
  | n + 1, a => by
    rw [z1Y, z2V]
    have h1 := z1B a.1
    have h2 := z1B a.2
    have h3 : val a.1 * Q n + Q n ≤ Q n * Q n := by
      have := Nat.mul_le_mul_right (Q n) h1
      rw [Nat.succ_mul] at this; exact this
    omega
theorem val_div {n : Nat} (a : T (n + 1)) : val a / Q n = val a.1 := by
  rw [z1Y, Nat.mul_comm, Nat.mul_add_div (z2G n), Nat.div_eq_of_lt (z1B a.2), Nat.add_zero]
theorem val_mod {n : Nat} (a : T (n + 1)) : val a % Q n = val a.2 := by
  rw [z1Y, Nat.mul_comm, Nat.mul_add_mod, Nat.mod_eq_of_lt (z1B a.2)]
theorem z28 : {n : Nat} → (a : T n) → of n (val a) = a
  | 0, a => by cases a <;> rfl
  | n + 1, a => by rw [z2o, val_div, val_mod, z28 a.1, z28 a.2]; rfl
theorem z2l : (n : Nat) → (x : Nat) → x < Q n → val (of n x) = x
  | 0, x, h => by
    have h' : x < 2 := h
    have : x = 0 ∨ x = 1 := by omega
    rcases this with rfl | rfl <;> rfl
  | n + 1, x, h => by
    rw [z2o, z1Y, z2B, z2J]
    rw [z2V] at h
    rw [z2l n _ (Nat.div_lt_of_lt_mul h), z2l n _ (Nat.mod_lt _ (z2G n)), Nat.mul_comm]
    exact Nat.div_add_mod x (Q n)
theorem z2Q {n : Nat} {a b : T n} (h : val a = val b) : a = b := by rw [← z28 a, h, z28]
theorem z1Q : (n : Nat) → val (0 : T n) = 0
  | 0 => rfl
  | n + 1 => by rw [z1Y, z3Z, z41, z1Q n, Nat.zero_mul]
theorem z2R : (n : Nat) → val (1 : T n) = 1
  | 0 => rfl
  | n + 1 => by rw [z1Y, z4Z, z50, z1Q n, z2R n, Nat.zero_mul]
theorem z31 (n : Nat) : of n 0 = 0 := by rw [← z1Q n, z28]
theorem of_one (n : Nat) : of n 1 = 1 := by rw [← z2R n, z28]
theorem val_eq_zero {n : Nat} {a : T n} : val a = 0 ↔ a = 0 := ⟨fun h => z2Q (h.trans (z1Q n).symm), fun h => by rw [h, z1Q]⟩
theorem z6a {n a b c d : Nat} (hb : b < Q n) (hd : d < Q n) : (a * Q n + b) ^^^ (c * Q n + d) = (a ^^^ c) * Q n + (b ^^^ d) := by
  have h1 : ((a * Q n + b) ^^^ (c * Q n + d)) / Q n = a ^^^ c := by
    unfold Q at *
    rw [Nat.xor_div_two_pow, Nat.mul_comm a, Nat.mul_comm c, Nat.mul_add_div (Nat.two_pow_pos _), Nat.mul_add_div (Nat.two_pow_pos _), Nat.div_eq_of_lt hb, Nat.div_eq_of_lt hd]; rfl
  have h2 : ((a * Q n + b) ^^^ (c * Q n + d)) % Q n = b ^^^ d := by
    unfold Q at *
    rw [Nat.xor_mod_two_pow, Nat.mul_comm a, Nat.mul_comm c, Nat.mul_add_mod, Nat.mul_add_mod, Nat.mod_eq_of_lt hb, Nat.mod_eq_of_lt hd]
  have := Nat.div_add_mod ((a * Q n + b) ^^^ (c * Q n + d)) (Q n)
  rw [h1, h2, Nat.mul_comm] at this
  exact this.symm
theorem z1W : {n : Nat} → (a b : T n) → val (a + b) = val a ^^^ val b
  | 0, a, b => by cases a <;> cases b <;> rfl
  | n + 1, a, b => by
    rw [z1Y, z1Y, z1Y, z44, z4Q, z1W a.1 b.1, z1W a.2 b.2, z6a (z1B _) (z1B _)]
theorem z2w {n x y : Nat} (hx : x < Q n) (hy : y < Q n) : x ^^^ y < Q n := Nat.xor_lt_two_pow hx hy
theorem z6W {n x y : Nat} (hx : x < Q n) (hy : y < Q n) : of n (x ^^^ y) = of n x + of n y :=
  z2Q (by rw [z2l _ _ (z2w hx hy), z1W, z2l _ _ hx, z2l _ _ hy])
/-- A number of a lower level: the higher half is 0. -/
theorem z5k {n x : Nat} (h : x < Q n) : of (n + 1) x = mk 0 (of n x) := by
  rw [z2o, Nat.div_eq_of_lt h, Nat.mod_eq_of_lt h, z31]
/-- One level up. -/
def up {n : Nat} (a : T n) : T (n + 1) := mk 0 a
theorem z3f {n : Nat} (a : T n) : (up a).1 = 0 := rfl
theorem z4L {n : Nat} (a : T n) : (up a).2 = a := rfl
theorem val_up {n : Nat} (a : T n) : val (up a) = val a := by rw [z1Y, z3f, z4L, z1Q, Nat.zero_mul, Nat.zero_add]
theorem up_add {n : Nat} (a b : T n) : up (a + b) = up a + up b := ext (by rw [z44, z3f, z3f, z3f, add_zero]) rfl
theorem up_mul {n : Nat} (a b : T n) : up (a * b) = up a * up b :=
  ext (by simp only [z2m, z3f, z4L, zero_mul, z2C, add_zero]) (by simp only [z2n, z3f, z4L, zero_mul, add_zero])
theorem z3J {n : Nat} (a : T n) (b : T (n + 1)) : up a * b = mk (a * b.1) (a * b.2) :=
  ext (by simp only [z2m, z3f, z4L, zero_mul, z2C, add_zero, zero_add, z2B]) (by simp only [z2n, z3f, z4L, zero_mul, add_zero, z2J])
theorem up_zero (n : Nat) : up (0 : T n) = 0 := rfl
theorem up_one (n : Nat) : up (1 : T n) = 1 := rfl
theorem up_inj {n : Nat} {a b : T n} (h : up a = up b) : a = b := congrArg (fun x : T (n + 1) => x.2) h
/-- Many levels up. -/
def ups {n : Nat} : (d : Nat) → T n → T (n + d)
  | 0, a => a
  | d + 1, a => up (ups d a)
theorem ups_add {n : Nat} (a b : T n) : (d : Nat) → ups d (a + b) = ups d a + ups d b
  | 0 => rfl
  | d + 1 => by show up (ups d (a + b)) = _; rw [ups_add a b d, up_add]; rfl
theorem z7f {n : Nat} (a b : T n) : (d : Nat) → ups d (a * b) = ups d a * ups d b
  | 0 => rfl
  | d + 1 => by show up (ups d (a * b)) = _; rw [z7f a b d, up_mul]; rfl
theorem z4n {n : Nat} (a : T n) : (d : Nat) → val (ups d a) = val a
  | 0 => rfl
  | d + 1 => by show val (up (ups d a)) = _; rw [val_up, z4n a d]
theorem ups_zero {n : Nat} (d : Nat) : ups d (0 : T n) = 0 := z2Q (by rw [z4n, z1Q, z1Q])
theorem ups_one {n : Nat} (d : Nat) : ups d (1 : T n) = 1 := z2Q (by rw [z4n, z2R, z2R])
theorem ups_of {n d x : Nat} (h : x < Q n) : ups d (of n x) = of (n + d) x := z2Q (by rw [z4n, z2l _ _ h, z2l _ _ (Nat.lt_of_lt_of_le h (z3l (Nat.le_add_right _ _)))])
/-- Products of numbers of a lower level are of it. -/
theorem z4m {n d x y : Nat} (hx : x < Q n) (hy : y < Q n) : val (of (n + d) x * of (n + d) y) = val (of n x * of n y) := by
  rw [← ups_of hx, ← ups_of hy, ← z7f, z4n]
theorem z3B {l m x y : Nat} (h : l ≤ m) (hx : x < Q l) (hy : y < Q l) : val (of m x * of m y) = val (of l x * of l y) := by
  obtain ⟨d, rfl⟩ := Nat.le.dest h
  exact z4m hx hy
theorem z6n {l m x y : Nat} (h : l ≤ m) (hx : x < Q l) (hy : y < Q l) : val (of m x * of m y) < Q l := by
  rw [z3B h hx hy]; exact z1B _
end Go.Proofs.Ytkhmpaooinpfoaa.Tw
/- What the functions of layers 1 and 2 on elements tell. Own text. -/
namespace Go.Proofs.Ytkhmpaooinpfoaa.Sp
open Go.RowKit Go.Proofs.YtkhmpaooinpfoaaW.PrintWords Go.Proofs.YtkhmpaooinpfoaaW.PrintMore Go.Proofs.Ytkhmpaooinpfoaa.P Go.Proofs.Ytkhmpaooinpfoaa.Ar Go.Proofs.Ytkhmpaooinpfoaa.Tw
set_option linter.unusedVariables false
set_option linter.unusedSimpArgs false
theorem z42 {n : Nat} (h : n ≤ 6) : Q n ≤ 2 ^ 64 := z3l h
theorem Q_dvd {n : Nat} : Q n = 2 ^ 2 ^ n := rfl
theorem z2j {n : Nat} (h : n ≤ 5) : 2 ^ n ≤ 32 := Nat.pow_le_pow_right (n := 2) (by decide) h
theorem z3Y {l : Nat} (h : l + 1 ≤ 1000) : wrap64 (((l + 1 : Nat) : Int) - 1) = (l : Int) := by rw [z2g (by omega) (by omega)]; omega
theorem z4N {n : Nat} (h : n ≤ 5) : Q n < 2 ^ 64 := Nat.pow_lt_pow_right (by decide) (by have := z2j h; omega)
theorem z48 {l : Nat} (hl : l ≤ 5) (x : Nat) (hx : x < 2 ^ 64) : z1F.f ((l + 1 : Nat) : Int) (x : Int) = some (((x / Q l : Nat) : Int), ((x % Q l : Nat) : Int)) := by
  unfold z1F.f
  have h32 := z2j hl
  have hQ := z4N hl
  have hm : IntKind.u64.wrap (((2 ^ 2 ^ l : Nat) : Int) - 1) = ((2 ^ 2 ^ l - 1 : Nat) : Int) := by
    have := Nat.two_pow_pos (2 ^ l)
    unfold Q at hQ
    generalize 2 ^ 2 ^ l = q at *
    rw [z2T (by omega) (by omega)]; omega
  rw [z3Y (by omega), if_pos (Int.natCast_nonneg _), z3I l (by omega), if_pos (Int.natCast_nonneg _), z54 x (2 ^ l) (by omega), z33 (2 ^ l) (by omega), hm]
  rw [z2F x _ hx (by have := Nat.two_pow_pos (2 ^ l); unfold Q at hQ; omega), Nat.and_two_pow_sub_one_eq_mod]
  rfl
theorem z6O {l : Nat} (hl : l ≤ 5) (h x : Nat) (hh : h < Q l) (hx : x < Q l) : z1G.f ((l + 1 : Nat) : Int) (h : Int) (x : Int) = some ((h * Q l + x : Nat) : Int) := by
  unfold z1G.f
  have h32 := z2j hl
  have hQ := z4N hl
  have h6 : Q (l + 1) ≤ 2 ^ 64 := z42 (by omega)
  have hhx : h * Q l + Q l ≤ Q (l + 1) := by
    rw [z2V]
    have := Nat.mul_le_mul_right (Q l) hh
    rw [Nat.succ_mul] at this; exact this
  have hs : shl .u64 (h : Int) (((2 ^ l : Nat) : Int)) = ((h * Q l : Nat) : Int) := by
    unfold shl
    have h64 : IntKind.u64.bits = 64 := rfl
    rw [h64, Int.toNat_natCast, Nat.min_eq_left (by omega)]
    have hc : ((h : Int) * 2 ^ 2 ^ l) = ((h * Q l : Nat) : Int) := by unfold Q; simp
    rw [hc]
    have : h * Q l < 2 ^ 64 := by omega
    generalize h * Q l = z at *
    exact z2T (by omega) (by omega)
  rw [z3Y (by omega), if_pos (by omega), z33 l (by omega), hs, z60 _ _ (by omega) (by omega)]
  congr 2
  unfold Q at *
  rw [Nat.mul_comm, ← Nat.two_pow_add_eq_or_of_lt hx]
theorem z6U : ∀ (l : Nat), l ≤ 6 → ∀ (x : Nat), x < Q l → Ev (fun k => z10.f k (l : Int) (x : Int)) ((val (gen l * of l x) : Nat) : Int) := by
  intro l
  induction l with
  | zero =>
    intro _ x hx
    refine Ev.step (fun k => by rw [z10.f]) (Ev.pos (by rfl) (Ev.ret' ?_))
    rw [z5T, one_mul, z2l 0 x hx]
  | succ l ih =>
    intro hl x hx
    have hx64 : x < 2 ^ 64 := Nat.lt_of_lt_of_le hx (z42 hl)
    have hd : x / Q l < Q l := Nat.div_lt_of_lt_mul (by rw [← z2V]; exact hx)
    have hm : x % Q l < Q l := Nat.mod_lt _ (z2G l)
    have hQ := z4N (n := l) (by omega)
    refine Ev.step (fun k => by rw [z10.f]) (Ev.neg (by omega) (Ev.bnd0 (z48 (by omega) x hx64) ?_))
    simp only [z3Y (show l + 1 ≤ 1000 by omega)]
    refine Ev.bnd (ih (by omega) _ hd) ?_
    have hv := z1B (gen l * of l (x / Q l))
    simp only [z2b _ _ (Nat.lt_trans hm hQ) (Nat.lt_trans hv hQ)]
    refine Ev.bnd0 (z6O (by omega) _ _ (z2w hm hv) hd) (Ev.ret' ?_)
    congr 1
    rw [z1Y (gen (l + 1) * of (l + 1) x)]
    congr 1
    · congr 1
      have e : (gen (l + 1) * of (l + 1) x).1 = of l (x % Q l) + gen l * of l (x / Q l) := by
        rw [z2m, z2Y, z2Z, one_mul, zero_mul, one_mul, add_zero]; rfl
      rw [e, z1W, z2l _ _ hm]
    · have e : (gen (l + 1) * of (l + 1) x).2 = of l (x / Q l) := by
        rw [z2n, z2Y, z2Z, one_mul, zero_mul, zero_add]; rfl
      rw [e, z2l _ _ hd]
theorem karatsuba {n : Nat} (a1 a0 b1 b0 z : T n) : (a1 + a0) * (b1 + b0) + a1 * b1 + a0 * b0 + z = (a1 * b0 + a0 * b1) + z := by
  have : (a1 + a0) * (b1 + b0) + a1 * b1 + a0 * b0 = a1 * b0 + a0 * b1 := by
    simp only [mul_add, add_mul]
    have : ∀ p q r s : T n, p + q + (r + s) + p + s = q + r := fun p q r s => by
      rw [add_comm p q, add_assoc, add_assoc, add_assoc]
      rw [show p + (r + s + (p + s)) = (p + p) + (r + (s + s)) by simp only [add_assoc, z2c, add_comm]]
      rw [z2q, z2q, zero_add, add_zero]
    rw [show a1 * b1 + a0 * b1 + (a1 * b0 + a0 * b0) = a1 * b1 + a0 * b1 + (a1 * b0 + a0 * b0) from rfl, this, add_comm]
  rw [this]
theorem z5Y : ∀ (l : Nat), l ≤ 6 → ∀ (x y : Nat), x < Q l → y < Q l → Ev (fun k => zG.f k (l : Int) (x : Int) (y : Int)) ((val (of l x * of l y) : Nat) : Int) := by
  intro l
  have hz : ∀ (l : Nat), l ≤ 6 → ∀ (x y : Nat), x < Q l → y < Q l → (l = 0 ∨ x = 0 ∨ y = 0) → Ev (fun k => zG.j0 k (l : Int) (x : Int) (y : Int) true) ((val (of l x * of l y) : Nat) : Int) := by
    intro l hl x y hx hy h
    have hQ := z42 hl
    refine Ev.step (fun k => by rw [zG.j0]) (Ev.pos rfl (Ev.ret' ?_))
    rw [z2F x y (by omega) (by omega)]
    have hxy : x &&& y < 2 ^ 64 := Nat.and_lt_two_pow _ (by omega)
    rw [show (1 : Int) = ((1 : Nat) : Int) from rfl, z2F _ 1 hxy (by decide)]
    congr 1
    rcases h with rfl | rfl | rfl
    · have h1 : x < 2 := hx
      have h2 : y < 2 := hy
      rcases (by omega : x = 0 ∨ x = 1) with rfl | rfl <;> rcases (by omega : y = 0 ∨ y = 1) with rfl | rfl <;> rfl
    · rw [z31, zero_mul, z1Q]; simp
    · rw [z31, z2C, z1Q]; simp
  induction l with
  | zero =>
    intro hl x y hx hy
    exact Ev.step (fun k => by rw [zG.f]) (Ev.pos (by rfl) (hz 0 hl x y hx hy (Or.inl rfl)))
  | succ l ih =>
    intro hl x y hx hy
    refine Ev.step (fun k => by rw [zG.f]) (Ev.neg (by omega) ?_)
    by_cases hx0 : x = 0
    · exact Ev.pos (by omega) (hz (l + 1) hl x y hx hy (Or.inr (Or.inl hx0)))
    refine Ev.neg (by omega) ?_
    by_cases hy0 : y = 0
    · rw [show ((y : Int) == 0) = true by simp [hy0]]
      exact hz (l + 1) hl x y hx hy (Or.inr (Or.inr hy0))
    rw [show ((y : Int) == 0) = false by simp [hy0]]
    have hQ := z4N (n := l) (by omega)
    have hx64 : x < 2 ^ 64 := Nat.lt_of_lt_of_le hx (z42 hl)
    have hy64 : y < 2 ^ 64 := Nat.lt_of_lt_of_le hy (z42 hl)
    have hxd : x / Q l < Q l := Nat.div_lt_of_lt_mul (by rw [← z2V]; exact hx)
    have hxm : x % Q l < Q l := Nat.mod_lt _ (z2G l)
    have hyd : y / Q l < Q l := Nat.div_lt_of_lt_mul (by rw [← z2V]; exact hy)
    have hym : y % Q l < Q l := Nat.mod_lt _ (z2G l)
    have hl5 : l ≤ 5 := by omega
    refine Ev.step (fun k => by rw [zG.j0]) (Ev.neg (by decide) (Ev.bnd0 (z48 hl5 x hx64) (Ev.bnd0 (z48 hl5 y hy64) ?_)))
    simp only [z3Y (show l + 1 ≤ 1000 by omega)]
    refine Ev.bnd (ih (by omega) _ _ hxd hyd) (Ev.bnd (ih (by omega) _ _ hxm hym) ?_)
    simp only [z2b _ _ (Nat.lt_trans hxd hQ) (Nat.lt_trans hxm hQ), z2b _ _ (Nat.lt_trans hyd hQ) (Nat.lt_trans hym hQ)]
    refine Ev.bnd (ih (by omega) _ _ (z2w hxd hxm) (z2w hyd hym)) ?_
    have v1 := z1B (of l (x / Q l) * of l (y / Q l))
    have v2 := z1B (of l (x % Q l) * of l (y % Q l))
    have v3 := z1B (of l (x / Q l ^^^ x % Q l) * of l (y / Q l ^^^ y % Q l))
    refine Ev.bnd (z6U l (by omega) _ v1) ?_
    have v4 := z1B (gen l * of l (val (of l (x / Q l) * of l (y / Q l))))
    simp only [z2b _ _ (Nat.lt_trans v3 hQ) (Nat.lt_trans v1 hQ), z2b _ _ (Nat.lt_trans (z2w v3 v1) hQ) (Nat.lt_trans v2 hQ), z2b _ _ (Nat.lt_trans (z2w (z2w v3 v1) v2) hQ) (Nat.lt_trans v4 hQ), z2b _ _ (Nat.lt_trans v2 hQ) (Nat.lt_trans v1 hQ)]
    refine Ev.bnd0 (z6O (by omega) _ _ (z2w (z2w (z2w v3 v1) v2) v4) (z2w v2 v1)) (Ev.ret' ?_)
    congr 1
    rw [z1Y (of (l + 1) x * of (l + 1) y)]
    congr 1
    · congr 1
      rw [z2m, z2o, z2o, z2B, z2J, z2B, z2J, ← karatsuba, z1W, z1W, z1W, z6W hxd hxm, z6W hyd hym, z28]
    · rw [z2n, z2o, z2o, z2B, z2J, z2B, z2J, z1W]
end Go.Proofs.Ytkhmpaooinpfoaa.Sp
/- Elements of the greatest level, as the program and the document hold them: two words. Own text. -/
namespace Go.Proofs.Ytkhmpaooinpfoaa.Sp
open Go.RowKit Go.Proofs.YtkhmpaooinpfoaaW.PrintWords Go.Proofs.YtkhmpaooinpfoaaW.PrintMore Go.Proofs.Ytkhmpaooinpfoaa.P Go.Proofs.Ytkhmpaooinpfoaa.Ar Go.Proofs.Ytkhmpaooinpfoaa.Tw
set_option linter.unusedVariables false
set_option linter.unusedSimpArgs false
abbrev E := T 7
/-- The higher and the lower word. -/
def hi (x : E) : Int := ((val x.1 : Nat) : Int)
def lo (x : E) : Int := ((val x.2 : Nat) : Int)
def el (h l : Int) : E := mk (of 6 h.toNat) (of 6 l.toNat)
theorem hi_el {h l : Int} (h0 : 0 ≤ h) (h1 : h < 18446744073709551616) : hi (el h l) = h := by
  unfold hi el; rw [z2B, z2l 6 _ (by rw [z6c]; omega)]; omega
theorem lo_el {h l : Int} (h0 : 0 ≤ l) (h1 : l < 18446744073709551616) : lo (el h l) = l := by
  unfold lo el; rw [z2J, z2l 6 _ (by rw [z6c]; omega)]; omega
theorem z5U {x y : E} (h : hi x = hi y) (l : lo x = lo y) : x = y := by
  unfold hi lo at *; exact ext (z2Q (by omega)) (z2Q (by omega))
theorem z2u : hi 0 = 0 := by unfold hi; rw [z3Z, z1Q]; rfl
theorem z2v : lo 0 = 0 := by unfold lo; rw [z41, z1Q]; rfl
theorem hi_one : hi 1 = 0 := by unfold hi; rw [z4Z, z1Q]; rfl
theorem lo_one : lo 1 = 1 := by unfold lo; rw [z50, z2R]; rfl
theorem hi_bd (x : E) : 0 ≤ hi x ∧ hi x < 18446744073709551616 := by
  unfold hi; have := z1B x.1; rw [z6c] at this; omega
theorem z6i (x : E) : 0 ≤ lo x ∧ lo x < 18446744073709551616 := by
  unfold lo; have := z1B x.2; rw [z6c] at this; omega
theorem z4l (x : E) : val x = (hi x).toNat * 18446744073709551616 + (lo x).toNat := by
  unfold hi lo; rw [z1Y, z6c]; simp
theorem eq_zero_iff (x : E) : x = 0 ↔ hi x = 0 ∧ lo x = 0 := ⟨fun h => by rw [h]; exact ⟨z2u, z2v⟩, fun h => z5U (h.1.trans z2u.symm) (h.2.trans z2v.symm)⟩
theorem xor_hi (x y : E) : Go.bits .xor .u64 (hi x) (hi y) = hi (x + y) := by
  unfold hi; rw [z2b _ _ (z1B x.1) (z1B y.1), z44, z1W]
theorem xor_lo (x y : E) : Go.bits .xor .u64 (lo x) (lo y) = lo (x + y) := by
  unfold lo; rw [z2b _ _ (z1B x.2) (z1B y.2), z4Q, z1W]
/-- Of a level. -/
def InL (l : Nat) (x : E) : Prop := val x < Q l
instance (l : Nat) (x : E) : Decidable (InL l x) := by unfold InL; infer_instance
def OfS (L : Int) (x : E) : Prop := 0 ≤ L ∧ L ≤ 7 ∧ InL L.toNat x
instance (L : Int) (x : E) : Decidable (OfS L x) := by unfold OfS; infer_instance
theorem z6M (x : E) : InL 7 x := z1B x
theorem z4V (l : Nat) : InL l 0 := by unfold InL; rw [z1Q]; exact z2G l
theorem z6L (l : Nat) : InL l 1 := by unfold InL; rw [z2R]; exact Nat.lt_of_lt_of_le (by decide : 1 < Q 0) (z3l (Nat.zero_le _))
theorem inL_mono {l m : Nat} (h : l ≤ m) {x : E} (hx : InL l x) : InL m x := Nat.lt_of_lt_of_le hx (z3l h)
theorem z4T {l : Nat} {x y : E} (hx : InL l x) (hy : InL l y) : InL l (x + y) := by
  unfold InL at *; rw [z1W]; exact z2w hx hy
theorem z49 {l : Nat} (hl : l ≤ 7) {x y : E} (hx : InL l x) (hy : InL l y) : InL l (x * y) := by
  unfold InL at *; have := z6n hl hx hy; rwa [z28, z28] at this
theorem z6N {x : E} : InL 6 x ↔ hi x = 0 := by
  unfold InL; have h := z4l x; have h1 := hi_bd x; have h2 := z6i x
  rw [z6c, h]; constructor <;> intro g <;> omega
theorem z4U {l : Nat} (hl : l ≤ 6) {x : E} : InL l x ↔ hi x = 0 ∧ (lo x).toNat < Q l := by
  constructor
  · intro h
    have h6 := z6N.1 (inL_mono hl h)
    refine ⟨h6, ?_⟩
    unfold InL at h; rw [z4l, h6] at h; simpa using h
  · rintro ⟨h1, h2⟩
    unfold InL; rw [z4l, h1]; simpa using h2
theorem z4b (L : Int) (x : E) : Ev (fun k => zF.f k L (hi x) (lo x)) (decide (OfS L x)) := by
  unfold zF.f
  by_cases h0 : L < 0
  · refine Ev.pos h0 (Ev.step (fun k => by rw [zF.j0]) (Ev.pos rfl (Ev.ret' ?_)))
    symm; rw [decide_eq_false_iff_not]; rintro ⟨h, _⟩; omega
  refine Ev.neg h0 ?_
  by_cases h7 : L > 7
  · rw [decide_eq_true h7]
    refine Ev.step (fun k => by rw [zF.j0]) (Ev.pos rfl (Ev.ret' ?_))
    symm; rw [decide_eq_false_iff_not]; rintro ⟨_, h, _⟩; omega
  rw [decide_eq_false h7]
  refine Ev.step (fun k => by rw [zF.j0]) (Ev.neg (by decide) ?_)
  obtain ⟨l, rfl⟩ := Int.eq_ofNat_of_zero_le (show 0 ≤ L by omega)
  have hS : OfS (l : Int) x ↔ InL l x := by
    unfold OfS; rw [Int.toNat_natCast]; exact ⟨fun h => h.2.2, fun h => ⟨by omega, by omega, h⟩⟩
  by_cases c7 : (l : Int) = 7
  · refine Ev.pos c7 (Ev.ret' ?_)
    have : l = 7 := by omega
    subst this
    symm; rw [decide_eq_true_eq, hS]; exact z6M x
  refine Ev.neg c7 ?_
  by_cases c6 : (l : Int) = 6
  · refine Ev.pos c6 (Ev.ret' ?_)
    have : l = 6 := by omega
    subst this
    rw [Bool.eq_iff_iff, beq_iff_eq, decide_eq_true_eq, hS]; exact z6N.symm
  refine Ev.neg c6 ?_
  have hl5 : l ≤ 5 := by omega
  have hl := z4U (l := l) (by omega) (x := x)
  by_cases c0 : hi x = 0
  · refine Ev.pos c0 (Ev.pos (Int.natCast_nonneg _) (Ev.ret' ?_))
    have h32 := z2j hl5
    have hlo : lo x = (((lo x).toNat : Nat) : Int) := by have := z6i x; omega
    rw [z33 l (by omega), hlo, z54 _ (2 ^ l) (by omega)]
    rw [Bool.eq_iff_iff, beq_iff_eq, decide_eq_true_eq, hS, hl]
    have hq : (lo x).toNat / 2 ^ 2 ^ l = 0 ↔ (lo x).toNat < Q l := by
      rw [Nat.div_eq_zero_iff]; unfold Q
      have := Nat.two_pow_pos (2 ^ l)
      omega
    constructor
    · intro h; exact ⟨c0, hq.1 (by exact_mod_cast h)⟩
    · rintro ⟨_, h⟩; exact_mod_cast hq.2 h
  · refine Ev.neg c0 (Ev.ret' ?_)
    symm; rw [decide_eq_false_iff_not, hS, hl]; exact fun h => c0 h.1
theorem z5N (x y : E) : z1t.f (hi x) (lo x) (hi y) (lo y) = some (hi (x + y), lo (x + y)) := by
  unfold z1t.f; rw [xor_hi, xor_lo]
theorem z32 (x y : E) : z16.f (hi x) (lo x) (hi y) (lo y) = some (hi (x + y), lo (x + y)) := by
  unfold z16.f; rw [xor_hi, xor_lo]
theorem z6u : z24.f = some (hi 1, lo 1) := by unfold z24.f; rw [hi_one, lo_one]
theorem Mul_out {L : Int} {x y : E} (h : ¬ (OfS L x ∧ OfS L y)) : Ev (fun k => zO.f k L (hi x) (lo x) (hi y) (lo y)) (0, 0) := by
  unfold zO.f
  refine Ev.bnd (z4b L x) ?_
  by_cases c : OfS L x
  · refine Ev.pos (decide_eq_true c) (Ev.bnd (z4b L y) ?_)
    rw [decide_eq_false (fun g => h ⟨c, g⟩)]
    exact Ev.step (fun k => by rw [zO.j0]) (Ev.pos (by rfl) (Ev.ret _))
  · exact Ev.neg (by simpa using c) (Ev.step (fun k => by rw [zO.j0]) (Ev.pos rfl (Ev.ret _)))
theorem z5P {l : Nat} (hl : l ≤ 7) {x y : E} (hx : InL l x) (hy : InL l y) : Ev (fun k => zO.f k (l : Int) (hi x) (lo x) (hi y) (lo y)) (hi (x * y), lo (x * y)) := by
  unfold zO.f
  have hS : ∀ z, InL l z → OfS (l : Int) z := fun z hz => ⟨by omega, by omega, by rw [Int.toNat_natCast]; exact hz⟩
  refine Ev.bnd (z4b (l : Int) x) (Ev.pos (decide_eq_true (hS x hx)) (Ev.bnd (z4b (l : Int) y) ?_))
  rw [decide_eq_true (hS y hy)]
  refine Ev.step (fun k => by rw [zO.j0]) (Ev.neg (by decide) ?_)
  by_cases c : l ≤ 6
  · refine Ev.pos (by omega) ?_
    have ex := (z4U c).1 hx
    have ey := (z4U c).1 hy
    have e1 : lo x = (((lo x).toNat : Nat) : Int) := by have := z6i x; omega
    have e2 : lo y = (((lo y).toNat : Nat) : Int) := by have := z6i y; omega
    have ev := z5Y l c (lo x).toNat (lo y).toNat ex.2 ey.2
    rw [← e1, ← e2] at ev
    refine Ev.bnd ev (Ev.ret' ?_)
    have hz := (z4U c).1 (z49 hl hx hy)
    have e3 : lo (x * y) = (((lo (x * y)).toNat : Nat) : Int) := by have := z6i (x * y); omega
    rw [hz.1, e3]
    congr 2
    have vx : val x = (lo x).toNat := by rw [z4l, ex.1]; simp
    have vy : val y = (lo y).toNat := by rw [z4l, ey.1]; simp
    have vz : val (x * y) = (lo (x * y)).toNat := by rw [z4l, hz.1]; simp
    rw [← vz, ← vx, ← vy, ← z3B hl hx hy, z28, z28]
  · have : l = 7 := by omega
    subst this
    refine Ev.neg (by decide) ?_
    have v1 := z1B x.1
    have v2 := z1B x.2
    have v3 := z1B y.1
    have v4 := z1B y.2
    have m1 := z5Y 6 (by decide) _ _ v1 v3
    have m2 := z5Y 6 (by decide) _ _ v2 v4
    have m3 := z5Y 6 (by decide) _ _ (z2w v1 v2) (z2w v3 v4)
    rw [z28, z28] at m1 m2
    rw [← z1W, ← z1W, z28, z28] at m3
    have m4 := z6U 6 (by decide) _ (z1B (x.1 * y.1))
    rw [z28] at m4
    refine Ev.bnd m1 (Ev.bnd m2 ?_)
    have e1 : Go.bits .xor .u64 (hi x) (lo x) = ((val (x.1 + x.2) : Nat) : Int) := by unfold hi lo; rw [z2b _ _ v1 v2, z1W]
    have e2 : Go.bits .xor .u64 (hi y) (lo y) = ((val (y.1 + y.2) : Nat) : Int) := by unfold hi lo; rw [z2b _ _ v3 v4, z1W]
    simp only [e1, e2]
    refine Ev.bnd m3 (Ev.bnd m4 (Ev.ret' ?_))
    rw [z2b _ _ (z1B _) (z1B _), ← z1W, z2b _ _ (z1B _) (z1B _), ← z1W, z2b _ _ (z1B _) (z1B _), ← z1W, z2b _ _ (z1B _) (z1B _), ← z1W, karatsuba]
    rfl
/-- The program's element, the document's. -/
def toS (x : E) : S30 := ⟨hi x, lo x⟩
def toR (x : E) : S40 := ⟨hi x, lo x⟩
def WfS (e : S30) : Prop := (0 ≤ e.f0 ∧ e.f0 < 18446744073709551616) ∧ (0 ≤ e.f1 ∧ e.f1 < 18446744073709551616)
theorem z35 (x : E) : (toS x).f0 = hi x := rfl
theorem z36 (x : E) : (toS x).f1 = lo x := rfl
theorem z5t (x : E) : (toR x).f0 = hi x := rfl
theorem z5u (x : E) : (toR x).f1 = lo x := rfl
theorem z69 : toS 0 = z30 := by unfold toS; rw [z2u, z2v]; rfl
theorem toR_zero : toR 0 = z40 := by unfold toR; rw [z2u, z2v]; rfl
theorem toS_el (e : S30) (h : WfS e) : toS (el e.f0 e.f1) = e := by unfold toS; rw [hi_el h.1.1 h.1.2, lo_el h.2.1 h.2.2]
theorem toS_inj {x y : E} (h : toS x = toS y) : x = y := by
  unfold toS at h; injection h with h1 h2; exact z5U h1 h2
theorem wf_of {e : S30} (h : (Lit.int .u64 e.f0).wf = true ∧ (Lit.int .u64 e.f1).wf = true) : WfS e := ⟨wf_u64 h.1, wf_u64 h.2⟩
/-- A list that came in is a list of elements. -/
theorem z6S (l : List S30) (h : ∀ e ∈ l, ((Lit.int .u64 e.f0).wf = true) ∧ ((Lit.int .u64 e.f1).wf = true)) : ∃ X : List E, l = X.map toS := by
  refine ⟨l.map fun e => el e.f0 e.f1, ?_⟩
  rw [List.map_map]
  conv => lhs; rw [← List.map_id l]
  apply List.map_congr_left
  intro e he
  exact (toS_el e (wf_of (h e he))).symm
theorem elem_of (e : S30) (h : ((Lit.int .u64 e.f0).wf = true) ∧ ((Lit.int .u64 e.f1).wf = true)) : ∃ x : E, e = toS x := ⟨_, (toS_el e (wf_of h)).symm⟩
theorem rdS (X : List E) (i : Nat) : rd_T30 (X.map toS) (i : Int) = toS (X.getD i 0) := by
  unfold rd_T30; rw [Int.toNat_natCast, ← z69, List.getD_eq_getElem?_getD, List.getD_eq_getElem?_getD, List.getElem?_map]
  cases X[i]? <;> rfl
theorem rdR (X : List E) (i : Nat) : z1x (X.map toR) (i : Int) = toR (X.getD i 0) := by
  unfold z1x; rw [Int.toNat_natCast, ← toR_zero, List.getD_eq_getElem?_getD, List.getD_eq_getElem?_getD, List.getElem?_map]
  cases X[i]? <;> rfl
end Go.Proofs.Ytkhmpaooinpfoaa.Sp
/- The document's product by shifts and masks is the tower's. Own text; nothing of the program in it. -/
namespace Go.Proofs.Ytkhmpaooinpfoaa.Tw
set_option linter.unusedVariables false
set_option linter.unusedSimpArgs false
theorem z3a {n a b : Nat} (hb : b < Q n) : (a * Q n + b) / Q n = a := by rw [Nat.mul_comm, Nat.mul_add_div (z2G n), Nat.div_eq_of_lt hb, Nat.add_zero]
theorem z3b {n a b : Nat} (hb : b < Q n) : (a * Q n + b) % Q n = b := by rw [Nat.mul_comm, Nat.mul_add_mod, Nat.mod_eq_of_lt hb]
theorem z5Q {n a b c d : Nat} (hb : b < Q n) (hd : d < Q n) : (a * Q n + b) &&& (c * Q n + d) = (a &&& c) * Q n + (b &&& d) := by
  have h1 : ((a * Q n + b) &&& (c * Q n + d)) / Q n = a &&& c := by
    have e1 := z3a (n := n) (a := a) hb
    have e2 := z3a (n := n) (a := c) hd
    unfold Q at *
    rw [Nat.and_div_two_pow, e1, e2]
  have h2 : ((a * Q n + b) &&& (c * Q n + d)) % Q n = b &&& d := by
    have e1 := z3b (n := n) (a := a) hb
    have e2 := z3b (n := n) (a := c) hd
    unfold Q at *
    rw [Nat.and_mod_two_pow, e1, e2]
  have := Nat.div_add_mod ((a * Q n + b) &&& (c * Q n + d)) (Q n)
  rw [h1, h2, Nat.mul_comm] at this
  exact this.symm
theorem z72 {n a b c d : Nat} (hb : b < Q n) (hd : d < Q n) : (a * Q n + b) ||| (c * Q n + d) = (a ||| c) * Q n + (b ||| d) := by
  have h1 : ((a * Q n + b) ||| (c * Q n + d)) / Q n = a ||| c := by
    have e1 := z3a (n := n) (a := a) hb
    have e2 := z3a (n := n) (a := c) hd
    unfold Q at *
    rw [Nat.or_div_two_pow, e1, e2]
  have h2 : ((a * Q n + b) ||| (c * Q n + d)) % Q n = b ||| d := by
    have e1 := z3b (n := n) (a := a) hb
    have e2 := z3b (n := n) (a := c) hd
    unfold Q at *
    rw [Nat.or_mod_two_pow, e1, e2]
  have := Nat.div_add_mod ((a * Q n + b) ||| (c * Q n + d)) (Q n)
  rw [h1, h2, Nat.mul_comm] at this
  exact this.symm
theorem or_lt {n x y : Nat} (hx : x < Q n) (hy : y < Q n) : x ||| y < Q n := Nat.or_lt_two_pow hx hy
/-- The lower halves of all blocks of 2^(j+1) bits in a word of 2^n. -/
def M (j : Nat) : Nat → Nat
  | 0 => 0
  | n + 1 => if n = j then Q j - 1 else if n < j then 0 else M j n * Q n + M j n
theorem M_base (j : Nat) : M j (j + 1) = Q j - 1 := by simp [M]
theorem z6t {j n : Nat} (h : j + 1 ≤ n) : M j (n + 1) = M j n * Q n + M j n := by
  rw [M, if_neg (by omega), if_neg (by omega)]
/-- What is left of a word without its highest block of 2^j bits. -/
def H (j n : Nat) : Nat := 2 ^ (2 ^ n - 2 ^ j)
theorem z6b {j n : Nat} (h : j ≤ n) : H j n * Q j = Q n := by
  have := Nat.pow_le_pow_right (show 2 > 0 by decide) h
  unfold H Q; rw [← Nat.pow_add, Nat.sub_add_cancel this]
theorem H_pos (j n : Nat) : 0 < H j n := Nat.two_pow_pos _
theorem z6r {j n : Nat} (h : j ≤ n) : H j (n + 1) = H j n * Q n := by
  have := Nat.pow_le_pow_right (show 2 > 0 by decide) h
  unfold H Q; rw [← Nat.pow_add]; congr 1; rw [Nat.pow_succ]; omega
theorem H_self (j : Nat) : H j j = 1 := by unfold H; rw [Nat.sub_self, Nat.pow_zero]
theorem H_base (j : Nat) : H j (j + 1) = Q j := by rw [z6r (Nat.le_refl _), H_self, Nat.one_mul]
theorem H_le {j n : Nat} (h : j ≤ n) : H j n ≤ Q n := by rw [← z6b h]; exact Nat.le_mul_of_pos_right _ (z2G j)
theorem lt_H_mul {j n x : Nat} (h : j ≤ n) (hx : x < H j n) : x * Q j < Q n := by
  rw [← z6b h]; exact Nat.mul_lt_mul_of_pos_right hx (z2G j)
theorem M_lt {j : Nat} : ∀ d, M j (j + 1 + d) < H j (j + 1 + d)
  | 0 => by rw [Nat.add_zero, M_base, H_base]; have := z2G j; omega
  | d + 1 => by
    have ih := M_lt (j := j) d
    rw [← Nat.add_assoc, z6t (by omega), z6r (by omega)]
    have h2 : M j (j + 1 + d) < Q (j + 1 + d) := Nat.lt_of_lt_of_le ih (H_le (by omega))
    have h3 : M j (j + 1 + d) * Q (j + 1 + d) + Q (j + 1 + d) ≤ H j (j + 1 + d) * Q (j + 1 + d) := by
      have := Nat.mul_le_mul_right (Q (j + 1 + d)) ih
      rw [Nat.succ_mul] at this; exact this
    omega
theorem M_lt' {j n : Nat} (h : j + 1 ≤ n) : M j n < H j n := by
  obtain ⟨d, rfl⟩ := Nat.le.dest h; exact M_lt d
theorem M_lt_Q {j n : Nat} (h : j + 1 ≤ n) : M j n < Q n := Nat.lt_of_lt_of_le (M_lt' h) (H_le (by omega))
theorem z2H {x m b : Nat} (h : m < b) : x &&& m < b := Nat.lt_of_le_of_lt Nat.and_le_right h
/-- A word times the generator of the level j, block by block. -/
def tw (n : Nat) : Nat → Nat → Nat
  | 0, v => v
  | j + 1, v => (((v &&& M j n) ^^^ tw n j ((v / Q j) &&& M j n)) * Q j) % Q n ||| ((v / Q j) &&& M j n)
theorem z5h (j : Nat) : val (gen j) < Q j := z1B _
theorem z65 {j g : Nat} (hg : g < Q j) : ∀ d u, u < H j (j + d) → val (of (j + d) g * of (j + d) u) < H j (j + d)
  | 0, u, hu => by
    rw [Nat.add_zero, H_self] at hu ⊢
    have : u = 0 := by omega
    rw [this, z31, z2C, z1Q]; decide
  | d + 1, u, hu => by
    rw [← Nat.add_assoc] at hu ⊢
    rw [z6r (Nat.le_add_right _ _)] at hu ⊢
    have hg' : g < Q (j + d) := Nat.lt_of_lt_of_le hg (z3l (Nat.le_add_right _ _))
    have e1 : of (j + d + 1) g = up (of (j + d) g) := z5k hg'
    rw [e1, z3J, z1Y, z2B, z2J, z2o, z2B, z2J]
    have h1 := z65 hg d (u / Q (j + d)) (Nat.div_lt_of_lt_mul (by rw [Nat.mul_comm]; exact hu))
    have h2 := z1B (of (j + d) g * of (j + d) (u % Q (j + d)))
    have h3 : val (of (j + d) g * of (j + d) (u / Q (j + d))) * Q (j + d) + Q (j + d) ≤ H j (j + d) * Q (j + d) := by
      have := Nat.mul_le_mul_right (Q (j + d)) h1
      rw [Nat.succ_mul] at this; exact this
    omega
theorem tw_split {j : Nat} (C : ∀ n, j ≤ n → ∀ v, v < Q n → tw n j v = val (of n (val (gen j)) * of n v)) (D : ∀ n, j ≤ n → ∀ h l, h < Q n → l < Q n → tw (n + 1) j (h * Q n + l) = tw n j h * Q n + tw n j l) :
    ∀ n, j + 1 ≤ n → ∀ h l, h < Q n → l < Q n → tw (n + 1) (j + 1) (h * Q n + l) = tw n (j + 1) h * Q n + tw n (j + 1) l ∧ tw n (j + 1) l < Q n := by
  intro n hn h l hh hl
  have hM := M_lt' hn
  have hMQ := M_lt_Q hn
  have hjn : j ≤ n := by omega
  have hQj := z2G j
  -- the higher parts
  have hdiv : (h * Q n + l) / Q j = (h / Q j) * Q n + ((h % Q j) * H j n + l / Q j) := by
    have e1 : h * Q n = (h * H j n) * Q j := by rw [← z6b hjn, Nat.mul_assoc]
    rw [e1, Nat.mul_comm (h * H j n), Nat.mul_add_div hQj]
    have e2 := Nat.div_add_mod h (Q j)
    have e3 : h * H j n = (h / Q j) * Q n + (h % Q j) * H j n := by
      conv => lhs; rw [← e2]
      rw [Nat.add_mul, ← z6b hjn]
      congr 1
      rw [Nat.mul_comm (Q j), Nat.mul_assoc, Nat.mul_comm (Q j)]
    rw [e3, Nat.add_assoc]
  have hlq : l / Q j < H j n := Nat.div_lt_of_lt_mul (by rw [Nat.mul_comm, z6b hjn]; exact hl)
  have hl' : (h % Q j) * H j n + l / Q j < Q n := by
    have h1 : (h % Q j) * H j n + H j n ≤ Q j * H j n := by
      have := Nat.mul_le_mul_right (H j n) (Nat.mod_lt h hQj)
      rw [Nat.succ_mul] at this; exact this
    rw [Nat.mul_comm (Q j), z6b hjn] at h1
    omega
  have hand : ((h % Q j) * H j n + l / Q j) &&& M j n = (l / Q j) &&& M j n := by
    have e1 : ∀ x, x &&& M j n = (x % H j n) &&& M j n := fun x => by
      have h3 : x &&& M j n < H j n := z2H hM
      have h4 : (x &&& M j n) % H j n = x &&& M j n := Nat.mod_eq_of_lt h3
      rw [← h4]; unfold H; rw [Nat.and_mod_two_pow]
      rw [show M j n % 2 ^ (2 ^ n - 2 ^ j) = M j n from Nat.mod_eq_of_lt hM]
    rw [e1, Nat.mul_comm, Nat.mul_add_mod, ← e1]
  have hhi : ((h * Q n + l) / Q j) &&& M j (n + 1) = ((h / Q j) &&& M j n) * Q n + ((l / Q j) &&& M j n) := by
    rw [z6t hn, hdiv, z5Q hl' hMQ, hand]
  have hlo : (h * Q n + l) &&& M j (n + 1) = (h &&& M j n) * Q n + (l &&& M j n) := by rw [z6t hn, z5Q hl hMQ]
  have b1 : (h / Q j) &&& M j n < Q n := z2H hMQ
  have b2 : (l / Q j) &&& M j n < Q n := z2H hMQ
  have b3 : l &&& M j n < H j n := z2H hM
  have b4 : (l / Q j) &&& M j n < H j n := z2H hM
  have b5 : tw n j ((l / Q j) &&& M j n) < H j n := by
    rw [C n hjn _ b2]
    obtain ⟨d, rfl⟩ := Nat.le.dest hjn
    exact z65 (z5h j) d _ b4
  have b6 : (l &&& M j n) ^^^ tw n j ((l / Q j) &&& M j n) < H j n := Nat.xor_lt_two_pow b3 b5
  have b7 := lt_H_mul hjn b6
  have b8 : tw n j ((l / Q j) &&& M j n) < Q n := Nat.lt_of_lt_of_le b5 (H_le hjn)
  have b9 : l &&& M j n < Q n := z2H hMQ
  constructor
  · simp only [tw]
    rw [hhi, hlo, D n hjn _ _ b1 b2, z6a b9 b8, Nat.add_mul]
    have e5 : ∀ X Y : Nat, Y < Q n → (X * Q n * Q j + Y) % Q (n + 1) = ((X * Q j) % Q n) * Q n + Y := by
      intro X Y hY
      rw [show X * Q n * Q j = X * Q j * Q n by rw [Nat.mul_assoc, Nat.mul_comm (Q n), ← Nat.mul_assoc], z2V]
      rw [Nat.mul_comm (X * Q j), Nat.mod_mul, Nat.mul_add_mod, Nat.mod_eq_of_lt hY, Nat.mul_add_div (z2G n), Nat.div_eq_of_lt hY, Nat.add_zero, Nat.mul_comm (Q n), Nat.add_comm]
    rw [e5 _ _ b7, z72 b7 b2, Nat.mod_eq_of_lt b7]
  · simp only [tw]
    exact or_lt (Nat.mod_lt _ (z2G n)) b2
theorem z7d : ∀ j, (∀ n, j ≤ n → ∀ v, v < Q n → tw n j v = val (of n (val (gen j)) * of n v)) ∧ (∀ n, j ≤ n → ∀ h l, h < Q n → l < Q n → tw (n + 1) j (h * Q n + l) = tw n j h * Q n + tw n j l)
  | 0 => ⟨fun n _ v hv => by rw [z5T, z2R, of_one, one_mul, z2l _ _ hv]; rfl, fun n _ h l _ _ => rfl⟩
  | j + 1 => by
    obtain ⟨C, D⟩ := z7d j
    have D' := tw_split C D
    refine ⟨?_, fun n hn h l hh hl => (D' n hn h l hh hl).1⟩
    intro n hn
    obtain ⟨d, rfl⟩ := Nat.le.dest hn
    clear hn
    induction d with
    | zero =>
      intro v hv
      rw [Nat.add_zero] at hv ⊢
      have hQj := z2G j
      have hd : v / Q j < Q j := Nat.div_lt_of_lt_mul (by rw [← z2V]; exact hv)
      have hm : v % Q j < Q j := Nat.mod_lt _ hQj
      have hmask : ∀ x, x &&& M j (j + 1) = x % Q j := fun x => by rw [M_base]; unfold Q; rw [Nat.and_two_pow_sub_one_eq_mod]
      have e1 : tw (j + 1) j (v / Q j) = val (gen j * of j (v / Q j)) := by
        rw [C (j + 1) (by omega) _ (Nat.lt_of_lt_of_le hd (z6v j)), z4m (d := 1) (z5h j) hd, z28]
      simp only [tw]
      rw [hmask, hmask, Nat.mod_eq_of_lt hd, e1]
      have hv2 := z1B (gen j * of j (v / Q j))
      have hX := z2w hm hv2
      rw [Nat.mod_eq_of_lt (show _ * Q j < Q (j + 1) by rw [z2V]; exact Nat.mul_lt_mul_of_pos_right hX hQj)]
      have hor : ∀ X, X * Q j ||| (v / Q j) = X * Q j + v / Q j := fun X => by
        have := z72 (n := j) (a := X) (b := 0) (c := 0) (d := v / Q j) hQj hd
        simpa using this
      rw [hor, z28, z1Y]
      congr 1
      · congr 1
        rw [z2m, z2Y, z2Z, one_mul, zero_mul, one_mul, add_zero, z2o, z2B, z2J, z1W, z2l _ _ hm]
      · rw [z2n, z2Y, z2Z, one_mul, zero_mul, zero_add, z2o, z2B, z2l _ _ hd]
    | succ d ih =>
      intro v hv
      rw [← Nat.add_assoc] at hv ⊢
      have hvd := Nat.div_add_mod v (Q (j + 1 + d))
      rw [Nat.mul_comm] at hvd
      have h1 : v / Q (j + 1 + d) < Q (j + 1 + d) := Nat.div_lt_of_lt_mul (by rw [← z2V]; exact hv)
      have h2 : v % Q (j + 1 + d) < Q (j + 1 + d) := Nat.mod_lt _ (z2G _)
      have hg : val (gen (j + 1)) < Q (j + 1 + d) := Nat.lt_of_lt_of_le (z5h (j + 1)) (z3l (Nat.le_add_right _ _))
      have e1 : of (j + 1 + d + 1) (val (gen (j + 1))) = up (of (j + 1 + d) (val (gen (j + 1)))) := z5k hg
      rw [e1, z3J, z1Y, z2B, z2J, z2o, z2B, z2J, ← ih _ h1, ← ih _ h2]
      conv => lhs; rw [← hvd]
      exact (D' (j + 1 + d) (by omega) _ _ h1 h2).1
theorem tw_eq {j n v : Nat} (h : j ≤ n) (hv : v < Q n) : tw n j v = val (of n (val (gen j)) * of n v) := (z7d j).1 n h v hv
/-- A bit of a level is a product of generators. -/
def gp (n : Nat) : Nat → Nat → T n
  | 0, _ => 1
  | m + 1, i => (if i.testBit m then of n (val (gen (m + 1))) else 1) * gp n m i
theorem gp_up {n : Nat} : ∀ m i, m ≤ n → gp (n + 1) m i = up (gp n m i)
  | 0, i, _ => rfl
  | m + 1, i, h => by
    show (if i.testBit m then of (n + 1) (val (gen (m + 1))) else 1) * gp (n + 1) m i = up ((if i.testBit m then of n (val (gen (m + 1))) else 1) * gp n m i)
    rw [up_mul, gp_up m i (by omega)]
    congr 1
    split
    · exact z5k (Nat.lt_of_lt_of_le (z5h (m + 1)) (z3l h))
    · rfl
theorem gp_mod {n : Nat} : ∀ m i k, m ≤ k → gp n m (i % 2 ^ k) = gp n m i
  | 0, i, k, _ => rfl
  | m + 1, i, k, h => by
    show (if (i % 2 ^ k).testBit m then _ else _) * gp n m (i % 2 ^ k) = (if i.testBit m then _ else _) * gp n m i
    rw [gp_mod m i k (by omega), Nat.testBit_mod_two_pow, decide_eq_true (by omega), Bool.true_and]
theorem gp_bit : ∀ n i, i < 2 ^ n → gp n n i = of n (2 ^ i)
  | 0, i, h => by
    have : i = 0 := by simpa using h
    rw [this]; rfl
  | n + 1, i, h => by
    show (if i.testBit n then of (n + 1) (val (gen (n + 1))) else 1) * gp (n + 1) n i = of (n + 1) (2 ^ i)
    rw [gp_up n i (Nat.le_refl _), ← gp_mod n i n (Nat.le_refl _), gp_bit n _ (Nat.mod_lt _ (Nat.two_pow_pos n))]
    rw [Nat.pow_succ] at h
    by_cases c : i < 2 ^ n
    · rw [Nat.testBit_lt_two_pow c, Nat.mod_eq_of_lt c]
      rw [z5k (show 2 ^ i < Q n from Nat.pow_lt_pow_right (by decide) c)]
      simp only [Bool.false_eq_true, if_false, one_mul]; rfl
    · have hi : i % 2 ^ n = i - 2 ^ n := by rw [Nat.mod_eq_sub_mod (by omega), Nat.mod_eq_of_lt (by omega)]
      have hb : i.testBit n = true := by
        have := Nat.testBit_two_pow_add_eq (i - 2 ^ n) n
        rw [show 2 ^ n + (i - 2 ^ n) = i by omega, Nat.testBit_lt_two_pow (show i - 2 ^ n < 2 ^ n by omega)] at this
        simpa using this
      rw [hb, if_pos rfl, hi, z28]
      have e : 2 ^ i = 2 ^ (i - 2 ^ n) * Q n + 0 := by
        unfold Q; rw [← Nat.pow_add, Nat.add_zero]; congr 1; omega
      rw [e, z2o, z3a (z2G n), z3b (z2G n), z31]
      apply ext
      · rw [z2m, z2Y, z2Z, z3f, z4L, one_mul, zero_mul, z2C, z2C, add_zero, add_zero]; rfl
      · rw [z2n, z2Y, z2Z, z3f, zero_mul, z2C, add_zero]; rfl
/-- An element is the sum of its bits. -/
theorem bits_sum {n : Nat} (b k : Nat) (hb : b < Q n) (hk : k < 2 ^ n) : of n (b % 2 ^ (k + 1)) = of n (b % 2 ^ k) + (if b.testBit k then of n (2 ^ k) else 0) := by
  have h2 : 2 ^ k < Q n := Nat.pow_lt_pow_right (by decide) hk
  have h1 : b % 2 ^ k < Q n := Nat.lt_trans (Nat.mod_lt _ (Nat.two_pow_pos k)) h2
  have e : b % 2 ^ (k + 1) = b % 2 ^ k ^^^ (if b.testBit k then 2 ^ k else 0) := by
    apply Nat.eq_of_testBit_eq
    intro i
    rw [Nat.testBit_xor, Nat.testBit_mod_two_pow, Nat.testBit_mod_two_pow]
    by_cases hi : i = k
    · subst hi
      cases hbi : b.testBit i <;> simp
    · by_cases hlt : i < k
      · have : decide (i < k + 1) = true := decide_eq_true (by omega)
        rw [this, decide_eq_true hlt]
        split
        · rw [Nat.testBit_two_pow_of_ne (by omega)]; simp
        · simp
      · rw [decide_eq_false (by omega), decide_eq_false hlt]
        split
        · rw [Nat.testBit_two_pow_of_ne (by omega)]; simp
        · simp
  rw [e]
  split
  · rw [z6W h1 h2]
  · rw [Nat.xor_zero, add_zero]
end Go.Proofs.Ytkhmpaooinpfoaa.Tw
/- The document's product of elements is the tower's. Own text. -/
namespace Go.Proofs.Ytkhmpaooinpfoaa.Sp
open Go.RowKit Go.Proofs.YtkhmpaooinpfoaaW.PrintWords Go.Proofs.YtkhmpaooinpfoaaW.PrintMore Go.Proofs.Ytkhmpaooinpfoaa.P Go.Proofs.Ytkhmpaooinpfoaa.Ar Go.Proofs.Ytkhmpaooinpfoaa.Tw
set_option linter.unusedVariables false
set_option linter.unusedSimpArgs false
theorem z6T : ∀ j : Nat, j < 6 → z1l.f (j : Int) = some ((M j 6 : Nat) : Int) := by decide +kernel
theorem tw_lt {j v : Nat} (hj : j ≤ 6) (hv : v < Q 6) : tw 6 j v < Q 6 := by rw [tw_eq hj hv]; exact z1B _
theorem shlw (a w : Nat) (hw : w ≤ 64) : shl .u64 (a : Int) (w : Int) = (((a * 2 ^ w) % 2 ^ 64 : Nat) : Int) := by
  unfold shl
  have h64 : IntKind.u64.bits = 64 := rfl
  rw [h64, Int.toNat_natCast, Nat.min_eq_left hw]
  have hc : ((a : Int) * 2 ^ w) = ((a * 2 ^ w : Nat) : Int) := by simp
  rw [hc]
  simp [IntKind.wrap, IntKind.bits, IntKind.signed]
theorem z34 : ∀ (j : Nat), j ≤ 6 → ∀ (v : Nat), v < Q 6 → Ev (fun k => zo.f k ((j : Int) - 1) (v : Int)) ((tw 6 j v : Nat) : Int) := by
  intro j
  induction j with
  | zero =>
    intro _ v hv
    have h0 : (((0 : Nat) : Int) - 1) < 0 := by decide
    refine Ev.step (fun k => by rw [zo.f]) (Ev.pos h0 ?_)
    exact Ev.ret' rfl
  | succ j ih =>
    intro hj v hv
    have h32 := z2j (n := j) (by omega)
    have hw : IntKind.u64.wrap (((j + 1 : Nat) : Int) - 1) = (j : Int) := by rw [z2T (by omega) (by omega)]; omega
    have hw2 : wrap64 (((j + 1 : Nat) : Int) - 1 - 1) = (j : Int) - 1 := by rw [z2g (by omega) (by omega)]; omega
    have hj1 : (((j + 1 : Nat) : Int) - 1) = (j : Int) := by omega
    have hQ6 : Q 6 = 2 ^ 64 := rfl
    have hM : M j 6 < 2 ^ 64 := by rw [← hQ6]; exact M_lt_Q (by omega)
    have hd : v / 2 ^ 2 ^ j < 2 ^ 64 := Nat.lt_of_le_of_lt (Nat.div_le_self _ _) hv
    have hhi : (v / 2 ^ 2 ^ j) &&& M j 6 < 2 ^ 64 := Nat.and_lt_two_pow _ hM
    have hlo : v &&& M j 6 < 2 ^ 64 := Nat.and_lt_two_pow _ hM
    have hrec := ih (by omega) _ hhi
    have htw : tw 6 j ((v / 2 ^ 2 ^ j) &&& M j 6) < 2 ^ 64 := tw_lt (by omega) hhi
    rw [hj1] at hw hw2 ⊢
    refine Ev.step (fun k => by rw [zo.f]) (Ev.neg (by omega) ?_)
    simp only [hw]
    refine Ev.pos (Int.natCast_nonneg _) (Ev.bnd0 (z6T j (by omega)) (Ev.bnd0 (z6T j (by omega)) ?_))
    simp only [z33 j (by omega), z54 v (2 ^ j) (by omega), z2F _ _ hd hM, z2F _ _ hv hM, hw2]
    refine Ev.bnd hrec (Ev.ret' ?_)
    rw [z2b _ _ hlo htw, shlw _ _ (by omega), z60 _ _ (Nat.mod_lt _ (by decide)) hhi]
    rfl
/-- The generator of a level, as an element of the greatest one. -/
def gE (m : Nat) : E := of 7 (val (gen m))
theorem tw_hi {j : Nat} (hj : j ≤ 6) (x : T 6) : tw 6 j (val x) = val (of 6 (val (gen j)) * x) := by rw [tw_eq hj (z1B x), z28]
theorem Times_ev (j : Nat) (hj : j ≤ 6) (x : E) : Ev (fun k => zw.f k (j : Int) (hi x) (lo x)) (hi (gE (j + 1) * x), lo (gE (j + 1) * x)) := by
  unfold zw.f
  by_cases c : j < 6
  · refine Ev.pos (by omega) ?_
    have h1 := z34 (j + 1) (by omega) (val x.1) (z1B x.1)
    have h2 := z34 (j + 1) (by omega) (val x.2) (z1B x.2)
    rw [show (((j + 1 : Nat) : Int) - 1) = (j : Int) by omega] at h1 h2
    refine Ev.bnd h1 (Ev.bnd h2 (Ev.ret' ?_))
    have e : gE (j + 1) = up (of 6 (val (gen (j + 1)))) := z5k (Nat.lt_of_lt_of_le (z5h (j + 1)) (z3l (by omega)))
    rw [e, z3J, tw_hi (by omega), tw_hi (by omega)]; rfl
  · have : j = 6 := by omega
    subst this
    refine Ev.neg (by decide) ?_
    have h1 := z34 6 (by omega) (val x.1) (z1B x.1)
    refine Ev.bnd h1 (Ev.ret' ?_)
    have e : gE 7 = gen 7 := z28 _
    have ev : of 6 (val (gen 6)) = gen 6 := z28 _
    rw [tw_hi (by omega), e, ev]
    unfold hi lo
    rw [z2b _ _ (z1B _) (z1B _), ← z1W]
    have m1 : (gen 7 * x).1 = x.2 + gen 6 * x.1 := by rw [z2m, z2Y, z2Z, one_mul, zero_mul, one_mul, add_zero]
    have m2 : (gen 7 * x).2 = x.1 := by rw [z2n, z2Y, z2Z, one_mul, zero_mul, zero_add]
    rw [m1, m2]
/-- The element with one bit. -/
def bitE (n : Nat) : E := of 7 (2 ^ n)
theorem z5C {n : Nat} (hn : n < 128) : hi (bitE n) = (if n < 64 then 0 else ((2 ^ (n - 64) : Nat) : Int)) ∧ lo (bitE n) = (if n < 64 then ((2 ^ n : Nat) : Int) else 0) := by
  unfold bitE hi lo
  rw [z2o, z2B, z2J]
  have hQ : Q 6 = 2 ^ 64 := rfl
  by_cases c : n < 64
  · have h1 : 2 ^ n < Q 6 := by rw [hQ]; exact Nat.pow_lt_pow_right (by decide) c
    rw [if_pos c, if_pos c, Nat.div_eq_of_lt h1, Nat.mod_eq_of_lt h1, z2l _ _ h1, z31, z1Q]; exact ⟨rfl, rfl⟩
  · have e : 2 ^ n = 2 ^ (n - 64) * Q 6 + 0 := by rw [hQ, ← Nat.pow_add, Nat.add_zero]; congr 1; omega
    have h2 : 2 ^ (n - 64) < Q 6 := by rw [hQ]; exact Nat.pow_lt_pow_right (by decide) (by omega)
    rw [if_neg c, if_neg c, e, z3a (z2G 6), z3b (z2G 6), z2l _ _ h2, z31, z1Q]; exact ⟨rfl, rfl⟩
theorem z5q (n : Nat) (hn : n < 128) : Ev (fun k => zy.f k (n : Int)) (hi (bitE n), lo (bitE n)) := by
  obtain ⟨h1, h2⟩ := z5C hn
  unfold zy.f
  refine Ev.neg (by omega) ?_
  rw [decide_eq_false (show ¬ ((n : Int) > 127) by omega), h1, h2]
  refine Ev.step (fun k => by rw [zy.j0]) (Ev.neg (by decide) ?_)
  by_cases c : n < 64
  · rw [if_pos c, if_pos c]
    refine Ev.neg (by omega) ?_
    rw [z2T (by omega) (by omega)]
    exact Ev.pos (Int.natCast_nonneg _) (Ev.ret' (by rw [z33 n (by omega)]))
  · rw [if_neg c, if_neg c]
    refine Ev.pos (by omega) ?_
    have e : IntKind.u64.wrap (wrap64 ((n : Int) - 64)) = ((n - 64 : Nat) : Int) := by
      rw [z2g (by omega) (by omega), z2T (by omega) (by omega)]; omega
    rw [e]
    exact Ev.pos (Int.natCast_nonneg _) (Ev.ret' (by rw [z33 (n - 64) (by omega)]))
theorem z4z (x n : Nat) : (x &&& 2 ^ n ≠ 0) ↔ x.testBit n = true := by
  constructor
  · intro h
    cases hb : x.testBit n with
    | true => rfl
    | false =>
      exfalso; apply h
      apply Nat.eq_of_testBit_eq
      intro i
      rw [Nat.testBit_and, Nat.zero_testBit]
      by_cases e : i = n
      · subst e; rw [hb, Bool.false_and]
      · rw [Nat.testBit_two_pow_of_ne (by omega), Bool.and_false]
  · intro h e
    have := congrArg (fun z => z.testBit n) e
    simp only [Nat.testBit_and, Nat.testBit_two_pow_self, Bool.and_true, Nat.zero_testBit] at this
    rw [h] at this; cases this
theorem hasBits (x : E) (n : Nat) (hn : n < 128) : ((Go.bits .or .u64 (Go.bits .and .u64 (lo x) (lo (bitE n))) (Go.bits .and .u64 (hi x) (hi (bitE n)))) != 0) = (val x).testBit n := by
  obtain ⟨h1, h2⟩ := z5C hn
  have hx1 := z1B x.1
  have hx2 := z1B x.2
  have hQ : Q 6 = 2 ^ 64 := rfl
  rw [hQ] at hx1 hx2
  have hv : val x = 2 ^ 64 * val x.1 + val x.2 := by rw [z1Y, hQ, Nat.mul_comm]
  rw [h1, h2, hv]
  unfold hi lo
  by_cases c : n < 64
  · rw [if_pos c, if_pos c]
    have hp : 2 ^ n < 2 ^ 64 := Nat.pow_lt_pow_right (by decide) c
    have z : (0 : Int) = ((0 : Nat) : Int) := rfl
    rw [z, z2F _ _ hx2 hp, z2F _ _ hx1 (by decide), z60 _ _ (Nat.and_lt_two_pow _ hp) (Nat.and_lt_two_pow _ (by decide)), Nat.and_zero, Nat.or_zero]
    rw [Nat.testBit_two_pow_mul_add _ hx2, if_pos c, Bool.eq_iff_iff, ← z4z, bne_iff_ne]
    exact ⟨fun h e => h (by rw [e]), fun h e => h (by exact_mod_cast e)⟩
  · rw [if_neg c, if_neg c]
    have hp : 2 ^ (n - 64) < 2 ^ 64 := Nat.pow_lt_pow_right (by decide) (by omega)
    have z : (0 : Int) = ((0 : Nat) : Int) := rfl
    rw [z, z2F _ _ hx1 hp, z2F _ _ hx2 (by decide), z60 _ _ (Nat.and_lt_two_pow _ (by decide)) (Nat.and_lt_two_pow _ hp), Nat.and_zero, Nat.zero_or]
    rw [Nat.testBit_two_pow_mul_add _ hx2, if_neg c, Bool.eq_iff_iff, ← z4z, bne_iff_ne]
    exact ⟨fun h e => h (by rw [e]), fun h e => h (by exact_mod_cast e)⟩
theorem z6s (x : E) (n : Nat) (hn : n < 128) : Ev (fun k => zE.f k (hi x) (lo x) (n : Int)) ((val x).testBit n) := by
  unfold zE.f
  exact Ev.bnd (z5q n hn) (Ev.ret' (hasBits x n hn))
theorem and_one (n j : Nat) (hn : n < 2 ^ 63) (hj : j ≤ 64) : Go.bits .and .i64 (shr .i64 (n : Int) (j : Int)) 1 = (((n / 2 ^ j) % 2 : Nat) : Int) := by
  rw [shr_i64 n j hj]
  have := z5d (n / 2 ^ j) 1 (Nat.lt_of_le_of_lt (Nat.div_le_self _ _) hn) (by decide)
  simpa using this
theorem prod_l1 (a b acc : E) (n : Nat) (hn : n < 128) {R : Int × Int} (hk : Ev (fun k => zf.l0 k ((n + 1 : Nat) : Int) (hi a) (lo a) (hi b) (lo b) (hi (acc + gp 7 7 n * a)) (lo (acc + gp 7 7 n * a))) R) :
    ∀ (d j : Nat), j + d = 7 → Ev (fun k => zf.l1 k (n : Int) (j : Int) (hi a) (lo a) (hi b) (lo b) (hi acc) (lo acc) (hi (gp 7 j n * a)) (lo (gp 7 j n * a))) R := by
  intro d
  induction d with
  | zero =>
    intro j hj
    have : j = 7 := by omega
    subst this
    refine Ev.step (fun k => by rw [zf.l1]) (Ev.neg (by decide) (Ev.bnd0 (z32 acc _) ?_))
    simp only [z1O hn (by decide)]
    exact hk
  | succ d ih =>
    intro j hj
    have hu : IntKind.u64.wrap (j : Int) = (j : Int) := z2T (by omega) (by omega)
    have hih := ih (j + 1) (by omega)
    refine Ev.step (fun k => by rw [zf.l1]) (Ev.pos (by omega) ?_)
    simp only [hu, and_one n j (Nat.lt_trans hn (by decide)) (by omega), z1O (show j < 7 by omega) (by decide)]
    refine Ev.pos (Int.natCast_nonneg _) ?_
    have hgp : gp 7 (j + 1) n = (if n.testBit j then of 7 (val (gen (j + 1))) else 1) * gp 7 j n := rfl
    have htb : n.testBit j = decide ((n / 2 ^ j) % 2 = 1) := by rw [Nat.testBit_eq_decide_div_mod_eq]
    by_cases c : (n / 2 ^ j) % 2 = 1
    · refine Ev.pos (by omega) (Ev.bnd (Times_ev j (by omega) _) ?_)
      rw [hgp, htb, decide_eq_true c, if_pos rfl, mul_assoc] at hih
      exact hih
    · refine Ev.neg (by omega) ?_
      rw [hgp, htb, decide_eq_false c, if_neg (by decide), one_mul] at hih
      exact hih
theorem prod_l0 (a b : E) : ∀ (d n : Nat), n + d = 128 → Ev (fun k => zf.l0 k (n : Int) (hi a) (lo a) (hi b) (lo b) (hi (of 7 (val b % 2 ^ n) * a)) (lo (of 7 (val b % 2 ^ n) * a))) (hi (b * a), lo (b * a)) := by
  intro d
  induction d with
  | zero =>
    intro n hn
    have : n = 128 := by omega
    subst this
    have hb : val b % 2 ^ 128 = val b := Nat.mod_eq_of_lt (by have := z1B b; rw [z5y] at this; exact this)
    rw [hb, z28]
    exact Ev.step (fun k => by rw [zf.l0]) (Ev.neg (by decide) (Ev.ret _))
  | succ d ih =>
    intro n hn
    have hn' : n < 128 := by omega
    have hih := ih (n + 1) (by omega)
    rw [bits_sum (val b) n (z1B b) (by simpa using hn')] at hih
    refine Ev.step (fun k => by rw [zf.l0]) (Ev.pos (by omega) (Ev.bnd (z6s b n hn') ?_))
    cases c : (val b).testBit n with
    | true =>
      refine Ev.pos rfl ?_
      rw [c, if_pos rfl, add_mul, ← gp_bit 7 n (by simpa using hn')] at hih
      have := prod_l1 a b _ n hn' hih 7 0 (by omega)
      have e0 : gp 7 0 n * a = a := one_mul a
      rw [e0] at this
      exact this
    | false =>
      refine Ev.neg (by decide) ?_
      rw [c, if_neg (by decide), add_zero] at hih
      simp only [z1O hn' (by decide)]
      exact hih
theorem z38 (x y : E) : Ev (fun k => zf.f k (hi x) (lo x) (hi y) (lo y)) (hi (x * y), lo (x * y)) := by
  unfold zf.f
  have := prod_l0 x y 128 0 (by decide)
  rw [Nat.pow_zero, Nat.mod_one, z31, zero_mul, z2u, z2v, mul_comm y x] at this
  exact this
end Go.Proofs.Ytkhmpaooinpfoaa.Sp
namespace Go.Proofs.Ytkhmpaooinpfoaa.P
open Go.RowKit Go.Proofs.YtkhmpaooinpfoaaW.PrintWords Go.Proofs.YtkhmpaooinpfoaaW.PrintLast Go.Proofs.YtkhmpaooinpfoaaW.PrintMore
attribute [local go_sem] z12 z14 z1i z1j zU zV z13 z15   -- for this text's walks alone
set_option linter.unusedVariables false
set_option linter.unusedSimpArgs false
attribute [local go_sem high] eqA40
def zW.l0 : Nat → List (S30) → List (S40) → Int → Option (Bool)
 | 0,_,_,_=>none
 | k + 1,x0,x1,x5=>if x5 < (x0.length : Int) then (if 0 ≤ x5 then (if x5 < (x1.length : Int) then (if (!(((rd_T30 x0 x5).f0) == ((z1x x1 x5).f0)) || (!(((rd_T30 x0 x5).f1) == ((z1x x1 x5).f1)))) = true then (some false) else (zW.l0 k x0 x1 (wrap64 (x5 + 1)))) else (none)) else (none)) else (some true)
def zW.f (k : Nat) (l0 : List (S30)) (l1 : List (S40)) : Option (Bool):=if (l0.length : Int) = (l1.length : Int) then (zW.l0 k l0 l1 0) else (some false)
theorem zW.z17 : ∀ k,(∀ y0 y1 y2,LeO (zW.l0 k y0 y1 y2) (zW.l0 (k + 1) y0 y1 y2))
 | 0=>fun _ _ _ r h=>by simp [zW.l0] at h
 | k + 1=>by
  have ih0:=zW.z17 k
  · intro y0 y1 y2
    unfold zW.l0
    repeat' first
    | (with_reducible exact ih0 _ _ _)
    | (with_reducible exact LeO.refl _)
    | (with_reducible exact LeO.none _)
    | (with_reducible refine LeO.ite ?_ ?_)
    | (with_reducible refine LeO.bind ?_ (fun _=>?_))
    | exact ih0 _ _ _
    | exact LeO.none _
    | refine LeO.ite ?_ ?_
    | refine LeO.bind ?_ (fun _=>?_)
theorem zW.mono : ∀ a0 a1 k,LeO (zW.f k a0 a1) (zW.f (k + 1) a0 a1):=by
 intro a0 a1 k
 have ih0:=zW.z17 k
 unfold zW.f
 repeat' first
  | (with_reducible exact ih0 _ _ _)
  | (with_reducible exact LeO.refl _)
  | (with_reducible exact LeO.none _)
  | (with_reducible refine LeO.ite ?_ ?_)
  | (with_reducible refine LeO.bind ?_ (fun _=>?_))
  | exact ih0 _ _ _
  | exact LeO.none _
  | refine LeO.ite ?_ ?_
  | refine LeO.bind ?_ (fun _=>?_)
set_option maxHeartbeats 8000000 in
set_option maxRecDepth 100000 in
theorem zW.calls (k : Nat) (A0 : Option Addr) (c0 : Nat) (l0 : List (S30)) (A1 : Option Addr) (c1 : Nat) (l1 : List (S40)) (r : Bool) (w : World) (hr0 : Kd.C k30 w A0 l0.length l0) (hc0 : l0.length ≤ c0) (hr1 : Kd.C k40 w A1 l1.length l1) (hc1 : l1.length ≤ c1) (h : zW.f k l0 l1 = some r) :
 Calls Try.prog 25 #[.slice A0 l0.length c0,.slice A1 l1.length c1] w fun e w'=>e = .returned (.bool r) ∧ Drawn0 w w':=by
 have hu30:=Try.underlying30
 have hu40:=Try.underlying40
 have HR0:=z1.mk hr0
 have HC0:=z1.mk hc0
 clear hr0 hc0
 have HR1:=z1.mk hr1
 have HC1:=z1.mk hc1
 clear hr1 hc1
 have H : (if (l0.length : Int) = (l1.length : Int) then (zW.l0 k l0 l1 0) else (some false)) = some r:=h
 clear h
 by_cases c3 : (l0.length : Int) = (l1.length : Int)
 rotate_left
 · rw [if_neg c3] at H
   have c3b0 : ((l0.length : Int) == (l1.length : Int)) = false:=beq_eq_false_iff_ne.mpr c3
   have c3b1 : ((l0.length : Int) != (l1.length : Int)) = true:=bne_iff_ne.mpr c3
   have c3b2 : (l0.length == l1.length) = false:=by first|simpa using c3|(simp at c3 ⊢;omega)
   obtain rfl:=Option.some.inj H
   go_enter Try.func25,Try.ntmps25
   go_wp2
   repeat (go_quiet (fail);try go_wp2)
   go_ret
   exact ⟨by first|rfl|(simp;done)|(simp [*];done),by repeat (first|exact Drawn0.refl _|apply Drawn0.step)⟩
 rw [if_pos c3] at H
 have c3b0 : ((l0.length : Int) == (l1.length : Int)) = true:=beq_iff_eq.mpr c3
 have c3b1 : ((l0.length : Int) != (l1.length : Int)) = false:=bne_eq_false_iff_eq.mpr c3
 have c3b2 : (l0.length == l1.length) = true:=by first|simpa using c3|(simp at c3 ⊢;omega)
 clear c3
 have H':=z1.mk H
 clear H
 go_enter Try.func25,Try.ntmps25
 go_wp2
 repeat (go_quiet (fail);try go_wp2)
 go_loopg [5] k (fun kq v5 w'=>∃ (x5_1 : Int),v5 = .int .i64 x5_1 ∧ z1 (zW.l0 kq l0 l1 x5_1 = some r) ∧ z1 (kq ≤ k) ∧ Drawn0 w w')
 case atStart=>exact ⟨(0),zz86,H',⟨Nat.le_refl _⟩,by repeat (first|exact Drawn0.refl _|apply Drawn0.step)⟩
 case round =>
  clear H'
  (try clear c1);(try clear c2);(try clear p2);(try clear c3);(try clear c3b0);(try clear c3b1);(try clear c3b2)
  obtain ⟨x5_1,rfl,HA,HK1,⟨m1,rfl⟩⟩:=hrel
  cases gk with
  | zero=>exact absurd HA.out (by simp [zW.l0])
  | succ k1 =>
   have H:=HA.out
   clear HA
   simp only [zW.l0] at H
   by_cases c4 : x5_1 < (l0.length : Int)
   rotate_left
   · rw [if_neg c4] at H
     have c4b0 : decide (x5_1 < (l0.length : Int)) = false:=decide_eq_false c4
     clear c4
     obtain rfl:=Option.some.inj H
     go_wp2
     repeat (go_quiet (fail);try go_wp2)
     go_ret
     exact ⟨by first|rfl|(simp;done)|(simp [*];done),by repeat (first|exact Drawn0.refl _|apply Drawn0.step)⟩
   rw [if_pos c4] at H
   have c4b0 : decide (x5_1 < (l0.length : Int)) = true:=decide_eq_true c4
   clear c4
   by_cases c5 : 0 ≤ x5_1
   rotate_left
   · rw [if_neg c5] at H
     exact absurd H zz93
   rw [if_pos c5] at H
   have c5b0 : decide (0 ≤ x5_1) = true:=decide_eq_true c5
   clear c5
   by_cases c6 : x5_1 < (l1.length : Int)
   rotate_left
   · rw [if_neg c6] at H
     exact absurd H zz93
   rw [if_pos c6] at H
   have c6b0 : decide (x5_1 < (l1.length : Int)) = true:=decide_eq_true c6
   clear c6
   by_cases c7 : (!(((rd_T30 l0 x5_1).f0) == ((z1x l1 x5_1).f0)) || (!(((rd_T30 l0 x5_1).f1) == ((z1x l1 x5_1).f1)))) = true
   · rw [if_pos c7] at H
     have c7b0 : (!(((rd_T30 l0 x5_1).f0) == ((z1x l1 x5_1).f0)) || (!(((rd_T30 l0 x5_1).f1) == ((z1x l1 x5_1).f1)))) = true:=c7
     clear c7
     obtain rfl:=Option.some.inj H
     have p101 : 0 ≤ (x5_1 : Int):=of_decide_eq_true zz85
     have q101 : x5_1 < (l0.length : Int):=of_decide_eq_true zz85
     obtain ⟨ad101,e101,hx101_0,hx101_1⟩:=z20 HR0.out x5_1 p101 q101
     cases e101
     replace p101:=eq_true p101
     replace q101:=eq_true q101
     have p102 : 0 ≤ (x5_1 : Int):=of_decide_eq_true zz85
     have q102 : x5_1 < (l1.length : Int):=of_decide_eq_true zz85
     obtain ⟨ad102,e102,hx102_0,hx102_1⟩:=z3r HR1.out x5_1 p102 q102
     cases e102
     replace p102:=eq_true p102
     replace q102:=eq_true q102
     go_wp2
     repeat (go_quiet (fail);try go_wp2)
     go_ret
     exact ⟨by first|rfl|(simp;done)|(simp [*];done),by repeat (first|exact Drawn0.refl _|apply Drawn0.step)⟩
   rw [if_neg c7] at H
   have c7b0 : (!(((rd_T30 l0 x5_1).f0) == ((z1x l1 x5_1).f0)) || (!(((rd_T30 l0 x5_1).f1) == ((z1x l1 x5_1).f1)))) = false:=by simpa using c7
   clear c7
   have H':=z1.mk H
   clear H
   have p101 : 0 ≤ (x5_1 : Int):=of_decide_eq_true zz85
   have q101 : x5_1 < (l0.length : Int):=of_decide_eq_true zz85
   obtain ⟨ad101,e101,hx101_0,hx101_1⟩:=z20 HR0.out x5_1 p101 q101
   cases e101
   replace p101:=eq_true p101
   replace q101:=eq_true q101
   have p102 : 0 ≤ (x5_1 : Int):=of_decide_eq_true zz85
   have q102 : x5_1 < (l1.length : Int):=of_decide_eq_true zz85
   obtain ⟨ad102,e102,hx102_0,hx102_1⟩:=z3r HR1.out x5_1 p102 q102
   cases e102
   replace p102:=eq_true p102
   replace q102:=eq_true q102
   go_wp2
   repeat (go_quiet (fail);try go_wp2)
   go_roundg k1
   case measure=>have:=HK1.out;omega
   case rel=>exact ⟨(wrap64 (x5_1 + 1)),zz86,H',⟨by have:=HK1.out;omega⟩,by repeat (first|exact Drawn0.refl _|apply Drawn0.step)⟩
end Go.Proofs.Ytkhmpaooinpfoaa.P
/- Lists of elements: which are of a level, the same ones, the document's. Own text. -/
namespace Go.Proofs.Ytkhmpaooinpfoaa.Sp
open Go.RowKit Go.Proofs.YtkhmpaooinpfoaaW.PrintWords Go.Proofs.YtkhmpaooinpfoaaW.PrintMore Go.Proofs.Ytkhmpaooinpfoaa.P Go.Proofs.Ytkhmpaooinpfoaa.Ar Go.Proofs.Ytkhmpaooinpfoaa.Tw
set_option linter.unusedVariables false
set_option linter.unusedSimpArgs false
/-- Is there such a level? -/
def LvS (L : Int) : Prop := 0 ≤ L ∧ L ≤ 7
instance (L : Int) : Decidable (LvS L) := by unfold LvS; infer_instance
theorem z57 {L : Int} (h : ¬ LvS L) : Ev (fun k => zx.f k L) 0 := by
  unfold zx.f
  by_cases h0 : L < 0
  · exact Ev.pos h0 (Ev.step (fun k => by rw [zx.j0]) (Ev.pos rfl (Ev.ret _)))
  · rw [decide_eq_true (show L > 7 by unfold LvS at h; omega)]
    exact Ev.neg h0 (Ev.step (fun k => by rw [zx.j0]) (Ev.pos rfl (Ev.ret _)))
theorem z5M {L : Int} (h : LvS L) : ∃ v, v ≠ 0 ∧ Ev (fun k => zx.f k L) v := by
  obtain ⟨h0, h7⟩ := h
  obtain ⟨l, rfl⟩ := Int.eq_ofNat_of_zero_le h0
  have hstep : ∀ v, Ev (fun k => zx.j0 k (l : Int) false) v → Ev (fun k => zx.f k (l : Int)) v := by
    intro v hv
    unfold zx.f
    rw [decide_eq_false (show ¬ ((l : Int) > 7) by omega)]
    exact Ev.neg (by omega) hv
  by_cases c : (l : Int) ≤ 3
  · exact ⟨1, by decide, hstep 1 (Ev.step (fun k => by rw [zx.j0]) (Ev.neg (by decide) (Ev.pos c (Ev.ret _))))⟩
  · have e : wrap64 ((l : Int) - 3) = ((l - 3 : Nat) : Int) := by rw [z2g (by omega) (by omega)]; omega
    refine ⟨((2 ^ (l - 3) : Nat) : Int), by have := Nat.two_pow_pos (l - 3); omega, hstep _ (Ev.step (fun k => by rw [zx.j0]) (Ev.neg (by decide) (Ev.neg c ?_)))⟩
    rw [e]
    exact Ev.pos (Int.natCast_nonneg _) (Ev.ret' (z3I (l - 3) (by omega)))
theorem rdL (l : Nat) (h : l ≤ 7) : rd ([1, 2, 4, 8, 16, 32, 64, 128] : List Int) (l : Int) = ((2 ^ l : Nat) : Int) := by
  have : ∀ m, m ≤ 7 → rd ([1, 2, 4, 8, 16, 32, 64, 128] : List Int) ((m : Nat) : Int) = ((2 ^ m : Nat) : Int) := by decide
  exact this l h
theorem z45 (a n : Nat) (ha : a < 2 ^ 64) (hn : n ≤ 64) : Go.bits .and .u64 (shr .u64 (a : Int) (n : Int)) 1 = if a.testBit n then 1 else 0 := by
  rw [z54 a n hn]
  have hd : a / 2 ^ n < 2 ^ 64 := Nat.lt_of_le_of_lt (Nat.div_le_self _ _) ha
  rw [show (1 : Int) = ((1 : Nat) : Int) from rfl, z2F _ 1 hd (by decide), Nat.and_one_is_mod, Nat.testBit_eq_decide_div_mod_eq]
  by_cases c : a / 2 ^ n % 2 = 1
  · rw [c]; simp
  · rw [show a / 2 ^ n % 2 = 0 by omega]; simp
theorem z79 (x : E) (n : Nat) (hn : n < 128) : z1R.f (hi x) (lo x) (n : Int) = some (if (val x).testBit n then 1 else 0) := by
  have hx1 := z1B x.1
  have hx2 := z1B x.2
  have hQ : Q 6 = 2 ^ 64 := rfl
  rw [hQ] at hx1 hx2
  have hv : val x = 2 ^ 64 * val x.1 + val x.2 := by rw [z1Y, hQ, Nat.mul_comm]
  unfold z1R.f
  rw [hv, Nat.testBit_two_pow_mul_add _ hx2]
  unfold hi lo
  by_cases c : n < 64
  · have e : IntKind.u64.wrap (n : Int) = (n : Int) := z2T (by omega) (by omega)
    rw [if_neg (by omega), e, if_pos (Int.natCast_nonneg _), z45 _ _ hx2 (by omega), if_pos c]
  · have e : IntKind.u64.wrap (wrap64 ((n : Int) - 64)) = ((n - 64 : Nat) : Int) := by
      rw [z2g (by omega) (by omega), z2T (by omega) (by omega)]; omega
    rw [if_pos (by omega), e, if_pos (Int.natCast_nonneg _), z45 _ _ hx1 (by omega), if_neg c]
theorem refOf_l0 (x : E) : ∀ (d n : Nat), n + d = 128 → Ev (fun k => zu.l0 k (n : Int) (hi x) (lo x)) (decide (val x < 2 ^ n)) := by
  intro d
  induction d with
  | zero =>
    intro n hn
    have : n = 128 := by omega
    subst this
    have := z1B x; rw [z5y] at this
    rw [decide_eq_true this]
    exact Ev.step (fun k => by rw [zu.l0]) (Ev.neg (by decide) (Ev.ret _))
  | succ d ih =>
    intro n hn
    have hn' : n < 128 := by omega
    refine Ev.step (fun k => by rw [zu.l0]) (Ev.pos (by omega) (Ev.bnd0 (z79 x n hn') ?_))
    simp only [z1O hn' (show 128 ≤ 4611686018427387904 by decide)]
    cases c : (val x).testBit n with
    | true =>
      refine Ev.pos (by simp) (Ev.ret' ?_)
      symm; rw [decide_eq_false_iff_not]
      intro h; rw [Nat.testBit_lt_two_pow h] at c; cases c
    | false =>
      refine Ev.neg (by simp) ?_
      have hih := ih (n + 1) (by omega)
      have e : decide (val x < 2 ^ (n + 1)) = decide (val x < 2 ^ n) := by
        rw [decide_eq_decide]
        constructor
        · intro h
          apply Nat.lt_pow_two_of_testBit
          intro i hi
          by_cases e : i = n
          · rw [e]; exact c
          · exact Nat.testBit_lt_two_pow (Nat.lt_of_lt_of_le h (Nat.pow_le_pow_right (by decide) (by omega)))
        · intro h; exact Nat.lt_of_lt_of_le h (Nat.pow_le_pow_right (by decide) (by omega))
      rw [← e]; exact hih
theorem refOf_ev (L : Int) (x : E) : Ev (fun k => zu.f k L (hi x) (lo x)) (decide (OfS L x)) := by
  unfold zu.f
  refine Ev.bnd0 (a := ([1, 2, 4, 8, 16, 32, 64, 128] : List Int)) rfl ?_
  by_cases h0 : L < 0
  · refine Ev.pos h0 (Ev.step (fun k => by rw [zu.j0]) (Ev.pos rfl (Ev.ret' ?_)))
    symm; rw [decide_eq_false_iff_not]; rintro ⟨h, _⟩; omega
  refine Ev.neg h0 ?_
  by_cases h7 : L > 7
  · rw [decide_eq_true h7]
    refine Ev.step (fun k => by rw [zu.j0]) (Ev.pos rfl (Ev.ret' ?_))
    symm; rw [decide_eq_false_iff_not]; rintro ⟨_, h, _⟩; omega
  rw [decide_eq_false h7]
  obtain ⟨l, rfl⟩ := Int.eq_ofNat_of_zero_le (show 0 ≤ L by omega)
  refine Ev.step (fun k => by rw [zu.j0]) (Ev.neg (by decide) (Ev.pos (Int.natCast_nonneg _) (Ev.pos (by simp; omega) ?_)))
  rw [rdL l (by omega)]
  have hp : 2 ^ l ≤ 128 := Nat.pow_le_pow_right (n := 2) (by decide) (show l ≤ 7 by omega)
  have := refOf_l0 x (128 - 2 ^ l) (2 ^ l) (by omega)
  have e : decide (val x < 2 ^ 2 ^ l) = decide (OfS (l : Int) x) := by
    rw [decide_eq_decide]; unfold OfS InL Q; rw [Int.toNat_natCast]
    exact ⟨fun h => ⟨by omega, by omega, h⟩, fun h => h.2.2⟩
  rw [← e]; exact this
/-- All of a level. -/
def AllS (L : Int) (X : List E) : Prop := ∀ x ∈ X, OfS L x
instance (L : Int) (X : List E) : Decidable (AllS L X) := by unfold AllS; infer_instance
theorem z6y {L : Int} {X : List E} {i : Nat} (h : i < X.length) : AllS L (X.drop i) ↔ OfS L (X.getD i 0) ∧ AllS L (X.drop (i + 1)) := by
  rw [List.drop_eq_getElem_cons h]
  have : X.getD i 0 = X[i] := by rw [List.getD_eq_getElem?_getD, List.getElem?_eq_getElem h]; rfl
  rw [this]
  exact List.forall_mem_cons
theorem All_l0 (L : Int) (X : List E) (hX : X.length ≤ 1000000) : ∀ (d i : Nat), i + d = X.length → Ev (fun k => zv.l0 k L (X.map toR) (i : Int)) (decide (AllS L (X.drop i))) := by
  intro d
  induction d with
  | zero =>
    intro i hi
    refine Ev.step (fun k => by rw [zv.l0]) (Ev.neg (by rw [List.length_map]; omega) (Ev.ret' ?_))
    symm; rw [decide_eq_true_eq, List.drop_eq_nil_of_le (by omega)]
    intro x hx; cases hx
  | succ d ih =>
    intro i hi
    have hi' : i < X.length := by omega
    refine Ev.step (fun k => by rw [zv.l0]) (Ev.pos (by rw [List.length_map]; omega) (Ev.pos (Int.natCast_nonneg _) ?_))
    simp only [rdR, z5t, z5u, z1O hi' (show X.length ≤ 4611686018427387904 by omega)]
    refine Ev.bnd (refOf_ev L _) ?_
    have hd := z6y (L := L) hi'
    by_cases c : OfS L (X.getD i 0)
    · refine Ev.pos (decide_eq_true c) ((ih (i + 1) (by omega)).eqn ?_)
      rw [decide_eq_decide, hd]; exact ⟨fun h => ⟨c, h⟩, fun h => h.2⟩
    · refine Ev.neg (by simpa using c) (Ev.ret' ?_)
      symm; rw [decide_eq_false_iff_not, hd]; exact fun h => c h.1
theorem All_ev (L : Int) (X : List E) (hX : X.length ≤ 1000000) : Ev (fun k => zv.f k L (X.map toR)) (decide (AllS L X)) := All_l0 L X hX X.length 0 (by omega)
theorem z4Y {α β : Type} (f : α → β) (X : List α) (d : α) (i : Nat) (h : i < X.length) : (X.take (i + 1)).map f = (X.take i).map f ++ [f (X.getD i d)] := by
  rw [List.take_succ_eq_append_getElem h, List.map_append]
  have : X.getD i d = X[i] := by rw [List.getD_eq_getElem?_getD, List.getElem?_eq_getElem h]; rfl
  rw [this]; rfl
theorem Ref_l0 (X : List E) (hX : X.length ≤ 1000000) : ∀ (d i : Nat), i + d = X.length → Ev (fun k => zA.l0 k (X.map toS) ((X.take i).map toR) (i : Int)) (X.map toR) := by
  intro d
  induction d with
  | zero =>
    intro i hi
    refine Ev.step (fun k => by rw [zA.l0]) (Ev.neg (by rw [List.length_map]; omega) (Ev.ret' ?_))
    rw [List.take_of_length_le (by omega)]
  | succ d ih =>
    intro i hi
    have hi' : i < X.length := by omega
    refine Ev.step (fun k => by rw [zA.l0]) (Ev.pos (by rw [List.length_map]; omega) (Ev.pos (Int.natCast_nonneg _) (Ev.pos (by rw [List.length_map, List.length_take]; omega) ?_)))
    simp only [rdS, z35, z36, z1O hi' (show X.length ≤ 4611686018427387904 by omega)]
    have hih := ih (i + 1) (by omega)
    rw [z4Y toR X 0 i hi'] at hih
    exact hih
theorem Ref_ev (X : List E) (hX : X.length ≤ 1000000) : Ev (fun k => zA.f k (X.map toS)) (X.map toR) := Ref_l0 X hX X.length 0 (by omega)
theorem Same_l0 (X Y : List E) (hl : X.length = Y.length) (hX : X.length ≤ 1000000) : ∀ (d i : Nat), i + d = X.length → (∀ j, j < i → X.getD j 0 = Y.getD j 0) → Ev (fun k => zW.l0 k (X.map toS) (Y.map toR) (i : Int)) (decide (X = Y)) := by
  intro d
  induction d with
  | zero =>
    intro i hi h
    refine Ev.step (fun k => by rw [zW.l0]) (Ev.neg (by rw [List.length_map]; omega) (Ev.ret' ?_))
    symm; rw [decide_eq_true_eq]
    apply List.ext_getElem hl
    intro j h1 h2
    have := h j (by omega)
    simpa [List.getD_eq_getElem?_getD, h1, h2] using this
  | succ d ih =>
    intro i hid h
    have hi' : i < X.length := by omega
    refine Ev.step (fun k => by rw [zW.l0]) (Ev.pos (by rw [List.length_map]; omega) (Ev.pos (Int.natCast_nonneg _) (Ev.pos (by rw [List.length_map]; omega) ?_)))
    simp only [rdS, rdR, z35, z36, z5t, z5u, z1O hi' (show X.length ≤ 4611686018427387904 by omega)]
    by_cases c : X.getD i 0 = Y.getD i 0
    · refine Ev.neg (by rw [c]; simp) (ih (i + 1) (by omega) (fun j hj => ?_))
      by_cases e : j = i
      · rw [e]; exact c
      · exact h j (by omega)
    · refine Ev.pos ?_ (Ev.ret' ?_)
      · simp only [Bool.or_eq_true, Bool.not_eq_true', beq_eq_false_iff_ne]
        by_cases e : hi (X.getD i 0) = hi (Y.getD i 0)
        · right; intro e2; exact c (z5U e e2)
        · left; exact e
      · symm; rw [decide_eq_false_iff_not]
        rintro rfl; exact c rfl
theorem Same_ev (X Y : List E) (hX : X.length ≤ 1000000) : Ev (fun k => zW.f k (X.map toS) (Y.map toR)) (decide (X = Y)) := by
  unfold zW.f
  by_cases h : X.length = Y.length
  · exact Ev.pos (by rw [List.length_map, List.length_map]; omega) (Same_l0 X Y h hX X.length 0 (by omega) (fun j hj => by omega))
  · refine Ev.neg (by rw [List.length_map, List.length_map]; omega) (Ev.ret' ?_)
    symm; rw [decide_eq_false_iff_not]
    rintro rfl; exact h rfl
/-- The same element? as the program asks. -/
theorem eq_pair (x y : E) : (hi x == hi y && (lo x == lo y)) = decide (x = y) := by
  rw [Bool.eq_iff_iff, Bool.and_eq_true, beq_iff_eq, beq_iff_eq, decide_eq_true_eq]
  exact ⟨fun h => z5U h.1 h.2, fun h => by rw [h]; exact ⟨rfl, rfl⟩⟩
theorem eq_none (x : E) : (hi x == 0 && (lo x == 0)) = decide (x = 0) := by
  rw [← eq_pair, z2u, z2v]
end Go.Proofs.Ytkhmpaooinpfoaa.Sp
namespace Go.Proofs.Ytkhmpaooinpfoaa.P
open Go.RowKit Go.Proofs.YtkhmpaooinpfoaaW.PrintWords Go.Proofs.YtkhmpaooinpfoaaW.PrintLast Go.Proofs.YtkhmpaooinpfoaaW.PrintMore
attribute [local go_sem] z12 z14 z1i z1j zU zV z13 z15   -- for this text's walks alone
set_option linter.unusedVariables false
set_option linter.unusedSimpArgs false
def zS.l0 : Nat → List Bool → Int → Int → Int → Int → Option (List Bool)
 | 0,_,_,_,_,_=>none
 | k + 1,x5,x13,x14,x102000,x102001=>if x14 < x13 then ((zY.f k x14).bind fun bt103=>(if x5.length < 140737488355328 then (zS.l0 k (x5 ++ [((Go.bits .or .u64 (Go.bits .and .u64 x102001 bt103.2) (Go.bits .and .u64 x102000 bt103.1)) != 0)]) x13 (wrap64 (x14 + 1)) x102000 x102001) else (none))) else (some x5)
def zS.f (k : Nat) (a0 : Int) (a1_0 : Int) (a1_1 : Int) : Option (List Bool):=(zF.f k a0 a1_0 a1_1).bind fun t102=>(if t102 = true then (if 0 ≤ a0 then (zS.l0 k ([] : List Bool) (shl .i64 1 a0) 0 a1_0 a1_1) else (none)) else (some ([] : List Bool)))
theorem zS.z17 : ∀ k,(∀ y0 y1 y2 y3 y4,LeO (zS.l0 k y0 y1 y2 y3 y4) (zS.l0 (k + 1) y0 y1 y2 y3 y4))
 | 0=>fun _ _ _ _ _ r h=>by simp [zS.l0] at h
 | k + 1=>by
  have ih0:=zS.z17 k
  · intro y0 y1 y2 y3 y4
    unfold zS.l0
    repeat' first
    | (with_reducible exact ih0 _ _ _ _ _)
    | (with_reducible exact zF.mono _ _ _ _)
    | (with_reducible exact zY.mono _ _)
    | (with_reducible exact LeO.refl _)
    | (with_reducible exact LeO.none _)
    | (with_reducible refine LeO.ite ?_ ?_)
    | (with_reducible refine LeO.bind ?_ (fun _=>?_))
    | exact ih0 _ _ _ _ _
    | exact zF.mono _ _ _ _
    | exact zY.mono _ _
    | exact LeO.none _
    | refine LeO.ite ?_ ?_
    | refine LeO.bind ?_ (fun _=>?_)
theorem zS.mono : ∀ a0 a1 a2 k,LeO (zS.f k a0 a1 a2) (zS.f (k + 1) a0 a1 a2):=by
 intro a0 a1 a2 k
 have ih0:=zS.z17 k
 unfold zS.f
 repeat' first
  | (with_reducible exact ih0 _ _ _ _ _)
  | (with_reducible exact zF.mono _ _ _ _)
  | (with_reducible exact zY.mono _ _)
  | (with_reducible exact LeO.refl _)
  | (with_reducible exact LeO.none _)
  | (with_reducible refine LeO.ite ?_ ?_)
  | (with_reducible refine LeO.bind ?_ (fun _=>?_))
  | exact ih0 _ _ _ _ _
  | exact zF.mono _ _ _ _
  | exact zY.mono _ _
  | exact LeO.none _
  | refine LeO.ite ?_ ?_
  | refine LeO.bind ?_ (fun _=>?_)
set_option maxHeartbeats 8000000 in
set_option maxRecDepth 100000 in
theorem zS.calls (k : Nat) (a0 : Int) (a1_0 : Int) (a1_1 : Int) (r : List Bool) (w : World) (h : zS.f k a0 a1_0 a1_1 = some r) :
 Calls Try.prog 125 #[.int .i64 a0,.agg #[.int .u64 a1_0,.int .u64 a1_1]] w fun e w'=>∃ v0_ : Value,e = .returned (v0_) ∧ Kd.R Kd.bool 4 w' w.heap.size (fun _=>True) v0_ r ∧ Below w.heap.size w w':=by
 have hu30:=Try.underlying30
 have HB:=z1.mk (Below.refl w.heap.size w)
 have H : ((zF.f k a0 a1_0 a1_1).bind fun t102=>(if t102 = true then (if 0 ≤ a0 then (zS.l0 k ([] : List Bool) (shl .i64 1 a0) 0 a1_0 a1_1) else (none)) else (some ([] : List Bool)))) = some r:=h
 clear h
 replace H:=Option.bind_eq_some_iff.mp H
 obtain ⟨t102,A30,H⟩:=H
 replace H : (if t102 = true then (if 0 ≤ a0 then (zS.l0 k ([] : List Bool) (shl .i64 1 a0) 0 a1_0 a1_1) else (none)) else (some ([] : List Bool))) = some r:=H
 have A3:=z1.mk A30
 clear A30
 by_cases c4 : t102 = true
 rotate_left
 · replace c4:=Bool.eq_false_iff.mpr c4
   subst c4
   have H1 : (some ([] : List Bool)) = some r:=by rw [if_neg (show ¬ (false = true) by decide)] at H;exact H
   clear H
   have H:=H1
   clear H1
   obtain rfl:=Option.some.inj H
   go_enter Try.func125,Try.ntmps125
   go_wp2_with (first|((with_reducible refine zp (N:=3) rfl ?_);refine zt ?hg (N:=3) ?hd (cs:=#[.int .u64 a1_0,.int .u64 a1_1]) (t:=30) ?hr ?_;(case hd=>rfl);(case hg=>rfl);(case hr=>first|(go_simp;done)|(go_simp;rfl));intro gb101 hg w19 hbox hb;have n0_:=z1.mk (z3 zz49 hb);have n1_:=z1.mk (hbox);have n2_:=z1.mk ((by rw [hg];exact (zb zz49) : w.heap.size ≤ gb101));have n3_:=z1.mk ((by rw [hg];exact (zb zz49) : w.heap.size ≤ gb101));clear HB;have HB:=n0_;have BK101:=n1_;have GW101:=n2_;have GE101:=n3_;clear n0_ n1_ n2_ n3_;clear hb hbox hg;have hcz20_0 : w19.cell? ⟨gb101,0,none⟩ = some (.int .u64 a1_0):=(z7 BK101.out 0).trans rfl;have hcz20_1 : w19.cell? ⟨gb101,1,none⟩ = some (.int .u64 a1_1):=(z7 BK101.out 1).trans rfl;have hfz20_0:=z6 BK101.out 0;have hfz20_1:=z6 BK101.out 1)|((with_reducible refine zi (f:=81) rfl ?_);refine goesL_ (some 10) rfl rfl Try.func81 zz90 rfl #[.int .i64 a0,.agg #[.int .u64 a1_0,.int .u64 a1_1]] rfl zz48 ?_;(with_reducible refine (zF.calls k a0 a1_0 a1_1 false _ A3.out).mono ?_);rintro e w21 ⟨rfl,hb⟩;refine ⟨_,rfl,?_⟩;have n0_:=z1.mk (zc (g:=gb101) (o:=.cells #[.int .u64 a1_0,.int .u64 a1_1] 30 (0,0)) zz50 hb);have n1_:=z1.mk (z3 zz43 hb);clear BK101;clear HB;have BK101:=n0_;have HB:=n1_;clear n0_ n1_;(try clear hb);(try clear hb2);(try clear hk);(try clear hi)))
   go_ret
   exact ⟨_,by first|rfl|(simp [zg,zh] <;> rfl)|(simp [*,zg,zh] <;> rfl),by first|exact Kd.z2W _ _ _ _ _|exact Kd.z3k _ _ _ _ _|exact Kd.z3p _ _ _ _ _|exact Kd.z3m _ _ _ _ _|exact Kd.z3o _ _ _ _ _,by repeat (first|(with_reducible first|exact HB.out|apply zd|apply z2|apply z9|refine za ?_ GE101.out)|exact HB.out)⟩
 subst c4
 have H1 : (if 0 ≤ a0 then (zS.l0 k ([] : List Bool) (shl .i64 1 a0) 0 a1_0 a1_1) else (none)) = some r:=by rw [if_pos rfl] at H;exact H
 clear H
 have H:=H1
 clear H1
 by_cases c5 : 0 ≤ a0
 rotate_left
 · rw [if_neg c5] at H
   exact absurd H zz93
 rw [if_pos c5] at H
 have c5b0:=eq_true c5
 have c5b1 : decide (0 ≤ a0) = true:=decide_eq_true c5
 clear c5
 obtain ⟨ji6,hji6⟩ : ∃ j_ : Int,(shl .i64 1 a0) = j_:=⟨_,rfl⟩
 replace H : (zS.l0 k ([] : List Bool) ji6 0 a1_0 a1_1) = some r:=by first|(rw [hji6] at H;exact H)|(simp only [hji6] at H ⊢;exact H)
 (try rw [hji6] at A3)
 have hji6_ : (IntKind.i64.wrap (1 * 2 ^ min a0.toNat 64)) = ji6:=hji6
 have hji6z : a0 ≤ 64 → (IntKind.i64.wrap (1 * 2 ^ a0.toNat)) = ji6:=z1K hji6
 have hji6u : (IntKind.i64.wrap (2 ^ min a0.toNat 64)) = ji6:=by have h_:=hji6_;rw [Int.one_mul] at h_;exact h_
 have hji6v : a0 ≤ 64 → (IntKind.i64.wrap (2 ^ a0.toNat)) = ji6:=fun hle_=>by have h_:=hji6z hle_;rw [Int.one_mul] at h_;exact h_
 have hji6y : (wrap64 (1 * 2 ^ min a0.toNat 64)) = ji6:=(zH _).symm.trans hji6_
 have hji6x : a0 ≤ 64 → (wrap64 (1 * 2 ^ a0.toNat)) = ji6:=fun h_=>(zH _).symm.trans (hji6z h_)
 have H':=z1.mk H
 clear H
 go_enter Try.func125,Try.ntmps125
 go_wp2_with (first|((with_reducible refine zp (N:=3) rfl ?_);refine zt ?hg (N:=3) ?hd (cs:=#[.int .u64 a1_0,.int .u64 a1_1]) (t:=30) ?hr ?_;(case hd=>rfl);(case hg=>rfl);(case hr=>first|(go_simp;done)|(go_simp;rfl));intro gb101 hg w7 hbox hb;have n0_:=z1.mk (z3 zz49 hb);have n1_:=z1.mk (hbox);have n2_:=z1.mk ((by rw [hg];exact (zb zz49) : w.heap.size ≤ gb101));have n3_:=z1.mk ((by rw [hg];exact (zb zz49) : w.heap.size ≤ gb101));clear HB;have HB:=n0_;have BK101:=n1_;have GW101:=n2_;have GE101:=n3_;clear n0_ n1_ n2_ n3_;clear hb hbox hg;have hcz8_0 : w7.cell? ⟨gb101,0,none⟩ = some (.int .u64 a1_0):=(z7 BK101.out 0).trans rfl;have hcz8_1 : w7.cell? ⟨gb101,1,none⟩ = some (.int .u64 a1_1):=(z7 BK101.out 1).trans rfl;have hfz8_0:=z6 BK101.out 0;have hfz8_1:=z6 BK101.out 1)|((with_reducible refine zi (f:=81) rfl ?_);refine goesL_ (some 10) rfl rfl Try.func81 zz90 rfl #[.int .i64 a0,.agg #[.int .u64 a1_0,.int .u64 a1_1]] rfl zz48 ?_;(with_reducible refine (zF.calls k a0 a1_0 a1_1 true _ A3.out).mono ?_);rintro e w9 ⟨rfl,hb⟩;refine ⟨_,rfl,?_⟩;have n0_:=z1.mk (zc (g:=gb101) (o:=.cells #[.int .u64 a1_0,.int .u64 a1_1] 30 (0,0)) zz50 hb);have n1_:=z1.mk (z3 zz43 hb);clear BK101;clear HB;have BK101:=n0_;have HB:=n1_;clear n0_ n1_;(try clear hb);(try clear hb2);(try clear hk);(try clear hi)))
 go_loopg [5,14] k (fun kq v5 v14 w'=>∃ (x5_1 : List Bool) (x14_1 : Int),v14 = .int .i64 x14_1 ∧ z1 (zS.l0 kq x5_1 ji6 x14_1 a1_0 a1_1 = some r) ∧ z1 (kq ≤ k) ∧ z1 (Kd.R Kd.bool 4 w' w.heap.size (fun _=>True) v5 x5_1) ∧ z1 (w'.heap[gb101]? = some (.cells #[.int .u64 a1_0,.int .u64 a1_1] 30 (0,0))) ∧ z1 (Below w.heap.size w w'))
 case atStart=>exact ⟨(([] : List Bool)),(0),zz86,H',⟨Nat.le_refl _⟩,⟨by first|exact Kd.z2W _ _ _ _ _|exact Kd.z3k _ _ _ _ _|exact Kd.z3p _ _ _ _ _|exact Kd.z3m _ _ _ _ _|exact Kd.z3o _ _ _ _ _⟩,⟨by (with_reducible repeat (first|refine z5 ?_ _|refine z8 ?_|refine z4 ?_ _));exact BK101.out⟩,⟨by repeat (first|(with_reducible first|exact HB.out|apply zd|apply z2|apply z9|refine za ?_ GE101.out)|exact HB.out)⟩⟩
 case round =>
  clear H'
  (try clear c1);(try clear p2);(try clear c4);(try clear c5);(try clear c5b0);(try clear c5b1);(try clear p6);(try clear c8);(try clear hcz8_0);(try clear hcz8_1);(try clear hfz8_0);(try clear hfz8_1)
  obtain ⟨x5_1,x14_1,rfl,HA,HK1,HO_5,BK101,HB⟩:=hrel
  cases gk with
  | zero=>exact absurd HA.out (by simp [zS.l0])
  | succ k1 =>
   have H:=HA.out
   clear HA
   simp only [zS.l0] at H
   by_cases c10 : x14_1 < ji6
   rotate_left
   · rw [if_neg c10] at H
     have c10b0 : decide (x14_1 < ji6) = false:=decide_eq_false c10
     clear c10
     obtain rfl:=Option.some.inj H
     go_wp2
     go_ret
     exact ⟨_,by first|rfl|(simp [zg,zh] <;> rfl)|(simp only [← hji6];first|rfl|(simp [zg,zh] <;> rfl))|(simp [*,zg,zh] <;> rfl),by (with_reducible repeat (first|apply Kd.zI|apply Kd.zJ|apply Kd.zT));exact HO_5.out,by repeat (first|(with_reducible first|exact HB.out|apply zd|apply z2|apply z9|refine za ?_ GE101.out)|exact HB.out)⟩
   rw [if_pos c10] at H
   have c10b0 : decide (x14_1 < ji6) = true:=decide_eq_true c10
   clear c10
   replace H:=Option.bind_eq_some_iff.mp H
   obtain ⟨⟨t103,t104⟩,A110,H⟩:=H
   replace H : (if x5_1.length < 140737488355328 then (zS.l0 k1 (x5_1 ++ [((Go.bits .or .u64 (Go.bits .and .u64 a1_1 t104) (Go.bits .and .u64 a1_0 t103)) != 0)]) ji6 (wrap64 (x14_1 + 1)) a1_0 a1_1) else (none)) = some r:=H
   have A11:=z1.mk A110
   clear A110
   by_cases c12 : x5_1.length < 140737488355328
   rotate_left
   · rw [if_neg c12] at H
     exact absurd H zz93
   rw [if_pos c12] at H
   have LMc12:=z1.mk c12
   clear c12
   obtain ⟨y106,hy106⟩ : ∃ y_ : List Bool,y_ = (x5_1 ++ [((Go.bits .or .u64 (Go.bits .and .u64 a1_1 t104) (Go.bits .and .u64 a1_0 t103)) != 0)]):=⟨_,rfl⟩
   replace H : (zS.l0 k1 y106 ji6 (wrap64 (x14_1 + 1)) a1_0 a1_1) = some r:=by first|(rw [hy106];with_reducible exact H)|(have H2_:=(Option.bind_some _ _).symm.trans H;rw [hy106];with_reducible exact H2_)|(have H2_:=(Option.bind_some _ _).symm.trans H;with_reducible exact H2_)|with_reducible exact H|(rw [hy106];exact H)|exact H
   have Ny106:=z1.mk hy106
   clear hy106
   have H':=z1.mk H
   clear H
   go_wp2_with (first|((with_reducible refine zi (f:=94) rfl ?_);refine goesL_ (some 18) rfl rfl Try.func94 zz90 rfl #[.int .i64 x14_1] rfl zz48 ?_;(with_reducible refine (zY.calls k1 x14_1 t103 t104 _ A11.out).mono ?_);rintro e w13 ⟨rfl,hb⟩;refine ⟨_,rfl,?_⟩;have n0_:=z1.mk (Kd.zq zz70 hb);have n1_:=z1.mk (zc (g:=gb101) (o:=.cells #[.int .u64 a1_0,.int .u64 a1_1] 30 (0,0)) zz50 hb);have n2_:=z1.mk (z3 zz43 hb);clear HO_5;clear BK101;clear HB;have HO_5:=n0_;have BK101:=n1_;have HB:=n2_;clear n0_ n1_ n2_;(try clear hb);(try clear hb2);(try clear hk);(try clear hi))|((with_reducible refine zp (N:=7) rfl ?_);refine zt ?hg (N:=7) ?hd (cs:=#[.int .u64 0,.int .u64 0]) (t:=30) ?hr ?_;(case hd=>rfl);(case hg=>rfl);(case hr=>first|(go_simp;done)|(go_simp;rfl));intro gb105 hg w14 hbox hb;have n0_:=z1.mk (Kd.zq zz70 hb);have n1_:=z1.mk (zc (g:=gb101) (o:=.cells #[.int .u64 a1_0,.int .u64 a1_1] 30 (0,0)) zz50 hb);have n2_:=z1.mk (z3 zz43 hb);have n3_:=z1.mk (hbox);have n4_:=z1.mk ((by rw [hg];exact (zb zz43) : w.heap.size ≤ gb105));have n5_:=z1.mk ((by rw [hg];exact (zb zz43) : w.heap.size ≤ gb105));have n6_:=z1.mk ((by rw [hg];exact Nat.ne_of_lt (zL (g:=gb101) (o:=.cells #[.int .u64 a1_0,.int .u64 a1_1] 30 (0,0)) zz50) : gb101 ≠ gb105));have n7_:=z1.mk ((by rw [hg];exact Nat.ne_of_gt (zL (g:=gb101) (o:=.cells #[.int .u64 a1_0,.int .u64 a1_1] 30 (0,0)) zz50) : gb105 ≠ gb101));clear HO_5;clear BK101;clear HB;have HO_5:=n0_;have BK101:=n1_;have HB:=n2_;have BK105:=n3_;have GW105:=n4_;have GE105:=n5_;have NB101_105:=n6_;have NB105_101:=n7_;clear n0_ n1_ n2_ n3_ n4_ n5_ n6_ n7_;clear hb hbox hg;have hnb15:=NB105_101.out;have hnc15:=NB101_105.out;have hcz16_0 : w14.cell? ⟨gb105,0,none⟩ = some (.int .u64 0):=(z7 BK105.out 0).trans rfl;have hcz16_1 : w14.cell? ⟨gb105,1,none⟩ = some (.int .u64 0):=(z7 BK105.out 1).trans rfl;have hfz16_0:=z6 BK105.out 0;have hfz16_1:=z6 BK105.out 1;have hcz17_0 : w14.cell? ⟨gb101,0,none⟩ = some (.int .u64 a1_0):=(z7 BK101.out 0).trans rfl;have hcz17_1 : w14.cell? ⟨gb101,1,none⟩ = some (.int .u64 a1_1):=(z7 BK101.out 1).trans rfl;have hfz17_0:=z6 BK101.out 0;have hfz17_1:=z6 BK101.out 1)|((with_reducible refine z2f (b:=.append) (xs:=#[.tmp 19,.tmp 32]) rfl ?_);at_builtin;refine Kd.z3n Kd.bool (w0:=w) w.heap.size rfl (.tmp 19) (.tmp 32) 69 4 (.bool false) 1 rfl Try.underlying69 info4 rfl zz91 zz92 u5 x5_1 ((Go.bits .or .u64 (Go.bits .and .u64 a1_1 t104) (Go.bits .and .u64 a1_0 t103)) != 0) [.bool ((Go.bits .or .u64 (Go.bits .and .u64 a1_1 t104) (Go.bits .and .u64 a1_0 t103)) != 0)] (fun _=>True) (fun _=>False) rfl zz87 ?aP (fun _ hk=>hk.elim) ?aF ?aO ?aB ?aS ?aL ?_;(case aP=>exact rfl);(case aB=>exact zz41);(case aF=>exact (fun _ _=>trivial));(case aO=>exact (by (with_reducible repeat (first|apply Kd.zI|apply Kd.zJ|apply Kd.zT));exact Kd.z18 (Kd.z1M (p:=⟨gb105,1,none⟩) (Kd.z1M (p:=⟨gb105,0,none⟩) (Kd.z3g HO_5.out BK105.out zz91) (fun _ hk=>hk.2) (.int .u64 t103)) (fun _ hk=>hk.2) (.int .u64 t104)) (fun _ hk=>trivial)));(case aS=>exact (zb zz41));(case aL=>have:=LMc12.out;omega);intro v107 w18 ho hb hg hat;rw [← Ny106.out] at ho;have n0_:=z1.mk (z1U (g:=gb101) (o:=.cells #[.int .u64 a1_0,.int .u64 a1_1] 30 (0,0)) zz11 hg (Kd.R_ne HO_5.out BK101.out zz91));have n1_:=z1.mk (z1U (g:=gb105) (o:=.cells #[.int .u64 t103,.int .u64 t104] 30 (0,0)) (by (with_reducible repeat (first|refine z5 ?_ _|refine z8 ?_|refine z4 ?_ _));refine zX (cs:=#[.int .u64 t103,.int .u64 0]) ?_ 1 _ rfl;(with_reducible repeat (first|refine z5 ?_ _|refine z8 ?_|refine z4 ?_ _));refine zX (cs:=#[.int .u64 0,.int .u64 0]) ?_ 0 _ rfl;(with_reducible repeat (first|refine z5 ?_ _|refine z8 ?_|refine z4 ?_ _));exact BK105.out) hg (Kd.R_ne HO_5.out BK105.out zz91));have n2_:=z1.mk (hb);have n3_:=z1.mk (ho);clear BK101;clear BK105;clear HB;clear HO_5;have BK101:=n0_;have BK105:=n1_;have HB:=n2_;have HO108:=n3_;clear n0_ n1_ n2_ n3_;clear ho hb hg hat))
   go_roundg k1
   case measure=>have:=HK1.out;omega
   case rel=>exact ⟨(y106),(wrap64 (x14_1 + 1)),zz86,H',⟨by have:=HK1.out;omega⟩,⟨by (with_reducible repeat (first|apply Kd.zI|apply Kd.zJ|apply Kd.zT));exact HO108.out⟩,⟨by (with_reducible repeat (first|refine z5 ?_ _|refine z8 ?_|refine z4 ?_ _));exact BK101.out⟩,⟨by repeat (first|(with_reducible first|exact HB.out|apply zd|apply z2|apply z9|refine za ?_ GE101.out|refine za ?_ GE105.out)|exact HB.out)⟩⟩
end Go.Proofs.Ytkhmpaooinpfoaa.P
/- The bits of an element as the program tells them. Own text. -/
namespace Go.Proofs.Ytkhmpaooinpfoaa.Sp
open Go.RowKit Go.Proofs.YtkhmpaooinpfoaaW.PrintWords Go.Proofs.YtkhmpaooinpfoaaW.PrintMore Go.Proofs.Ytkhmpaooinpfoaa.P Go.Proofs.Ytkhmpaooinpfoaa.Ar Go.Proofs.Ytkhmpaooinpfoaa.Tw
set_option linter.unusedVariables false
theorem z2P (n : Nat) (hn : n < 128) : Ev (fun k => zY.f k (n : Int)) (hi (bitE n), lo (bitE n)) := by
  obtain ⟨h1, h2⟩ := z5C hn
  unfold zY.f
  refine Ev.pos (by omega) ?_
  by_cases c : n < 64
  · rw [if_pos c] at h1 h2
    rw [h1, h2, decide_eq_true (show (n : Int) < 64 by omega)]
    refine Ev.step (fun k => by rw [zY.j0]) (Ev.pos rfl (Ev.pos (Int.natCast_nonneg _) (Ev.ret' ?_)))
    rw [z33 n (by omega)]
  · rw [if_neg c] at h1 h2
    rw [h1, h2, decide_eq_false (show ¬ (n : Int) < 64 by omega)]
    have e : wrap64 ((n : Int) - 64) = ((n - 64 : Nat) : Int) := by rw [z2g (by omega) (by omega)]; omega
    refine Ev.step (fun k => by rw [zY.j0]) (Ev.neg (by decide) (Ev.pos (by omega) (Ev.pos (by omega) ?_)))
    rw [e]
    exact Ev.pos (Int.natCast_nonneg _) (Ev.ret' (by rw [z33 (n - 64) (by omega)]))
def bitsL (x : E) (n : Nat) : List Bool := (List.range n).map fun i => (val x).testBit i
theorem z5v (x : E) (N : Nat) (hN : N ≤ 128) : ∀ (d n : Nat), n + d = N → Ev (fun k => zS.l0 k (bitsL x n) (N : Int) (n : Int) (hi x) (lo x)) (bitsL x N) := by
  intro d
  induction d with
  | zero =>
    intro n hn
    have : n = N := by omega
    subst this
    exact Ev.step (fun k => by rw [zS.l0]) (Ev.neg (by omega) (Ev.ret _))
  | succ d ih =>
    intro n hn
    have hn' : n < N := by omega
    have hih := ih (n + 1) (by omega)
    have hs : bitsL x (n + 1) = bitsL x n ++ [(val x).testBit n] := by unfold bitsL; rw [List.range_succ, List.map_append]; rfl
    have hl : (bitsL x n).length < 140737488355328 := by unfold bitsL; rw [List.length_map, List.length_range]; omega
    rw [hs] at hih
    refine Ev.step (fun k => by rw [zS.l0]) (Ev.pos (by omega) (Ev.bnd (z2P n (by omega)) ?_))
    refine Ev.pos hl ?_
    simp only [hasBits x n (show n < 128 by omega), z1O hn' (show N ≤ 4611686018427387904 by omega)]
    exact hih
theorem z3P {l : Nat} (hl : l ≤ 7) (x : E) (hx : OfS (l : Int) x) : Ev (fun k => zS.f k (l : Int) (hi x) (lo x)) (bitsL x (2 ^ l)) := by
  unfold zS.f
  refine Ev.bnd (z4b (l : Int) x) (Ev.pos (decide_eq_true hx) (Ev.pos (Int.natCast_nonneg _) ?_))
  rw [z3I l (by omega)]
  exact z5v x (2 ^ l) (Nat.pow_le_pow_right (n := 2) (by decide) hl) (2 ^ l) 0 (Nat.zero_add _)
end Go.Proofs.Ytkhmpaooinpfoaa.Sp
/- Powers of two as the document's Two tells them. Own text. -/
namespace Go.Proofs.Ytkhmpaooinpfoaa.Sp
open Go.RowKit Go.Proofs.YtkhmpaooinpfoaaW.PrintWords Go.Proofs.YtkhmpaooinpfoaaW.PrintMore Go.Proofs.Ytkhmpaooinpfoaa.P Go.Proofs.Ytkhmpaooinpfoaa.Ar
set_option linter.unusedVariables false
set_option linter.unusedSimpArgs false
theorem z76 {n : Nat} (h : n ≤ 61) : 2 ^ n ≤ 2305843009213693952 := by
  have : (2 : Nat) ^ n ≤ 2 ^ 61 := Nat.pow_le_pow_right (by decide) h
  simpa using this
theorem two_l0 (n : Nat) (h : n ≤ 61) : ∀ d i, i + d = n → Ev (fun k => zz.l0 k (n : Int) ((2 ^ i : Nat) : Int) (i : Int)) ((2 ^ n : Nat) : Int) := by
  intro d
  induction d with
  | zero =>
    intro i hi
    have hi : i = n := by omega
    subst hi
    exact Ev.step (fun k => by rw [zz.l0]) (Ev.neg (by omega) (Ev.ret _))
  | succ d ih =>
    intro i hi
    refine Ev.step (fun k => by rw [zz.l0]) (Ev.pos (by omega) ?_)
    have h1 := z76 (n := i) (by omega)
    have e1 : wrap64 (2 * ((2 ^ i : Nat) : Int)) = ((2 ^ (i + 1) : Nat) : Int) := by
      rw [Nat.pow_succ]
      generalize 2 ^ i = p at h1 ⊢
      rw [z2g (by omega) (by omega)]; omega
    have e2 : wrap64 ((i : Int) + 1) = ((i + 1 : Nat) : Int) := by rw [z2g (by omega) (by omega)]; omega
    rw [e1, e2]
    exact ih (i + 1) (by omega)
theorem two_ev (n : Nat) (h : n ≤ 61) : Ev (fun k => zz.f k (n : Int)) ((2 ^ n : Nat) : Int) := two_l0 n h n 0 (by omega)
end Go.Proofs.Ytkhmpaooinpfoaa.Sp
namespace Go.Proofs.Ytkhmpaooinpfoaa.P
open Go.RowKit Go.Proofs.YtkhmpaooinpfoaaW.PrintWords Go.Proofs.YtkhmpaooinpfoaaW.PrintLast Go.Proofs.YtkhmpaooinpfoaaW.PrintMore
attribute [local go_sem] z12 z14 z1i z1j zU zV z13 z15   -- for this text's walks alone
set_option linter.unusedVariables false
set_option linter.unusedSimpArgs false
def z1u.f (k : Nat) (a0 : Int) : Option (Int):=(zx.f k a0).bind fun t101=>(if t101 = 0 then (some 0) else (if 0 ≤ a0 then (some (shl .i64 1 a0)) else (none)))
theorem z1u.mono : ∀ a0 k,LeO (z1u.f k a0) (z1u.f (k + 1) a0):=by
 intro a0 k
 unfold z1u.f
 repeat' first
  | (with_reducible exact zx.mono _ _)
  | (with_reducible exact LeO.refl _)
  | (with_reducible exact LeO.none _)
  | (with_reducible refine LeO.ite ?_ ?_)
  | (with_reducible refine LeO.bind ?_ (fun _=>?_))
  | exact zx.mono _ _
  | exact LeO.none _
  | refine LeO.ite ?_ ?_
  | refine LeO.bind ?_ (fun _=>?_)
set_option maxHeartbeats 8000000 in
set_option maxRecDepth 100000 in
theorem z1u.calls (k : Nat) (a0 : Int) (r : Int) (w : World) (h : z1u.f k a0 = some r) :
 Calls Try.prog 92 #[.int .i64 a0] w fun e w'=>e = .returned (.int .i64 r) ∧ Drawn0 w w':=by
 have H : ((zx.f k a0).bind fun t101=>(if t101 = 0 then (some 0) else (if 0 ≤ a0 then (some (shl .i64 1 a0)) else (none)))) = some r:=h
 clear h
 replace H:=Option.bind_eq_some_iff.mp H
 obtain ⟨t101,A20,H⟩:=H
 replace H : (if t101 = 0 then (some 0) else (if 0 ≤ a0 then (some (shl .i64 1 a0)) else (none))) = some r:=H
 have A2:=z1.mk A20
 clear A20
 by_cases c3 : t101 = 0
 · rw [if_pos c3] at H
   have c3b0 : (t101 == 0) = true:=beq_iff_eq.mpr c3
   have c3b1 : (t101 != 0) = false:=bne_eq_false_iff_eq.mpr c3
   clear c3
   obtain rfl:=Option.some.inj H
   go_enter Try.func92,Try.ntmps92
   go_wp2_with (first|((with_reducible refine zi (f:=60) rfl ?_);refine goesL_ (some 4) rfl rfl Try.func60 zz90 rfl #[.int .i64 a0] rfl zz48 ?_;(with_reducible refine (zx.calls k a0 t101 _ A2.out).mono ?_);rintro e w' ⟨rfl,⟨nd,rfl⟩⟩;refine ⟨_,rfl,?_⟩))
   go_ret
   exact ⟨by first|rfl|(simp;done)|(simp [*];done),by repeat (first|exact Drawn0.refl _|apply Drawn0.step)⟩
 rw [if_neg c3] at H
 have c3b0 : (t101 == 0) = false:=beq_eq_false_iff_ne.mpr c3
 have c3b1 : (t101 != 0) = true:=bne_iff_ne.mpr c3
 by_cases c4 : 0 ≤ a0
 rotate_left
 · rw [if_neg c4] at H
   exact absurd H zz93
 rw [if_pos c4] at H
 have c4b0:=eq_true c4
 have c4b1 : decide (0 ≤ a0) = true:=decide_eq_true c4
 clear c4
 obtain ⟨ji5,hji5⟩ : ∃ j_ : Int,(shl .i64 1 a0) = j_:=⟨_,rfl⟩
 replace H : (some ji5) = some r:=by first|(rw [hji5] at H;exact H)|(simp only [hji5] at H ⊢;exact H)
 (try rw [hji5] at A2)
 have hji5_ : (IntKind.i64.wrap (1 * 2 ^ min a0.toNat 64)) = ji5:=hji5
 have hji5z : a0 ≤ 64 → (IntKind.i64.wrap (1 * 2 ^ a0.toNat)) = ji5:=z1K hji5
 have hji5u : (IntKind.i64.wrap (2 ^ min a0.toNat 64)) = ji5:=by have h_:=hji5_;rw [Int.one_mul] at h_;exact h_
 have hji5v : a0 ≤ 64 → (IntKind.i64.wrap (2 ^ a0.toNat)) = ji5:=fun hle_=>by have h_:=hji5z hle_;rw [Int.one_mul] at h_;exact h_
 have hji5y : (wrap64 (1 * 2 ^ min a0.toNat 64)) = ji5:=(zH _).symm.trans hji5_
 have hji5x : a0 ≤ 64 → (wrap64 (1 * 2 ^ a0.toNat)) = ji5:=fun h_=>(zH _).symm.trans (hji5z h_)
 obtain rfl:=Option.some.inj H
 go_enter Try.func92,Try.ntmps92
 go_wp2_with (first|((with_reducible refine zi (f:=60) rfl ?_);refine goesL_ (some 4) rfl rfl Try.func60 zz90 rfl #[.int .i64 a0] rfl zz48 ?_;(with_reducible refine (zx.calls k a0 t101 _ A2.out).mono ?_);rintro e w' ⟨rfl,⟨nd,rfl⟩⟩;refine ⟨_,rfl,?_⟩))
 go_ret
 exact ⟨by first|rfl|(simp;done)|(simp only [← hji5] <;> (first|rfl|simp))|(simp [*];done),by repeat (first|exact Drawn0.refl _|apply Drawn0.step)⟩
end Go.Proofs.Ytkhmpaooinpfoaa.P
namespace Go.Proofs.Ytkhmpaooinpfoaa.P
open Go.RowKit Go.Proofs.YtkhmpaooinpfoaaW.PrintWords Go.Proofs.YtkhmpaooinpfoaaW.PrintLast Go.Proofs.YtkhmpaooinpfoaaW.PrintMore
attribute [local go_sem] z12 z14 z1i z1j zU zV z13 z15   -- for this text's walks alone
set_option linter.unusedVariables false
set_option linter.unusedSimpArgs false
def z11.l0 : Nat → List (S30) → List Bool → Int → Int → Option ((List (S30)))
 | 0,_,_,_,_=>none
 | k + 1,x5,x17,x18,x19=>if x19 < x18 then (if 0 ≤ x19 then (if x19 < (x17.length : Int) then (if rdOf false x17 x19 = true then ((z24.f).bind fun bt111=>(if x19 < (x5.length : Int) then (z11.l0 k (x5.set (x19 : Int).toNat (⟨bt111.1,bt111.2⟩ : S30)) x17 x18 (wrap64 (x19 + 1))) else (none))) else (z11.l0 k x5 x17 x18 (wrap64 (x19 + 1)))) else (none)) else (none)) else (some x5)
def z11.f (k : Nat) (a0 : Int) (a1_0 : Int) (a1_1 : Int) : Option ((List (S30))):=(zF.f k a0 a1_0 a1_1).bind fun t102=>(if t102 = true then ((z1u.f k a0).bind fun t103=>(if 0 ≤ t103 then (if (t103 : Int).toNat ≤ 17592186044416 then ((zS.f k a0 a1_0 a1_1).bind fun t107=>(z11.l0 k (List.replicate (t103 : Int).toNat z30) t107 (t107.length : Int) 0)) else (none)) else (none))) else (some ([] : List (S30))))
theorem z11.z17 : ∀ k,(∀ y0 y1 y2 y3,LeO (z11.l0 k y0 y1 y2 y3) (z11.l0 (k + 1) y0 y1 y2 y3))
 | 0=>fun _ _ _ _ r h=>by simp [z11.l0] at h
 | k + 1=>by
  have ih0:=z11.z17 k
  · intro y0 y1 y2 y3
    unfold z11.l0
    repeat' first
    | (with_reducible exact ih0 _ _ _ _)
    | (with_reducible exact zF.mono _ _ _ _)
    | (with_reducible exact z1u.mono _ _)
    | (with_reducible exact zS.mono _ _ _ _)
    | (with_reducible exact LeO.refl _)
    | (with_reducible exact LeO.none _)
    | (with_reducible refine LeO.ite ?_ ?_)
    | (with_reducible refine LeO.bind ?_ (fun _=>?_))
    | exact ih0 _ _ _ _
    | exact zF.mono _ _ _ _
    | exact z1u.mono _ _
    | exact zS.mono _ _ _ _
    | exact LeO.none _
    | refine LeO.ite ?_ ?_
    | refine LeO.bind ?_ (fun _=>?_)
theorem z11.mono : ∀ a0 a1 a2 k,LeO (z11.f k a0 a1 a2) (z11.f (k + 1) a0 a1 a2):=by
 intro a0 a1 a2 k
 have ih0:=z11.z17 k
 unfold z11.f
 repeat' first
  | (with_reducible exact ih0 _ _ _ _)
  | (with_reducible exact zF.mono _ _ _ _)
  | (with_reducible exact z1u.mono _ _)
  | (with_reducible exact zS.mono _ _ _ _)
  | (with_reducible exact LeO.refl _)
  | (with_reducible exact LeO.none _)
  | (with_reducible refine LeO.ite ?_ ?_)
  | (with_reducible refine LeO.bind ?_ (fun _=>?_))
  | exact ih0 _ _ _ _
  | exact zF.mono _ _ _ _
  | exact z1u.mono _ _
  | exact zS.mono _ _ _ _
  | exact LeO.none _
  | refine LeO.ite ?_ ?_
  | refine LeO.bind ?_ (fun _=>?_)
set_option maxHeartbeats 8000000 in
set_option maxRecDepth 100000 in
theorem z11.calls (k : Nat) (a0 : Int) (a1_0 : Int) (a1_1 : Int) (r : List (S30)) (w : World) (h : z11.f k a0 a1_0 a1_1 = some r) :
 Calls Try.prog 88 #[.int .i64 a0,.agg #[.int .u64 a1_0,.int .u64 a1_1]] w fun e w'=>∃ v0_ : Value,e = .returned (v0_) ∧ Kd.R k30 30 w' w.heap.size (fun _=>True) v0_ r ∧ Below w.heap.size w w':=by
 have hu30:=Try.underlying30
 have HB:=z1.mk (Below.refl w.heap.size w)
 have H : ((zF.f k a0 a1_0 a1_1).bind fun t102=>(if t102 = true then ((z1u.f k a0).bind fun t103=>(if 0 ≤ t103 then (if (t103 : Int).toNat ≤ 17592186044416 then ((zS.f k a0 a1_0 a1_1).bind fun t107=>(z11.l0 k (List.replicate (t103 : Int).toNat z30) t107 (t107.length : Int) 0)) else (none)) else (none))) else (some ([] : List (S30))))) = some r:=h
 clear h
 replace H:=Option.bind_eq_some_iff.mp H
 obtain ⟨t102,A30,H⟩:=H
 replace H : (if t102 = true then ((z1u.f k a0).bind fun t103=>(if 0 ≤ t103 then (if (t103 : Int).toNat ≤ 17592186044416 then ((zS.f k a0 a1_0 a1_1).bind fun t107=>(z11.l0 k (List.replicate (t103 : Int).toNat z30) t107 (t107.length : Int) 0)) else (none)) else (none))) else (some ([] : List (S30)))) = some r:=H
 have A3:=z1.mk A30
 clear A30
 by_cases c4 : t102 = true
 rotate_left
 · replace c4:=Bool.eq_false_iff.mpr c4
   subst c4
   have H1 : (some ([] : List (S30))) = some r:=by rw [if_neg (show ¬ (false = true) by decide)] at H;exact H
   clear H
   have H:=H1
   clear H1
   obtain rfl:=Option.some.inj H
   go_enter Try.func88,Try.ntmps88
   go_wp2_with (first|((with_reducible refine zp (N:=3) rfl ?_);refine zt ?hg (N:=3) ?hd (cs:=#[.int .u64 a1_0,.int .u64 a1_1]) (t:=30) ?hr ?_;(case hd=>rfl);(case hg=>rfl);(case hr=>first|(go_simp;done)|(go_simp;rfl));intro gb101 hg w28 hbox hb;have n0_:=z1.mk (z3 zz49 hb);have n1_:=z1.mk (hbox);have n2_:=z1.mk ((by rw [hg];exact (zb zz49) : w.heap.size ≤ gb101));have n3_:=z1.mk ((by rw [hg];exact (zb zz49) : w.heap.size ≤ gb101));clear HB;have HB:=n0_;have BK101:=n1_;have GW101:=n2_;have GE101:=n3_;clear n0_ n1_ n2_ n3_;clear hb hbox hg;have hcz29_0 : w28.cell? ⟨gb101,0,none⟩ = some (.int .u64 a1_0):=(z7 BK101.out 0).trans rfl;have hcz29_1 : w28.cell? ⟨gb101,1,none⟩ = some (.int .u64 a1_1):=(z7 BK101.out 1).trans rfl;have hfz29_0:=z6 BK101.out 0;have hfz29_1:=z6 BK101.out 1)|((with_reducible refine zi (f:=81) rfl ?_);refine goesL_ (some 10) rfl rfl Try.func81 zz90 rfl #[.int .i64 a0,.agg #[.int .u64 a1_0,.int .u64 a1_1]] rfl zz48 ?_;(with_reducible refine (zF.calls k a0 a1_0 a1_1 false _ A3.out).mono ?_);rintro e w30 ⟨rfl,hb⟩;refine ⟨_,rfl,?_⟩;have n0_:=z1.mk (zc (g:=gb101) (o:=.cells #[.int .u64 a1_0,.int .u64 a1_1] 30 (0,0)) zz50 hb);have n1_:=z1.mk (z3 zz43 hb);clear BK101;clear HB;have BK101:=n0_;have HB:=n1_;clear n0_ n1_;(try clear hb);(try clear hb2);(try clear hk);(try clear hi)))
   go_ret
   exact ⟨_,by first|rfl|(simp [zg,zh] <;> rfl)|(simp [*,zg,zh] <;> rfl),by first|exact Kd.z2W _ _ _ _ _|exact Kd.z3k _ _ _ _ _|exact Kd.z3p _ _ _ _ _|exact Kd.z3m _ _ _ _ _|exact Kd.z3o _ _ _ _ _,by repeat (first|(with_reducible first|exact HB.out|apply zd|apply z2|apply z9|refine za ?_ GE101.out)|exact HB.out)⟩
 subst c4
 have H1 : ((z1u.f k a0).bind fun t103=>(if 0 ≤ t103 then (if (t103 : Int).toNat ≤ 17592186044416 then ((zS.f k a0 a1_0 a1_1).bind fun t107=>(z11.l0 k (List.replicate (t103 : Int).toNat z30) t107 (t107.length : Int) 0)) else (none)) else (none))) = some r:=by rw [if_pos rfl] at H;exact H
 clear H
 have H:=H1
 clear H1
 replace H:=Option.bind_eq_some_iff.mp H
 obtain ⟨t103,A50,H⟩:=H
 replace H : (if 0 ≤ t103 then (if (t103 : Int).toNat ≤ 17592186044416 then ((zS.f k a0 a1_0 a1_1).bind fun t107=>(z11.l0 k (List.replicate (t103 : Int).toNat z30) t107 (t107.length : Int) 0)) else (none)) else (none)) = some r:=H
 have A5:=z1.mk A50
 clear A50
 by_cases c6 : 0 ≤ t103
 rotate_left
 · rw [if_neg c6] at H
   exact absurd H zz93
 rw [if_pos c6] at H
 have c6b0:=eq_true c6
 have c6b1 : decide (0 ≤ t103) = true:=decide_eq_true c6
 clear c6
 by_cases c7 : (t103 : Int).toNat ≤ 17592186044416
 rotate_left
 · rw [if_neg c7] at H
   exact absurd H zz93
 rw [if_pos c7] at H
 have c7b0:=eq_true c7
 have c7b1 : decide ((t103 : Int).toNat ≤ 17592186044416) = true:=decide_eq_true c7
 clear c7
 obtain ⟨y104,hy104⟩ : ∃ y_ : List (S30),y_ = (List.replicate (t103 : Int).toNat z30):=⟨_,rfl⟩
 replace H : ((zS.f k a0 a1_0 a1_1).bind fun t107=>(z11.l0 k y104 t107 (t107.length : Int) 0)) = some r:=by first|(rw [hy104];with_reducible exact H)|(have H2_:=(Option.bind_some _ _).symm.trans H;rw [hy104];with_reducible exact H2_)|(have H2_:=(Option.bind_some _ _).symm.trans H;with_reducible exact H2_)|with_reducible exact H|(rw [hy104];exact H)|exact H
 have Ny104:=z1.mk hy104
 clear hy104
 replace H:=Option.bind_eq_some_iff.mp H
 obtain ⟨t107,A80,H⟩:=H
 replace H : (z11.l0 k y104 t107 (t107.length : Int) 0) = some r:=H
 have A8:=z1.mk A80
 clear A80
 have H':=z1.mk H
 clear H
 go_enter Try.func88,Try.ntmps88
 go_wp2_with (first|((with_reducible refine zp (N:=3) rfl ?_);refine zt ?hg (N:=3) ?hd (cs:=#[.int .u64 a1_0,.int .u64 a1_1]) (t:=30) ?hr ?_;(case hd=>rfl);(case hg=>rfl);(case hr=>first|(go_simp;done)|(go_simp;rfl));intro gb101 hg w9 hbox hb;have n0_:=z1.mk (z3 zz49 hb);have n1_:=z1.mk (hbox);have n2_:=z1.mk ((by rw [hg];exact (zb zz49) : w.heap.size ≤ gb101));have n3_:=z1.mk ((by rw [hg];exact (zb zz49) : w.heap.size ≤ gb101));clear HB;have HB:=n0_;have BK101:=n1_;have GW101:=n2_;have GE101:=n3_;clear n0_ n1_ n2_ n3_;clear hb hbox hg;have hcz10_0 : w9.cell? ⟨gb101,0,none⟩ = some (.int .u64 a1_0):=(z7 BK101.out 0).trans rfl;have hcz10_1 : w9.cell? ⟨gb101,1,none⟩ = some (.int .u64 a1_1):=(z7 BK101.out 1).trans rfl;have hfz10_0:=z6 BK101.out 0;have hfz10_1:=z6 BK101.out 1)|((with_reducible refine zi (f:=81) rfl ?_);refine goesL_ (some 10) rfl rfl Try.func81 zz90 rfl #[.int .i64 a0,.agg #[.int .u64 a1_0,.int .u64 a1_1]] rfl zz48 ?_;(with_reducible refine (zF.calls k a0 a1_0 a1_1 true _ A3.out).mono ?_);rintro e w11 ⟨rfl,hb⟩;refine ⟨_,rfl,?_⟩;have n0_:=z1.mk (zc (g:=gb101) (o:=.cells #[.int .u64 a1_0,.int .u64 a1_1] 30 (0,0)) zz50 hb);have n1_:=z1.mk (z3 zz43 hb);clear BK101;clear HB;have BK101:=n0_;have HB:=n1_;clear n0_ n1_;(try clear hb);(try clear hb2);(try clear hk);(try clear hi))|((with_reducible refine zi (f:=92) rfl ?_);refine goesL_ (some 13) rfl rfl Try.func92 zz90 rfl #[.int .i64 a0] rfl zz48 ?_;(with_reducible refine (z1u.calls k a0 t103 _ A5.out).mono ?_);rintro e w' ⟨rfl,⟨nd,rfl⟩⟩;refine ⟨_,rfl,?_⟩)|((with_reducible refine zp (N:=14) rfl ?_);refine Kd.z5a k30 _ 30 rfl (N:=14) rfl 80 _ _ rfl t103 rfl rfl Try.underlying80 (.agg #[(.int .u64 0),(.int .u64 0)]) 16 info30 rfl zz91 zz92 z30 (ok:=fun _=>True) (okp:=fun _=>True) (z1J _ _ _ z30 ) (fun _ hk=>hk) trivial (of_decide_eq_true zz85) (Nat.le_trans (Nat.mul_le_mul_right _ (of_decide_eq_true zz85 : t103.toNat ≤ 17592186044416)) zz92) (Below.refl _ _) (Nat.le_refl _) ?_;intro v105 w12 ho13 hb hg_ hnew_;clear hg_ hnew_;(first|rw [← Ny104.out] at ho13|(simp only [Int.reduceToNat] at ho13;rw [← Ny104.out] at ho13));have n0_:=z1.mk (Kd.z1h (Kd.z2d ho13 (g:=gb101) (o:=.cells #[.int .u64 a1_0,.int .u64 a1_1] 30 (0,0)) zz50) (zb zz43));have n1_:=z1.mk (zc (g:=gb101) (o:=.cells #[.int .u64 a1_0,.int .u64 a1_1] 30 (0,0)) zz50 hb);have n2_:=z1.mk (z3 zz43 hb);clear BK101;clear HB;have HO106:=n0_;have BK101:=n1_;have HB:=n2_;clear n0_ n1_ n2_;clear hb ho13;have hcz14_0 : w12.cell? ⟨gb101,0,none⟩ = some (.int .u64 a1_0):=(z7 BK101.out 0).trans rfl;have hcz14_1 : w12.cell? ⟨gb101,1,none⟩ = some (.int .u64 a1_1):=(z7 BK101.out 1).trans rfl;have hfz14_0:=z6 BK101.out 0;have hfz14_1:=z6 BK101.out 1)|((with_reducible refine zi (f:=125) rfl ?_);refine goesL_ (some 17) rfl rfl Try.func125 zz90 rfl #[.int .i64 a0,.agg #[.int .u64 a1_0,.int .u64 a1_1]] rfl zz48 ?_;(with_reducible refine (zS.calls k a0 a1_0 a1_1 t107 _ A8.out).mono ?_);rintro e w15 ⟨v108,rfl,ho0,hb⟩;refine ⟨_,rfl,?_⟩;have n0_:=z1.mk (Kd.zq zz60 hb);have n1_:=z1.mk (Kd.z1h ho0 (zb zz43));have n2_:=z1.mk (zc (g:=gb101) (o:=.cells #[.int .u64 a1_0,.int .u64 a1_1] 30 (0,0)) zz50 hb);have n3_:=z1.mk (z3 zz43 hb);clear HO106;clear BK101;clear HB;have HO106:=n0_;have HO109:=n1_;have BK101:=n2_;have HB:=n3_;clear n0_ n1_ n2_ n3_;(try clear hb);(try clear hb2);(try clear hk);(try clear hi);(try clear ho0);obtain ⟨Ao16,co16,eo16⟩:=Kd.z1q HO109.out;subst eo16))
 go_loopg [19] k (fun kq v19 w'=>∃ (x5_1 : List (S30)) (x19_1 : Int) (x102000_1 : Int) (x102001_1 : Int),v19 = .int .i64 x19_1 ∧ z1 (z11.l0 kq x5_1 t107 (t107.length : Int) x19_1 = some r) ∧ z1 (kq ≤ k) ∧ z1 (Kd.R k30 30 w' w.heap.size (fun k_=>k_ ≠ gb101) v105 x5_1) ∧ z1 (Kd.R Kd.bool 4 w' w.heap.size (fun _=>True) (.slice Ao16 t107.length co16) t107) ∧ z1 (w'.heap[gb101]? = some (.cells #[.int .u64 x102000_1,.int .u64 x102001_1] 30 (0,0))) ∧ z1 (Below w.heap.size w w'))
 case atStart=>exact ⟨(y104),(0),(a1_0),(a1_1),zz86,H',⟨Nat.le_refl _⟩,⟨by (with_reducible repeat (first|apply Kd.zI|apply Kd.zJ|apply Kd.zT));exact Kd.z18 HO106.out (fun _ hk=>hk.2)⟩,⟨by (with_reducible repeat (first|apply Kd.zI|apply Kd.zJ|apply Kd.zT));exact HO109.out⟩,⟨by (with_reducible repeat (first|refine z5 ?_ _|refine z8 ?_|refine z4 ?_ _));exact BK101.out⟩,⟨by repeat (first|(with_reducible first|exact HB.out|apply zd|apply z2|apply z9|refine za ?_ GE101.out)|exact HB.out)⟩⟩
 case round =>
  clear H'
  (try clear c1);(try clear p2);(try clear c4);(try clear c6);(try clear c6b0);(try clear c6b1);(try clear c7);(try clear c7b0);(try clear c7b1);(try clear c8);(try clear c9);(try clear c12);(try clear hcz10_0);(try clear hcz10_1);(try clear hcz14_0);(try clear hcz14_1);(try clear hfz10_0);(try clear hfz10_1);(try clear hfz14_0);(try clear hfz14_1)
  obtain ⟨x5_1,x19_1,x102000_1,x102001_1,rfl,HA,HK1,HO_5,HO_17,BK101,HB⟩:=hrel
  cases gk with
  | zero=>exact absurd HA.out (by simp [z11.l0])
  | succ k1 =>
   have H:=HA.out
   clear HA
   simp only [z11.l0] at H
   by_cases c17 : x19_1 < (t107.length : Int)
   rotate_left
   · rw [if_neg c17] at H
     have c17b0 : decide (x19_1 < (t107.length : Int)) = false:=decide_eq_false c17
     clear c17
     obtain rfl:=Option.some.inj H
     go_wp2
     go_ret
     exact ⟨_,by first|rfl|(simp [zg,zh] <;> rfl)|(simp [*,zg,zh] <;> rfl),by (with_reducible repeat (first|apply Kd.zI|apply Kd.zJ|apply Kd.zT));exact Kd.z18 HO_5.out (fun _ hk=>trivial),by repeat (first|(with_reducible first|exact HB.out|apply zd|apply z2|apply z9|refine za ?_ GE101.out)|exact HB.out)⟩
   rw [if_pos c17] at H
   have c17b0 : decide (x19_1 < (t107.length : Int)) = true:=decide_eq_true c17
   clear c17
   by_cases c18 : 0 ≤ x19_1
   rotate_left
   · rw [if_neg c18] at H
     exact absurd H zz93
   rw [if_pos c18] at H
   have c18b0 : decide (0 ≤ x19_1) = true:=decide_eq_true c18
   clear c18
   by_cases c19 : x19_1 < (t107.length : Int)
   rotate_left
   · rw [if_neg c19] at H
     exact absurd H zz93
   rw [if_pos c19] at H
   have c19b0 : decide (x19_1 < (t107.length : Int)) = true:=decide_eq_true c19
   clear c19
   obtain ⟨bq20,hbq20⟩ : ∃ b_ : Bool,b_ = (rdOf false t107 x19_1):=⟨_,rfl⟩
   replace H : (if bq20 = true then ((z24.f).bind fun bt111=>(if x19_1 < (x5_1.length : Int) then (z11.l0 k1 (x5_1.set (x19_1 : Int).toNat (⟨bt111.1,bt111.2⟩ : S30)) t107 (t107.length : Int) (wrap64 (x19_1 + 1))) else (none))) else (z11.l0 k1 x5_1 t107 (t107.length : Int) (wrap64 (x19_1 + 1)))) = some r:=by rw [← hbq20] at H;exact H
   have Nbq20:=z1.mk hbq20
   clear hbq20
   by_cases c21 : bq20 = true
   rotate_left
   · replace c21:=Bool.eq_false_iff.mpr c21
     subst c21
     have H1 : (z11.l0 k1 x5_1 t107 (t107.length : Int) (wrap64 (x19_1 + 1))) = some r:=by rw [if_neg (show ¬ (false = true) by decide)] at H;exact H
     clear H
     have H:=H1
     clear H1
     have H':=z1.mk H
     clear H
     have p110 : 0 ≤ (x19_1 : Int):=of_decide_eq_true zz85
     have q110 : x19_1 < (t107.length : Int):=of_decide_eq_true zz85
     obtain ⟨ad110,e110,hx110_0⟩:=Kd.z3E (Kd.zs HO_17.out).2.2 x19_1 p110 q110
     (try rw [← Nbq20.out] at hx110_0)
     cases e110
     replace p110:=eq_true p110
     replace q110:=eq_true q110
     go_wp2
     go_roundg k1
     case measure=>have:=HK1.out;omega
     case rel=>exact ⟨(x5_1),(wrap64 (x19_1 + 1)),(x102000_1),(x102001_1),zz86,H',⟨by have:=HK1.out;omega⟩,⟨by (with_reducible repeat (first|apply Kd.zI|apply Kd.zJ|apply Kd.zT));exact HO_5.out⟩,⟨by (with_reducible repeat (first|apply Kd.zI|apply Kd.zJ|apply Kd.zT));exact HO_17.out⟩,⟨by (with_reducible repeat (first|refine z5 ?_ _|refine z8 ?_|refine z4 ?_ _));exact BK101.out⟩,⟨by repeat (first|(with_reducible first|exact HB.out|apply zd|apply z2|apply z9|refine za ?_ GE101.out)|exact HB.out)⟩⟩
   subst c21
   have H1 : ((z24.f).bind fun bt111=>(if x19_1 < (x5_1.length : Int) then (z11.l0 k1 (x5_1.set (x19_1 : Int).toNat (⟨bt111.1,bt111.2⟩ : S30)) t107 (t107.length : Int) (wrap64 (x19_1 + 1))) else (none))) = some r:=by rw [if_pos rfl] at H;exact H
   clear H
   have H:=H1
   clear H1
   replace H:=Option.bind_eq_some_iff.mp H
   obtain ⟨⟨t111,t112⟩,A220,H⟩:=H
   replace H : (if x19_1 < (x5_1.length : Int) then (z11.l0 k1 (x5_1.set (x19_1 : Int).toNat (⟨t111,t112⟩ : S30)) t107 (t107.length : Int) (wrap64 (x19_1 + 1))) else (none)) = some r:=H
   have A22:=z1.mk A220
   clear A220
   by_cases c23 : x19_1 < (x5_1.length : Int)
   rotate_left
   · rw [if_neg c23] at H
     exact absurd H zz93
   rw [if_pos c23] at H
   have c23b0 : decide (x19_1 < (x5_1.length : Int)) = true:=decide_eq_true c23
   clear c23
   obtain ⟨y113,hy113⟩ : ∃ y_ : List (S30),y_ = (x5_1.set (x19_1 : Int).toNat (⟨t111,t112⟩ : S30)):=⟨_,rfl⟩
   replace H : (z11.l0 k1 y113 t107 (t107.length : Int) (wrap64 (x19_1 + 1))) = some r:=by first|(rw [hy113];with_reducible exact H)|(have H2_:=(Option.bind_some _ _).symm.trans H;rw [hy113];with_reducible exact H2_)|(have H2_:=(Option.bind_some _ _).symm.trans H;with_reducible exact H2_)|with_reducible exact H|(rw [hy113];exact H)|exact H
   have Ny113:=z1.mk hy113
   clear hy113
   have H':=z1.mk H
   clear H
   have p110 : 0 ≤ (x19_1 : Int):=of_decide_eq_true zz85
   have q110 : x19_1 < (t107.length : Int):=of_decide_eq_true zz85
   obtain ⟨ad110,e110,hx110_0⟩:=Kd.z3E (Kd.zs HO_17.out).2.2 x19_1 p110 q110
   (try rw [← Nbq20.out] at hx110_0)
   cases e110
   replace p110:=eq_true p110
   replace q110:=eq_true q110
   go_wp2_with (first|((with_reducible refine zi (f:=99) rfl ?_);refine goesL_ (some 27) rfl rfl Try.func99 zz90 rfl #[] rfl zz48 ?_;(with_reducible refine (z24.calls  t111 t112 _ A22.out).mono ?_);rintro e w25 ⟨rfl,hb⟩;refine ⟨_,rfl,?_⟩;have n0_:=z1.mk (Kd.zq zz70 hb);have n1_:=z1.mk (Kd.zq zz69 hb);have n2_:=z1.mk (zc (g:=gb101) (o:=.cells #[.int .u64 x102000_1,.int .u64 x102001_1] 30 (0,0)) zz50 hb);have n3_:=z1.mk (z3 zz43 hb);clear HO_5;clear HO_17;clear BK101;clear HB;have HO_5:=n0_;have HO_17:=n1_;have BK101:=n2_;have HB:=n3_;clear n0_ n1_ n2_ n3_;(try clear hb);(try clear hb2);(try clear hk);(try clear hi);have p24 : 0 ≤ (x19_1 : Int):=of_decide_eq_true zz85;have q24 : (x19_1 : Int) < ((x5_1.length : Int) : Int):=of_decide_eq_true zz85;obtain ⟨go24,co24,eo24,gb24,gl24,cl24,HG24⟩:=Kd.z43 HO_5.out zz92;(first|cases eo24|(injection eo24 with ea_ en_ ec_;(first|subst ea_|(injection ea_ with ea_;subst ea_));subst ec_;clear en_));have GB24:=z1.mk gb24;have GG24:=z1.mk HG24;clear gb24 gl24 HG24;obtain ⟨ce24,hcl24,hM24,hcc24,hfr24⟩:=Kd.z2x HO_5.out z30 (x19_1 : Int) p24 q24;obtain rfl:=z1V hM24;have hx24_0 : w25.cell? ⟨go24,(x19_1 : Int).toNat * 2,none⟩ = some (.int .u64 ((rd_T30 x5_1 x19_1).f0)):=hcc24 0 _ rfl;have hx24_1 : w25.cell? ⟨go24,(x19_1 : Int).toNat * 2 + 1,none⟩ = some (.int .u64 ((rd_T30 x5_1 x19_1).f1)):=hcc24 1 _ rfl;have hf24_0 : w25.frozen? ⟨go24,(x19_1 : Int).toNat * 2,none⟩ = false:=hfr24 0;have hf24_1 : w25.frozen? ⟨go24,(x19_1 : Int).toNat * 2 + 1,none⟩ = false:=hfr24 1;clear hcl24 hcc24 hfr24 hM24;replace p24:=eq_true p24;replace q24:=eq_true q24;have HX26:=z1.mk (show Kd.R k30 30 w25 w.heap.size (fun k_=>k_ ≠ gb101) (.slice (some ⟨go24,0,none⟩) x5_1.length co24) x5_1 from zz70);obtain ⟨ce26,hcl26,hM26,hcc26,hfr26⟩:=Kd.z2x HX26.out z30 (x19_1 : Int) (of_decide_eq_true zz85) (by have h_ : (x19_1 : Int) < ((x5_1.length : Int) : Int):=of_decide_eq_true zz85;first|exact h_|(have e_:=(Kd.zs HO_5.out).1;omega)|simpa using h_);obtain rfl:=z1V hM26;have HP26:=Kd.z5A HX26.out (x19_1 : Int) (of_decide_eq_true zz85) (by have h_ : (x19_1 : Int) < ((x5_1.length : Int) : Int):=of_decide_eq_true zz85;first|exact h_|(have e_:=(Kd.zs HO_5.out).1;omega)|simpa using h_) (seg:=[.int .u64 t111,.int .u64 t112]) (j:=0) hcl26 hcc26 (show 2 ≤ 2 from by decide) (x':=(⟨t111,t112⟩ : S30)) (z1J _ _ _ (⟨t111,t112⟩ : S30) ) (fun _ hk=>hk);have hx26_0:=hcc26 0 _ rfl;(try simp only [show (k30).sz = 2 from rfl,Nat.mul_one,Nat.add_zero] at hx26_0);have hf26_0:=hfr26 0;(try simp only [show (k30).sz = 2 from rfl,Nat.mul_one,Nat.add_zero] at hf26_0);have hx26_1:=hcc26 1 _ rfl;(try simp only [show (k30).sz = 2 from rfl,Nat.mul_one,Nat.add_zero] at hx26_1);have hf26_1:=hfr26 1;(try simp only [show (k30).sz = 2 from rfl,Nat.mul_one,Nat.add_zero] at hf26_1);clear hcl26 hcc26 hfr26 hM26)|((with_reducible refine z3G (t:=30) (p:=28) rfl ?_);refine z3i (t:=30) (p:=28) (v:=?vo_w27) (w1:=((w25.setCell ⟨go24,(x19_1 : Int).toNat * 2,none⟩ (.int .u64 t111)).setCell ⟨go24,(x19_1 : Int).toNat * 2 + 1,none⟩ (.int .u64 t112))) ?hg ?ho ?hn ?hr ?_;(case ho=>rfl);(case hg=>rfl);(case hn=>rfl);(case hr=>first|(go_simp;done)|(go_simp;rfl));intro w27 hw;have hg : w25.grownBy w27 (some go24):=(by rw [hw];exact HP26.2);have hp_ : Kd.R k30 30 w27 w.heap.size (fun k_=>k_ ≠ gb101) (.slice (some ⟨go24,0,none⟩) x5_1.length co24) y113:=(by rw [hw,Ny113.out];exact HP26.1);clear HP26;have n0_:=z1.mk (hp_);have n1_:=z1.mk (Kd.R_over' (v:=(.slice (some ⟨go24,0,none⟩) x5_1.length co24)) zz69 (Kd.R_typed HO_5.out) zz91 hg);have n2_:=z1.mk (z1U (g:=gb101) (o:=.cells #[.int .u64 x102000_1,.int .u64 x102001_1] 30 (0,0)) zz50 hg (Kd.z2e HO_5.out (fun _ hk=>hk)));have n3_:=z1.mk ((by rw [hw];exact za (za (HB.out) GB24.out) GB24.out : Below w.heap.size w w27));clear HO_5;clear HO_17;clear BK101;clear HB;have HO_5:=n0_;have HO_17:=n1_;have BK101:=n2_;have HB:=n3_;clear n0_ n1_ n2_ n3_;clear hg hw hp_))
   go_roundg k1
   case measure=>have:=HK1.out;omega
   case rel=>exact ⟨(y113),(wrap64 (x19_1 + 1)),(x102000_1),(x102001_1),zz86,H',⟨by have:=HK1.out;omega⟩,⟨by (with_reducible repeat (first|apply Kd.zI|apply Kd.zJ|apply Kd.zT));exact HO_5.out⟩,⟨by (with_reducible repeat (first|apply Kd.zI|apply Kd.zJ|apply Kd.zT));exact HO_17.out⟩,⟨by (with_reducible repeat (first|refine z5 ?_ _|refine z8 ?_|refine z4 ?_ _));exact BK101.out⟩,⟨by repeat (first|(with_reducible first|exact HB.out|apply zd|apply z2|apply z9|refine za ?_ GE101.out)|exact HB.out)⟩⟩
end Go.Proofs.Ytkhmpaooinpfoaa.P
namespace Go.Proofs.Ytkhmpaooinpfoaa.P
open Go.RowKit Go.Proofs.YtkhmpaooinpfoaaW.PrintWords Go.Proofs.YtkhmpaooinpfoaaW.PrintLast Go.Proofs.YtkhmpaooinpfoaaW.PrintMore
attribute [local go_sem] z12 z14 z1i z1j zU zV z13 z15   -- for this text's walks alone
set_option linter.unusedVariables false
set_option linter.unusedSimpArgs false
def z29.f (k : Nat) (a0 : Int) (a1_0 : Int) (a1_1 : Int) : Option ((List (S30))):=(zF.f k a0 a1_0 a1_1).bind fun t102=>(if t102 = true then ((z1u.f k a0).bind fun t103=>(if 0 ≤ t103 then (if (t103 : Int).toNat ≤ 17592186044416 then ((some (List.replicate (t103 : Int).toNat z30 : List (S30))).bind fun y104=>(if 0 < (y104.length : Int) then (some (y104.set (0 : Int).toNat (⟨a1_0,a1_1⟩ : S30))) else (none))) else (none)) else (none))) else (some ([] : List (S30))))
theorem z29.mono : ∀ a0 a1 a2 k,LeO (z29.f k a0 a1 a2) (z29.f (k + 1) a0 a1 a2):=by
 intro a0 a1 a2 k
 unfold z29.f
 repeat' first
  | (with_reducible exact zF.mono _ _ _ _)
  | (with_reducible exact z1u.mono _ _)
  | (with_reducible exact LeO.refl _)
  | (with_reducible exact LeO.none _)
  | (with_reducible refine LeO.ite ?_ ?_)
  | (with_reducible refine LeO.bind ?_ (fun _=>?_))
  | exact zF.mono _ _ _ _
  | exact z1u.mono _ _
  | exact LeO.none _
  | refine LeO.ite ?_ ?_
  | refine LeO.bind ?_ (fun _=>?_)
set_option maxHeartbeats 8000000 in
set_option maxRecDepth 100000 in
theorem z29.calls (k : Nat) (a0 : Int) (a1_0 : Int) (a1_1 : Int) (r : List (S30)) (w : World) (h : z29.f k a0 a1_0 a1_1 = some r) :
 Calls Try.prog 89 #[.int .i64 a0,.agg #[.int .u64 a1_0,.int .u64 a1_1]] w fun e w'=>∃ v0_ : Value,e = .returned (v0_) ∧ Kd.R k30 30 w' w.heap.size (fun _=>True) v0_ r ∧ Below w.heap.size w w':=by
 have hu30:=Try.underlying30
 have HB:=z1.mk (Below.refl w.heap.size w)
 have H : ((zF.f k a0 a1_0 a1_1).bind fun t102=>(if t102 = true then ((z1u.f k a0).bind fun t103=>(if 0 ≤ t103 then (if (t103 : Int).toNat ≤ 17592186044416 then ((some (List.replicate (t103 : Int).toNat z30 : List (S30))).bind fun y104=>(if 0 < (y104.length : Int) then (some (y104.set (0 : Int).toNat (⟨a1_0,a1_1⟩ : S30))) else (none))) else (none)) else (none))) else (some ([] : List (S30))))) = some r:=h
 clear h
 replace H:=Option.bind_eq_some_iff.mp H
 obtain ⟨t102,A30,H⟩:=H
 replace H : (if t102 = true then ((z1u.f k a0).bind fun t103=>(if 0 ≤ t103 then (if (t103 : Int).toNat ≤ 17592186044416 then ((some (List.replicate (t103 : Int).toNat z30 : List (S30))).bind fun y104=>(if 0 < (y104.length : Int) then (some (y104.set (0 : Int).toNat (⟨a1_0,a1_1⟩ : S30))) else (none))) else (none)) else (none))) else (some ([] : List (S30)))) = some r:=H
 have A3:=z1.mk A30
 clear A30
 by_cases c4 : t102 = true
 rotate_left
 · replace c4:=Bool.eq_false_iff.mpr c4
   subst c4
   have H1 : (some ([] : List (S30))) = some r:=by rw [if_neg (show ¬ (false = true) by decide)] at H;exact H
   clear H
   have H:=H1
   clear H1
   obtain rfl:=Option.some.inj H
   go_enter Try.func89,Try.ntmps89
   go_wp2_with (first|((with_reducible refine zp (N:=3) rfl ?_);refine zt ?hg (N:=3) ?hd (cs:=#[.int .u64 a1_0,.int .u64 a1_1]) (t:=30) ?hr ?_;(case hd=>rfl);(case hg=>rfl);(case hr=>first|(go_simp;done)|(go_simp;rfl));intro gb101 hg w18 hbox hb;have n0_:=z1.mk (z3 zz49 hb);have n1_:=z1.mk (hbox);have n2_:=z1.mk ((by rw [hg];exact (zb zz49) : w.heap.size ≤ gb101));have n3_:=z1.mk ((by rw [hg];exact (zb zz49) : w.heap.size ≤ gb101));clear HB;have HB:=n0_;have BK101:=n1_;have GW101:=n2_;have GE101:=n3_;clear n0_ n1_ n2_ n3_;clear hb hbox hg;have hcz19_0 : w18.cell? ⟨gb101,0,none⟩ = some (.int .u64 a1_0):=(z7 BK101.out 0).trans rfl;have hcz19_1 : w18.cell? ⟨gb101,1,none⟩ = some (.int .u64 a1_1):=(z7 BK101.out 1).trans rfl;have hfz19_0:=z6 BK101.out 0;have hfz19_1:=z6 BK101.out 1)|((with_reducible refine zi (f:=81) rfl ?_);refine goesL_ (some 8) rfl rfl Try.func81 zz90 rfl #[.int .i64 a0,.agg #[.int .u64 a1_0,.int .u64 a1_1]] rfl zz48 ?_;(with_reducible refine (zF.calls k a0 a1_0 a1_1 false _ A3.out).mono ?_);rintro e w20 ⟨rfl,hb⟩;refine ⟨_,rfl,?_⟩;have n0_:=z1.mk (zc (g:=gb101) (o:=.cells #[.int .u64 a1_0,.int .u64 a1_1] 30 (0,0)) zz50 hb);have n1_:=z1.mk (z3 zz43 hb);clear BK101;clear HB;have BK101:=n0_;have HB:=n1_;clear n0_ n1_;(try clear hb);(try clear hb2);(try clear hk);(try clear hi)))
   go_ret
   exact ⟨_,by first|rfl|(simp [zg,zh] <;> rfl)|(simp [*,zg,zh] <;> rfl),by first|exact Kd.z2W _ _ _ _ _|exact Kd.z3k _ _ _ _ _|exact Kd.z3p _ _ _ _ _|exact Kd.z3m _ _ _ _ _|exact Kd.z3o _ _ _ _ _,by repeat (first|(with_reducible first|exact HB.out|apply zd|apply z2|apply z9|refine za ?_ GE101.out)|exact HB.out)⟩
 subst c4
 have H1 : ((z1u.f k a0).bind fun t103=>(if 0 ≤ t103 then (if (t103 : Int).toNat ≤ 17592186044416 then ((some (List.replicate (t103 : Int).toNat z30 : List (S30))).bind fun y104=>(if 0 < (y104.length : Int) then (some (y104.set (0 : Int).toNat (⟨a1_0,a1_1⟩ : S30))) else (none))) else (none)) else (none))) = some r:=by rw [if_pos rfl] at H;exact H
 clear H
 have H:=H1
 clear H1
 replace H:=Option.bind_eq_some_iff.mp H
 obtain ⟨t103,A50,H⟩:=H
 replace H : (if 0 ≤ t103 then (if (t103 : Int).toNat ≤ 17592186044416 then ((some (List.replicate (t103 : Int).toNat z30 : List (S30))).bind fun y104=>(if 0 < (y104.length : Int) then (some (y104.set (0 : Int).toNat (⟨a1_0,a1_1⟩ : S30))) else (none))) else (none)) else (none)) = some r:=H
 have A5:=z1.mk A50
 clear A50
 by_cases c6 : 0 ≤ t103
 rotate_left
 · rw [if_neg c6] at H
   exact absurd H zz93
 rw [if_pos c6] at H
 have c6b0:=eq_true c6
 have c6b1 : decide (0 ≤ t103) = true:=decide_eq_true c6
 clear c6
 by_cases c7 : (t103 : Int).toNat ≤ 17592186044416
 rotate_left
 · rw [if_neg c7] at H
   exact absurd H zz93
 rw [if_pos c7] at H
 have c7b0:=eq_true c7
 have c7b1 : decide ((t103 : Int).toNat ≤ 17592186044416) = true:=decide_eq_true c7
 clear c7
 obtain ⟨y104,hy104⟩ : ∃ y_ : List (S30),y_ = (List.replicate (t103 : Int).toNat z30):=⟨_,rfl⟩
 replace H : (if 0 < (y104.length : Int) then (some (y104.set (0 : Int).toNat (⟨a1_0,a1_1⟩ : S30))) else (none)) = some r:=by first|(rw [hy104];with_reducible exact H)|(have H2_:=(Option.bind_some _ _).symm.trans H;rw [hy104];with_reducible exact H2_)|(have H2_:=(Option.bind_some _ _).symm.trans H;with_reducible exact H2_)|with_reducible exact H|(rw [hy104];exact H)|exact H
 have Ny104:=z1.mk hy104
 clear hy104
 by_cases c8 : 0 < (y104.length : Int)
 rotate_left
 · rw [if_neg c8] at H
   exact absurd H zz93
 rw [if_pos c8] at H
 have c8b0 : decide (0 < (y104.length : Int)) = true:=decide_eq_true c8
 have c8b1 : decide (0 < y104.length) = true:=decide_eq_true zz92
 clear c8
 obtain ⟨y107,hy107⟩ : ∃ y_ : List (S30),y_ = (y104.set (0 : Int).toNat (⟨a1_0,a1_1⟩ : S30)):=⟨_,rfl⟩
 replace H : (some y107) = some r:=by first|(rw [hy107];with_reducible exact H)|(have H2_:=(Option.bind_some _ _).symm.trans H;rw [hy107];with_reducible exact H2_)|(have H2_:=(Option.bind_some _ _).symm.trans H;with_reducible exact H2_)|with_reducible exact H|(rw [hy107];exact H)|exact H
 have Ny107:=z1.mk hy107
 clear hy107
 obtain rfl:=Option.some.inj H
 go_enter Try.func89,Try.ntmps89
 go_wp2_with (first|((with_reducible refine zp (N:=3) rfl ?_);refine zt ?hg (N:=3) ?hd (cs:=#[.int .u64 a1_0,.int .u64 a1_1]) (t:=30) ?hr ?_;(case hd=>rfl);(case hg=>rfl);(case hr=>first|(go_simp;done)|(go_simp;rfl));intro gb101 hg w10 hbox hb;have n0_:=z1.mk (z3 zz49 hb);have n1_:=z1.mk (hbox);have n2_:=z1.mk ((by rw [hg];exact (zb zz49) : w.heap.size ≤ gb101));have n3_:=z1.mk ((by rw [hg];exact (zb zz49) : w.heap.size ≤ gb101));clear HB;have HB:=n0_;have BK101:=n1_;have GW101:=n2_;have GE101:=n3_;clear n0_ n1_ n2_ n3_;clear hb hbox hg;have hcz11_0 : w10.cell? ⟨gb101,0,none⟩ = some (.int .u64 a1_0):=(z7 BK101.out 0).trans rfl;have hcz11_1 : w10.cell? ⟨gb101,1,none⟩ = some (.int .u64 a1_1):=(z7 BK101.out 1).trans rfl;have hfz11_0:=z6 BK101.out 0;have hfz11_1:=z6 BK101.out 1)|((with_reducible refine zi (f:=81) rfl ?_);refine goesL_ (some 8) rfl rfl Try.func81 zz90 rfl #[.int .i64 a0,.agg #[.int .u64 a1_0,.int .u64 a1_1]] rfl zz48 ?_;(with_reducible refine (zF.calls k a0 a1_0 a1_1 true _ A3.out).mono ?_);rintro e w12 ⟨rfl,hb⟩;refine ⟨_,rfl,?_⟩;have n0_:=z1.mk (zc (g:=gb101) (o:=.cells #[.int .u64 a1_0,.int .u64 a1_1] 30 (0,0)) zz50 hb);have n1_:=z1.mk (z3 zz43 hb);clear BK101;clear HB;have BK101:=n0_;have HB:=n1_;clear n0_ n1_;(try clear hb);(try clear hb2);(try clear hk);(try clear hi))|((with_reducible refine zi (f:=92) rfl ?_);refine goesL_ (some 11) rfl rfl Try.func92 zz90 rfl #[.int .i64 a0] rfl zz48 ?_;(with_reducible refine (z1u.calls k a0 t103 _ A5.out).mono ?_);rintro e w' ⟨rfl,⟨nd,rfl⟩⟩;refine ⟨_,rfl,?_⟩;(try (rw [z4F w12];generalize hq_ : World.drewN w12 _ = w12;have n0_ : z1 (w12.heap[gb101]? = some (.cells #[.int .u64 a1_0,.int .u64 a1_1] 30 (0,0))):=⟨by rw [← hq_];exact zz50⟩;have n1_ : z1 (Below w.heap.size w w12):=⟨by rw [← hq_];exact zz43⟩;clear BK101 HB hq_;have BK101:=n0_;have HB:=n1_;clear n0_ n1_)))|((with_reducible refine zp (N:=12) rfl ?_);refine Kd.z5a k30 _ 30 rfl (N:=12) rfl 80 _ _ rfl t103 rfl rfl Try.underlying80 (.agg #[(.int .u64 0),(.int .u64 0)]) 16 info30 rfl zz91 zz92 z30 (ok:=fun _=>True) (okp:=fun _=>True) (z1J _ _ _ z30 ) (fun _ hk=>hk) trivial (of_decide_eq_true zz85) (Nat.le_trans (Nat.mul_le_mul_right _ (of_decide_eq_true zz85 : t103.toNat ≤ 17592186044416)) zz92) (Below.refl _ _) (Nat.le_refl _) ?_;intro v105 w13 ho14 hb hg_ hnew_;clear hg_ hnew_;(first|rw [← Ny104.out] at ho14|(simp only [Int.reduceToNat] at ho14;rw [← Ny104.out] at ho14));have n0_:=z1.mk (Kd.z1h (Kd.z2d ho14 (g:=gb101) (o:=.cells #[.int .u64 a1_0,.int .u64 a1_1] 30 (0,0)) zz50) (zb zz43));have n1_:=z1.mk (zc (g:=gb101) (o:=.cells #[.int .u64 a1_0,.int .u64 a1_1] 30 (0,0)) zz50 hb);have n2_:=z1.mk (z3 zz43 hb);clear BK101;clear HB;have HO106:=n0_;have BK101:=n1_;have HB:=n2_;clear n0_ n1_ n2_;clear hb ho14;have hcz15_0 : w13.cell? ⟨gb101,0,none⟩ = some (.int .u64 a1_0):=(z7 BK101.out 0).trans rfl;have hcz15_1 : w13.cell? ⟨gb101,1,none⟩ = some (.int .u64 a1_1):=(z7 BK101.out 1).trans rfl;have hfz15_0:=z6 BK101.out 0;have hfz15_1:=z6 BK101.out 1;have p9 : 0 ≤ (0 : Int):=zz92;have q9 : (0 : Int) < ((y104.length : Int) : Int):=of_decide_eq_true zz85;have qi9 : (0 < y104.length) = True:=eq_true zz92;obtain ⟨go9,co9,eo9,gb9,gl9,cl9,HG9⟩:=Kd.z43 HO106.out zz92;(first|cases eo9|(injection eo9 with ea_ en_ ec_;(first|subst ea_|(injection ea_ with ea_;subst ea_));subst ec_;clear en_));have GB9:=z1.mk gb9;have GG9:=z1.mk HG9;clear gb9 gl9 HG9;obtain ⟨ce9,hcl9,hM9,hcc9,hfr9⟩:=Kd.z2x HO106.out z30 (0 : Int) p9 q9;obtain rfl:=z1V hM9;have hx9_0 : w13.cell? ⟨go9,(0 : Int).toNat * 2,none⟩ = some (.int .u64 ((rd_T30 y104 0).f0)):=hcc9 0 _ rfl;have hx9_1 : w13.cell? ⟨go9,(0 : Int).toNat * 2 + 1,none⟩ = some (.int .u64 ((rd_T30 y104 0).f1)):=hcc9 1 _ rfl;have hf9_0 : w13.frozen? ⟨go9,(0 : Int).toNat * 2,none⟩ = false:=hfr9 0;have hf9_1 : w13.frozen? ⟨go9,(0 : Int).toNat * 2 + 1,none⟩ = false:=hfr9 1;clear hcl9 hcc9 hfr9 hM9;(try rw [show ((0 : Int)).toNat = 0 from rfl] at hx9_0);(try simp only [Nat.reduceMul,Nat.zero_mul,Nat.zero_add,Nat.reduceAdd] at hx9_0);(try rw [show ((0 : Int)).toNat = 0 from rfl] at hf9_0);(try simp only [Nat.reduceMul,Nat.zero_mul,Nat.zero_add,Nat.reduceAdd] at hf9_0);(try rw [show ((0 : Int)).toNat = 0 from rfl] at hx9_1);(try simp only [Nat.reduceMul,Nat.zero_mul,Nat.zero_add,Nat.reduceAdd] at hx9_1);(try rw [show ((0 : Int)).toNat = 0 from rfl] at hf9_1);(try simp only [Nat.reduceMul,Nat.zero_mul,Nat.zero_add,Nat.reduceAdd] at hf9_1);replace p9:=eq_true p9;replace q9:=eq_true q9;have n_:=z1.mk (Kd.z18 (ok':=(fun k_=>k_ ≠ gb101)) HO106.out (fun k_ hk=>hk.2));clear HO106;have HO106:=n_;clear n_;have HX16:=z1.mk (show Kd.R k30 30 w13 w.heap.size (fun k_=>k_ ≠ gb101) (.slice (some ⟨go9,0,none⟩) y104.length co9) y104 from zz60);obtain ⟨ce16,hcl16,hM16,hcc16,hfr16⟩:=Kd.z2x HX16.out z30 (0 : Int) zz92 (by have h_ : (0 : Int) < ((y104.length : Int) : Int):=of_decide_eq_true zz85;first|exact h_|(have e_:=(Kd.zs HO106.out).1;omega)|simpa using h_);obtain rfl:=z1V hM16;have HP16:=Kd.z5A HX16.out (0 : Int) zz92 (by have h_ : (0 : Int) < ((y104.length : Int) : Int):=of_decide_eq_true zz85;first|exact h_|(have e_:=(Kd.zs HO106.out).1;omega)|simpa using h_) (seg:=[.int .u64 a1_0,.int .u64 a1_1]) (j:=0) hcl16 hcc16 (show 2 ≤ 2 from by decide) (x':=(⟨a1_0,a1_1⟩ : S30)) (z1J _ _ _ (⟨a1_0,a1_1⟩ : S30) ) (fun _ hk=>hk);have hx16_0:=hcc16 0 _ rfl;(try simp only [show (k30).sz = 2 from rfl,Nat.mul_one,Nat.add_zero] at hx16_0);(try rw [show ((0 : Int)).toNat = 0 from rfl] at hx16_0);(try simp only [Nat.reduceMul,Nat.zero_mul,Nat.zero_add,Nat.reduceAdd] at hx16_0);have hf16_0:=hfr16 0;(try simp only [show (k30).sz = 2 from rfl,Nat.mul_one,Nat.add_zero] at hf16_0);(try rw [show ((0 : Int)).toNat = 0 from rfl] at hf16_0);(try simp only [Nat.reduceMul,Nat.zero_mul,Nat.zero_add,Nat.reduceAdd] at hf16_0);have hx16_1:=hcc16 1 _ rfl;(try simp only [show (k30).sz = 2 from rfl,Nat.mul_one,Nat.add_zero] at hx16_1);(try rw [show ((0 : Int)).toNat = 0 from rfl] at hx16_1);(try simp only [Nat.reduceMul,Nat.zero_mul,Nat.zero_add,Nat.reduceAdd] at hx16_1);have hf16_1:=hfr16 1;(try simp only [show (k30).sz = 2 from rfl,Nat.mul_one,Nat.add_zero] at hf16_1);(try rw [show ((0 : Int)).toNat = 0 from rfl] at hf16_1);(try simp only [Nat.reduceMul,Nat.zero_mul,Nat.zero_add,Nat.reduceAdd] at hf16_1);clear hcl16 hcc16 hfr16 hM16)|((with_reducible refine z3G (t:=30) (p:=15) rfl ?_);refine z3i (t:=30) (p:=15) (v:=?vo_w17) (w1:=((w13.setCell ⟨go9,0,none⟩ (.int .u64 a1_0)).setCell ⟨go9,1,none⟩ (.int .u64 a1_1))) ?hg ?ho ?hn ?hr ?_;(case ho=>rfl);(case hg=>rfl);(case hn=>rfl);(case hr=>first|(go_simp;done)|(go_simp;rfl));intro w17 hw;have hg : w13.grownBy w17 (some go9):=(by rw [hw];exact HP16.2);have hp_ : Kd.R k30 30 w17 w.heap.size (fun k_=>k_ ≠ gb101) (.slice (some ⟨go9,0,none⟩) y104.length co9) y107:=(by rw [hw,Ny107.out];exact HP16.1);clear HP16;have n0_:=z1.mk (z1U (g:=gb101) (o:=.cells #[.int .u64 a1_0,.int .u64 a1_1] 30 (0,0)) zz50 hg (Kd.z2e HO106.out (fun _ hk=>hk)));have n1_:=z1.mk (hp_);have n2_:=z1.mk ((by rw [hw];exact za (za (HB.out) GB9.out) GB9.out : Below w.heap.size w w17));clear BK101;clear HO106;clear HB;have BK101:=n0_;have HO106:=n1_;have HB:=n2_;clear n0_ n1_ n2_;clear hg hw hp_))
 go_ret
 exact ⟨_,by first|rfl|(simp [zg,zh] <;> rfl)|(simp [*,zg,zh] <;> rfl),by (with_reducible repeat (first|apply Kd.zI|apply Kd.zJ|apply Kd.zT));exact Kd.z18 HO106.out (fun _ hk=>trivial),by repeat (first|(with_reducible first|exact HB.out|apply zd|apply z2|apply z9|refine za ?_ GE101.out)|exact HB.out)⟩
end Go.Proofs.Ytkhmpaooinpfoaa.P
namespace Go.Proofs.Ytkhmpaooinpfoaa.P
open Go.RowKit Go.Proofs.YtkhmpaooinpfoaaW.PrintWords Go.Proofs.YtkhmpaooinpfoaaW.PrintLast Go.Proofs.YtkhmpaooinpfoaaW.PrintMore
attribute [local go_sem] z12 z14 z1i z1j zU zV z13 z15   -- for this text's walks alone
set_option linter.unusedVariables false
set_option linter.unusedSimpArgs false
def z2r.f (k : Nat) (a0 : Int) : Option ((List (S30))):=(z24.f).bind fun bt101=>((z11.f k a0 bt101.1 bt101.2).bind fun t103=>(some t103))
theorem z2r.mono : ∀ a0 k,LeO (z2r.f k a0) (z2r.f (k + 1) a0):=by
 intro a0 k
 unfold z2r.f
 repeat' first
  | (with_reducible exact z11.mono _ _ _ _)
  | (with_reducible exact LeO.refl _)
  | (with_reducible exact LeO.none _)
  | (with_reducible refine LeO.ite ?_ ?_)
  | (with_reducible refine LeO.bind ?_ (fun _=>?_))
  | exact z11.mono _ _ _ _
  | exact LeO.none _
  | refine LeO.ite ?_ ?_
  | refine LeO.bind ?_ (fun _=>?_)
set_option maxHeartbeats 8000000 in
set_option maxRecDepth 100000 in
theorem z2r.calls (k : Nat) (a0 : Int) (r : List (S30)) (w : World) (h : z2r.f k a0 = some r) :
 Calls Try.prog 47 #[.int .i64 a0] w fun e w'=>∃ v0_ : Value,e = .returned (v0_) ∧ Kd.R k30 30 w' w.heap.size (fun _=>True) v0_ r ∧ Below w.heap.size w w':=by
 have HB:=z1.mk (Below.refl w.heap.size w)
 have H : ((z24.f).bind fun bt101=>((z11.f k a0 bt101.1 bt101.2).bind fun t103=>(some t103))) = some r:=h
 clear h
 replace H:=Option.bind_eq_some_iff.mp H
 obtain ⟨⟨t101,t102⟩,A20,H⟩:=H
 replace H : ((z11.f k a0 t101 t102).bind fun t103=>(some t103)) = some r:=H
 have A2:=z1.mk A20
 clear A20
 replace H:=Option.bind_eq_some_iff.mp H
 obtain ⟨t103,A30,H⟩:=H
 replace H : (some t103) = some r:=H
 have A3:=z1.mk A30
 clear A30
 obtain rfl:=Option.some.inj H
 go_enter Try.func47,Try.ntmps47
 go_wp2_with (first|((with_reducible refine zi (f:=99) rfl ?_);refine goesL_ (some 4) rfl rfl Try.func99 zz90 rfl #[] rfl zz48 ?_;(with_reducible refine (z24.calls  t101 t102 _ A2.out).mono ?_);rintro e w4 ⟨rfl,hb⟩;refine ⟨_,rfl,?_⟩;have n0_:=z1.mk (z3 zz49 hb);clear HB;have HB:=n0_;clear n0_;(try clear hb);(try clear hb2);(try clear hk);(try clear hi))|((with_reducible refine zi (f:=88) rfl ?_);refine goesL_ (some 5) rfl rfl Try.func88 zz90 rfl #[.int .i64 a0,.agg #[.int .u64 t101,.int .u64 t102]] rfl zz48 ?_;(with_reducible refine (z11.calls k a0 t101 t102 t103 _ A3.out).mono ?_);rintro e w5 ⟨v104,rfl,ho0,hb⟩;refine ⟨_,rfl,?_⟩;have n0_:=z1.mk (Kd.z1h ho0 (zb zz49));have n1_:=z1.mk (z3 zz49 hb);clear HB;have HO105:=n0_;have HB:=n1_;clear n0_ n1_;(try clear hb);(try clear hb2);(try clear hk);(try clear hi);(try clear ho0)))
 go_ret
 exact ⟨_,by first|rfl|(simp [zg,zh] <;> rfl)|(simp [*,zg,zh] <;> rfl),by (with_reducible repeat (first|apply Kd.zI|apply Kd.zJ|apply Kd.zT));exact HO105.out,by repeat (first|(with_reducible first|exact HB.out|apply zd|apply z2|apply z9)|exact HB.out)⟩
end Go.Proofs.Ytkhmpaooinpfoaa.P

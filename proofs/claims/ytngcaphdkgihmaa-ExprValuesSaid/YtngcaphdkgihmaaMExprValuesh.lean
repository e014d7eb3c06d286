/- ExprValues: the value of any expression is what the document says, or the error is told; for all levels, up to 210 steps and up to 20 elements. Own text. -/
import Derived.Deep.Slices
import Derived.OpenShut
import Derived.ProofKit
import Derived.Laws.BitsLemmas
import Derived.Test.YtngcaphdkgihmaaRows
import Derived.WalkKit
import Derived.ShutString
import Derived.ChangeOld
import Derived.Below
import Derived.SizedLaws
import Derived.Carry
import Derived.Test.YtngcaphdkgihmaaMExprValuesa
import Derived.Test.YtngcaphdkgihmaaMExprValuesb
import Derived.Test.YtngcaphdkgihmaaMExprValuesd
import Derived.Test.YtngcaphdkgihmaaMExprValuese
import Derived.Test.YtngcaphdkgihmaaMExprValuesf
import Derived.Test.YtngcaphdkgihmaaMExprValuesg
namespace Go.Proofs.Ytngcaphdkgihmaa.P
open Go.RowKit Go.Proofs.YtngcaphdkgihmaaW.PrintWords Go.Proofs.YtngcaphdkgihmaaW.PrintLast Go.Proofs.YtngcaphdkgihmaaW.PrintMore
attribute [local go_sem] z14 z16 z1b z1c z10 z11 z15 z17   -- for this text's walks alone
set_option linter.unusedVariables false
set_option linter.unusedSimpArgs false
attribute [local go_sem high] eqA51 eqA61
mutual
def ze.j0 : Nat → Int → List (S87) → List (S51) → Bool → Option (Bool)
 | 0,_,_,_,_=>none
 | k + 1,x0,x1,x2,x19=>if x19 = true then ((zJ.f k).bind fun t101=>(some t101)) else ((zz.f k x0 x1 x2).bind fun bt102=>((zv.f k x1).bind fun t106=>((zB.f k x2).bind fun t109=>((zc.f k x0 (x2.length : Int) t106).bind fun t112=>(if t112 = 0 then ((zA.f k x0 t109).bind fun t113=>(ze.j1 k bt102.2.2 t106 t109 t112 (!t113) bt102.1 bt102.2.1)) else (ze.j1 k bt102.2.2 t106 t109 t112 false bt102.1 bt102.2.1))))))
def ze.j1 : Nat → Int → List (S114) → List (S61) → Int → Bool → Int → Int → Option (Bool)
 | 0,_,_,_,_,_,_,_=>none
 | k + 1,x8,x9,x10,x11,x44,x106000,x106001=>if x44 = true then (ze.j2 k x8 x9 x10 5 x106000 x106001) else (ze.j2 k x8 x9 x10 x11 x106000 x106001)
def ze.j2 : Nat → Int → List (S114) → List (S61) → Int → Int → Int → Option (Bool)
 | 0,_,_,_,_,_,_=>none
 | k + 1,x8,x9,x10,x11,x106000,x106001=>if x11 = 0 then ((zJ.f k).bind fun t114=>(if t114 = true then (if x8 = 0 then ((zh.f k x9 (wrap64 ((x9.length : Int) - 1)) x10).bind fun bt115=>(some (x106000 == bt115.1 && (x106001 == bt115.2)))) else (some false)) else (some false))) else ((zJ.f k).bind fun t117=>(if t117 = true then (if x8 = x11 then (some (x106000 == 0 && (x106001 == 0))) else (some false)) else (some false)))
end
def ze.f (k : Nat) (a0 : Int) (l1 : List (S87)) (l2 : List (S51)) : Option (Bool):=if (l1.length : Int) > 210 then (ze.j0 k a0 l1 l2 true) else (ze.j0 k a0 l1 l2 (decide ((l2.length : Int) > 20)))
theorem ze.z18 : ∀ k,(∀ y0 y1 y2 y3,LeO (ze.j0 k y0 y1 y2 y3) (ze.j0 (k + 1) y0 y1 y2 y3)) ∧ (∀ y0 y1 y2 y3 y4 y5 y6,LeO (ze.j1 k y0 y1 y2 y3 y4 y5 y6) (ze.j1 (k + 1) y0 y1 y2 y3 y4 y5 y6)) ∧ (∀ y0 y1 y2 y3 y4 y5,LeO (ze.j2 k y0 y1 y2 y3 y4 y5) (ze.j2 (k + 1) y0 y1 y2 y3 y4 y5))
 | 0=>⟨fun _ _ _ _ r h=>by simp [ze.j0] at h,fun _ _ _ _ _ _ _ r h=>by simp [ze.j1] at h,fun _ _ _ _ _ _ r h=>by simp [ze.j2] at h⟩
 | k + 1=>by
  obtain ⟨ih0,ih1,ih2⟩:=ze.z18 k
  refine ⟨?_,?_,?_⟩
  · intro y0 y1 y2 y3
    unfold ze.j0
    repeat' first
    | (with_reducible exact ih0 _ _ _ _)
    | (with_reducible exact ih1 _ _ _ _ _ _ _)
    | (with_reducible exact ih2 _ _ _ _ _ _)
    | (with_reducible exact zz.mono _ _ _ _)
    | (with_reducible exact zB.mono _ _)
    | (with_reducible exact zv.mono _ _)
    | (with_reducible exact zJ.mono _)
    | (with_reducible exact zA.mono _ _ _)
    | (with_reducible exact zc.mono _ _ _ _)
    | (with_reducible exact zh.mono _ _ _ _)
    | (with_reducible exact LeO.refl _)
    | (with_reducible exact LeO.none _)
    | (with_reducible refine LeO.ite ?_ ?_)
    | (with_reducible refine LeO.bind ?_ (fun _=>?_))
    | exact ih0 _ _ _ _
    | exact ih1 _ _ _ _ _ _ _
    | exact ih2 _ _ _ _ _ _
    | exact zz.mono _ _ _ _
    | exact zB.mono _ _
    | exact zv.mono _ _
    | exact zJ.mono _
    | exact zA.mono _ _ _
    | exact zc.mono _ _ _ _
    | exact zh.mono _ _ _ _
    | exact LeO.none _
    | refine LeO.ite ?_ ?_
    | refine LeO.bind ?_ (fun _=>?_)
  · intro y0 y1 y2 y3 y4 y5 y6
    unfold ze.j1
    repeat' first
    | (with_reducible exact ih0 _ _ _ _)
    | (with_reducible exact ih1 _ _ _ _ _ _ _)
    | (with_reducible exact ih2 _ _ _ _ _ _)
    | (with_reducible exact zz.mono _ _ _ _)
    | (with_reducible exact zB.mono _ _)
    | (with_reducible exact zv.mono _ _)
    | (with_reducible exact zJ.mono _)
    | (with_reducible exact zA.mono _ _ _)
    | (with_reducible exact zc.mono _ _ _ _)
    | (with_reducible exact zh.mono _ _ _ _)
    | (with_reducible exact LeO.refl _)
    | (with_reducible exact LeO.none _)
    | (with_reducible refine LeO.ite ?_ ?_)
    | (with_reducible refine LeO.bind ?_ (fun _=>?_))
    | exact ih0 _ _ _ _
    | exact ih1 _ _ _ _ _ _ _
    | exact ih2 _ _ _ _ _ _
    | exact zz.mono _ _ _ _
    | exact zB.mono _ _
    | exact zv.mono _ _
    | exact zJ.mono _
    | exact zA.mono _ _ _
    | exact zc.mono _ _ _ _
    | exact zh.mono _ _ _ _
    | exact LeO.none _
    | refine LeO.ite ?_ ?_
    | refine LeO.bind ?_ (fun _=>?_)
  · intro y0 y1 y2 y3 y4 y5
    unfold ze.j2
    repeat' first
    | (with_reducible exact ih0 _ _ _ _)
    | (with_reducible exact ih1 _ _ _ _ _ _ _)
    | (with_reducible exact ih2 _ _ _ _ _ _)
    | (with_reducible exact zz.mono _ _ _ _)
    | (with_reducible exact zB.mono _ _)
    | (with_reducible exact zv.mono _ _)
    | (with_reducible exact zJ.mono _)
    | (with_reducible exact zA.mono _ _ _)
    | (with_reducible exact zc.mono _ _ _ _)
    | (with_reducible exact zh.mono _ _ _ _)
    | (with_reducible exact LeO.refl _)
    | (with_reducible exact LeO.none _)
    | (with_reducible refine LeO.ite ?_ ?_)
    | (with_reducible refine LeO.bind ?_ (fun _=>?_))
    | exact ih0 _ _ _ _
    | exact ih1 _ _ _ _ _ _ _
    | exact ih2 _ _ _ _ _ _
    | exact zz.mono _ _ _ _
    | exact zB.mono _ _
    | exact zv.mono _ _
    | exact zJ.mono _
    | exact zA.mono _ _ _
    | exact zc.mono _ _ _ _
    | exact zh.mono _ _ _ _
    | exact LeO.none _
    | refine LeO.ite ?_ ?_
    | refine LeO.bind ?_ (fun _=>?_)
theorem ze.mono : ∀ a0 a1 a2 k,LeO (ze.f k a0 a1 a2) (ze.f (k + 1) a0 a1 a2):=by
 intro a0 a1 a2 k
 obtain ⟨ih0,ih1,ih2⟩:=ze.z18 k
 unfold ze.f
 repeat' first
  | (with_reducible exact ih0 _ _ _ _)
  | (with_reducible exact ih1 _ _ _ _ _ _ _)
  | (with_reducible exact ih2 _ _ _ _ _ _)
  | (with_reducible exact zz.mono _ _ _ _)
  | (with_reducible exact zB.mono _ _)
  | (with_reducible exact zv.mono _ _)
  | (with_reducible exact zJ.mono _)
  | (with_reducible exact zA.mono _ _ _)
  | (with_reducible exact zc.mono _ _ _ _)
  | (with_reducible exact zh.mono _ _ _ _)
  | (with_reducible exact LeO.refl _)
  | (with_reducible exact LeO.none _)
  | (with_reducible refine LeO.ite ?_ ?_)
  | (with_reducible refine LeO.bind ?_ (fun _=>?_))
  | exact ih0 _ _ _ _
  | exact ih1 _ _ _ _ _ _ _
  | exact ih2 _ _ _ _ _ _
  | exact zz.mono _ _ _ _
  | exact zB.mono _ _
  | exact zv.mono _ _
  | exact zJ.mono _
  | exact zA.mono _ _ _
  | exact zc.mono _ _ _ _
  | exact zh.mono _ _ _ _
  | exact LeO.none _
  | refine LeO.ite ?_ ?_
  | refine LeO.bind ?_ (fun _=>?_)
def ze.T10 : Bool × List (List Nat × List Nat):=(true,[([],[]),([0,0],[0]),([1],[1]),([2,1],[1,2]),([1,3],[1,3]),([4,1],[4]),([5],[5]),([5],[5]),([5],[5]),([8,5],[5,8]),([9,5],[5,9]),([5],[5]),([7,10,11,5,5],[5,7,10,11]),([6,12,5],[5,6,12]),([5,13],[5,13]),([14,12,0,1,2,3,4,5,6,7,8,9,10,11,12,13,14],[14])])
def ze.B10 : List Nat:=[0,1,3,7,15,31,63,63,63,319,831,63,4031,8191,16383,32767]
theorem ze.tab10 : rtab .any (opsOf Try.f10 10) = ze.T10:=by kernel_rfl
theorem ze.bits10 : waitsOk ze.T10.2 ze.B10 = true:=by kernel_rfl
set_option maxHeartbeats 8000000 in
set_option maxRecDepth 100000 in
theorem ze.calls (k : Nat) (a0 : Int) (A1 : Option Addr) (c1 : Nat) (l1 : List (S87)) (A2 : Option Addr) (c2 : Nat) (l2 : List (S51)) (r : Bool) (w : World) (hr1 : Kd.C k87 w A1 l1.length l1) (hc1 : l1.length ≤ c1) (hr2 : Kd.C k51 w A2 l2.length l2) (hc2 : l2.length ≤ c2) (h : ze.f k a0 l1 l2 = some r) :
 Calls Try.prog 10 #[.int .i64 a0,.slice A1 l1.length c1,.slice A2 l2.length c2] w fun e w'=>e = .returned (.bool r) ∧ Below w.heap.size w w':=by
 have hu51:=Try.underlying51
 have HR1:=z7.mk hr1
 have HC1:=z7.mk hc1
 clear hr1 hc1
 have HR2:=z7.mk hr2
 have HC2:=z7.mk hc2
 clear hr2 hc2
 have HB:=z7.mk (Below.refl w.heap.size w)
 have H : (if (l1.length : Int) > 210 then (ze.j0 k a0 l1 l2 true) else (ze.j0 k a0 l1 l2 (decide ((l2.length : Int) > 20)))) = some r:=h
 clear h
 have HC4:=z7.mk H
 clear H
 go_enter Try.func10,Try.ntmps10
 go_upto_region 1 with (fail)
 go_cut [19] (fun v19 wc=>∃ (kq : Nat) (x19_3 : Bool),v19 = .bool x19_3 ∧ z7 (ze.j0 kq a0 l1 l2 x19_3 = some r) ∧ z7 (kq ≤ k) ∧ z7 (Below w.heap.size w wc))
 case first =>
  have H:=HC4.out
  clear HC4
  by_cases c5 : (l1.length : Int) > 210
  rotate_left
  · rw [if_neg c5] at H
    have c5b0 : decide (210 < (l1.length : Int)) = false:=decide_eq_false c5
    have c5b1 : decide (210 < l1.length) = false:=decide_eq_false (by omega)
    clear c5
    (first|rw [c5b0]|(simp only [zD,zF];rw [c5b0])|skip)
    have H':=z7.mk H
    clear H
    go_wp2
    go_meet
    case rel=>exact ⟨_,(decide ((l2.length : Int) > 20)),(by first|rfl|(simp;done)|(simp [*];done)),H',⟨by first|omega|exact Nat.le_refl _⟩,⟨by repeat (first|(with_reducible first|exact HB.out|apply z4|apply z0|apply z3)|exact HB.out)⟩⟩
  rw [if_pos c5] at H
  have c5b0 : decide (210 < (l1.length : Int)) = true:=decide_eq_true c5
  have c5b1 : decide (210 < l1.length) = true:=decide_eq_true (by omega)
  clear c5
  (first|rw [c5b0]|(simp only [zD,zF];rw [c5b0])|skip)
  have H':=z7.mk H
  clear H
  go_wp2
  go_meet
  case rel=>exact ⟨_,(true),(by first|rfl|(simp;done)|(simp [*];done)),H',⟨by first|omega|exact Nat.le_refl _⟩,⟨by repeat (first|(with_reducible first|exact HB.out|apply z4|apply z0|apply z3)|exact HB.out)⟩⟩
 case rest =>
  clear HC4
  (try clear c1);(try clear c2);(try clear p2);(try clear c5);(try clear c5b0);(try clear c5b1)
  obtain ⟨kq,x19_3,rfl,HA,HJ3,HB⟩:=hcut
  cases kq with
  | zero=>exact absurd HA.out (by simp [ze.j0])
  | succ kj3 =>
   have H:=HA.out
   clear HA
   simp only [ze.j0] at H
   by_cases c6 : x19_3 = true
   · subst c6
     have H1 : ((zJ.f kj3).bind fun t101=>(some t101)) = some r:=by rw [if_pos rfl] at H;exact H
     clear H
     have H:=H1
     clear H1
     replace H:=Option.bind_eq_some_iff.mp H
     obtain ⟨t101,A70,H⟩:=H
     replace H : (some t101) = some r:=H
     have A7:=z7.mk A70
     clear A70
     obtain rfl:=Option.some.inj H
     go_wp2_with (first|((with_reducible refine zG (f:=42) rfl ?_);refine goesL_ (some 20) rfl rfl Try.func42 (by kernel_rfl) rfl #[] rfl (by (try simp only [List.map_toArray,List.map_cons,List.map_nil]);first|done|rfl|(simp only [List.length_drop,List.length_take];rfl)) ?_;(with_reducible refine (zJ.calls kj3  t101 _ A7.out).mono ?_);rintro e w8 ⟨rfl,hb⟩;refine ⟨_,rfl,?_⟩;have n0_:=z7.mk (zi (by repeat (first|(with_reducible first|exact HB.out|apply z4|apply z0|apply z3)|exact HB.out)) hb);clear HB;have HB:=n0_;clear n0_;(try clear hb);(try clear hb2);(try clear hk);(try clear hi)))
     go_ret
     exact ⟨by first|rfl|(simp [zl,zm] <;> rfl)|(simp [*,zl,zm] <;> rfl),by repeat (first|(with_reducible first|exact HB.out|apply z4|apply z0|apply z3)|exact HB.out)⟩
   replace c6:=Bool.eq_false_iff.mpr c6
   subst c6
   have H1 : ((zz.f kj3 a0 l1 l2).bind fun bt102=>((zv.f kj3 l1).bind fun t106=>((zB.f kj3 l2).bind fun t109=>((zc.f kj3 a0 (l2.length : Int) t106).bind fun t112=>(if t112 = 0 then ((zA.f kj3 a0 t109).bind fun t113=>(ze.j1 kj3 bt102.2.2 t106 t109 t112 (!t113) bt102.1 bt102.2.1)) else (ze.j1 kj3 bt102.2.2 t106 t109 t112 false bt102.1 bt102.2.1)))))) = some r:=by rw [if_neg (show ¬ (false = true) by decide)] at H;exact H
   clear H
   have H:=H1
   clear H1
   replace H:=Option.bind_eq_some_iff.mp H
   obtain ⟨⟨t102,t103,t104⟩,A90,H⟩:=H
   replace H : ((zv.f kj3 l1).bind fun t106=>((zB.f kj3 l2).bind fun t109=>((zc.f kj3 a0 (l2.length : Int) t106).bind fun t112=>(if t112 = 0 then ((zA.f kj3 a0 t109).bind fun t113=>(ze.j1 kj3 t104 t106 t109 t112 (!t113) t102 t103)) else (ze.j1 kj3 t104 t106 t109 t112 false t102 t103))))) = some r:=H
   have A9:=z7.mk A90
   clear A90
   replace H:=Option.bind_eq_some_iff.mp H
   obtain ⟨t106,A100,H⟩:=H
   replace H : ((zB.f kj3 l2).bind fun t109=>((zc.f kj3 a0 (l2.length : Int) t106).bind fun t112=>(if t112 = 0 then ((zA.f kj3 a0 t109).bind fun t113=>(ze.j1 kj3 t104 t106 t109 t112 (!t113) t102 t103)) else (ze.j1 kj3 t104 t106 t109 t112 false t102 t103)))) = some r:=H
   have A10:=z7.mk A100
   clear A100
   replace H:=Option.bind_eq_some_iff.mp H
   obtain ⟨t109,A110,H⟩:=H
   replace H : ((zc.f kj3 a0 (l2.length : Int) t106).bind fun t112=>(if t112 = 0 then ((zA.f kj3 a0 t109).bind fun t113=>(ze.j1 kj3 t104 t106 t109 t112 (!t113) t102 t103)) else (ze.j1 kj3 t104 t106 t109 t112 false t102 t103))) = some r:=H
   have A11:=z7.mk A110
   clear A110
   replace H:=Option.bind_eq_some_iff.mp H
   obtain ⟨t112,A120,H⟩:=H
   replace H : (if t112 = 0 then ((zA.f kj3 a0 t109).bind fun t113=>(ze.j1 kj3 t104 t106 t109 t112 (!t113) t102 t103)) else (ze.j1 kj3 t104 t106 t109 t112 false t102 t103)) = some r:=H
   have A12:=z7.mk A120
   clear A120
   have HC13:=z7.mk H
   clear H
   go_upto_region 6 with (first|((with_reducible refine zG (f:=43) rfl ?_);refine goesL_ (some 25) rfl rfl Try.func43 (by kernel_rfl) rfl #[.int .i64 a0,.slice A1 l1.length c1,.slice A2 l2.length c2] rfl (by (try simp only [List.map_toArray,List.map_cons,List.map_nil]);first|done|rfl|(simp only [List.length_drop,List.length_take];rfl)) ?_;(with_reducible refine (zz.calls kj3 a0 _ _ l1 _ _ l2 t102 t103 t104 _ ?side1 ?side2 ?side3 ?side4 A9.out).mono ?_);(case side1=>repeat (first|exact (Kd.z1Q HR1.out HB.out)|(with_reducible refine Kd.z1q ?_ _)|(with_reducible refine Kd.z1r ?_ _)|(with_reducible refine Kd.z1B ?_)));(case side2=>exact HC1.out);(case side3=>repeat (first|exact (Kd.z1Q HR2.out HB.out)|(with_reducible refine Kd.z1q ?_ _)|(with_reducible refine Kd.z1r ?_ _)|(with_reducible refine Kd.z1B ?_)));(case side4=>exact HC2.out);rintro e w14 ⟨rfl,hb⟩;refine ⟨_,rfl,?_⟩;have n0_:=z7.mk (zi (by repeat (first|(with_reducible first|exact HB.out|apply z4|apply z0|apply z3)|exact HB.out)) hb);clear HB;have HB:=n0_;clear n0_;(try clear hb);(try clear hb2);(try clear hk);(try clear hi))|((with_reducible refine zM (N:=7) rfl ?_);(try (refine z1L (by rfl) ?_;dsimp only));refine zI ?hg (N:=7) ?hd (cs:=#[.int .u64 0,.int .u64 0]) (t:=51) ?hr ?_;(case hd=>rfl);(case hg=>rfl);(case hr=>first|(go_simp;done)|(go_simp;rfl));intro gb105 hg w15 hbox hb;have n0_:=z7.mk (zi (by repeat (first|(with_reducible first|exact HB.out|apply z4|apply z0|apply z3)|exact HB.out)) hb);have n1_:=z7.mk (hbox);have n2_:=z7.mk ((by rw [hg];exact (zf (by repeat (first|(with_reducible first|exact HB.out|apply z4|apply z0|apply z3)|exact HB.out))) : w.heap.size ≤ gb105));have n3_:=z7.mk ((by rw [hg];exact (zf (by repeat (first|(with_reducible first|exact HB.out|apply z4|apply z0|apply z3)|exact HB.out))) : w.heap.size ≤ gb105));clear HB;have HB:=n0_;have BK105:=n1_;have GW105:=n2_;have GE105:=n3_;clear n0_ n1_ n2_ n3_;clear hb hbox hg;have hcz16_0 : w15.cell? ⟨gb105,0,none⟩ = some (.int .u64 0):=(zb BK105.out 0).trans rfl;have hcz16_1 : w15.cell? ⟨gb105,1,none⟩ = some (.int .u64 0):=(zb BK105.out 1).trans rfl;have hfz16_0:=z9 BK105.out 0;have hfz16_1:=z9 BK105.out 1)|((with_reducible refine zG (f:=44) rfl ?_);refine goesL_ (some 29) rfl rfl Try.func44 (by kernel_rfl) rfl #[.slice A1 l1.length c1] rfl (by (try simp only [List.map_toArray,List.map_cons,List.map_nil]);first|done|rfl|(simp only [List.length_drop,List.length_take];rfl)) ?_;(with_reducible refine (zv.calls kj3 _ _ l1 t106 _ ?side1 ?side2 A10.out).mono ?_);(case side1=>exact Kd.z1Q HR1.out (by repeat (first|(with_reducible first|exact HB.out|apply z4|apply z0|apply z3|refine z8 ?_ GE105.out)|exact HB.out)));(case side2=>exact HC1.out);rintro e w17 ⟨v107,rfl,ho0,hb⟩;refine ⟨_,rfl,?_⟩;have n0_:=z7.mk (Kd.z1y ho0 (zf (by repeat (first|(with_reducible first|exact HB.out|apply z4|apply z0|apply z3|refine z8 ?_ GE105.out)|exact HB.out))));have n1_:=z7.mk (zj (g:=gb105) (o:=.cells #[.int .u64 t102,.int .u64 t103] 51 (0,0)) (by (with_reducible repeat (first|refine z2 ?_ _|refine z5 ?_|refine z1 ?_ _));refine zq (cs:=#[.int .u64 t102,.int .u64 0]) ?_ 1 _ rfl;(with_reducible repeat (first|refine z2 ?_ _|refine z5 ?_|refine z1 ?_ _));refine zq (cs:=#[.int .u64 0,.int .u64 0]) ?_ 0 _ rfl;(with_reducible repeat (first|refine z2 ?_ _|refine z5 ?_|refine z1 ?_ _));exact BK105.out) hb);have n2_:=z7.mk (zi (by repeat (first|(with_reducible first|exact HB.out|apply z4|apply z0|apply z3|refine z8 ?_ GE105.out)|exact HB.out)) hb);clear BK105;clear HB;have HO108:=n0_;have BK105:=n1_;have HB:=n2_;clear n0_ n1_ n2_;(try clear hb);(try clear hb2);(try clear hk);(try clear hi);(try clear ho0))|((with_reducible refine zG (f:=27) rfl ?_);refine goesL_ (some 31) rfl rfl Try.func27 (by kernel_rfl) rfl #[.slice A2 l2.length c2] rfl (by (try simp only [List.map_toArray,List.map_cons,List.map_nil]);first|done|rfl|(simp only [List.length_drop,List.length_take];rfl)) ?_;(with_reducible refine (zB.calls kj3 _ _ l2 t109 _ ?side1 ?side2 A11.out).mono ?_);(case side1=>repeat (first|exact (Kd.z1Q HR2.out HB.out)|(with_reducible refine Kd.z1q ?_ _)|(with_reducible refine Kd.z1r ?_ _)|(with_reducible refine Kd.z1B ?_)));(case side2=>exact HC2.out);rintro e w18 ⟨v110,rfl,ho0,hb⟩;refine ⟨_,rfl,?_⟩;have n0_:=z7.mk (Kd.zV (by (with_reducible repeat (first|apply Kd.zw|apply Kd.zx|apply Kd.zC));exact HO108.out) hb);have n1_:=z7.mk (Kd.z1y ho0 (zf (by repeat (first|(with_reducible first|exact HB.out|apply z4|apply z0|apply z3|refine z8 ?_ GE105.out)|exact HB.out))));have n2_:=z7.mk (zj (g:=gb105) (o:=.cells #[.int .u64 t102,.int .u64 t103] 51 (0,0)) (by (with_reducible repeat (first|refine z2 ?_ _|refine z5 ?_|refine z1 ?_ _));exact BK105.out) hb);have n3_:=z7.mk (zi (by repeat (first|(with_reducible first|exact HB.out|apply z4|apply z0|apply z3|refine z8 ?_ GE105.out)|exact HB.out)) hb);clear HO108;clear BK105;clear HB;have HO108:=n0_;have HO111:=n1_;have BK105:=n2_;have HB:=n3_;clear n0_ n1_ n2_ n3_;(try clear hb);(try clear hb2);(try clear hk);(try clear hi);(try clear ho0);obtain ⟨Ao19,co19,eo19⟩:=Kd.z1o HO108.out;subst eo19)|((with_reducible refine zG (f:=45) rfl ?_);refine goesL_ (some 36) rfl rfl Try.func45 (by kernel_rfl) rfl #[.int .i64 a0,.int .i64 (l2.length : Int),.slice Ao19 t106.length co19] rfl (by (try simp only [List.map_toArray,List.map_cons,List.map_nil]);first|done|rfl|(simp only [List.length_drop,List.length_take];rfl)) ?_;(with_reducible refine (zc.calls kj3 a0 (l2.length : Int) _ _ t106 t112 _ ?side1 ?side2 A12.out).mono ?_);(case side1=>repeat (first|exact (Kd.zQ HO108.out).2.2|(with_reducible refine Kd.z1q ?_ _)|(with_reducible refine Kd.z1r ?_ _)|(with_reducible refine Kd.z1B ?_)));(case side2=>exact (Kd.zQ HO108.out).2.1);rintro e w20 ⟨rfl,hb⟩;refine ⟨_,rfl,?_⟩;have n0_:=z7.mk (Kd.zV (by (with_reducible repeat (first|apply Kd.zw|apply Kd.zx|apply Kd.zC));exact HO108.out) hb);have n1_:=z7.mk (Kd.zV (by (with_reducible repeat (first|apply Kd.zw|apply Kd.zx|apply Kd.zC));exact HO111.out) hb);have n2_:=z7.mk (zj (g:=gb105) (o:=.cells #[.int .u64 t102,.int .u64 t103] 51 (0,0)) (by (with_reducible repeat (first|refine z2 ?_ _|refine z5 ?_|refine z1 ?_ _));exact BK105.out) hb);have n3_:=z7.mk (zi (by repeat (first|(with_reducible first|exact HB.out|apply z4|apply z0|apply z3|refine z8 ?_ GE105.out)|exact HB.out)) hb);clear HO108;clear HO111;clear BK105;clear HB;have HO108:=n0_;have HO111:=n1_;have BK105:=n2_;have HB:=n3_;clear n0_ n1_ n2_ n3_;(try clear hb);(try clear hb2);(try clear hk);(try clear hi)))
   (try simp only [Act.put,List.setIfInBounds_toArray,List.set_cons_zero,List.set_cons_succ])
   go_cut [44] (fun v44 wc=>∃ (kq : Nat) (x44_12 : Bool),v44 = .bool x44_12 ∧ z7 (ze.j1 kq t104 t106 t109 t112 x44_12 t102 t103 = some r) ∧ z7 (kq ≤ kj3) ∧ z7 (Kd.R k114 114 wc w.heap.size (fun _=>True) (.slice Ao19 t106.length co19) t106) ∧ z7 (Kd.R k61 61 wc w.heap.size (fun _=>True) v110 t109) ∧ z7 (wc.heap[gb105]? = some (.cells #[.int .u64 t102,.int .u64 t103] 51 (0,0))) ∧ z7 (Below w.heap.size w wc))
   case first =>
    have H:=HC13.out
    clear HC13
    by_cases c21 : t112 = 0
    rotate_left
    · rw [if_neg c21] at H
      have c21b0 : (t112 == 0) = false:=beq_eq_false_iff_ne.mpr c21
      have c21b1 : (t112 != 0) = true:=bne_iff_ne.mpr c21
      (first|rw [c21b0]|(simp only [zD,zF];rw [c21b0])|skip)
      have H':=z7.mk H
      clear H
      go_wp2
      go_meet
      case rel=>exact ⟨_,(false),(by first|rfl|(simp;done)|(simp [*];done)),H',⟨by have:=HJ3.out;first|omega|exact Nat.le_refl _⟩,⟨by (with_reducible repeat (first|apply Kd.zw|apply Kd.zx|apply Kd.zC));exact HO108.out⟩,⟨by (with_reducible repeat (first|apply Kd.zw|apply Kd.zx|apply Kd.zC));exact HO111.out⟩,⟨by (with_reducible repeat (first|refine z2 ?_ _|refine z5 ?_|refine z1 ?_ _));exact BK105.out⟩,⟨by repeat (first|(with_reducible first|exact HB.out|apply z4|apply z0|apply z3|refine z8 ?_ GE105.out)|exact HB.out)⟩⟩
    rw [if_pos c21] at H
    have c21b0 : (t112 == 0) = true:=beq_iff_eq.mpr c21
    have c21b1 : (t112 != 0) = false:=bne_eq_false_iff_eq.mpr c21
    clear c21
    (first|rw [c21b0]|(simp only [zD,zF];rw [c21b0])|skip)
    replace H:=Option.bind_eq_some_iff.mp H
    obtain ⟨t113,A220,H⟩:=H
    replace H : (ze.j1 kj3 t104 t106 t109 t112 (!t113) t102 t103) = some r:=H
    have A22:=z7.mk A220
    clear A220
    have H':=z7.mk H
    clear H
    obtain ⟨Ao23,co23,eo23⟩:=Kd.z1o HO111.out
    subst eo23
    go_wp2_with (first|(go_at_call 46;(with_reducible refine (zA.calls kj3 a0 _ _ t109 t113 _ ?side1 ?side2 A22.out).mono ?_);(case side1=>repeat (first|exact (Kd.zQ HO111.out).2.2|(with_reducible refine Kd.z1q ?_ _)|(with_reducible refine Kd.z1r ?_ _)|(with_reducible refine Kd.z1B ?_)));(case side2=>exact (Kd.zQ HO111.out).2.1);rintro e w24 ⟨rfl,hb⟩;have n0_:=z7.mk (Kd.zV (by (with_reducible repeat (first|apply Kd.zw|apply Kd.zx|apply Kd.zC));exact HO108.out) hb);have n1_:=z7.mk (Kd.zV (by (with_reducible repeat (first|apply Kd.zw|apply Kd.zx|apply Kd.zC));exact HO111.out) hb);have n2_:=z7.mk (zj (g:=gb105) (o:=.cells #[.int .u64 t102,.int .u64 t103] 51 (0,0)) (by (with_reducible repeat (first|refine z2 ?_ _|refine z5 ?_|refine z1 ?_ _));exact BK105.out) hb);have n3_:=z7.mk (zi (by repeat (first|(with_reducible first|exact HB.out|apply z4|apply z0|apply z3|refine z8 ?_ GE105.out)|exact HB.out)) hb);clear HO108;clear HO111;clear BK105;clear HB;have HO108:=n0_;have HO111:=n1_;have BK105:=n2_;have HB:=n3_;clear n0_ n1_ n2_ n3_;(try clear hb);(try clear hb2);(try clear hk);(try clear hi)))
    go_meet
    case rel=>exact ⟨_,(!t113),(by first|rfl|(simp;done)|(simp [*];done)),H',⟨by have:=HJ3.out;first|omega|exact Nat.le_refl _⟩,⟨by (with_reducible repeat (first|apply Kd.zw|apply Kd.zx|apply Kd.zC));exact HO108.out⟩,⟨by (with_reducible repeat (first|apply Kd.zw|apply Kd.zx|apply Kd.zC));exact HO111.out⟩,⟨by (with_reducible repeat (first|refine z2 ?_ _|refine z5 ?_|refine z1 ?_ _));exact BK105.out⟩,⟨by repeat (first|(with_reducible first|exact HB.out|apply z4|apply z0|apply z3|refine z8 ?_ GE105.out)|exact HB.out)⟩⟩
   case rest =>
    clear HC13
    (try clear c1);(try clear c2);(try clear p2);(try clear c4);(try clear c5);(try clear c5b0);(try clear c5b1);(try clear c6);(try clear c10);(try clear c21);(try clear c21b0);(try clear c21b1);(try clear hcz16_0);(try clear hcz16_1);(try clear hfz16_0);(try clear hfz16_1);(try clear p2)
    obtain ⟨kq,x44_12,rfl,HA,HJ12,HO_9,HO_10,BK105,HB⟩:=hcut
    cases kq with
    | zero=>exact absurd HA.out (by simp [ze.j1])
    | succ kj12 =>
     have H:=HA.out
     clear HA
     simp only [ze.j1] at H
     have HC25:=z7.mk H
     clear H
     go_upto_if 44 with (fail)
     go_cut [11] (fun v11 wc=>∃ (kq : Nat) (x11_24 : Int),v11 = .int .i64 x11_24 ∧ z7 (ze.j2 kq t104 t106 t109 x11_24 t102 t103 = some r) ∧ z7 (kq ≤ kj12) ∧ z7 (Kd.R k114 114 wc w.heap.size (fun _=>True) (.slice Ao19 t106.length co19) t106) ∧ z7 (Kd.R k61 61 wc w.heap.size (fun _=>True) v110 t109) ∧ z7 (wc.heap[gb105]? = some (.cells #[.int .u64 t102,.int .u64 t103] 51 (0,0))) ∧ z7 (Below w.heap.size w wc))
     case first =>
      have H:=HC25.out
      clear HC25
      by_cases c26 : x44_12 = true
      · subst c26
        have H1 : (ze.j2 kj12 t104 t106 t109 5 t102 t103) = some r:=by rw [if_pos rfl] at H;exact H
        clear H
        have H:=H1
        clear H1
        have H':=z7.mk H
        clear H
        go_wp2
        go_meet
        case rel=>exact ⟨_,(5),(by first|rfl|(simp;done)|(simp [*];done)),H',⟨by have:=HJ3.out;have:=HJ12.out;first|omega|exact Nat.le_refl _⟩,⟨by (with_reducible repeat (first|apply Kd.zw|apply Kd.zx|apply Kd.zC));exact HO_9.out⟩,⟨by (with_reducible repeat (first|apply Kd.zw|apply Kd.zx|apply Kd.zC));exact HO_10.out⟩,⟨by (with_reducible repeat (first|refine z2 ?_ _|refine z5 ?_|refine z1 ?_ _));exact BK105.out⟩,⟨by repeat (first|(with_reducible first|exact HB.out|apply z4|apply z0|apply z3|refine z8 ?_ GE105.out)|exact HB.out)⟩⟩
      replace c26:=Bool.eq_false_iff.mpr c26
      subst c26
      have H1 : (ze.j2 kj12 t104 t106 t109 t112 t102 t103) = some r:=by rw [if_neg (show ¬ (false = true) by decide)] at H;exact H
      clear H
      have H:=H1
      clear H1
      have H':=z7.mk H
      clear H
      go_wp2
      go_meet
      case rel=>exact ⟨_,(t112),(by first|rfl|(simp;done)|(simp [*];done)),H',⟨by have:=HJ3.out;have:=HJ12.out;first|omega|exact Nat.le_refl _⟩,⟨by (with_reducible repeat (first|apply Kd.zw|apply Kd.zx|apply Kd.zC));exact HO_9.out⟩,⟨by (with_reducible repeat (first|apply Kd.zw|apply Kd.zx|apply Kd.zC));exact HO_10.out⟩,⟨by (with_reducible repeat (first|refine z2 ?_ _|refine z5 ?_|refine z1 ?_ _));exact BK105.out⟩,⟨by repeat (first|(with_reducible first|exact HB.out|apply z4|apply z0|apply z3|refine z8 ?_ GE105.out)|exact HB.out)⟩⟩
     case rest =>
      clear HC25
      (try clear c1);(try clear c2);(try clear p2);(try clear c4);(try clear c5);(try clear c5b0);(try clear c5b1);(try clear c6);(try clear c10);(try clear c21);(try clear c21b0);(try clear c21b1);(try clear c26);(try clear hcz16_0);(try clear hcz16_1);(try clear hfz16_0);(try clear hfz16_1);(try clear p2)
      obtain ⟨kq,x11_24,rfl,HA,HJ24,HO_9,HO_10,BK105,HB⟩:=hcut
      cases kq with
      | zero=>exact absurd HA.out (by simp [ze.j2])
      | succ kj24 =>
       have H:=HA.out
       clear HA
       simp only [ze.j2] at H
       by_cases c27 : x11_24 = 0
       rotate_left
       · rw [if_neg c27] at H
         have c27b0 : (x11_24 == 0) = false:=beq_eq_false_iff_ne.mpr c27
         have c27b1 : (x11_24 != 0) = true:=bne_iff_ne.mpr c27
         replace H:=Option.bind_eq_some_iff.mp H
         obtain ⟨t117,A400,H⟩:=H
         replace H : (if t117 = true then (if t104 = x11_24 then (some (t102 == 0 && (t103 == 0))) else (some false)) else (some false)) = some r:=H
         have A40:=z7.mk A400
         clear A400
         by_cases c41 : t117 = true
         rotate_left
         · replace c41:=Bool.eq_false_iff.mpr c41
           subst c41
           have H1 : (some false) = some r:=by rw [if_neg (show ¬ (false = true) by decide)] at H;exact H
           clear H
           have H:=H1
           clear H1
           obtain rfl:=Option.some.inj H
           go_wp2_with (first|((with_reducible refine zG (f:=42) rfl ?_);refine goesL_ (some 47) rfl rfl Try.func42 (by kernel_rfl) rfl #[] rfl (by (try simp only [List.map_toArray,List.map_cons,List.map_nil]);first|done|rfl|(simp only [List.length_drop,List.length_take];rfl)) ?_;(with_reducible refine (zJ.calls kj24  false _ A40.out).mono ?_);rintro e w46 ⟨rfl,hb⟩;refine ⟨_,rfl,?_⟩;have n0_:=z7.mk (Kd.zV (by (with_reducible repeat (first|apply Kd.zw|apply Kd.zx|apply Kd.zC));exact HO_9.out) hb);have n1_:=z7.mk (Kd.zV (by (with_reducible repeat (first|apply Kd.zw|apply Kd.zx|apply Kd.zC));exact HO_10.out) hb);have n2_:=z7.mk (zj (g:=gb105) (o:=.cells #[.int .u64 t102,.int .u64 t103] 51 (0,0)) (by (with_reducible repeat (first|refine z2 ?_ _|refine z5 ?_|refine z1 ?_ _));exact BK105.out) hb);have n3_:=z7.mk (zi (by repeat (first|(with_reducible first|exact HB.out|apply z4|apply z0|apply z3|refine z8 ?_ GE105.out)|exact HB.out)) hb);clear HO_9;clear HO_10;clear BK105;clear HB;have HO_9:=n0_;have HO_10:=n1_;have BK105:=n2_;have HB:=n3_;clear n0_ n1_ n2_ n3_;(try clear hb);(try clear hb2);(try clear hk);(try clear hi)))
           go_ret
           exact ⟨by first|rfl|(simp [zl,zm] <;> rfl)|(simp [*,zl,zm] <;> rfl),by repeat (first|(with_reducible first|exact HB.out|apply z4|apply z0|apply z3|refine z8 ?_ GE105.out)|exact HB.out)⟩
         subst c41
         have H1 : (if t104 = x11_24 then (some (t102 == 0 && (t103 == 0))) else (some false)) = some r:=by rw [if_pos rfl] at H;exact H
         clear H
         have H:=H1
         clear H1
         by_cases c42 : t104 = x11_24
         rotate_left
         · rw [if_neg c42] at H
           have c42b0 : (t104 == x11_24) = false:=beq_eq_false_iff_ne.mpr c42
           have c42b1 : (t104 != x11_24) = true:=bne_iff_ne.mpr c42
           obtain rfl:=Option.some.inj H
           go_wp2_with (first|((with_reducible refine zG (f:=42) rfl ?_);refine goesL_ (some 47) rfl rfl Try.func42 (by kernel_rfl) rfl #[] rfl (by (try simp only [List.map_toArray,List.map_cons,List.map_nil]);first|done|rfl|(simp only [List.length_drop,List.length_take];rfl)) ?_;(with_reducible refine (zJ.calls kj24  true _ A40.out).mono ?_);rintro e w45 ⟨rfl,hb⟩;refine ⟨_,rfl,?_⟩;have n0_:=z7.mk (Kd.zV (by (with_reducible repeat (first|apply Kd.zw|apply Kd.zx|apply Kd.zC));exact HO_9.out) hb);have n1_:=z7.mk (Kd.zV (by (with_reducible repeat (first|apply Kd.zw|apply Kd.zx|apply Kd.zC));exact HO_10.out) hb);have n2_:=z7.mk (zj (g:=gb105) (o:=.cells #[.int .u64 t102,.int .u64 t103] 51 (0,0)) (by (with_reducible repeat (first|refine z2 ?_ _|refine z5 ?_|refine z1 ?_ _));exact BK105.out) hb);have n3_:=z7.mk (zi (by repeat (first|(with_reducible first|exact HB.out|apply z4|apply z0|apply z3|refine z8 ?_ GE105.out)|exact HB.out)) hb);clear HO_9;clear HO_10;clear BK105;clear HB;have HO_9:=n0_;have HO_10:=n1_;have BK105:=n2_;have HB:=n3_;clear n0_ n1_ n2_ n3_;(try clear hb);(try clear hb2);(try clear hk);(try clear hi)))
           go_ret
           exact ⟨by first|rfl|(simp [zl,zm] <;> rfl)|(simp [*,zl,zm] <;> rfl),by repeat (first|(with_reducible first|exact HB.out|apply z4|apply z0|apply z3|refine z8 ?_ GE105.out)|exact HB.out)⟩
         rw [if_pos c42] at H
         have c42b0 : (t104 == x11_24) = true:=beq_iff_eq.mpr c42
         have c42b1 : (t104 != x11_24) = false:=bne_eq_false_iff_eq.mpr c42
         clear c42
         obtain rfl:=Option.some.inj H
         go_wp2_with (first|((with_reducible refine zG (f:=42) rfl ?_);refine goesL_ (some 47) rfl rfl Try.func42 (by kernel_rfl) rfl #[] rfl (by (try simp only [List.map_toArray,List.map_cons,List.map_nil]);first|done|rfl|(simp only [List.length_drop,List.length_take];rfl)) ?_;(with_reducible refine (zJ.calls kj24  true _ A40.out).mono ?_);rintro e w43 ⟨rfl,hb⟩;refine ⟨_,rfl,?_⟩;have n0_:=z7.mk (Kd.zV (by (with_reducible repeat (first|apply Kd.zw|apply Kd.zx|apply Kd.zC));exact HO_9.out) hb);have n1_:=z7.mk (Kd.zV (by (with_reducible repeat (first|apply Kd.zw|apply Kd.zx|apply Kd.zC));exact HO_10.out) hb);have n2_:=z7.mk (zj (g:=gb105) (o:=.cells #[.int .u64 t102,.int .u64 t103] 51 (0,0)) (by (with_reducible repeat (first|refine z2 ?_ _|refine z5 ?_|refine z1 ?_ _));exact BK105.out) hb);have n3_:=z7.mk (zi (by repeat (first|(with_reducible first|exact HB.out|apply z4|apply z0|apply z3|refine z8 ?_ GE105.out)|exact HB.out)) hb);clear HO_9;clear HO_10;clear BK105;clear HB;have HO_9:=n0_;have HO_10:=n1_;have BK105:=n2_;have HB:=n3_;clear n0_ n1_ n2_ n3_;(try clear hb);(try clear hb2);(try clear hk);(try clear hi);have hcz44_0 : w43.cell? ⟨gb105,0,none⟩ = some (.int .u64 t102):=(zb BK105.out 0).trans rfl;have hcz44_1 : w43.cell? ⟨gb105,1,none⟩ = some (.int .u64 t103):=(zb BK105.out 1).trans rfl;have hfz44_0:=z9 BK105.out 0;have hfz44_1:=z9 BK105.out 1))
         go_ret
         exact ⟨by first|rfl|(simp [zl,zm] <;> rfl)|(simp [*,zl,zm] <;> rfl),by repeat (first|(with_reducible first|exact HB.out|apply z4|apply z0|apply z3|refine z8 ?_ GE105.out)|exact HB.out)⟩
       rw [if_pos c27] at H
       have c27b0 : (x11_24 == 0) = true:=beq_iff_eq.mpr c27
       have c27b1 : (x11_24 != 0) = false:=bne_eq_false_iff_eq.mpr c27
       clear c27
       replace H:=Option.bind_eq_some_iff.mp H
       obtain ⟨t114,A280,H⟩:=H
       replace H : (if t114 = true then (if t104 = 0 then ((zh.f kj24 t106 (wrap64 ((t106.length : Int) - 1)) t109).bind fun bt115=>(some (t102 == bt115.1 && (t103 == bt115.2)))) else (some false)) else (some false)) = some r:=H
       have A28:=z7.mk A280
       clear A280
       by_cases c29 : t114 = true
       rotate_left
       · replace c29:=Bool.eq_false_iff.mpr c29
         subst c29
         have H1 : (some false) = some r:=by rw [if_neg (show ¬ (false = true) by decide)] at H;exact H
         clear H
         have H:=H1
         clear H1
         obtain rfl:=Option.some.inj H
         try go_wp2
         have n0_:=z7.mk (Kd.zC HO_9.out)
         have n1_:=z7.mk (Kd.zC HO_10.out)
         have n2_:=z7.mk (z5 BK105.out)
         have n3_:=z7.mk (z3 HB.out)
         clear HO_9
         clear HO_10
         clear BK105
         clear HB
         have HO_9:=n0_
         have HO_10:=n1_
         have BK105:=n2_
         have HB:=n3_
         clear n0_ n1_ n2_ n3_
         refine start_ (n:=16) (S:=fun w'=>True) (ds:=[]) #[false,false,false,false,false,false,false,false,false,false,false,false,false,false,false,false] (by kernel_rfl) rfl rfl trivial (fun hHeld=>?_);refine z1x ze.tab10 ze.bits10 (fun HT_ HW_=>?_)
         generalize wc.drew = w38 at HO_9 HO_10 BK105 HB hHeld ⊢
         refine one_ (i:=0) (N:=some 58) #[true,false,false,false,false,false,false,false,false,false,false,false,false,false,false,false] rfl rfl (z1D HT_.out (by kernel_rfl)) (by decide) (fun K hK=>?_)
         refine goes_ Try.func42 (by kernel_rfl) rfl #[] (by rfl) rfl rfl (by (try simp only [List.map_toArray,List.map_cons,List.map_nil]);first|done|rfl|(simp only [List.length_drop,List.length_take];rfl)) ?_
         with_reducible refine (zJ.calls kj24  false _ A28.out).mono ?_
         rintro e w39 ⟨rfl,hb⟩
         refine ⟨_,rfl,?_⟩
         have n0_:=z7.mk (Kd.zV (by (with_reducible repeat (first|apply Kd.zw|apply Kd.zx|apply Kd.zC));exact HO_9.out) hb)
         have n1_:=z7.mk (Kd.zV (by (with_reducible repeat (first|apply Kd.zw|apply Kd.zx|apply Kd.zC));exact HO_10.out) hb)
         have n2_:=z7.mk (zj (g:=gb105) (o:=.cells #[.int .u64 t102,.int .u64 t103] 51 (0,0)) (by (with_reducible repeat (first|refine z2 ?_ _|refine z5 ?_|refine z1 ?_ _));exact BK105.out) hb)
         have n3_:=z7.mk (zi (by repeat (first|(with_reducible first|exact HB.out|apply z4|apply z0|apply z3|refine z8 ?_ GE105.out)|exact HB.out)) hb)
         clear HO_9
         clear HO_10
         clear BK105
         clear HB
         have HO_9:=n0_
         have HO_10:=n1_
         have BK105:=n2_
         have HB:=n3_
         clear n0_ n1_ n2_ n3_
         (try clear hb)
         (try clear hb2)
         (try clear hk)
         (try clear hi)
         refine hK.out _ _ trivial (fun hHeld=>?_)
         clear hK K
         refine norm_ (a':=?_) ?_ ?_
         rotate_left
         · show Act.put _ (some 58) _ = _
           simp only [Act.put,List.setIfInBounds_toArray,List.set_cons_zero,List.set_cons_succ,zD,zF]
           rfl
         refine pure_ (i:=1) (N:=some 59) (v:=?_) (a':=?_) #[true,true,false,false,false,false,false,false,false,false,false,false,false,false,false,false] rfl rfl (zK HT_.out (by kernel_rfl)) (fun _ _ _ h=>h) (Or.inl ⟨by rfl,?_⟩) ?_ ?_
         rotate_left
         · intro w'
           go_simp
           with_reducible rfl
         rotate_left
         · simp only [Act.put,List.setIfInBounds_toArray,List.set_cons_zero,List.set_cons_succ,zD,zF]
           rfl
         refine pure_ (i:=2) (N:=some 60) (v:=undef) (a':=?_) #[true,true,true,false,false,false,false,false,false,false,false,false,false,false,false,false] rfl rfl (zK HT_.out (by kernel_rfl)) (fun _ _ _ h=>h) (Or.inr ⟨by rfl,rfl⟩) ?_ ?_
         rotate_left
         · simp only [Act.put,List.setIfInBounds_toArray,List.set_cons_zero,List.set_cons_succ,zD,zF]
           rfl
         refine pure_ (i:=3) (N:=some 61) (v:=undef) (a':=?_) #[true,true,true,true,false,false,false,false,false,false,false,false,false,false,false,false] rfl rfl (zK HT_.out (by kernel_rfl)) (fun _ _ _ h=>h) (Or.inr ⟨by rfl,rfl⟩) ?_ ?_
         rotate_left
         · simp only [Act.put,List.setIfInBounds_toArray,List.set_cons_zero,List.set_cons_succ,zD,zF]
           rfl
         refine pure_ (i:=4) (N:=some 62) (v:=?_) (a':=?_) #[true,true,true,true,true,false,false,false,false,false,false,false,false,false,false,false] rfl rfl (zK HT_.out (by kernel_rfl)) (fun _ _ _ h=>h) (Or.inl ⟨by rfl,?_⟩) ?_ ?_
         rotate_left
         · intro w'
           go_simp
           with_reducible rfl
         rotate_left
         · simp only [Act.put,List.setIfInBounds_toArray,List.set_cons_zero,List.set_cons_succ,zD,zF]
           rfl
         refine pure_ (i:=5) (N:=some 63) (v:=?_) (a':=?_) #[true,true,true,true,true,true,false,false,false,false,false,false,false,false,false,false] rfl rfl (zK HT_.out (by kernel_rfl)) (fun _ _ _ h=>h) (Or.inl ⟨by rfl,?_⟩) ?_ ?_
         rotate_left
         · intro w'
           go_simp
           with_reducible rfl
         rotate_left
         · simp only [Act.put,List.setIfInBounds_toArray,List.set_cons_zero,List.set_cons_succ,zD,zF]
           rfl
         refine pure_ (i:=6) (N:=some 64) (v:=undef) (a':=?_) #[true,true,true,true,true,true,true,false,false,false,false,false,false,false,false,false] rfl rfl (zK HT_.out (by kernel_rfl)) (fun _ _ _ h=>h) (Or.inr ⟨by rfl,rfl⟩) ?_ ?_
         rotate_left
         · simp only [Act.put,List.setIfInBounds_toArray,List.set_cons_zero,List.set_cons_succ,zD,zF]
           rfl
         refine pure_ (i:=7) (N:=some 65) (v:=undef) (a':=?_) #[true,true,true,true,true,true,true,true,false,false,false,false,false,false,false,false] rfl rfl (zK HT_.out (by kernel_rfl)) (fun _ _ _ h=>h) (Or.inr ⟨by rfl,rfl⟩) ?_ ?_
         rotate_left
         · simp only [Act.put,List.setIfInBounds_toArray,List.set_cons_zero,List.set_cons_succ,zD,zF]
           rfl
         refine pure_ (i:=8) (N:=some 66) (v:=undef) (a':=?_) #[true,true,true,true,true,true,true,true,true,false,false,false,false,false,false,false] rfl rfl (zK HT_.out (by kernel_rfl)) (fun _ _ _ h=>h) (Or.inr ⟨by rfl,rfl⟩) ?_ ?_
         rotate_left
         · simp only [Act.put,List.setIfInBounds_toArray,List.set_cons_zero,List.set_cons_succ,zD,zF]
           rfl
         refine pure_ (i:=9) (N:=some 67) (v:=undef) (a':=?_) #[true,true,true,true,true,true,true,true,true,true,false,false,false,false,false,false] rfl rfl (zK HT_.out (by kernel_rfl)) (fun _ _ _ h=>h) (Or.inr ⟨by rfl,rfl⟩) ?_ ?_
         rotate_left
         · simp only [Act.put,List.setIfInBounds_toArray,List.set_cons_zero,List.set_cons_succ,zD,zF]
           rfl
         refine pure_ (i:=10) (N:=some 68) (v:=undef) (a':=?_) #[true,true,true,true,true,true,true,true,true,true,true,false,false,false,false,false] rfl rfl (zK HT_.out (by kernel_rfl)) (fun _ _ _ h=>h) (Or.inr ⟨by rfl,rfl⟩) ?_ ?_
         rotate_left
         · simp only [Act.put,List.setIfInBounds_toArray,List.set_cons_zero,List.set_cons_succ,zD,zF]
           rfl
         refine pure_ (i:=11) (N:=some 69) (v:=undef) (a':=?_) #[true,true,true,true,true,true,true,true,true,true,true,true,false,false,false,false] rfl rfl (zK HT_.out (by kernel_rfl)) (fun _ _ _ h=>h) (Or.inr ⟨by rfl,rfl⟩) ?_ ?_
         rotate_left
         · simp only [Act.put,List.setIfInBounds_toArray,List.set_cons_zero,List.set_cons_succ,zD,zF]
           rfl
         refine pure_ (i:=12) (N:=some 70) (v:=undef) (a':=?_) #[true,true,true,true,true,true,true,true,true,true,true,true,true,false,false,false] rfl rfl (zK HT_.out (by kernel_rfl)) (fun _ _ _ h=>h) (Or.inr ⟨by rfl,rfl⟩) ?_ ?_
         rotate_left
         · simp only [Act.put,List.setIfInBounds_toArray,List.set_cons_zero,List.set_cons_succ,zD,zF]
           rfl
         refine pure_ (i:=13) (N:=some 71) (v:=undef) (a':=?_) #[true,true,true,true,true,true,true,true,true,true,true,true,true,true,false,false] rfl rfl (zK HT_.out (by kernel_rfl)) (fun _ _ _ h=>h) (Or.inr ⟨by rfl,rfl⟩) ?_ ?_
         rotate_left
         · simp only [Act.put,List.setIfInBounds_toArray,List.set_cons_zero,List.set_cons_succ,zD,zF]
           rfl
         refine pure_ (i:=14) (N:=some 72) (v:=?_) (a':=?_) #[true,true,true,true,true,true,true,true,true,true,true,true,true,true,true,false] rfl rfl (zK HT_.out (by kernel_rfl)) (fun _ _ _ h=>h) (Or.inl ⟨by rfl,?_⟩) ?_ ?_
         rotate_left
         · intro w'
           go_simp
           with_reducible rfl
         rotate_left
         · simp only [Act.put,List.setIfInBounds_toArray,List.set_cons_zero,List.set_cons_succ,zD,zF]
           rfl
         refine pure_ (i:=15) (N:=some 6) (v:=?_) (a':=?_) #[true,true,true,true,true,true,true,true,true,true,true,true,true,true,true,true] rfl rfl (zK HT_.out (by kernel_rfl)) (fun _ _ _ h=>h) (Or.inl ⟨by rfl,?_⟩) ?_ ?_
         rotate_left
         · intro w'
           go_simp
           with_reducible rfl
         rotate_left
         · simp only [Act.put,List.setIfInBounds_toArray,List.set_cons_zero,List.set_cons_succ,zD,zF]
           rfl
         refine done_ (z1R HT_.out (by kernel_rfl)) ?_
         try go_wp2
         go_ret
         exact ⟨by first|rfl|(simp [zl,zm] <;> rfl)|(simp [*,zl,zm] <;> rfl),by repeat (first|(with_reducible first|exact HB.out|apply z4|apply z0|apply z3|refine z8 ?_ GE105.out)|exact HB.out)⟩
       subst c29
       have H1 : (if t104 = 0 then ((zh.f kj24 t106 (wrap64 ((t106.length : Int) - 1)) t109).bind fun bt115=>(some (t102 == bt115.1 && (t103 == bt115.2)))) else (some false)) = some r:=by rw [if_pos rfl] at H;exact H
       clear H
       have H:=H1
       clear H1
       by_cases c30 : t104 = 0
       rotate_left
       · rw [if_neg c30] at H
         have c30b0 : (t104 == 0) = false:=beq_eq_false_iff_ne.mpr c30
         have c30b1 : (t104 != 0) = true:=bne_iff_ne.mpr c30
         obtain rfl:=Option.some.inj H
         try go_wp2
         have n0_:=z7.mk (Kd.zC HO_9.out)
         have n1_:=z7.mk (Kd.zC HO_10.out)
         have n2_:=z7.mk (z5 BK105.out)
         have n3_:=z7.mk (z3 HB.out)
         clear HO_9
         clear HO_10
         clear BK105
         clear HB
         have HO_9:=n0_
         have HO_10:=n1_
         have BK105:=n2_
         have HB:=n3_
         clear n0_ n1_ n2_ n3_
         refine start_ (n:=16) (S:=fun w'=>True) (ds:=[]) #[false,false,false,false,false,false,false,false,false,false,false,false,false,false,false,false] (by kernel_rfl) rfl rfl trivial (fun hHeld=>?_);refine z1x ze.tab10 ze.bits10 (fun HT_ HW_=>?_)
         generalize wc.drew = w36 at HO_9 HO_10 BK105 HB hHeld ⊢
         refine one_ (i:=0) (N:=some 58) #[true,false,false,false,false,false,false,false,false,false,false,false,false,false,false,false] rfl rfl (z1D HT_.out (by kernel_rfl)) (by decide) (fun K hK=>?_)
         refine goes_ Try.func42 (by kernel_rfl) rfl #[] (by rfl) rfl rfl (by (try simp only [List.map_toArray,List.map_cons,List.map_nil]);first|done|rfl|(simp only [List.length_drop,List.length_take];rfl)) ?_
         with_reducible refine (zJ.calls kj24  true _ A28.out).mono ?_
         rintro e w37 ⟨rfl,hb⟩
         refine ⟨_,rfl,?_⟩
         have n0_:=z7.mk (Kd.zV (by (with_reducible repeat (first|apply Kd.zw|apply Kd.zx|apply Kd.zC));exact HO_9.out) hb)
         have n1_:=z7.mk (Kd.zV (by (with_reducible repeat (first|apply Kd.zw|apply Kd.zx|apply Kd.zC));exact HO_10.out) hb)
         have n2_:=z7.mk (zj (g:=gb105) (o:=.cells #[.int .u64 t102,.int .u64 t103] 51 (0,0)) (by (with_reducible repeat (first|refine z2 ?_ _|refine z5 ?_|refine z1 ?_ _));exact BK105.out) hb)
         have n3_:=z7.mk (zi (by repeat (first|(with_reducible first|exact HB.out|apply z4|apply z0|apply z3|refine z8 ?_ GE105.out)|exact HB.out)) hb)
         clear HO_9
         clear HO_10
         clear BK105
         clear HB
         have HO_9:=n0_
         have HO_10:=n1_
         have BK105:=n2_
         have HB:=n3_
         clear n0_ n1_ n2_ n3_
         (try clear hb)
         (try clear hb2)
         (try clear hk)
         (try clear hi)
         refine hK.out _ _ trivial (fun hHeld=>?_)
         clear hK K
         refine norm_ (a':=?_) ?_ ?_
         rotate_left
         · show Act.put _ (some 58) _ = _
           simp only [Act.put,List.setIfInBounds_toArray,List.set_cons_zero,List.set_cons_succ,zD,zF]
           rfl
         refine pure_ (i:=1) (N:=some 59) (v:=?_) (a':=?_) #[true,true,false,false,false,false,false,false,false,false,false,false,false,false,false,false] rfl rfl (zK HT_.out (by kernel_rfl)) (fun _ _ _ h=>h) (Or.inl ⟨by rfl,?_⟩) ?_ ?_
         rotate_left
         · intro w'
           go_simp
           with_reducible rfl
         rotate_left
         · simp only [Act.put,List.setIfInBounds_toArray,List.set_cons_zero,List.set_cons_succ,zD,zF]
           rfl
         refine pure_ (i:=2) (N:=some 60) (v:=?_) (a':=?_) #[true,true,true,false,false,false,false,false,false,false,false,false,false,false,false,false] rfl rfl (zK HT_.out (by kernel_rfl)) (fun _ _ _ h=>h) (Or.inl ⟨by rfl,?_⟩) ?_ ?_
         rotate_left
         · intro w'
           go_simp
           with_reducible rfl
         rotate_left
         · simp only [Act.put,List.setIfInBounds_toArray,List.set_cons_zero,List.set_cons_succ,zD,zF]
           rfl
         refine pure_ (i:=3) (N:=some 61) (v:=?_) (a':=?_) #[true,true,true,true,false,false,false,false,false,false,false,false,false,false,false,false] rfl rfl (zK HT_.out (by kernel_rfl)) (fun _ _ _ h=>h) (Or.inl ⟨by rfl,?_⟩) ?_ ?_
         rotate_left
         · intro w'
           go_simp
           with_reducible rfl
         rotate_left
         · simp only [Act.put,List.setIfInBounds_toArray,List.set_cons_zero,List.set_cons_succ,zD,zF]
           rfl
         refine pure_ (i:=4) (N:=some 62) (v:=?_) (a':=?_) #[true,true,true,true,true,false,false,false,false,false,false,false,false,false,false,false] rfl rfl (zK HT_.out (by kernel_rfl)) (fun _ _ _ h=>h) (Or.inl ⟨by rfl,?_⟩) ?_ ?_
         rotate_left
         · intro w'
           go_simp
           with_reducible rfl
         rotate_left
         · simp only [Act.put,List.setIfInBounds_toArray,List.set_cons_zero,List.set_cons_succ,zD,zF]
           rfl
         refine pure_ (i:=5) (N:=some 63) (v:=?_) (a':=?_) #[true,true,true,true,true,true,false,false,false,false,false,false,false,false,false,false] rfl rfl (zK HT_.out (by kernel_rfl)) (fun _ _ _ h=>h) (Or.inl ⟨by rfl,?_⟩) ?_ ?_
         rotate_left
         · intro w'
           go_simp
           with_reducible rfl
         rotate_left
         · simp only [Act.put,List.setIfInBounds_toArray,List.set_cons_zero,List.set_cons_succ,zD,zF]
           rfl
         refine pure_ (i:=6) (N:=some 64) (v:=undef) (a':=?_) #[true,true,true,true,true,true,true,false,false,false,false,false,false,false,false,false] rfl rfl (zK HT_.out (by kernel_rfl)) (fun _ _ _ h=>h) (Or.inr ⟨by rfl,rfl⟩) ?_ ?_
         rotate_left
         · simp only [Act.put,List.setIfInBounds_toArray,List.set_cons_zero,List.set_cons_succ,zD,zF]
           rfl
         refine pure_ (i:=7) (N:=some 65) (v:=undef) (a':=?_) #[true,true,true,true,true,true,true,true,false,false,false,false,false,false,false,false] rfl rfl (zK HT_.out (by kernel_rfl)) (fun _ _ _ h=>h) (Or.inr ⟨by rfl,rfl⟩) ?_ ?_
         rotate_left
         · simp only [Act.put,List.setIfInBounds_toArray,List.set_cons_zero,List.set_cons_succ,zD,zF]
           rfl
         refine pure_ (i:=8) (N:=some 66) (v:=undef) (a':=?_) #[true,true,true,true,true,true,true,true,true,false,false,false,false,false,false,false] rfl rfl (zK HT_.out (by kernel_rfl)) (fun _ _ _ h=>h) (Or.inr ⟨by rfl,rfl⟩) ?_ ?_
         rotate_left
         · simp only [Act.put,List.setIfInBounds_toArray,List.set_cons_zero,List.set_cons_succ,zD,zF]
           rfl
         refine pure_ (i:=9) (N:=some 67) (v:=undef) (a':=?_) #[true,true,true,true,true,true,true,true,true,true,false,false,false,false,false,false] rfl rfl (zK HT_.out (by kernel_rfl)) (fun _ _ _ h=>h) (Or.inr ⟨by rfl,rfl⟩) ?_ ?_
         rotate_left
         · simp only [Act.put,List.setIfInBounds_toArray,List.set_cons_zero,List.set_cons_succ,zD,zF]
           rfl
         refine pure_ (i:=10) (N:=some 68) (v:=undef) (a':=?_) #[true,true,true,true,true,true,true,true,true,true,true,false,false,false,false,false] rfl rfl (zK HT_.out (by kernel_rfl)) (fun _ _ _ h=>h) (Or.inr ⟨by rfl,rfl⟩) ?_ ?_
         rotate_left
         · simp only [Act.put,List.setIfInBounds_toArray,List.set_cons_zero,List.set_cons_succ,zD,zF]
           rfl
         refine pure_ (i:=11) (N:=some 69) (v:=undef) (a':=?_) #[true,true,true,true,true,true,true,true,true,true,true,true,false,false,false,false] rfl rfl (zK HT_.out (by kernel_rfl)) (fun _ _ _ h=>h) (Or.inr ⟨by rfl,rfl⟩) ?_ ?_
         rotate_left
         · simp only [Act.put,List.setIfInBounds_toArray,List.set_cons_zero,List.set_cons_succ,zD,zF]
           rfl
         refine pure_ (i:=12) (N:=some 70) (v:=undef) (a':=?_) #[true,true,true,true,true,true,true,true,true,true,true,true,true,false,false,false] rfl rfl (zK HT_.out (by kernel_rfl)) (fun _ _ _ h=>h) (Or.inr ⟨by rfl,rfl⟩) ?_ ?_
         rotate_left
         · simp only [Act.put,List.setIfInBounds_toArray,List.set_cons_zero,List.set_cons_succ,zD,zF]
           rfl
         refine pure_ (i:=13) (N:=some 71) (v:=undef) (a':=?_) #[true,true,true,true,true,true,true,true,true,true,true,true,true,true,false,false] rfl rfl (zK HT_.out (by kernel_rfl)) (fun _ _ _ h=>h) (Or.inr ⟨by rfl,rfl⟩) ?_ ?_
         rotate_left
         · simp only [Act.put,List.setIfInBounds_toArray,List.set_cons_zero,List.set_cons_succ,zD,zF]
           rfl
         refine pure_ (i:=14) (N:=some 72) (v:=?_) (a':=?_) #[true,true,true,true,true,true,true,true,true,true,true,true,true,true,true,false] rfl rfl (zK HT_.out (by kernel_rfl)) (fun _ _ _ h=>h) (Or.inl ⟨by rfl,?_⟩) ?_ ?_
         rotate_left
         · intro w'
           go_simp
           with_reducible rfl
         rotate_left
         · simp only [Act.put,List.setIfInBounds_toArray,List.set_cons_zero,List.set_cons_succ,zD,zF]
           rfl
         refine pure_ (i:=15) (N:=some 6) (v:=?_) (a':=?_) #[true,true,true,true,true,true,true,true,true,true,true,true,true,true,true,true] rfl rfl (zK HT_.out (by kernel_rfl)) (fun _ _ _ h=>h) (Or.inl ⟨by rfl,?_⟩) ?_ ?_
         rotate_left
         · intro w'
           go_simp
           with_reducible rfl
         rotate_left
         · simp only [Act.put,List.setIfInBounds_toArray,List.set_cons_zero,List.set_cons_succ,zD,zF]
           rfl
         refine done_ (z1R HT_.out (by kernel_rfl)) ?_
         try go_wp2
         go_ret
         exact ⟨by first|rfl|(simp [zl,zm] <;> rfl)|(simp [*,zl,zm] <;> rfl),by repeat (first|(with_reducible first|exact HB.out|apply z4|apply z0|apply z3|refine z8 ?_ GE105.out)|exact HB.out)⟩
       rw [if_pos c30] at H
       have c30b0 : (t104 == 0) = true:=beq_iff_eq.mpr c30
       have c30b1 : (t104 != 0) = false:=bne_eq_false_iff_eq.mpr c30
       clear c30
       replace H:=Option.bind_eq_some_iff.mp H
       obtain ⟨⟨t115,t116⟩,A310,H⟩:=H
       replace H : (some (t102 == t115 && (t103 == t116))) = some r:=H
       have A31:=z7.mk A310
       clear A310
       obtain rfl:=Option.some.inj H
       try go_wp2
       have n0_:=z7.mk (Kd.zC HO_9.out)
       have n1_:=z7.mk (Kd.zC HO_10.out)
       have n2_:=z7.mk (z5 BK105.out)
       have n3_:=z7.mk (z3 HB.out)
       clear HO_9
       clear HO_10
       clear BK105
       clear HB
       have HO_9:=n0_
       have HO_10:=n1_
       have BK105:=n2_
       have HB:=n3_
       clear n0_ n1_ n2_ n3_
       refine start_ (n:=16) (S:=fun w'=>w'.cell? ⟨gb105,0,none⟩ = some (.int .u64 t102) ∧ w'.cell? ⟨gb105,1,none⟩ = some (.int .u64 t103)) (ds:=[]) #[false,false,false,false,false,false,false,false,false,false,false,false,false,false,false,false] (by kernel_rfl) rfl rfl ⟨(zb BK105.out 0).trans rfl,(zb BK105.out 1).trans rfl⟩ (fun hHeld=>?_);refine z1x ze.tab10 ze.bits10 (fun HT_ HW_=>?_)
       generalize wc.drew = w32 at HO_9 HO_10 BK105 HB hHeld ⊢
       refine one_ (i:=0) (N:=some 58) #[true,false,false,false,false,false,false,false,false,false,false,false,false,false,false,false] rfl rfl (z1D HT_.out (by kernel_rfl)) (by decide) (fun K hK=>?_)
       refine goes_ Try.func42 (by kernel_rfl) rfl #[] (by rfl) rfl rfl (by (try simp only [List.map_toArray,List.map_cons,List.map_nil]);first|done|rfl|(simp only [List.length_drop,List.length_take];rfl)) ?_
       with_reducible refine (zJ.calls kj24  true _ A28.out).mono ?_
       rintro e w33 ⟨rfl,hb⟩
       refine ⟨_,rfl,?_⟩
       have n0_:=z7.mk (Kd.zV (by (with_reducible repeat (first|apply Kd.zw|apply Kd.zx|apply Kd.zC));exact HO_9.out) hb)
       have n1_:=z7.mk (Kd.zV (by (with_reducible repeat (first|apply Kd.zw|apply Kd.zx|apply Kd.zC));exact HO_10.out) hb)
       have n2_:=z7.mk (zj (g:=gb105) (o:=.cells #[.int .u64 t102,.int .u64 t103] 51 (0,0)) (by (with_reducible repeat (first|refine z2 ?_ _|refine z5 ?_|refine z1 ?_ _));exact BK105.out) hb)
       have n3_:=z7.mk (zi (by repeat (first|(with_reducible first|exact HB.out|apply z4|apply z0|apply z3|refine z8 ?_ GE105.out)|exact HB.out)) hb)
       clear HO_9
       clear HO_10
       clear BK105
       clear HB
       have HO_9:=n0_
       have HO_10:=n1_
       have BK105:=n2_
       have HB:=n3_
       clear n0_ n1_ n2_ n3_
       (try clear hb)
       (try clear hb2)
       (try clear hk)
       (try clear hi)
       obtain ⟨Ao34,co34,eo34⟩:=Kd.z1o HO_10.out
       (first|subst eo34|(injection eo34 with f1_ f2_ f3_;have f4_:=f1_.symm;have f5_:=f3_.symm;clear f1_ f2_ f3_;subst f4_;subst f5_))
       refine hK.out _ _ ⟨(zb BK105.out 0).trans rfl,(zb BK105.out 1).trans rfl⟩ (fun hHeld=>?_)
       clear hK K
       refine norm_ (a':=?_) ?_ ?_
       rotate_left
       · show Act.put _ (some 58) _ = _
         simp only [Act.put,List.setIfInBounds_toArray,List.set_cons_zero,List.set_cons_succ,zD,zF]
         rfl
       refine pure_ (i:=1) (N:=some 59) (v:=?_) (a':=?_) #[true,true,false,false,false,false,false,false,false,false,false,false,false,false,false,false] rfl rfl (zK HT_.out (by kernel_rfl)) (fun _ _ _ h=>h) (Or.inl ⟨by rfl,?_⟩) ?_ ?_
       rotate_left
       · intro w'
         go_simp
         with_reducible rfl
       rotate_left
       · simp only [Act.put,List.setIfInBounds_toArray,List.set_cons_zero,List.set_cons_succ,zD,zF]
         rfl
       refine pure_ (i:=2) (N:=some 60) (v:=?_) (a':=?_) #[true,true,true,false,false,false,false,false,false,false,false,false,false,false,false,false] rfl rfl (zK HT_.out (by kernel_rfl)) (fun _ _ _ h=>h) (Or.inl ⟨by rfl,?_⟩) ?_ ?_
       rotate_left
       · intro w'
         go_simp
         with_reducible rfl
       rotate_left
       · simp only [Act.put,List.setIfInBounds_toArray,List.set_cons_zero,List.set_cons_succ,zD,zF]
         rfl
       refine pure_ (i:=3) (N:=some 61) (v:=?_) (a':=?_) #[true,true,true,true,false,false,false,false,false,false,false,false,false,false,false,false] rfl rfl (zK HT_.out (by kernel_rfl)) (fun _ _ _ h=>h) (Or.inl ⟨by rfl,?_⟩) ?_ ?_
       rotate_left
       · intro w'
         go_simp
         with_reducible rfl
       rotate_left
       · simp only [Act.put,List.setIfInBounds_toArray,List.set_cons_zero,List.set_cons_succ,zD,zF]
         rfl
       refine pure_ (i:=4) (N:=some 62) (v:=?_) (a':=?_) #[true,true,true,true,true,false,false,false,false,false,false,false,false,false,false,false] rfl rfl (zK HT_.out (by kernel_rfl)) (fun _ _ _ h=>h) (Or.inl ⟨by rfl,?_⟩) ?_ ?_
       rotate_left
       · intro w'
         go_simp
         with_reducible rfl
       rotate_left
       · simp only [Act.put,List.setIfInBounds_toArray,List.set_cons_zero,List.set_cons_succ,zD,zF]
         rfl
       refine pure_ (i:=5) (N:=some 63) (v:=?_) (a':=?_) #[true,true,true,true,true,true,false,false,false,false,false,false,false,false,false,false] rfl rfl (zK HT_.out (by kernel_rfl)) (fun _ _ _ h=>h) (Or.inl ⟨by rfl,?_⟩) ?_ ?_
       rotate_left
       · intro w'
         go_simp
         with_reducible rfl
       rotate_left
       · simp only [Act.put,List.setIfInBounds_toArray,List.set_cons_zero,List.set_cons_succ,zD,zF]
         rfl
       refine pure_ (i:=7) (N:=some 65) (v:=?_) (a':=?_) #[true,true,true,true,true,true,false,true,false,false,false,false,false,false,false,false] rfl rfl (zK HT_.out (by kernel_rfl)) (fun _ _ _ h=>h) (Or.inl ⟨by rfl,?_⟩) ?_ ?_
       rotate_left
       · intro w'
         go_simp
         with_reducible rfl
       rotate_left
       · simp only [Act.put,List.setIfInBounds_toArray,List.set_cons_zero,List.set_cons_succ,zD,zF]
         rfl
       refine pure_ (i:=8) (N:=some 66) (v:=?_) (a':=?_) #[true,true,true,true,true,true,false,true,true,false,false,false,false,false,false,false] rfl rfl (zK HT_.out (by kernel_rfl)) (fun _ _ _ h=>h) (Or.inl ⟨by rfl,?_⟩) ?_ ?_
       rotate_left
       · intro w'
         go_simp
         with_reducible rfl
       rotate_left
       · simp only [Act.put,List.setIfInBounds_toArray,List.set_cons_zero,List.set_cons_succ,zD,zF]
         rfl
       refine pure_ (i:=9) (N:=some 67) (v:=?_) (a':=?_) #[true,true,true,true,true,true,false,true,true,true,false,false,false,false,false,false] rfl rfl (zK HT_.out (by kernel_rfl)) (fun _ _ _ h=>h) (Or.inl ⟨by rfl,?_⟩) ?_ ?_
       rotate_left
       · intro w'
         go_simp
         with_reducible rfl
       rotate_left
       · simp only [Act.put,List.setIfInBounds_toArray,List.set_cons_zero,List.set_cons_succ,zD,zF]
         rfl
       refine pure_ (i:=10) (N:=some 68) (v:=?_) (a':=?_) #[true,true,true,true,true,true,false,true,true,true,true,false,false,false,false,false] rfl rfl (zK HT_.out (by kernel_rfl)) (fun _ _ _ h=>h) (Or.inl ⟨by rfl,?_⟩) ?_ ?_
       rotate_left
       · intro w'
         go_simp
         with_reducible rfl
       rotate_left
       · simp only [Act.put,List.setIfInBounds_toArray,List.set_cons_zero,List.set_cons_succ,zD,zF]
         rfl
       refine pure_ (i:=11) (N:=some 69) (v:=?_) (a':=?_) #[true,true,true,true,true,true,false,true,true,true,true,true,false,false,false,false] rfl rfl (zK HT_.out (by kernel_rfl)) (fun _ _ _ h=>h) (Or.inl ⟨by rfl,?_⟩) ?_ ?_
       rotate_left
       · intro w'
         go_simp
         with_reducible rfl
       rotate_left
       · simp only [Act.put,List.setIfInBounds_toArray,List.set_cons_zero,List.set_cons_succ,zD,zF]
         rfl
       refine take_ (i:=6) (N:=some 64) (v:=?_) (a':=?_) #[true,true,true,true,true,true,true,true,true,true,true,true,false,false,false,false] rfl rfl (z19 HT_.out HW_.out (by kernel_rfl)) (fun _ _ _ h=>h) (Or.inl ⟨by rfl,?_⟩) hHeld ?_ ?_
       rotate_left
       · rintro w' ⟨s0,s1⟩
         go_simp
         with_reducible rfl
       rotate_left
       · simp only [Act.put,List.setIfInBounds_toArray,List.set_cons_zero,List.set_cons_succ,zD,zF]
         rfl
       refine one_ (i:=12) (N:=some 70) #[true,true,true,true,true,true,true,true,true,true,true,true,true,false,false,false] rfl rfl (z1D HT_.out (by kernel_rfl)) (by decide) (fun K hK=>?_)
       refine goes_ Try.func47 (by kernel_rfl) rfl #[.slice Ao19 t106.length co19,.int .i64 (wrap64 ((t106.length : Int) - 1)),.slice Ao34 t109.length co34] (by rfl) rfl rfl (by (try simp only [List.map_toArray,List.map_cons,List.map_nil]);first|done|rfl|(simp only [List.length_drop,List.length_take];rfl)) ?_
       with_reducible refine (zh.calls kj24 _ _ t106 (wrap64 ((t106.length : Int) - 1)) _ _ t109 t115 t116 _ ?side1 ?side2 ?side3 ?side4 A31.out).mono ?_
       (case side1=>repeat (first|exact (Kd.zQ HO_9.out).2.2|(with_reducible refine Kd.z1q ?_ _)|(with_reducible refine Kd.z1r ?_ _)|(with_reducible refine Kd.z1B ?_)))
       (case side2=>exact (Kd.zQ HO_9.out).2.1)
       (case side3=>repeat (first|exact (Kd.zQ HO_10.out).2.2|(with_reducible refine Kd.z1q ?_ _)|(with_reducible refine Kd.z1r ?_ _)|(with_reducible refine Kd.z1B ?_)))
       (case side4=>exact (Kd.zQ HO_10.out).2.1)
       rintro e w35 ⟨rfl,hb⟩
       refine ⟨_,rfl,?_⟩
       have n0_:=z7.mk (Kd.zV (by (with_reducible repeat (first|apply Kd.zw|apply Kd.zx|apply Kd.zC));exact HO_9.out) hb)
       have n1_:=z7.mk (Kd.zV (by (with_reducible repeat (first|apply Kd.zw|apply Kd.zx|apply Kd.zC));exact HO_10.out) hb)
       have n2_:=z7.mk (zj (g:=gb105) (o:=.cells #[.int .u64 t102,.int .u64 t103] 51 (0,0)) (by (with_reducible repeat (first|refine z2 ?_ _|refine z5 ?_|refine z1 ?_ _));exact BK105.out) hb)
       have n3_:=z7.mk (zi (by repeat (first|(with_reducible first|exact HB.out|apply z4|apply z0|apply z3|refine z8 ?_ GE105.out)|exact HB.out)) hb)
       clear HO_9
       clear HO_10
       clear BK105
       clear HB
       have HO_9:=n0_
       have HO_10:=n1_
       have BK105:=n2_
       have HB:=n3_
       clear n0_ n1_ n2_ n3_
       (try clear hb)
       (try clear hb2)
       (try clear hk)
       (try clear hi)
       refine hK.out _ _ ⟨(zb BK105.out 0).trans rfl,(zb BK105.out 1).trans rfl⟩ (fun hHeld=>?_)
       clear hK K
       refine norm_ (a':=?_) ?_ ?_
       rotate_left
       · show Act.put _ (some 70) _ = _
         simp only [Act.put,List.setIfInBounds_toArray,List.set_cons_zero,List.set_cons_succ,zD,zF]
         rfl
       refine pure_ (i:=13) (N:=some 71) (v:=?_) (a':=?_) #[true,true,true,true,true,true,true,true,true,true,true,true,true,true,false,false] rfl rfl (zK HT_.out (by kernel_rfl)) (fun _ _ _ h=>h) (Or.inl ⟨by rfl,?_⟩) ?_ ?_
       rotate_left
       · intro w'
         go_simp
         with_reducible rfl
       rotate_left
       · simp only [Act.put,List.setIfInBounds_toArray,List.set_cons_zero,List.set_cons_succ,zD,zF]
         rfl
       refine pure_ (i:=14) (N:=some 72) (v:=?_) (a':=?_) #[true,true,true,true,true,true,true,true,true,true,true,true,true,true,true,false] rfl rfl (zK HT_.out (by kernel_rfl)) (fun _ _ _ h=>h) (Or.inl ⟨by rfl,?_⟩) ?_ ?_
       rotate_left
       · intro w'
         go_simp
         with_reducible rfl
       rotate_left
       · simp only [Act.put,List.setIfInBounds_toArray,List.set_cons_zero,List.set_cons_succ,zD,zF]
         rfl
       refine pure_ (i:=15) (N:=some 6) (v:=?_) (a':=?_) #[true,true,true,true,true,true,true,true,true,true,true,true,true,true,true,true] rfl rfl (zK HT_.out (by kernel_rfl)) (fun _ _ _ h=>h) (Or.inl ⟨by rfl,?_⟩) ?_ ?_
       rotate_left
       · intro w'
         go_simp
         with_reducible rfl
       rotate_left
       · simp only [Act.put,List.setIfInBounds_toArray,List.set_cons_zero,List.set_cons_succ,zD,zF]
         rfl
       refine done_ (z1R HT_.out (by kernel_rfl)) ?_
       try go_wp2
       go_ret
       exact ⟨by first|rfl|(simp [zl,zm] <;> rfl)|(simp [*,zl,zm] <;> rfl),by repeat (first|(with_reducible first|exact HB.out|apply z4|apply z0|apply z3|refine z8 ?_ GE105.out)|exact HB.out)⟩
end Go.Proofs.Ytngcaphdkgihmaa.P
/- What the arguments of a law read as: for each type that can be told, any reading of it is one of a value of its kind, with its numbers in their ranges. Own text. -/
namespace Go.Proofs.Ytngcaphdkgihmaa.Reads
open Go.ChangeShapes Go.WideShapes Go.ChangeAt Go.RowKit Go.Deep Go.Proofs.YtngcaphdkgihmaaW.PrintWords
set_option linter.unusedVariables false

/-- Whatever is read at type t is of kind d, and good. -/
def ReadsAs {α : Type} (P : Program) (t : TypeId) (d : Kd α) (good : α → Prop) : Prop :=
  ∀ {H : Type} (enc : TypeId × Value → H) (w : World) (base : Nat) (spare : Nat → Bool) (held : Bool) (fuel : Nat) (cs : List Value) (x : DataW H × List MemPlace), DataW.trod enc P w base spare held fuel t cs = some x → ∃ a, d.K w a cs ∧ good a

theorem z3l {P : Program} {t : TypeId} {k : IntKind} (ht : P.underlying t = some (.int k)) : ReadsAs P t (Kd.int k) (fun n => (Lit.int k n).wf = true) := by
  intro H enc w base spare held fuel cs x h
  obtain ⟨n, rfl, _, hw⟩ := DataW.trod_int ht h
  exact ⟨n, rfl, hw⟩
theorem op_bool {P : Program} {t : TypeId} (ht : P.underlying t = some .bool) : ReadsAs P t Kd.bool (fun _ => True) := by
  intro H enc w base spare held fuel cs x h
  obtain ⟨n, rfl, _⟩ := DataW.trod_bool ht h
  exact ⟨n, rfl, trivial⟩
theorem z3T (a : Addr) (i j : Nat) : (a.add i).add j = a.add (i + j) := Go.Deep.add_add a i j
theorem z4m {α : Type} {P : Program} {t e : TypeId} {d : Kd α} {good : α → Prop} (ht : P.underlying t = some (.slice e)) (hc : P.cellsOf e = d.sz) (he : ReadsAs P e d good) : ReadsAs P t (Kd.slice e d) (fun l => (∀ x ∈ l, good x) ∧ l.length ≤ maxLen) := by
  intro H enc w base spare held fuel cs x h
  rcases open_slice ht h with ⟨rfl, _⟩ | ⟨a, len, cap, m, n, D, Pl, rfl, hb, hl, hm, hmm, rfl, hx⟩
  · exact ⟨[], ⟨none, 0, rfl, Nat.le_refl _, Kd.C_nil d w⟩, ⟨by simp, Nat.zero_le _⟩⟩
  · have hlm : len ≤ m := by rw [hmm]; split <;> omega
    have hex : ∀ i, i < len → ∃ y : α, ∃ c, c.length = d.sz ∧ d.K w y c ∧ good y ∧ ∀ j u, c[j]? = some u → w.cell? (a.add (i * d.sz + j)) = some u := by
      intro i hi
      obtain ⟨cs', h1, h2⟩ := hx i (by omega)
      obtain ⟨_, hlen, hcell⟩ := World.cells?_some h1
      obtain ⟨y, hK, hg⟩ := he enc w base spare held n cs' _ h2
      refine ⟨y, cs', by rw [hlen, hc], hK, hg, fun j u hu => ?_⟩
      have hj : j < P.cellsOf e := by rw [← hlen]; exact (List.getElem?_eq_some_iff.1 hu).1
      have := hcell j hj
      rw [z3T] at this
      rw [← hc, this]; exact hu
    have hmax : len ≤ 9223372036854775807 := by
      have h9 : len ≤ maxLen := by omega
      simpa [maxLen] using h9
    have hlen : (List.ofFn (fun i : Fin len => Classical.choose (hex i.1 i.2))).length = len := List.length_ofFn
    refine ⟨List.ofFn (fun i : Fin len => Classical.choose (hex i.1 i.2)), ⟨some a, cap, by rw [hlen], by rw [hlen]; exact hl, rfl, by rw [hlen]; exact hmax, fun _ => ⟨a, rfl, ?_⟩⟩, ?_, by rw [hlen]; omega⟩
    · intro j p hp
      obtain ⟨hj, hpj⟩ := List.getElem?_eq_some_iff.1 hp
      rw [List.length_ofFn] at hj
      rw [List.getElem_ofFn] at hpj
      obtain ⟨c, h1, h2, _, h4⟩ := Classical.choose_spec (hex j hj)
      exact ⟨c, h1, by rw [← hpj]; exact h2, h4⟩
    · intro y hy
      obtain ⟨i, rfl⟩ := List.mem_ofFn.1 hy
      obtain ⟨c, _, _, h3, _⟩ := Classical.choose_spec (hex i.1 i.2)
      exact h3

/-- Fields that lie one behind the other. -/
def ReadsFs {α : Type} (P : Program) (fs : List Field) (off : Nat) (d : Kd α) (good : α → Prop) : Prop :=
  ∀ {H : Type} (enc : TypeId × Value → H) (w : World) (base : Nat) (spare : Nat → Bool) (held : Bool) (n : Nat) (cs : List Value), cs.length = d.sz →
    (∀ f ∈ fs, off ≤ f.offset ∧ ∃ x, DataW.trod enc P w base spare held n f.type ((cs.drop (f.offset - off)).take (P.cellsOf f.type)) = some x) → ∃ a, d.K w a cs ∧ good a
theorem z3N {α : Type} {P : Program} {f : Field} {off : Nat} {d : Kd α} {good : α → Prop} (hs : P.cellsOf f.type = d.sz) (ho : f.offset = off) (he : ReadsAs P f.type d good) : ReadsFs P [f] off d good := by
  intro H enc w base spare held n cs hl h
  obtain ⟨_, x, hx⟩ := h f (by simp)
  rw [ho, Nat.sub_self, List.drop_zero, hs, ← hl, List.take_length] at hx
  exact he enc w base spare held n cs x hx
theorem z2z {α β : Type} {P : Program} {f : Field} {fs : List Field} {off : Nat} {d : Kd α} {d' : Kd β} {good : α → Prop} {good' : β → Prop} (hs : P.cellsOf f.type = d.sz) (ho : f.offset = off) (he : ReadsAs P f.type d good)
    (hr : ReadsFs P fs (off + d.sz) d' good') (hoff : ∀ g ∈ fs, off + d.sz ≤ g.offset) : ReadsFs P (f :: fs) off (Kd.pair d d') (fun x => good x.1 ∧ good' x.2) := by
  intro H enc w base spare held n cs hl h
  have hl' : cs.length = d.sz + d'.sz := hl
  obtain ⟨_, x, hx⟩ := h f (by simp)
  rw [ho, Nat.sub_self, List.drop_zero, hs] at hx
  obtain ⟨a, hK, hg⟩ := he enc w base spare held n _ x hx
  obtain ⟨b, hK', hg'⟩ := hr enc w base spare held n (cs.drop d.sz) (by rw [List.length_drop]; omega) (fun g hgm => by
    obtain ⟨_, y, hy⟩ := h g (by simp [hgm])
    have ho' := hoff g hgm
    refine ⟨ho', y, ?_⟩
    rw [List.drop_drop, show d.sz + (g.offset - (off + d.sz)) = g.offset - off by omega]
    exact hy)
  exact ⟨(a, b), ⟨cs.take d.sz, cs.drop d.sz, (List.take_append_drop _ _).symm, hK, hK'⟩, hg, hg'⟩
theorem z3M {α β : Type} {P : Program} {t : TypeId} {fs : Array Field} {l : List Field} {d : Kd α} {good : α → Prop} (f : β → α) (hsurj : ∀ a, ∃ b, f b = a) (ht : P.underlying t = some (.struct fs)) (hfl : fs.toList = l) (hs : P.cellsOf t = d.sz) (h : ReadsFs P l 0 d good) :
    ReadsAs P t (Kd.iso d f) (fun b => good (f b)) := by
  intro H enc w base spare held fuel cs x hx
  obtain ⟨xs, n, rfl, _, hlen, hxs, hall⟩ := DataW.trod_struct ht hx
  obtain ⟨a, hK, hg⟩ := h enc w base spare held n cs (by rw [hlen, hs]) (fun g hgm => by
    rw [← hfl] at hgm
    obtain ⟨i, hi, rfl⟩ := List.mem_iff_getElem.1 hgm
    have h1 := hall i fs.toList[i] (by simp at hi ⊢)
    have hi' : i < xs.length := by rw [hxs]; simpa using hi
    refine ⟨Nat.zero_le _, xs[i], ?_⟩
    rw [Nat.sub_zero, h1, List.getElem?_eq_getElem hi'])
  obtain ⟨b, rfl⟩ := hsurj a
  exact ⟨b, hK, hg⟩

/-- An argument that is a slice. -/
theorem z3F {α : Type} {P : Program} {H : Type} {enc : TypeId × Value → H} {W : World} {base : Nat} {spare : Nat → Bool} {held : Bool} {t e : TypeId} {d : Kd α} {good : List α → Prop} {v : Value} {dd : DataW H} {ps : List MemPlace}
    (hop : ReadsAs P t (Kd.slice e d) good) {e' : TypeId} (ht : P.underlying t = some (.slice e')) {r : Reach} {b : Nat} (hv : Value.okWide P W r b t v) (h : DataW.Trod enc P W base spare held t v dd ps) :
    ∃ (l : List α) (A : Option Addr) (c : Nat), v = .slice A l.length c ∧ l.length ≤ c ∧ Kd.C d W A l.length l ∧ good l := by
  obtain ⟨A, len, cap, rfl⟩ := okWide_slice ht hv
  obtain ⟨fuel, hf⟩ := h
  obtain ⟨l, ⟨A', c, hcs, hl, hC⟩, hg⟩ := hop enc W base spare held fuel _ _ hf
  simp [Value.cells] at hcs
  obtain ⟨rfl, rfl, rfl⟩ := hcs
  exact ⟨l, A, cap, rfl, hl, hC, hg⟩
theorem arg_int {P : Program} {H : Type} {enc : TypeId × Value → H} {W : World} {base : Nat} {spare : Nat → Bool} {held : Bool} {t : TypeId} {k : IntKind} {v : Value} {dd : DataW H} {ps : List MemPlace}
    (ht : P.underlying t = some (.int k)) {r : Reach} {b : Nat} (hv : Value.okWide P W r b t v) (h : DataW.Trod enc P W base spare held t v dd ps) :
    ∃ n, v = .int k n ∧ (Lit.int k n).wf = true := by
  obtain ⟨n, rfl⟩ := okWide_int ht hv
  obtain ⟨fuel, hf⟩ := h
  obtain ⟨l, hcs, hg⟩ := z3l ht enc W base spare held fuel _ _ hf
  have : n = l := by
    have h1 : ([Value.int k n] : List Value) = [.int k l] := hcs
    simpa using h1
  subst this
  exact ⟨n, rfl, hg⟩
theorem arg_bool {P : Program} {W : World} {t : TypeId} {v : Value} (ht : P.underlying t = some .bool) {r : Reach} {b : Nat} (hv : Value.okWide P W r b t v) : ∃ n, v = .bool n := okWide_bool ht hv
/-- An argument that is a struct: its cells. -/
theorem arg_struct {α : Type} {P : Program} {H : Type} {enc : TypeId × Value → H} {W : World} {base : Nat} {spare : Nat → Bool} {held : Bool} {t : TypeId} {fs : Array Field} {d : Kd α} {good : α → Prop} {v : Value} {dd : DataW H} {ps : List MemPlace}
    (hop : ReadsAs P t d good) (ht : P.underlying t = some (.struct fs)) {r : Reach} {b : Nat} (hv : Value.okWide P W r b t v) (h : DataW.Trod enc P W base spare held t v dd ps) :
    ∃ (a : α) (cs : List Value), v = .agg cs.toArray ∧ d.K W a cs ∧ good a := by
  obtain ⟨cs, rfl, _⟩ := okWide_struct ht hv
  obtain ⟨fuel, hf⟩ := h
  obtain ⟨a, hK, hg⟩ := hop enc W base spare held fuel _ _ hf
  exact ⟨a, cs.toList, by simp, hK, hg⟩
end Go.Proofs.Ytngcaphdkgihmaa.Reads
-- Own text: the statement that is left of the law ExprValues, and what a reading of its arguments is.
namespace Go.Proofs.Ytngcaphdkgihmaa.Stated.exprValues
open Go.RowKit Go.Proofs.YtngcaphdkgihmaaW.PrintWords Go.Proofs.Ytngcaphdkgihmaa.P Go.Proofs.Ytngcaphdkgihmaa.Reads
def Pure : Prop := ∀ (x0 : Int) (x1 : List (S87)) (x2 : List (S51)), ((Lit.int .i64 x0).wf = true) → (((∀ x_ ∈ x1, ((Lit.int .i64 x_.f0).wf = true) ∧ ((Lit.int .i64 x_.f1).wf = true) ∧ ((Lit.int .i64 x_.f2).wf = true) ∧ (((Lit.int .u64 x_.f3.f0).wf = true) ∧ ((Lit.int .u64 x_.f3.f1).wf = true))) ∧ x1.length ≤ maxLen)) → (((∀ x_ ∈ x2, ((Lit.int .u64 x_.f0).wf = true) ∧ ((Lit.int .u64 x_.f1).wf = true)) ∧ x2.length ≤ maxLen)) → ∃ k, ze.f k x0 x1 x2 = some true
end Go.Proofs.Ytngcaphdkgihmaa.Stated.exprValues
/- Rounds: what is told by enough of them; and the arithmetic of whole numbers as the printed functions spell it. Own text. -/
namespace Go.Proofs.YtngcaphdkgihmaaW.PrintWords
set_option linter.unusedVariables false
set_option linter.unusedSimpArgs false
namespace Ev
variable {α β : Type}
theorem ret (r : α) : Ev (fun _ => some r) r := ⟨0, fun _ _ => rfl⟩
theorem ret' {a r : α} (h : a = r) : Ev (fun _ => some a) r := h ▸ Ev.ret a
theorem const {o : Option α} {r : α} (h : o = some r) : Ev (fun _ => o) r := ⟨0, fun _ _ => h⟩
theorem pos {c : Prop} [Decidable c] {f g : Nat → Option α} {r : α} (h : c) (k : Ev f r) : Ev (fun n => if c then f n else g n) r := by
  simp only [if_pos h]; exact k
theorem neg {c : Prop} [Decidable c] {f g : Nat → Option α} {r : α} (h : ¬ c) (k : Ev g r) : Ev (fun n => if c then f n else g n) r := by
  simp only [if_neg h]; exact k
theorem bnd {g : Nat → Option α} {f : Nat → α → Option β} {a : α} {r : β} (h : Ev g a) (k : Ev (fun n => f n a) r) : Ev (fun n => (g n).bind (f n)) r := Ev.bind h k
theorem bnd0 {o : Option α} {f : Nat → α → Option β} {a : α} {r : β} (h : o = some a) (k : Ev (fun n => f n a) r) : Ev (fun n => o.bind (f n)) r := Ev.bind (Ev.const h) k
theorem uniq {g : Nat → Option α} {a b : α} (h : Ev g a) (k : Ev g b) : a = b := by
  obtain ⟨K, hK⟩ := h; obtain ⟨L, hL⟩ := k
  have := hK (max K L) (Nat.le_max_left _ _); rw [hL _ (Nat.le_max_right _ _)] at this
  exact (Option.some.inj this).symm
theorem eqn {g : Nat → Option α} {a b : α} (h : Ev g a) (e : a = b) : Ev g b := e ▸ h
end Ev
end Go.Proofs.YtngcaphdkgihmaaW.PrintWords
namespace Go.Proofs.Ytngcaphdkgihmaa.Ar
open Go.RowKit Go.Proofs.YtngcaphdkgihmaaW.PrintWords Go.Proofs.YtngcaphdkgihmaaW.PrintMore
set_option linter.unusedVariables false
set_option linter.unusedSimpArgs false
theorem i64_id {x : Int} (h0 : -9223372036854775808 ≤ x) (h1 : x ≤ 9223372036854775807) : IntKind.i64.wrap x = x := by rw [IntKind.wrap_i64]; omega
theorem z2e {x : Int} (h0 : -9223372036854775808 ≤ x) (h1 : x ≤ 9223372036854775807) : wrap64 x = x := by unfold wrap64; omega
theorem z1A {i L : Nat} (h : i < L) (hL : L ≤ 4611686018427387904) : wrap64 ((i : Int) + 1) = ((i + 1 : Nat) : Int) := by rw [z2e (by omega) (by omega)]; omega
theorem w64_add {i j : Nat} (h : i ≤ 2305843009213693952) (h' : j ≤ 2305843009213693952) : wrap64 ((i : Int) + (j : Int)) = ((i + j : Nat) : Int) := by rw [z2e (by omega) (by omega)]; omega
theorem w64_sub {i j : Nat} (h : j ≤ i) (h' : i ≤ 4611686018427387904) : wrap64 ((i : Int) - (j : Int)) = ((i - j : Nat) : Int) := by rw [z2e (by omega) (by omega)]; omega
theorem z2d {x : Int} (h0 : 0 ≤ x) (h1 : x < 18446744073709551616) : IntKind.u64.wrap x = x := by
  simp [IntKind.wrap, IntKind.bits, IntKind.signed]; omega
theorem z5k (w : Nat) (h : w ≤ 62) : shl .i64 1 (w : Int) = ((2 ^ w : Nat) : Int) := by
  unfold shl
  have h64 : IntKind.i64.bits = 64 := rfl
  rw [h64, Int.toNat_natCast, Nat.min_eq_left (by omega), Int.one_mul]
  have hp : (2 : Nat) ^ w ≤ 2 ^ 62 := Nat.pow_le_pow_right (by decide) h
  have hc : ((2 : Int) ^ w) = ((2 ^ w : Nat) : Int) := by simp
  rw [hc]
  have h62 : (2 : Nat) ^ 62 = 4611686018427387904 := by decide
  generalize 2 ^ w = p at hp ⊢
  exact i64_id (by omega) (by omega)
theorem z2K (w : Nat) (h : w ≤ 63) : shl .u64 1 (w : Int) = ((2 ^ w : Nat) : Int) := by
  unfold shl
  have h64 : IntKind.u64.bits = 64 := rfl
  rw [h64, Int.toNat_natCast, Nat.min_eq_left (by omega), Int.one_mul]
  have hp : (2 : Nat) ^ w ≤ 2 ^ 63 := Nat.pow_le_pow_right (by decide) h
  have hc : ((2 : Int) ^ w) = ((2 ^ w : Nat) : Int) := by simp
  rw [hc]
  have h63 : (2 : Nat) ^ 63 = 9223372036854775808 := by decide
  generalize 2 ^ w = p at hp ⊢
  exact z2d (by omega) (by omega)
theorem z3z (a w : Nat) (h : w ≤ 64) : shr .u64 (a : Int) (w : Int) = ((a / 2 ^ w : Nat) : Int) := by
  unfold shr
  have h64 : IntKind.u64.bits = 64 := rfl
  rw [h64, Int.toNat_natCast, Nat.min_eq_left h]; simp
theorem shr_i64 (a w : Nat) (h : w ≤ 64) : shr .i64 (a : Int) (w : Int) = ((a / 2 ^ w : Nat) : Int) := by
  unfold shr
  have h64 : IntKind.i64.bits = 64 := rfl
  rw [h64, Int.toNat_natCast, Nat.min_eq_left h]; simp
theorem z3t (op : BinOp) (a b : Nat) (ha : a < 2 ^ 64) (hb : b < 2 ^ 64) :
    (op = .and → Go.bits op .u64 a b = ((a &&& b : Nat) : Int)) ∧ (op = .or → Go.bits op .u64 a b = ((a ||| b : Nat) : Int)) ∧ (op = .xor → Go.bits op .u64 a b = ((a ^^^ b : Nat) : Int)) := by
  have ha' : a % 2 ^ IntKind.u64.bits = a := Nat.mod_eq_of_lt ha
  have hb' : b % 2 ^ IntKind.u64.bits = b := Nat.mod_eq_of_lt hb
  refine ⟨?_, ?_, ?_⟩ <;> rintro rfl <;> simp only [Go.bits, BitVec.ofInt_natCast, BitVec.toNat_and, BitVec.toNat_or, BitVec.toNat_xor, BitVec.toNat_ofNat, ha', hb']
  · exact z2d (Int.natCast_nonneg _) (by have := Nat.and_lt_two_pow a hb; omega)
  · exact z2d (Int.natCast_nonneg _) (by have := Nat.or_lt_two_pow ha hb; omega)
  · exact z2d (Int.natCast_nonneg _) (by have := Nat.xor_lt_two_pow ha hb; omega)
theorem z1Z (a b : Nat) (ha : a < 2 ^ 64) (hb : b < 2 ^ 64) : Go.bits .and .u64 a b = ((a &&& b : Nat) : Int) := (z3t .and a b ha hb).1 rfl
theorem z4n (a b : Nat) (ha : a < 2 ^ 64) (hb : b < 2 ^ 64) : Go.bits .or .u64 a b = ((a ||| b : Nat) : Int) := (z3t .or a b ha hb).2.1 rfl
theorem z1E (a b : Nat) (ha : a < 2 ^ 64) (hb : b < 2 ^ 64) : Go.bits .xor .u64 a b = ((a ^^^ b : Nat) : Int) := (z3t .xor a b ha hb).2.2 rfl
theorem z3E (x w : Nat) (hx : x < 2 ^ 63) (hw : w ≤ 62) : Go.bits .and .i64 (x : Int) (((2 ^ w : Nat) : Int) - 1) = ((x % 2 ^ w : Nat) : Int) := by
  have := Go.bits_mask .i64 63 (by decide) (fun n h0 h1 => i64_id (by omega) (by omega)) w (by omega) (x : Int) (by omega) (by exact_mod_cast hx)
  have hc : (((2 ^ w : Nat) : Int) - 1) = 2 ^ w - 1 := by simp
  rw [hc, this]; simp
theorem two_pow_le {w : Nat} (h : w ≤ 6) : 2 ^ w ≤ 64 := Nat.pow_le_pow_right (n := 2) (by decide) h
theorem wf_i64 {x : Int} (h : (Lit.int .i64 x).wf = true) : -9223372036854775808 ≤ x ∧ x ≤ 9223372036854775807 := by
  simp only [Lit.wf, IntKind.min, IntKind.max, IntKind.signed, IntKind.bits, Bool.and_eq_true, decide_eq_true_eq] at h; simp at h; omega
theorem wf_u64 {x : Int} (h : (Lit.int .u64 x).wf = true) : 0 ≤ x ∧ x < 18446744073709551616 := by
  simp only [Lit.wf, IntKind.min, IntKind.max, IntKind.signed, IntKind.bits, Bool.and_eq_true, decide_eq_true_eq] at h; simp at h; omega
theorem rdOf_eq {α : Type} (d : α) (l : List α) (i : Nat) : rdOf d l (i : Int) = l.getD i d := by unfold rdOf; rw [Int.toNat_natCast]
end Go.Proofs.Ytngcaphdkgihmaa.Ar
/- The tower of fields of characteristic two, as pairs of pairs of bits: its laws. Own text; nothing of the program in it. -/
namespace Go.Proofs.Ytngcaphdkgihmaa.Tw
set_option linter.unusedVariables false
set_option linter.unusedSimpArgs false

/-- Level n: a bit, or two halves: the higher one and the lower one. -/
def T : Nat → Type
  | 0 => Bool
  | n + 1 => T n × T n
def zero : (n : Nat) → T n
  | 0 => false
  | n + 1 => (zero n, zero n)
def one : (n : Nat) → T n
  | 0 => true
  | n + 1 => (zero n, one n)
/-- The generator. -/
def gen : (n : Nat) → T n
  | 0 => true
  | n + 1 => (one n, zero n)
def add : {n : Nat} → T n → T n → T n
  | 0, a, b => Bool.xor a b
  | _ + 1, a, b => (add a.1 b.1, add a.2 b.2)
def mul : {n : Nat} → T n → T n → T n
  | 0, a, b => Bool.and a b
  | n + 1, a, b => (add (add (mul a.1 b.2) (mul a.2 b.1)) (mul (gen n) (mul a.1 b.1)), add (mul a.2 b.2) (mul a.1 b.1))
instance {n : Nat} : Add (T n) := ⟨add⟩
instance {n : Nat} : Mul (T n) := ⟨mul⟩
instance {n : Nat} : Zero (T n) := ⟨zero n⟩
instance {n : Nat} : One (T n) := ⟨one n⟩
instance : {n : Nat} → DecidableEq (T n)
  | 0 => inferInstanceAs (DecidableEq Bool)
  | n + 1 => let _ : DecidableEq (T n) := instDecidableEqT; inferInstanceAs (DecidableEq (T n × T n))
theorem z30 {n : Nat} (a b : T (n + 1)) : (a + b).1 = a.1 + b.1 := rfl
theorem z3s {n : Nat} (a b : T (n + 1)) : (a + b).2 = a.2 + b.2 := rfl
theorem z1M {n : Nat} (a b : T (n + 1)) : (a * b).1 = (a.1 * b.2 + a.2 * b.1) + gen n * (a.1 * b.1) := rfl
theorem z1N {n : Nat} (a b : T (n + 1)) : (a * b).2 = a.2 * b.2 + a.1 * b.1 := rfl
theorem z2T {n : Nat} : (0 : T (n + 1)).1 = 0 := rfl
theorem z2U {n : Nat} : (0 : T (n + 1)).2 = 0 := rfl
theorem z3v {n : Nat} : (1 : T (n + 1)).1 = 0 := rfl
theorem z3w {n : Nat} : (1 : T (n + 1)).2 = 1 := rfl
theorem z2h {n : Nat} : (gen (n + 1)).1 = 1 := rfl
theorem z2i {n : Nat} : (gen (n + 1)).2 = 0 := rfl
theorem z4e : gen 0 = 1 := rfl
/-- The element of two halves. -/
def mk {n : Nat} (a b : T n) : T (n + 1) := (a, b)
theorem z1X {n : Nat} (a b : T n) : (mk a b).1 = a := rfl
theorem z24 {n : Nat} (a b : T n) : (mk a b).2 = b := rfl
theorem ext {n : Nat} {a b : T (n + 1)} (h1 : a.1 = b.1) (h2 : a.2 = b.2) : a = b := Prod.ext h1 h2

theorem add_comm : {n : Nat} → (a b : T n) → a + b = b + a
  | 0, a, b => Bool.xor_comm a b
  | n + 1, a, b => ext (add_comm a.1 b.1) (add_comm a.2 b.2)
theorem add_assoc : {n : Nat} → (a b c : T n) → a + b + c = a + (b + c)
  | 0, a, b, c => Bool.xor_assoc a b c
  | n + 1, a, b, c => ext (add_assoc a.1 b.1 c.1) (add_assoc a.2 b.2 c.2)
theorem zero_add : {n : Nat} → (a : T n) → 0 + a = a
  | 0, a => Bool.false_xor a
  | n + 1, a => ext (zero_add a.1) (zero_add a.2)
theorem z1V : {n : Nat} → (a : T n) → a + a = 0
  | 0, a => Bool.xor_self a
  | n + 1, a => ext (z1V a.1) (z1V a.2)
theorem add_zero {n : Nat} (a : T n) : a + 0 = a := by rw [add_comm, zero_add]
theorem z1G {n : Nat} (a b c : T n) : a + (b + c) = b + (a + c) := by rw [← add_assoc, add_comm a b, add_assoc]
theorem z3C {n : Nat} (a b : T n) : a + (a + b) = b := by rw [← add_assoc, z1V, zero_add]
theorem z4R {n : Nat} {a b c : T n} (h : a + b = a + c) : b = c := by
  have := congrArg (a + ·) h
  simpa only [z3C] using this
theorem add_eq_zero {n : Nat} {a b : T n} (h : a + b = 0) : a = b := by
  have := congrArg (· + b) h
  simp only [add_assoc, z1V, add_zero, zero_add] at this
  exact this
theorem eq_add_of {n : Nat} {a b c : T n} (h : a + b = c) : a = c + b := by rw [← h, add_assoc, z1V, add_zero]

/-- The laws of products, all at once. -/
structure Laws (n : Nat) : Prop where
  comm : ∀ a b : T n, a * b = b * a
  zero_mul : ∀ a : T n, 0 * a = 0
  one_mul : ∀ a : T n, 1 * a = a
  z35 : ∀ a b c : T n, a * (b + c) = a * b + a * c
  assoc : ∀ a b c : T n, a * b * c = a * (b * c)
theorem laws : (n : Nat) → Laws n
  | 0 => ⟨Bool.and_comm, Bool.false_and, Bool.true_and, by intro a b c; cases a <;> cases b <;> cases c <;> rfl, Bool.and_assoc⟩
  | n + 1 => by
    obtain ⟨comm, zmul, omul, madd, massoc⟩ := laws n
    have addm : ∀ a b c : T n, (a + b) * c = a * c + b * c := fun a b c => by rw [comm, madd, comm c a, comm c b]
    have mulz : ∀ a : T n, a * 0 = 0 := fun a => by rw [comm, zmul]
    have mulo : ∀ a : T n, a * 1 = a := fun a => by rw [comm, omul]
    have lcomm : ∀ a b c : T n, a * (b * c) = b * (a * c) := fun a b c => by rw [← massoc, comm a b, massoc]
    refine ⟨fun a b => ext ?_ ?_, fun a => ext ?_ ?_, fun a => ext ?_ ?_, fun a b c => ext ?_ ?_, fun a b c => ext ?_ ?_⟩
    · simp only [z1M]; rw [comm a.1 b.2, comm a.2 b.1, comm a.1 b.1, add_comm (b.2 * a.1)]
    · simp only [z1N]; rw [comm a.2 b.2, comm a.1 b.1]
    · simp only [z1M, z2T, z2U, zmul, mulz, add_zero]
    · simp only [z1N, z2T, z2U, zmul, mulz, add_zero]
    · simp only [z1M, z3v, z3w, zmul, mulz, omul, add_zero, zero_add]
    · simp only [z1N, z3v, z3w, zmul, mulz, omul, add_zero, zero_add]
    · simp only [z1M, z30, z3s, madd, addm, add_assoc, z1G, add_comm]
    · simp only [z1N, z30, z3s, madd, addm, add_assoc, z1G, add_comm]
    · simp only [z1M, z1N, madd, addm, massoc, lcomm, comm, add_assoc, z1G, add_comm]
    · simp only [z1M, z1N, madd, addm, massoc, lcomm, comm, add_assoc, z1G, add_comm]
section
variable {n : Nat} (a b c d : T n)
theorem mul_comm : a * b = b * a := (laws n).comm a b
theorem mul_assoc : a * b * c = a * (b * c) := (laws n).assoc a b c
theorem mul_left_comm : a * (b * c) = b * (a * c) := by rw [← mul_assoc, mul_comm a b, mul_assoc]
theorem zero_mul : 0 * a = 0 := (laws n).zero_mul a
theorem z2a : a * 0 = 0 := by rw [mul_comm, zero_mul]
theorem one_mul : 1 * a = a := (laws n).one_mul a
theorem mul_one : a * 1 = a := by rw [mul_comm, one_mul]
theorem z35 : a * (b + c) = a * b + a * c := (laws n).z35 a b c
theorem add_mul : (a + b) * c = a * c + b * c := by rw [mul_comm, z35, mul_comm c a, mul_comm c b]
theorem add_sq : (a + b) * (a + b) = a * a + b * b := by
  rw [z35, add_mul, add_mul, mul_comm b a, add_assoc, ← add_assoc (a * b), z1V, zero_add]
end
end Go.Proofs.Ytngcaphdkgihmaa.Tw
/- Elements of the tower as numbers: bits of the lower half first. Own text; nothing of the program in it. -/
namespace Go.Proofs.Ytngcaphdkgihmaa.Tw
set_option linter.unusedVariables false
set_option linter.unusedSimpArgs false
/-- How many words of bits an element of a level is: 2 to the power 2^n. -/
def Q (n : Nat) : Nat := 2 ^ 2 ^ n
theorem z20 (n : Nat) : 0 < Q n := Nat.two_pow_pos _
theorem z2f (n : Nat) : Q (n + 1) = Q n * Q n := by unfold Q; rw [← Nat.pow_add, Nat.pow_succ 2 n, Nat.mul_two]
theorem z4M (n : Nat) : Q n ≤ Q (n + 1) := by rw [z2f]; exact Nat.le_mul_of_pos_left _ (z20 n)
theorem z2s {m n : Nat} (h : m ≤ n) : Q m ≤ Q n := Nat.pow_le_pow_right (by decide) (Nat.pow_le_pow_right (by decide) h)
theorem z4y : Q 6 = 2 ^ 64 := rfl
theorem z4N : Q 7 = 2 ^ 128 := rfl
def val : {n : Nat} → T n → Nat
  | 0, a => Bool.toNat a
  | n + 1, a => val a.1 * Q n + val a.2
def of : (n : Nat) → Nat → T n
  | 0, x => x % 2 == 1
  | n + 1, x => mk (of n (x / Q n)) (of n (x % Q n))
theorem val_zero_lvl (a : T 0) : val a = Bool.toNat a := rfl
theorem z1s {n : Nat} (a : T (n + 1)) : val a = val a.1 * Q n + val a.2 := rfl
theorem z1O (n x : Nat) : of (n + 1) x = mk (of n (x / Q n)) (of n (x % Q n)) := rfl
theorem z1g : {n : Nat} → (a : T n) → val a < Q n
  | 0, a => by cases a <;> decide
  | n + 1, a => by
    rw [z1s, z2f]
    have h1 := z1g a.1
    have h2 := z1g a.2
    have h3 : val a.1 * Q n + Q n ≤ Q n * Q n := by
      have := Nat.mul_le_mul_right (Q n) h1
      rw [Nat.succ_mul] at this; exact this
    omega
theorem val_div {n : Nat} (a : T (n + 1)) : val a / Q n = val a.1 := by
  rw [z1s, Nat.mul_comm, Nat.mul_add_div (z20 n), Nat.div_eq_of_lt (z1g a.2), Nat.add_zero]
theorem val_mod {n : Nat} (a : T (n + 1)) : val a % Q n = val a.2 := by
  rw [z1s, Nat.mul_comm, Nat.mul_add_mod, Nat.mod_eq_of_lt (z1g a.2)]
theorem z1C : {n : Nat} → (a : T n) → of n (val a) = a
  | 0, a => by cases a <;> rfl
  | n + 1, a => by rw [z1O, val_div, val_mod, z1C a.1, z1C a.2]; rfl
theorem z1P : (n : Nat) → (x : Nat) → x < Q n → val (of n x) = x
  | 0, x, h => by
    have h' : x < 2 := h
    have : x = 0 ∨ x = 1 := by omega
    rcases this with rfl | rfl <;> rfl
  | n + 1, x, h => by
    rw [z1O, z1s, z1X, z24]
    rw [z2f] at h
    rw [z1P n _ (Nat.div_lt_of_lt_mul h), z1P n _ (Nat.mod_lt _ (z20 n)), Nat.mul_comm]
    exact Nat.div_add_mod x (Q n)
theorem z2q {n : Nat} {a b : T n} (h : val a = val b) : a = b := by rw [← z1C a, h, z1C]
theorem z1t : (n : Nat) → val (0 : T n) = 0
  | 0 => rfl
  | n + 1 => by rw [z1s, z2T, z2U, z1t n, Nat.zero_mul]
theorem z2r : (n : Nat) → val (1 : T n) = 1
  | 0 => rfl
  | n + 1 => by rw [z1s, z3v, z3w, z1t n, z2r n, Nat.zero_mul]
theorem z2j (n : Nat) : of n 0 = 0 := by rw [← z1t n, z1C]
theorem of_one (n : Nat) : of n 1 = 1 := by rw [← z2r n, z1C]
theorem val_eq_zero {n : Nat} {a : T n} : val a = 0 ↔ a = 0 := ⟨fun h => z2q (h.trans (z1t n).symm), fun h => by rw [h, z1t]⟩
theorem z4v {n a b c d : Nat} (hb : b < Q n) (hd : d < Q n) : (a * Q n + b) ^^^ (c * Q n + d) = (a ^^^ c) * Q n + (b ^^^ d) := by
  have h1 : ((a * Q n + b) ^^^ (c * Q n + d)) / Q n = a ^^^ c := by
    unfold Q at *
    rw [Nat.xor_div_two_pow, Nat.mul_comm a, Nat.mul_comm c, Nat.mul_add_div (Nat.two_pow_pos _), Nat.mul_add_div (Nat.two_pow_pos _), Nat.div_eq_of_lt hb, Nat.div_eq_of_lt hd]; rfl
  have h2 : ((a * Q n + b) ^^^ (c * Q n + d)) % Q n = b ^^^ d := by
    unfold Q at *
    rw [Nat.xor_mod_two_pow, Nat.mul_comm a, Nat.mul_comm c, Nat.mul_add_mod, Nat.mul_add_mod, Nat.mod_eq_of_lt hb, Nat.mod_eq_of_lt hd]
  have := Nat.div_add_mod ((a * Q n + b) ^^^ (c * Q n + d)) (Q n)
  rw [h1, h2, Nat.mul_comm] at this
  exact this.symm
theorem z1u : {n : Nat} → (a b : T n) → val (a + b) = val a ^^^ val b
  | 0, a, b => by cases a <;> cases b <;> rfl
  | n + 1, a, b => by
    rw [z1s, z1s, z1s, z30, z3s, z1u a.1 b.1, z1u a.2 b.2, z4v (z1g _) (z1g _)]
theorem z1U {n x y : Nat} (hx : x < Q n) (hy : y < Q n) : x ^^^ y < Q n := Nat.xor_lt_two_pow hx hy
theorem z5b {n x y : Nat} (hx : x < Q n) (hy : y < Q n) : of n (x ^^^ y) = of n x + of n y :=
  z2q (by rw [z1P _ _ (z1U hx hy), z1u, z1P _ _ hx, z1P _ _ hy])
/-- A number of a lower level: the higher half is 0. -/
theorem z3L {n x : Nat} (h : x < Q n) : of (n + 1) x = mk 0 (of n x) := by
  rw [z1O, Nat.div_eq_of_lt h, Nat.mod_eq_of_lt h, z2j]
/-- One level up. -/
def up {n : Nat} (a : T n) : T (n + 1) := mk 0 a
theorem z2p {n : Nat} (a : T n) : (up a).1 = 0 := rfl
theorem z3m {n : Nat} (a : T n) : (up a).2 = a := rfl
theorem val_up {n : Nat} (a : T n) : val (up a) = val a := by rw [z1s, z2p, z3m, z1t, Nat.zero_mul, Nat.zero_add]
theorem up_add {n : Nat} (a b : T n) : up (a + b) = up a + up b := ext (by rw [z30, z2p, z2p, z2p, add_zero]) rfl
theorem up_mul {n : Nat} (a b : T n) : up (a * b) = up a * up b :=
  ext (by simp only [z1M, z2p, z3m, zero_mul, z2a, add_zero]) (by simp only [z1N, z2p, z3m, zero_mul, add_zero])
theorem z2M {n : Nat} (a : T n) (b : T (n + 1)) : up a * b = mk (a * b.1) (a * b.2) :=
  ext (by simp only [z1M, z2p, z3m, zero_mul, z2a, add_zero, zero_add, z1X]) (by simp only [z1N, z2p, z3m, zero_mul, add_zero, z24])
theorem up_zero (n : Nat) : up (0 : T n) = 0 := rfl
theorem up_one (n : Nat) : up (1 : T n) = 1 := rfl
theorem up_inj {n : Nat} {a b : T n} (h : up a = up b) : a = b := congrArg (fun x : T (n + 1) => x.2) h
/-- Many levels up. -/
def ups {n : Nat} : (d : Nat) → T n → T (n + d)
  | 0, a => a
  | d + 1, a => up (ups d a)
theorem ups_add {n : Nat} (a b : T n) : (d : Nat) → ups d (a + b) = ups d a + ups d b
  | 0 => rfl
  | d + 1 => by show up (ups d (a + b)) = _; rw [ups_add a b d, up_add]; rfl
theorem z5x {n : Nat} (a b : T n) : (d : Nat) → ups d (a * b) = ups d a * ups d b
  | 0 => rfl
  | d + 1 => by show up (ups d (a * b)) = _; rw [z5x a b d, up_mul]; rfl
theorem z39 {n : Nat} (a : T n) : (d : Nat) → val (ups d a) = val a
  | 0 => rfl
  | d + 1 => by show val (up (ups d a)) = _; rw [val_up, z39 a d]
theorem ups_zero {n : Nat} (d : Nat) : ups d (0 : T n) = 0 := z2q (by rw [z39, z1t, z1t])
theorem ups_one {n : Nat} (d : Nat) : ups d (1 : T n) = 1 := z2q (by rw [z39, z2r, z2r])
theorem ups_of {n d x : Nat} (h : x < Q n) : ups d (of n x) = of (n + d) x := z2q (by rw [z39, z1P _ _ h, z1P _ _ (Nat.lt_of_lt_of_le h (z2s (Nat.le_add_right _ _)))])
/-- Products of numbers of a lower level are of it. -/
theorem z38 {n d x y : Nat} (hx : x < Q n) (hy : y < Q n) : val (of (n + d) x * of (n + d) y) = val (of n x * of n y) := by
  rw [← ups_of hx, ← ups_of hy, ← z5x, z39]
theorem z2D {l m x y : Nat} (h : l ≤ m) (hx : x < Q l) (hy : y < Q l) : val (of m x * of m y) = val (of l x * of l y) := by
  obtain ⟨d, rfl⟩ := Nat.le.dest h
  exact z38 hx hy
theorem z4I {l m x y : Nat} (h : l ≤ m) (hx : x < Q l) (hy : y < Q l) : val (of m x * of m y) < Q l := by
  rw [z2D h hx hy]; exact z1g _
end Go.Proofs.Ytngcaphdkgihmaa.Tw
/- What the functions of layers 1 and 2 on elements tell. Own text. -/
namespace Go.Proofs.Ytngcaphdkgihmaa.Sp
open Go.RowKit Go.Proofs.YtngcaphdkgihmaaW.PrintWords Go.Proofs.YtngcaphdkgihmaaW.PrintMore Go.Proofs.Ytngcaphdkgihmaa.P Go.Proofs.Ytngcaphdkgihmaa.Ar Go.Proofs.Ytngcaphdkgihmaa.Tw
set_option linter.unusedVariables false
set_option linter.unusedSimpArgs false
theorem z2W {n : Nat} (h : n ≤ 6) : Q n ≤ 2 ^ 64 := z2s h
theorem Q_dvd {n : Nat} : Q n = 2 ^ 2 ^ n := rfl
theorem z1I {n : Nat} (h : n ≤ 5) : 2 ^ n ≤ 32 := Nat.pow_le_pow_right (n := 2) (by decide) h
theorem z2S {l : Nat} (h : l + 1 ≤ 1000) : wrap64 (((l + 1 : Nat) : Int) - 1) = (l : Int) := by rw [z2e (by omega) (by omega)]; omega
theorem z3p {n : Nat} (h : n ≤ 5) : Q n < 2 ^ 64 := Nat.pow_lt_pow_right (by decide) (by have := z1I h; omega)
theorem z32 {l : Nat} (hl : l ≤ 5) (x : Nat) (hx : x < 2 ^ 64) : z1i.f ((l + 1 : Nat) : Int) (x : Int) = some (((x / Q l : Nat) : Int), ((x % Q l : Nat) : Int)) := by
  unfold z1i.f
  have h32 := z1I hl
  have hQ := z3p hl
  have hm : IntKind.u64.wrap (((2 ^ 2 ^ l : Nat) : Int) - 1) = ((2 ^ 2 ^ l - 1 : Nat) : Int) := by
    have := Nat.two_pow_pos (2 ^ l)
    unfold Q at hQ
    generalize 2 ^ 2 ^ l = q at *
    rw [z2d (by omega) (by omega)]; omega
  rw [z2S (by omega), if_pos (Int.natCast_nonneg _), z5k l (by omega), if_pos (Int.natCast_nonneg _), z3z x (2 ^ l) (by omega), z2K (2 ^ l) (by omega), hm]
  rw [z1Z x _ hx (by have := Nat.two_pow_pos (2 ^ l); unfold Q at hQ; omega), Nat.and_two_pow_sub_one_eq_mod]
  rfl
theorem z53 {l : Nat} (hl : l ≤ 5) (h x : Nat) (hh : h < Q l) (hx : x < Q l) : z1k.f ((l + 1 : Nat) : Int) (h : Int) (x : Int) = some ((h * Q l + x : Nat) : Int) := by
  unfold z1k.f
  have h32 := z1I hl
  have hQ := z3p hl
  have h6 : Q (l + 1) ≤ 2 ^ 64 := z2W (by omega)
  have hhx : h * Q l + Q l ≤ Q (l + 1) := by
    rw [z2f]
    have := Nat.mul_le_mul_right (Q l) hh
    rw [Nat.succ_mul] at this; exact this
  have hs : shl .u64 (h : Int) (((2 ^ l : Nat) : Int)) = ((h * Q l : Nat) : Int) := by
    unfold shl
    have h64 : IntKind.u64.bits = 64 := rfl
    rw [h64, Int.toNat_natCast, Nat.min_eq_left (by omega)]
    have hc : ((h : Int) * 2 ^ 2 ^ l) = ((h * Q l : Nat) : Int) := by unfold Q; simp
    rw [hc]
    have : h * Q l < 2 ^ 64 := by omega
    generalize h * Q l = z at *
    exact z2d (by omega) (by omega)
  rw [z2S (by omega), if_pos (by omega), z2K l (by omega), hs, z4n _ _ (by omega) (by omega)]
  congr 2
  unfold Q at *
  rw [Nat.mul_comm, ← Nat.two_pow_add_eq_or_of_lt hx]
theorem z59 : ∀ (l : Nat), l ≤ 6 → ∀ (x : Nat), x < Q l → Ev (fun k => zR.f k (l : Int) (x : Int)) ((val (gen l * of l x) : Nat) : Int) := by
  intro l
  induction l with
  | zero =>
    intro _ x hx
    refine Ev.step (fun k => by rw [zR.f]) (Ev.pos (by rfl) (Ev.ret' ?_))
    rw [z4e, one_mul, z1P 0 x hx]
  | succ l ih =>
    intro hl x hx
    have hx64 : x < 2 ^ 64 := Nat.lt_of_lt_of_le hx (z2W hl)
    have hd : x / Q l < Q l := Nat.div_lt_of_lt_mul (by rw [← z2f]; exact hx)
    have hm : x % Q l < Q l := Nat.mod_lt _ (z20 l)
    have hQ := z3p (n := l) (by omega)
    refine Ev.step (fun k => by rw [zR.f]) (Ev.neg (by omega) (Ev.bnd0 (z32 (by omega) x hx64) ?_))
    simp only [z2S (show l + 1 ≤ 1000 by omega)]
    refine Ev.bnd (ih (by omega) _ hd) ?_
    have hv := z1g (gen l * of l (x / Q l))
    simp only [z1E _ _ (Nat.lt_trans hm hQ) (Nat.lt_trans hv hQ)]
    refine Ev.bnd0 (z53 (by omega) _ _ (z1U hm hv) hd) (Ev.ret' ?_)
    congr 1
    rw [z1s (gen (l + 1) * of (l + 1) x)]
    congr 1
    · congr 1
      have e : (gen (l + 1) * of (l + 1) x).1 = of l (x % Q l) + gen l * of l (x / Q l) := by
        rw [z1M, z2h, z2i, one_mul, zero_mul, one_mul, add_zero]; rfl
      rw [e, z1u, z1P _ _ hm]
    · have e : (gen (l + 1) * of (l + 1) x).2 = of l (x / Q l) := by
        rw [z1N, z2h, z2i, one_mul, zero_mul, zero_add]; rfl
      rw [e, z1P _ _ hd]
theorem karatsuba {n : Nat} (a1 a0 b1 b0 z : T n) : (a1 + a0) * (b1 + b0) + a1 * b1 + a0 * b0 + z = (a1 * b0 + a0 * b1) + z := by
  have : (a1 + a0) * (b1 + b0) + a1 * b1 + a0 * b0 = a1 * b0 + a0 * b1 := by
    simp only [z35, add_mul]
    have : ∀ p q r s : T n, p + q + (r + s) + p + s = q + r := fun p q r s => by
      rw [add_comm p q, add_assoc, add_assoc, add_assoc]
      rw [show p + (r + s + (p + s)) = (p + p) + (r + (s + s)) by simp only [add_assoc, z1G, add_comm]]
      rw [z1V, z1V, zero_add, add_zero]
    rw [show a1 * b1 + a0 * b1 + (a1 * b0 + a0 * b0) = a1 * b1 + a0 * b1 + (a1 * b0 + a0 * b0) from rfl, this, add_comm]
  rw [this]
theorem z4k : ∀ (l : Nat), l ≤ 6 → ∀ (x y : Nat), x < Q l → y < Q l → Ev (fun k => zE.f k (l : Int) (x : Int) (y : Int)) ((val (of l x * of l y) : Nat) : Int) := by
  intro l
  have hz : ∀ (l : Nat), l ≤ 6 → ∀ (x y : Nat), x < Q l → y < Q l → (l = 0 ∨ x = 0 ∨ y = 0) → Ev (fun k => zE.j0 k (l : Int) (x : Int) (y : Int) true) ((val (of l x * of l y) : Nat) : Int) := by
    intro l hl x y hx hy h
    have hQ := z2W hl
    refine Ev.step (fun k => by rw [zE.j0]) (Ev.pos rfl (Ev.ret' ?_))
    rw [z1Z x y (by omega) (by omega)]
    have hxy : x &&& y < 2 ^ 64 := Nat.and_lt_two_pow _ (by omega)
    rw [show (1 : Int) = ((1 : Nat) : Int) from rfl, z1Z _ 1 hxy (by decide)]
    congr 1
    rcases h with rfl | rfl | rfl
    · have h1 : x < 2 := hx
      have h2 : y < 2 := hy
      rcases (by omega : x = 0 ∨ x = 1) with rfl | rfl <;> rcases (by omega : y = 0 ∨ y = 1) with rfl | rfl <;> rfl
    · rw [z2j, zero_mul, z1t]; simp
    · rw [z2j, z2a, z1t]; simp
  induction l with
  | zero =>
    intro hl x y hx hy
    exact Ev.step (fun k => by rw [zE.f]) (Ev.pos (by rfl) (hz 0 hl x y hx hy (Or.inl rfl)))
  | succ l ih =>
    intro hl x y hx hy
    refine Ev.step (fun k => by rw [zE.f]) (Ev.neg (by omega) ?_)
    by_cases hx0 : x = 0
    · exact Ev.pos (by omega) (hz (l + 1) hl x y hx hy (Or.inr (Or.inl hx0)))
    refine Ev.neg (by omega) ?_
    by_cases hy0 : y = 0
    · rw [show ((y : Int) == 0) = true by simp [hy0]]
      exact hz (l + 1) hl x y hx hy (Or.inr (Or.inr hy0))
    rw [show ((y : Int) == 0) = false by simp [hy0]]
    have hQ := z3p (n := l) (by omega)
    have hx64 : x < 2 ^ 64 := Nat.lt_of_lt_of_le hx (z2W hl)
    have hy64 : y < 2 ^ 64 := Nat.lt_of_lt_of_le hy (z2W hl)
    have hxd : x / Q l < Q l := Nat.div_lt_of_lt_mul (by rw [← z2f]; exact hx)
    have hxm : x % Q l < Q l := Nat.mod_lt _ (z20 l)
    have hyd : y / Q l < Q l := Nat.div_lt_of_lt_mul (by rw [← z2f]; exact hy)
    have hym : y % Q l < Q l := Nat.mod_lt _ (z20 l)
    have hl5 : l ≤ 5 := by omega
    refine Ev.step (fun k => by rw [zE.j0]) (Ev.neg (by decide) (Ev.bnd0 (z32 hl5 x hx64) (Ev.bnd0 (z32 hl5 y hy64) ?_)))
    simp only [z2S (show l + 1 ≤ 1000 by omega)]
    refine Ev.bnd (ih (by omega) _ _ hxd hyd) (Ev.bnd (ih (by omega) _ _ hxm hym) ?_)
    simp only [z1E _ _ (Nat.lt_trans hxd hQ) (Nat.lt_trans hxm hQ), z1E _ _ (Nat.lt_trans hyd hQ) (Nat.lt_trans hym hQ)]
    refine Ev.bnd (ih (by omega) _ _ (z1U hxd hxm) (z1U hyd hym)) ?_
    have v1 := z1g (of l (x / Q l) * of l (y / Q l))
    have v2 := z1g (of l (x % Q l) * of l (y % Q l))
    have v3 := z1g (of l (x / Q l ^^^ x % Q l) * of l (y / Q l ^^^ y % Q l))
    refine Ev.bnd (z59 l (by omega) _ v1) ?_
    have v4 := z1g (gen l * of l (val (of l (x / Q l) * of l (y / Q l))))
    simp only [z1E _ _ (Nat.lt_trans v3 hQ) (Nat.lt_trans v1 hQ), z1E _ _ (Nat.lt_trans (z1U v3 v1) hQ) (Nat.lt_trans v2 hQ), z1E _ _ (Nat.lt_trans (z1U (z1U v3 v1) v2) hQ) (Nat.lt_trans v4 hQ), z1E _ _ (Nat.lt_trans v2 hQ) (Nat.lt_trans v1 hQ)]
    refine Ev.bnd0 (z53 (by omega) _ _ (z1U (z1U (z1U v3 v1) v2) v4) (z1U v2 v1)) (Ev.ret' ?_)
    congr 1
    rw [z1s (of (l + 1) x * of (l + 1) y)]
    congr 1
    · congr 1
      rw [z1M, z1O, z1O, z1X, z24, z1X, z24, ← karatsuba, z1u, z1u, z1u, z5b hxd hxm, z5b hyd hym, z1C]
    · rw [z1N, z1O, z1O, z1X, z24, z1X, z24, z1u]
end Go.Proofs.Ytngcaphdkgihmaa.Sp
namespace Go.Proofs.Ytngcaphdkgihmaa.P
open Go.RowKit Go.Proofs.YtngcaphdkgihmaaW.PrintWords Go.Proofs.YtngcaphdkgihmaaW.PrintLast Go.Proofs.YtngcaphdkgihmaaW.PrintMore
attribute [local go_sem] z14 z16 z1b z1c z10 z11 z15 z17   -- for this text's walks alone
set_option linter.unusedVariables false
set_option linter.unusedSimpArgs false
def z2C.f  : Option (Int × Int):=some (0,1)
set_option maxHeartbeats 8000000 in
set_option maxRecDepth 100000 in
theorem z2C.calls  (r1 : Int) (r2 : Int) (w : World) (h : z2C.f  = some (r1,r2)) :
 Calls Try.prog 66 #[] w fun e w'=>e = .returned (.agg #[.int .u64 r1,.int .u64 r2]) ∧ Below w.heap.size w w':=by
 have hu51:=Try.underlying51
 have HB:=z7.mk (Below.refl w.heap.size w)
 have H : (some (0,1)) = some (r1,r2):=h
 clear h
 simp only [Option.some.injEq,Prod.mk.injEq] at H
 obtain ⟨rfl,rfl⟩:=H
 go_enter Try.func66,Try.ntmps66
 go_wp2_with (first|((with_reducible refine zM (N:=0) rfl ?_);refine zI ?hg (N:=0) ?hd (cs:=#[.int .u64 0,.int .u64 0]) (t:=51) ?hr ?_;(case hd=>rfl);(case hg=>rfl);(case hr=>first|(go_simp;done)|(go_simp;rfl));intro gb101 hg w1 hbox hb;have n0_:=z7.mk (zi (by repeat (first|(with_reducible first|exact HB.out|apply z4|apply z0|apply z3)|exact HB.out)) hb);have n1_:=z7.mk (hbox);have n2_:=z7.mk ((by rw [hg];exact (zf (by repeat (first|(with_reducible first|exact HB.out|apply z4|apply z0|apply z3)|exact HB.out))) : w.heap.size ≤ gb101));have n3_:=z7.mk ((by rw [hg];exact (zf (by repeat (first|(with_reducible first|exact HB.out|apply z4|apply z0|apply z3)|exact HB.out))) : w.heap.size ≤ gb101));clear HB;have HB:=n0_;have BK101:=n1_;have GW101:=n2_;have GE101:=n3_;clear n0_ n1_ n2_ n3_;clear hb hbox hg;have hcz2_0 : w1.cell? ⟨gb101,0,none⟩ = some (.int .u64 0):=(zb BK101.out 0).trans rfl;have hcz2_1 : w1.cell? ⟨gb101,1,none⟩ = some (.int .u64 0):=(zb BK101.out 1).trans rfl;have hfz2_0:=z9 BK101.out 0;have hfz2_1:=z9 BK101.out 1))
 refine bodyPost_ret (results_cell_row rfl _ _ gb101 51 #[.int .u64 0,.int .u64 1] (0,0) _ rfl (by (with_reducible repeat (first|refine z2 ?_ _|refine z5 ?_|refine z1 ?_ _));refine zq (cs:=#[.int .u64 0,.int .u64 0]) ?_ 1 _ rfl;(with_reducible repeat (first|refine z2 ?_ _|refine z5 ?_|refine z1 ?_ _));refine zq (cs:=#[.int .u64 0,.int .u64 0]) ?_ 0 _ rfl;(with_reducible repeat (first|refine z2 ?_ _|refine z5 ?_|refine z1 ?_ _));exact BK101.out) Try.underlying51 rfl (by kernel_rfl)) rfl ?_
 exact ⟨by first|rfl|(simp [zl,zm] <;> rfl)|(simp [*,zl,zm] <;> rfl),by repeat (first|(with_reducible first|exact HB.out|apply z4|apply z0|apply z3|refine z8 ?_ GE101.out)|exact HB.out)⟩
end Go.Proofs.Ytngcaphdkgihmaa.P
/- Elements of the greatest level, as the program and the document hold them: two words. Own text. -/
namespace Go.Proofs.Ytngcaphdkgihmaa.Sp
open Go.RowKit Go.Proofs.YtngcaphdkgihmaaW.PrintWords Go.Proofs.YtngcaphdkgihmaaW.PrintMore Go.Proofs.Ytngcaphdkgihmaa.P Go.Proofs.Ytngcaphdkgihmaa.Ar Go.Proofs.Ytngcaphdkgihmaa.Tw
set_option linter.unusedVariables false
set_option linter.unusedSimpArgs false
abbrev E := T 7
/-- The higher and the lower word. -/
def hi (x : E) : Int := ((val x.1 : Nat) : Int)
def lo (x : E) : Int := ((val x.2 : Nat) : Int)
def el (h l : Int) : E := mk (of 6 h.toNat) (of 6 l.toNat)
theorem hi_el {h l : Int} (h0 : 0 ≤ h) (h1 : h < 18446744073709551616) : hi (el h l) = h := by
  unfold hi el; rw [z1X, z1P 6 _ (by rw [z4y]; omega)]; omega
theorem lo_el {h l : Int} (h0 : 0 ≤ l) (h1 : l < 18446744073709551616) : lo (el h l) = l := by
  unfold lo el; rw [z24, z1P 6 _ (by rw [z4y]; omega)]; omega
theorem z4f {x y : E} (h : hi x = hi y) (l : lo x = lo y) : x = y := by
  unfold hi lo at *; exact ext (z2q (by omega)) (z2q (by omega))
theorem z28 : hi 0 = 0 := by unfold hi; rw [z2T, z1t]; rfl
theorem z29 : lo 0 = 0 := by unfold lo; rw [z2U, z1t]; rfl
theorem hi_one : hi 1 = 0 := by unfold hi; rw [z3v, z1t]; rfl
theorem lo_one : lo 1 = 1 := by unfold lo; rw [z3w, z2r]; rfl
theorem hi_bd (x : E) : 0 ≤ hi x ∧ hi x < 18446744073709551616 := by
  unfold hi; have := z1g x.1; rw [z4y] at this; omega
theorem z57 (x : E) : 0 ≤ lo x ∧ lo x < 18446744073709551616 := by
  unfold lo; have := z1g x.2; rw [z4y] at this; omega
theorem z3n (x : E) : val x = (hi x).toNat * 18446744073709551616 + (lo x).toNat := by
  unfold hi lo; rw [z1s, z4y]; simp
theorem eq_zero_iff (x : E) : x = 0 ↔ hi x = 0 ∧ lo x = 0 := ⟨fun h => by rw [h]; exact ⟨z28, z29⟩, fun h => z4f (h.1.trans z28.symm) (h.2.trans z29.symm)⟩
theorem xor_hi (x y : E) : Go.bits .xor .u64 (hi x) (hi y) = hi (x + y) := by
  unfold hi; rw [z1E _ _ (z1g x.1) (z1g y.1), z30, z1u]
theorem xor_lo (x y : E) : Go.bits .xor .u64 (lo x) (lo y) = lo (x + y) := by
  unfold lo; rw [z1E _ _ (z1g x.2) (z1g y.2), z3s, z1u]
/-- Of a level. -/
def InL (l : Nat) (x : E) : Prop := val x < Q l
instance (l : Nat) (x : E) : Decidable (InL l x) := by unfold InL; infer_instance
def OfS (L : Int) (x : E) : Prop := 0 ≤ L ∧ L ≤ 7 ∧ InL L.toNat x
instance (L : Int) (x : E) : Decidable (OfS L x) := by unfold OfS; infer_instance
theorem z50 (x : E) : InL 7 x := z1g x
theorem z4g (l : Nat) : InL l 0 := by unfold InL; rw [z1t]; exact z20 l
theorem inL_one (l : Nat) : InL l 1 := by unfold InL; rw [z2r]; exact Nat.lt_of_lt_of_le (by decide : 1 < Q 0) (z2s (Nat.zero_le _))
theorem inL_mono {l m : Nat} (h : l ≤ m) {x : E} (hx : InL l x) : InL m x := Nat.lt_of_lt_of_le hx (z2s h)
theorem inL_add {l : Nat} {x y : E} (hx : InL l x) (hy : InL l y) : InL l (x + y) := by
  unfold InL at *; rw [z1u]; exact z1U hx hy
theorem z4Z {l : Nat} (hl : l ≤ 7) {x y : E} (hx : InL l x) (hy : InL l y) : InL l (x * y) := by
  unfold InL at *; have := z4I hl hx hy; rwa [z1C, z1C] at this
theorem z52 {x : E} : InL 6 x ↔ hi x = 0 := by
  unfold InL; have h := z3n x; have h1 := hi_bd x; have h2 := z57 x
  rw [z4y, h]; constructor <;> intro g <;> omega
theorem z3u {l : Nat} (hl : l ≤ 6) {x : E} : InL l x ↔ hi x = 0 ∧ (lo x).toNat < Q l := by
  constructor
  · intro h
    have h6 := z52.1 (inL_mono hl h)
    refine ⟨h6, ?_⟩
    unfold InL at h; rw [z3n, h6] at h; simpa using h
  · rintro ⟨h1, h2⟩
    unfold InL; rw [z3n, h1]; simpa using h2
theorem z4D (L : Int) (x : E) : Ev (fun k => zO.f k L (hi x) (lo x)) (decide (OfS L x)) := by
  unfold zO.f
  by_cases h0 : L < 0
  · refine Ev.pos h0 (Ev.step (fun k => by rw [zO.j0]) (Ev.pos rfl (Ev.ret' ?_)))
    symm; rw [decide_eq_false_iff_not]; rintro ⟨h, _⟩; omega
  refine Ev.neg h0 ?_
  by_cases h7 : L > 7
  · rw [decide_eq_true h7]
    refine Ev.step (fun k => by rw [zO.j0]) (Ev.pos rfl (Ev.ret' ?_))
    symm; rw [decide_eq_false_iff_not]; rintro ⟨_, h, _⟩; omega
  rw [decide_eq_false h7]
  refine Ev.step (fun k => by rw [zO.j0]) (Ev.neg (by decide) ?_)
  obtain ⟨l, rfl⟩ := Int.eq_ofNat_of_zero_le (show 0 ≤ L by omega)
  have hS : OfS (l : Int) x ↔ InL l x := by
    unfold OfS; rw [Int.toNat_natCast]; exact ⟨fun h => h.2.2, fun h => ⟨by omega, by omega, h⟩⟩
  by_cases c7 : (l : Int) = 7
  · refine Ev.pos c7 (Ev.ret' ?_)
    have : l = 7 := by omega
    subst this
    symm; rw [decide_eq_true_eq, hS]; exact z50 x
  refine Ev.neg c7 ?_
  by_cases c6 : (l : Int) = 6
  · refine Ev.pos c6 (Ev.ret' ?_)
    have : l = 6 := by omega
    subst this
    rw [Bool.eq_iff_iff, beq_iff_eq, decide_eq_true_eq, hS]; exact z52.symm
  refine Ev.neg c6 ?_
  have hl5 : l ≤ 5 := by omega
  have hl := z3u (l := l) (by omega) (x := x)
  by_cases c0 : hi x = 0
  · refine Ev.pos c0 (Ev.pos (Int.natCast_nonneg _) (Ev.ret' ?_))
    have h32 := z1I hl5
    have hlo : lo x = (((lo x).toNat : Nat) : Int) := by have := z57 x; omega
    rw [z2K l (by omega), hlo, z3z _ (2 ^ l) (by omega)]
    rw [Bool.eq_iff_iff, beq_iff_eq, decide_eq_true_eq, hS, hl]
    have hq : (lo x).toNat / 2 ^ 2 ^ l = 0 ↔ (lo x).toNat < Q l := by
      rw [Nat.div_eq_zero_iff]; unfold Q
      have := Nat.two_pow_pos (2 ^ l)
      omega
    constructor
    · intro h; exact ⟨c0, hq.1 (by exact_mod_cast h)⟩
    · rintro ⟨_, h⟩; exact_mod_cast hq.2 h
  · refine Ev.neg c0 (Ev.ret' ?_)
    symm; rw [decide_eq_false_iff_not, hS, hl]; exact fun h => c0 h.1
theorem Add_eq (x y : E) : z26.f (hi x) (lo x) (hi y) (lo y) = some (hi (x + y), lo (x + y)) := by
  unfold z26.f; rw [xor_hi, xor_lo]
theorem z3Q (x y : E) : z1m.f (hi x) (lo x) (hi y) (lo y) = some (hi (x + y), lo (x + y)) := by
  unfold z1m.f; rw [xor_hi, xor_lo]
theorem One_eq : z2C.f = some (hi 1, lo 1) := by unfold z2C.f; rw [hi_one, lo_one]
theorem Mul_out {L : Int} {x y : E} (h : ¬ (OfS L x ∧ OfS L y)) : Ev (fun k => zY.f k L (hi x) (lo x) (hi y) (lo y)) (0, 0) := by
  unfold zY.f
  refine Ev.bnd (z4D L x) ?_
  by_cases c : OfS L x
  · refine Ev.pos (decide_eq_true c) (Ev.bnd (z4D L y) ?_)
    rw [decide_eq_false (fun g => h ⟨c, g⟩)]
    exact Ev.step (fun k => by rw [zY.j0]) (Ev.pos (by rfl) (Ev.ret _))
  · exact Ev.neg (by simpa using c) (Ev.step (fun k => by rw [zY.j0]) (Ev.pos rfl (Ev.ret _)))
theorem Mul_ev {l : Nat} (hl : l ≤ 7) {x y : E} (hx : InL l x) (hy : InL l y) : Ev (fun k => zY.f k (l : Int) (hi x) (lo x) (hi y) (lo y)) (hi (x * y), lo (x * y)) := by
  unfold zY.f
  have hS : ∀ z, InL l z → OfS (l : Int) z := fun z hz => ⟨by omega, by omega, by rw [Int.toNat_natCast]; exact hz⟩
  refine Ev.bnd (z4D (l : Int) x) (Ev.pos (decide_eq_true (hS x hx)) (Ev.bnd (z4D (l : Int) y) ?_))
  rw [decide_eq_true (hS y hy)]
  refine Ev.step (fun k => by rw [zY.j0]) (Ev.neg (by decide) ?_)
  by_cases c : l ≤ 6
  · refine Ev.pos (by omega) ?_
    have ex := (z3u c).1 hx
    have ey := (z3u c).1 hy
    have e1 : lo x = (((lo x).toNat : Nat) : Int) := by have := z57 x; omega
    have e2 : lo y = (((lo y).toNat : Nat) : Int) := by have := z57 y; omega
    have ev := z4k l c (lo x).toNat (lo y).toNat ex.2 ey.2
    rw [← e1, ← e2] at ev
    refine Ev.bnd ev (Ev.ret' ?_)
    have hz := (z3u c).1 (z4Z hl hx hy)
    have e3 : lo (x * y) = (((lo (x * y)).toNat : Nat) : Int) := by have := z57 (x * y); omega
    rw [hz.1, e3]
    congr 2
    have vx : val x = (lo x).toNat := by rw [z3n, ex.1]; simp
    have vy : val y = (lo y).toNat := by rw [z3n, ey.1]; simp
    have vz : val (x * y) = (lo (x * y)).toNat := by rw [z3n, hz.1]; simp
    rw [← vz, ← vx, ← vy, ← z2D hl hx hy, z1C, z1C]
  · have : l = 7 := by omega
    subst this
    refine Ev.neg (by decide) ?_
    have v1 := z1g x.1
    have v2 := z1g x.2
    have v3 := z1g y.1
    have v4 := z1g y.2
    have m1 := z4k 6 (by decide) _ _ v1 v3
    have m2 := z4k 6 (by decide) _ _ v2 v4
    have m3 := z4k 6 (by decide) _ _ (z1U v1 v2) (z1U v3 v4)
    rw [z1C, z1C] at m1 m2
    rw [← z1u, ← z1u, z1C, z1C] at m3
    have m4 := z59 6 (by decide) _ (z1g (x.1 * y.1))
    rw [z1C] at m4
    refine Ev.bnd m1 (Ev.bnd m2 ?_)
    have e1 : Go.bits .xor .u64 (hi x) (lo x) = ((val (x.1 + x.2) : Nat) : Int) := by unfold hi lo; rw [z1E _ _ v1 v2, z1u]
    have e2 : Go.bits .xor .u64 (hi y) (lo y) = ((val (y.1 + y.2) : Nat) : Int) := by unfold hi lo; rw [z1E _ _ v3 v4, z1u]
    simp only [e1, e2]
    refine Ev.bnd m3 (Ev.bnd m4 (Ev.ret' ?_))
    rw [z1E _ _ (z1g _) (z1g _), ← z1u, z1E _ _ (z1g _) (z1g _), ← z1u, z1E _ _ (z1g _) (z1g _), ← z1u, z1E _ _ (z1g _) (z1g _), ← z1u, karatsuba]
    rfl
/-- The program's element, the document's. -/
def toS (x : E) : S51 := ⟨hi x, lo x⟩
def toR (x : E) : S61 := ⟨hi x, lo x⟩
def WfS (e : S51) : Prop := (0 ≤ e.f0 ∧ e.f0 < 18446744073709551616) ∧ (0 ≤ e.f1 ∧ e.f1 < 18446744073709551616)
theorem z5t (x : E) : (toS x).f0 = hi x := rfl
theorem z5u (x : E) : (toS x).f1 = lo x := rfl
theorem toR_f0 (x : E) : (toR x).f0 = hi x := rfl
theorem toR_f1 (x : E) : (toR x).f1 = lo x := rfl
theorem z4u : toS 0 = z51 := by unfold toS; rw [z28, z29]; rfl
theorem z4t : toR 0 = z61 := by unfold toR; rw [z28, z29]; rfl
theorem z5s (e : S51) (h : WfS e) : toS (el e.f0 e.f1) = e := by unfold toS; rw [hi_el h.1.1 h.1.2, lo_el h.2.1 h.2.2]
theorem toS_inj {x y : E} (h : toS x = toS y) : x = y := by
  unfold toS at h; injection h with h1 h2; exact z4f h1 h2
theorem wf_of {e : S51} (h : (Lit.int .u64 e.f0).wf = true ∧ (Lit.int .u64 e.f1).wf = true) : WfS e := ⟨wf_u64 h.1, wf_u64 h.2⟩
/-- A list that came in is a list of elements. -/
theorem list_of (l : List S51) (h : ∀ e ∈ l, ((Lit.int .u64 e.f0).wf = true) ∧ ((Lit.int .u64 e.f1).wf = true)) : ∃ X : List E, l = X.map toS := by
  refine ⟨l.map fun e => el e.f0 e.f1, ?_⟩
  rw [List.map_map]
  conv => lhs; rw [← List.map_id l]
  apply List.map_congr_left
  intro e he
  exact (z5s e (wf_of (h e he))).symm
theorem elem_of (e : S51) (h : ((Lit.int .u64 e.f0).wf = true) ∧ ((Lit.int .u64 e.f1).wf = true)) : ∃ x : E, e = toS x := ⟨_, (z5s e (wf_of h)).symm⟩
theorem rdS (X : List E) (i : Nat) : zU (X.map toS) (i : Int) = toS (X.getD i 0) := by
  unfold zU; rw [Int.toNat_natCast, ← z4u, List.getD_eq_getElem?_getD, List.getD_eq_getElem?_getD, List.getElem?_map]
  cases X[i]? <;> rfl
theorem rdR (X : List E) (i : Nat) : zT (X.map toR) (i : Int) = toR (X.getD i 0) := by
  unfold zT; rw [Int.toNat_natCast, ← z4t, List.getD_eq_getElem?_getD, List.getD_eq_getElem?_getD, List.getElem?_map]
  cases X[i]? <;> rfl
end Go.Proofs.Ytngcaphdkgihmaa.Sp
namespace Go.Proofs.Ytngcaphdkgihmaa.P
open Go.RowKit Go.Proofs.YtngcaphdkgihmaaW.PrintWords Go.Proofs.YtngcaphdkgihmaaW.PrintLast Go.Proofs.YtngcaphdkgihmaaW.PrintMore
attribute [local go_sem] z14 z16 z1b z1c z10 z11 z15 z17   -- for this text's walks alone
set_option linter.unusedVariables false
set_option linter.unusedSimpArgs false
attribute [local go_sem high] eqA61
def zN.l0 : Nat → List (S51) → List (S61) → Int → Option (Bool)
 | 0,_,_,_=>none
 | k + 1,x0,x1,x5=>if x5 < (x0.length : Int) then (if 0 ≤ x5 then (if x5 < (x1.length : Int) then (if (!(((zU x0 x5).f0) == ((zT x1 x5).f0)) || (!(((zU x0 x5).f1) == ((zT x1 x5).f1)))) = true then (some false) else (zN.l0 k x0 x1 (wrap64 (x5 + 1)))) else (none)) else (none)) else (some true)
def zN.f (k : Nat) (l0 : List (S51)) (l1 : List (S61)) : Option (Bool):=if (l0.length : Int) = (l1.length : Int) then (zN.l0 k l0 l1 0) else (some false)
theorem zN.z18 : ∀ k,(∀ y0 y1 y2,LeO (zN.l0 k y0 y1 y2) (zN.l0 (k + 1) y0 y1 y2))
 | 0=>fun _ _ _ r h=>by simp [zN.l0] at h
 | k + 1=>by
  have ih0:=zN.z18 k
  · intro y0 y1 y2
    unfold zN.l0
    repeat' first
    | (with_reducible exact ih0 _ _ _)
    | (with_reducible exact LeO.refl _)
    | (with_reducible exact LeO.none _)
    | (with_reducible refine LeO.ite ?_ ?_)
    | (with_reducible refine LeO.bind ?_ (fun _=>?_))
    | exact ih0 _ _ _
    | exact LeO.none _
    | refine LeO.ite ?_ ?_
    | refine LeO.bind ?_ (fun _=>?_)
theorem zN.mono : ∀ a0 a1 k,LeO (zN.f k a0 a1) (zN.f (k + 1) a0 a1):=by
 intro a0 a1 k
 have ih0:=zN.z18 k
 unfold zN.f
 repeat' first
  | (with_reducible exact ih0 _ _ _)
  | (with_reducible exact LeO.refl _)
  | (with_reducible exact LeO.none _)
  | (with_reducible refine LeO.ite ?_ ?_)
  | (with_reducible refine LeO.bind ?_ (fun _=>?_))
  | exact ih0 _ _ _
  | exact LeO.none _
  | refine LeO.ite ?_ ?_
  | refine LeO.bind ?_ (fun _=>?_)
set_option maxHeartbeats 8000000 in
set_option maxRecDepth 100000 in
theorem zN.calls (k : Nat) (A0 : Option Addr) (c0 : Nat) (l0 : List (S51)) (A1 : Option Addr) (c1 : Nat) (l1 : List (S61)) (r : Bool) (w : World) (hr0 : Kd.C k51 w A0 l0.length l0) (hc0 : l0.length ≤ c0) (hr1 : Kd.C k61 w A1 l1.length l1) (hc1 : l1.length ≤ c1) (h : zN.f k l0 l1 = some r) :
 Calls Try.prog 25 #[.slice A0 l0.length c0,.slice A1 l1.length c1] w fun e w'=>e = .returned (.bool r) ∧ Drawn0 w w':=by
 have hu51:=Try.underlying51
 have hu61:=Try.underlying61
 have HR0:=z7.mk hr0
 have HC0:=z7.mk hc0
 clear hr0 hc0
 have HR1:=z7.mk hr1
 have HC1:=z7.mk hc1
 clear hr1 hc1
 have H : (if (l0.length : Int) = (l1.length : Int) then (zN.l0 k l0 l1 0) else (some false)) = some r:=h
 clear h
 by_cases c3 : (l0.length : Int) = (l1.length : Int)
 rotate_left
 · rw [if_neg c3] at H
   have c3b0 : ((l0.length : Int) == (l1.length : Int)) = false:=beq_eq_false_iff_ne.mpr c3
   have c3b1 : ((l0.length : Int) != (l1.length : Int)) = true:=bne_iff_ne.mpr c3
   have c3b2 : (l0.length == l1.length) = false:=by first|simpa using c3|(simp at c3 ⊢;omega)
   obtain rfl:=Option.some.inj H
   go_enter Try.func25,Try.ntmps25
   go_wp2
   repeat (go_quiet (fail);try go_wp2)
   go_ret
   exact ⟨by first|rfl|(simp;done)|(simp [*];done),by repeat (first|exact Drawn0.refl _|apply Drawn0.step)⟩
 rw [if_pos c3] at H
 have c3b0 : ((l0.length : Int) == (l1.length : Int)) = true:=beq_iff_eq.mpr c3
 have c3b1 : ((l0.length : Int) != (l1.length : Int)) = false:=bne_eq_false_iff_eq.mpr c3
 have c3b2 : (l0.length == l1.length) = true:=by first|simpa using c3|(simp at c3 ⊢;omega)
 clear c3
 have H':=z7.mk H
 clear H
 go_enter Try.func25,Try.ntmps25
 go_wp2
 repeat (go_quiet (fail);try go_wp2)
 go_loopg [5] k (fun kq v5 w'=>∃ (x5_1 : Int),v5 = .int .i64 x5_1 ∧ z7 (zN.l0 kq l0 l1 x5_1 = some r) ∧ z7 (kq ≤ k) ∧ Drawn0 w w')
 case atStart=>exact ⟨(0),(by first|rfl|(simp;done)|(simp [*];done)),H',⟨Nat.le_refl _⟩,by repeat (first|exact Drawn0.refl _|apply Drawn0.step)⟩
 case round =>
  clear H'
  (try clear c1);(try clear c2);(try clear p2);(try clear c3);(try clear c3b0);(try clear c3b1);(try clear c3b2)
  obtain ⟨x5_1,rfl,HA,HK1,⟨m1,rfl⟩⟩:=hrel
  cases gk with
  | zero=>exact absurd HA.out (by simp [zN.l0])
  | succ k1 =>
   have H:=HA.out
   clear HA
   simp only [zN.l0] at H
   by_cases c4 : x5_1 < (l0.length : Int)
   rotate_left
   · rw [if_neg c4] at H
     have c4b0 : decide (x5_1 < (l0.length : Int)) = false:=decide_eq_false c4
     clear c4
     obtain rfl:=Option.some.inj H
     go_wp2
     repeat (go_quiet (fail);try go_wp2)
     go_ret
     exact ⟨by first|rfl|(simp;done)|(simp [*];done),by repeat (first|exact Drawn0.refl _|apply Drawn0.step)⟩
   rw [if_pos c4] at H
   have c4b0 : decide (x5_1 < (l0.length : Int)) = true:=decide_eq_true c4
   clear c4
   by_cases c5 : 0 ≤ x5_1
   rotate_left
   · rw [if_neg c5] at H
     exact absurd H (by simp)
   rw [if_pos c5] at H
   have c5b0 : decide (0 ≤ x5_1) = true:=decide_eq_true c5
   clear c5
   by_cases c6 : x5_1 < (l1.length : Int)
   rotate_left
   · rw [if_neg c6] at H
     exact absurd H (by simp)
   rw [if_pos c6] at H
   have c6b0 : decide (x5_1 < (l1.length : Int)) = true:=decide_eq_true c6
   clear c6
   by_cases c7 : (!(((zU l0 x5_1).f0) == ((zT l1 x5_1).f0)) || (!(((zU l0 x5_1).f1) == ((zT l1 x5_1).f1)))) = true
   · rw [if_pos c7] at H
     have c7b0 : (!(((zU l0 x5_1).f0) == ((zT l1 x5_1).f0)) || (!(((zU l0 x5_1).f1) == ((zT l1 x5_1).f1)))) = true:=c7
     clear c7
     obtain rfl:=Option.some.inj H
     have p101 : 0 ≤ (x5_1 : Int):=of_decide_eq_true (by first|(with_reducible assumption)|assumption)
     have q101 : x5_1 < (l0.length : Int):=of_decide_eq_true (by first|(with_reducible assumption)|assumption)
     obtain ⟨ad101,e101,hx101_0,hx101_1⟩:=z2g HR0.out x5_1 p101 q101
     cases e101
     replace p101:=eq_true p101
     replace q101:=eq_true q101
     have p102 : 0 ≤ (x5_1 : Int):=of_decide_eq_true (by first|(with_reducible assumption)|assumption)
     have q102 : x5_1 < (l1.length : Int):=of_decide_eq_true (by first|(with_reducible assumption)|assumption)
     obtain ⟨ad102,e102,hx102_0,hx102_1⟩:=z1W HR1.out x5_1 p102 q102
     cases e102
     replace p102:=eq_true p102
     replace q102:=eq_true q102
     go_wp2
     repeat (go_quiet (fail);try go_wp2)
     go_ret
     exact ⟨by first|rfl|(simp;done)|(simp [*];done),by repeat (first|exact Drawn0.refl _|apply Drawn0.step)⟩
   rw [if_neg c7] at H
   have c7b0 : (!(((zU l0 x5_1).f0) == ((zT l1 x5_1).f0)) || (!(((zU l0 x5_1).f1) == ((zT l1 x5_1).f1)))) = false:=by simpa using c7
   clear c7
   have H':=z7.mk H
   clear H
   have p101 : 0 ≤ (x5_1 : Int):=of_decide_eq_true (by first|(with_reducible assumption)|assumption)
   have q101 : x5_1 < (l0.length : Int):=of_decide_eq_true (by first|(with_reducible assumption)|assumption)
   obtain ⟨ad101,e101,hx101_0,hx101_1⟩:=z2g HR0.out x5_1 p101 q101
   cases e101
   replace p101:=eq_true p101
   replace q101:=eq_true q101
   have p102 : 0 ≤ (x5_1 : Int):=of_decide_eq_true (by first|(with_reducible assumption)|assumption)
   have q102 : x5_1 < (l1.length : Int):=of_decide_eq_true (by first|(with_reducible assumption)|assumption)
   obtain ⟨ad102,e102,hx102_0,hx102_1⟩:=z1W HR1.out x5_1 p102 q102
   cases e102
   replace p102:=eq_true p102
   replace q102:=eq_true q102
   go_wp2
   repeat (go_quiet (fail);try go_wp2)
   go_roundg k1
   case measure=>have:=HK1.out;omega
   case rel=>exact ⟨(wrap64 (x5_1 + 1)),(by first|rfl|(simp;done)|(simp [*];done)),H',⟨by have:=HK1.out;omega⟩,by repeat (first|exact Drawn0.refl _|apply Drawn0.step)⟩
end Go.Proofs.Ytngcaphdkgihmaa.P
/- Lists of elements: which are of a level, the same ones, the document's. Own text. -/
namespace Go.Proofs.Ytngcaphdkgihmaa.Sp
open Go.RowKit Go.Proofs.YtngcaphdkgihmaaW.PrintWords Go.Proofs.YtngcaphdkgihmaaW.PrintMore Go.Proofs.Ytngcaphdkgihmaa.P Go.Proofs.Ytngcaphdkgihmaa.Ar Go.Proofs.Ytngcaphdkgihmaa.Tw
set_option linter.unusedVariables false
set_option linter.unusedSimpArgs false
/-- Is there such a level? -/
def LvS (L : Int) : Prop := 0 ≤ L ∧ L ≤ 7
instance (L : Int) : Decidable (LvS L) := by unfold LvS; infer_instance
theorem wide_out {L : Int} (h : ¬ LvS L) : Ev (fun k => zS.f k L) 0 := by
  unfold zS.f
  by_cases h0 : L < 0
  · exact Ev.pos h0 (Ev.step (fun k => by rw [zS.j0]) (Ev.pos rfl (Ev.ret _)))
  · rw [decide_eq_true (show L > 7 by unfold LvS at h; omega)]
    exact Ev.neg h0 (Ev.step (fun k => by rw [zS.j0]) (Ev.pos rfl (Ev.ret _)))
theorem wide_in {L : Int} (h : LvS L) : ∃ v, v ≠ 0 ∧ Ev (fun k => zS.f k L) v := by
  obtain ⟨h0, h7⟩ := h
  obtain ⟨l, rfl⟩ := Int.eq_ofNat_of_zero_le h0
  have hstep : ∀ v, Ev (fun k => zS.j0 k (l : Int) false) v → Ev (fun k => zS.f k (l : Int)) v := by
    intro v hv
    unfold zS.f
    rw [decide_eq_false (show ¬ ((l : Int) > 7) by omega)]
    exact Ev.neg (by omega) hv
  by_cases c : (l : Int) ≤ 3
  · exact ⟨1, by decide, hstep 1 (Ev.step (fun k => by rw [zS.j0]) (Ev.neg (by decide) (Ev.pos c (Ev.ret _))))⟩
  · have e : wrap64 ((l : Int) - 3) = ((l - 3 : Nat) : Int) := by rw [z2e (by omega) (by omega)]; omega
    refine ⟨((2 ^ (l - 3) : Nat) : Int), by have := Nat.two_pow_pos (l - 3); omega, hstep _ (Ev.step (fun k => by rw [zS.j0]) (Ev.neg (by decide) (Ev.neg c ?_)))⟩
    rw [e]
    exact Ev.pos (Int.natCast_nonneg _) (Ev.ret' (z5k (l - 3) (by omega)))
theorem rdL (l : Nat) (h : l ≤ 7) : rd ([1, 2, 4, 8, 16, 32, 64, 128] : List Int) (l : Int) = ((2 ^ l : Nat) : Int) := by
  have : ∀ m, m ≤ 7 → rd ([1, 2, 4, 8, 16, 32, 64, 128] : List Int) ((m : Nat) : Int) = ((2 ^ m : Nat) : Int) := by decide
  exact this l h
theorem z31 (a n : Nat) (ha : a < 2 ^ 64) (hn : n ≤ 64) : Go.bits .and .u64 (shr .u64 (a : Int) (n : Int)) 1 = if a.testBit n then 1 else 0 := by
  rw [z3z a n hn]
  have hd : a / 2 ^ n < 2 ^ 64 := Nat.lt_of_le_of_lt (Nat.div_le_self _ _) ha
  rw [show (1 : Int) = ((1 : Nat) : Int) from rfl, z1Z _ 1 hd (by decide), Nat.and_one_is_mod, Nat.testBit_eq_decide_div_mod_eq]
  by_cases c : a / 2 ^ n % 2 = 1
  · rw [c]; simp
  · rw [show a / 2 ^ n % 2 = 0 by omega]; simp
theorem z5i (x : E) (n : Nat) (hn : n < 128) : z1p.f (hi x) (lo x) (n : Int) = some (if (val x).testBit n then 1 else 0) := by
  have hx1 := z1g x.1
  have hx2 := z1g x.2
  have hQ : Q 6 = 2 ^ 64 := rfl
  rw [hQ] at hx1 hx2
  have hv : val x = 2 ^ 64 * val x.1 + val x.2 := by rw [z1s, hQ, Nat.mul_comm]
  unfold z1p.f
  rw [hv, Nat.testBit_two_pow_mul_add _ hx2]
  unfold hi lo
  by_cases c : n < 64
  · have e : IntKind.u64.wrap (n : Int) = (n : Int) := z2d (by omega) (by omega)
    rw [if_neg (by omega), e, if_pos (Int.natCast_nonneg _), z31 _ _ hx2 (by omega), if_pos c]
  · have e : IntKind.u64.wrap (wrap64 ((n : Int) - 64)) = ((n - 64 : Nat) : Int) := by
      rw [z2e (by omega) (by omega), z2d (by omega) (by omega)]; omega
    rw [if_pos (by omega), e, if_pos (Int.natCast_nonneg _), z31 _ _ hx1 (by omega), if_neg c]
theorem refOf_l0 (x : E) : ∀ (d n : Nat), n + d = 128 → Ev (fun k => zo.l0 k (n : Int) (hi x) (lo x)) (decide (val x < 2 ^ n)) := by
  intro d
  induction d with
  | zero =>
    intro n hn
    have : n = 128 := by omega
    subst this
    have := z1g x; rw [z4N] at this
    rw [decide_eq_true this]
    exact Ev.step (fun k => by rw [zo.l0]) (Ev.neg (by decide) (Ev.ret _))
  | succ d ih =>
    intro n hn
    have hn' : n < 128 := by omega
    refine Ev.step (fun k => by rw [zo.l0]) (Ev.pos (by omega) (Ev.bnd0 (z5i x n hn') ?_))
    simp only [z1A hn' (show 128 ≤ 4611686018427387904 by decide)]
    cases c : (val x).testBit n with
    | true =>
      refine Ev.pos (by simp) (Ev.ret' ?_)
      symm; rw [decide_eq_false_iff_not]
      intro h; rw [Nat.testBit_lt_two_pow h] at c; cases c
    | false =>
      refine Ev.neg (by simp) ?_
      have hih := ih (n + 1) (by omega)
      have e : decide (val x < 2 ^ (n + 1)) = decide (val x < 2 ^ n) := by
        rw [decide_eq_decide]
        constructor
        · intro h
          apply Nat.lt_pow_two_of_testBit
          intro i hi
          by_cases e : i = n
          · rw [e]; exact c
          · exact Nat.testBit_lt_two_pow (Nat.lt_of_lt_of_le h (Nat.pow_le_pow_right (by decide) (by omega)))
        · intro h; exact Nat.lt_of_lt_of_le h (Nat.pow_le_pow_right (by decide) (by omega))
      rw [← e]; exact hih
theorem z4q (L : Int) (x : E) : Ev (fun k => zo.f k L (hi x) (lo x)) (decide (OfS L x)) := by
  unfold zo.f
  refine Ev.bnd0 (a := ([1, 2, 4, 8, 16, 32, 64, 128] : List Int)) rfl ?_
  by_cases h0 : L < 0
  · refine Ev.pos h0 (Ev.step (fun k => by rw [zo.j0]) (Ev.pos rfl (Ev.ret' ?_)))
    symm; rw [decide_eq_false_iff_not]; rintro ⟨h, _⟩; omega
  refine Ev.neg h0 ?_
  by_cases h7 : L > 7
  · rw [decide_eq_true h7]
    refine Ev.step (fun k => by rw [zo.j0]) (Ev.pos rfl (Ev.ret' ?_))
    symm; rw [decide_eq_false_iff_not]; rintro ⟨_, h, _⟩; omega
  rw [decide_eq_false h7]
  obtain ⟨l, rfl⟩ := Int.eq_ofNat_of_zero_le (show 0 ≤ L by omega)
  refine Ev.step (fun k => by rw [zo.j0]) (Ev.neg (by decide) (Ev.pos (Int.natCast_nonneg _) (Ev.pos (by simp; omega) ?_)))
  rw [rdL l (by omega)]
  have hp : 2 ^ l ≤ 128 := Nat.pow_le_pow_right (n := 2) (by decide) (show l ≤ 7 by omega)
  have := refOf_l0 x (128 - 2 ^ l) (2 ^ l) (by omega)
  have e : decide (val x < 2 ^ 2 ^ l) = decide (OfS (l : Int) x) := by
    rw [decide_eq_decide]; unfold OfS InL Q; rw [Int.toNat_natCast]
    exact ⟨fun h => ⟨by omega, by omega, h⟩, fun h => h.2.2⟩
  rw [← e]; exact this
/-- All of a level. -/
def AllS (L : Int) (X : List E) : Prop := ∀ x ∈ X, OfS L x
instance (L : Int) (X : List E) : Decidable (AllS L X) := by unfold AllS; infer_instance
theorem z3D {L : Int} {X : List E} {i : Nat} (h : i < X.length) : AllS L (X.drop i) ↔ OfS L (X.getD i 0) ∧ AllS L (X.drop (i + 1)) := by
  rw [List.drop_eq_getElem_cons h]
  have : X.getD i 0 = X[i] := by rw [List.getD_eq_getElem?_getD, List.getElem?_eq_getElem h]; rfl
  rw [this]
  exact List.forall_mem_cons
theorem All_l0 (L : Int) (X : List E) (hX : X.length ≤ 1000000) : ∀ (d i : Nat), i + d = X.length → Ev (fun k => zA.l0 k L (X.map toR) (i : Int)) (decide (AllS L (X.drop i))) := by
  intro d
  induction d with
  | zero =>
    intro i hi
    refine Ev.step (fun k => by rw [zA.l0]) (Ev.neg (by rw [List.length_map]; omega) (Ev.ret' ?_))
    symm; rw [decide_eq_true_eq, List.drop_eq_nil_of_le (by omega)]
    intro x hx; cases hx
  | succ d ih =>
    intro i hi
    have hi' : i < X.length := by omega
    refine Ev.step (fun k => by rw [zA.l0]) (Ev.pos (by rw [List.length_map]; omega) (Ev.pos (Int.natCast_nonneg _) ?_))
    simp only [rdR, toR_f0, toR_f1, z1A hi' (show X.length ≤ 4611686018427387904 by omega)]
    refine Ev.bnd (z4q L _) ?_
    have hd := z3D (L := L) hi'
    by_cases c : OfS L (X.getD i 0)
    · refine Ev.pos (decide_eq_true c) ((ih (i + 1) (by omega)).eqn ?_)
      rw [decide_eq_decide, hd]; exact ⟨fun h => ⟨c, h⟩, fun h => h.2⟩
    · refine Ev.neg (by simpa using c) (Ev.ret' ?_)
      symm; rw [decide_eq_false_iff_not, hd]; exact fun h => c h.1
theorem All_ev (L : Int) (X : List E) (hX : X.length ≤ 1000000) : Ev (fun k => zA.f k L (X.map toR)) (decide (AllS L X)) := All_l0 L X hX X.length 0 (by omega)
theorem z2y {α β : Type} (f : α → β) (X : List α) (d : α) (i : Nat) (h : i < X.length) : (X.take (i + 1)).map f = (X.take i).map f ++ [f (X.getD i d)] := by
  rw [List.take_succ_eq_append_getElem h, List.map_append]
  have : X.getD i d = X[i] := by rw [List.getD_eq_getElem?_getD, List.getElem?_eq_getElem h]; rfl
  rw [this]; rfl
theorem Ref_l0 (X : List E) (hX : X.length ≤ 1000000) : ∀ (d i : Nat), i + d = X.length → Ev (fun k => zB.l0 k (X.map toS) ((X.take i).map toR) (i : Int)) (X.map toR) := by
  intro d
  induction d with
  | zero =>
    intro i hi
    refine Ev.step (fun k => by rw [zB.l0]) (Ev.neg (by rw [List.length_map]; omega) (Ev.ret' ?_))
    rw [List.take_of_length_le (by omega)]
  | succ d ih =>
    intro i hi
    have hi' : i < X.length := by omega
    refine Ev.step (fun k => by rw [zB.l0]) (Ev.pos (by rw [List.length_map]; omega) (Ev.pos (Int.natCast_nonneg _) (Ev.pos (by rw [List.length_map, List.length_take]; omega) ?_)))
    simp only [rdS, z5t, z5u, z1A hi' (show X.length ≤ 4611686018427387904 by omega)]
    have hih := ih (i + 1) (by omega)
    rw [z2y toR X 0 i hi'] at hih
    exact hih
theorem Ref_ev (X : List E) (hX : X.length ≤ 1000000) : Ev (fun k => zB.f k (X.map toS)) (X.map toR) := Ref_l0 X hX X.length 0 (by omega)
theorem Same_l0 (X Y : List E) (hl : X.length = Y.length) (hX : X.length ≤ 1000000) : ∀ (d i : Nat), i + d = X.length → (∀ j, j < i → X.getD j 0 = Y.getD j 0) → Ev (fun k => zN.l0 k (X.map toS) (Y.map toR) (i : Int)) (decide (X = Y)) := by
  intro d
  induction d with
  | zero =>
    intro i hi h
    refine Ev.step (fun k => by rw [zN.l0]) (Ev.neg (by rw [List.length_map]; omega) (Ev.ret' ?_))
    symm; rw [decide_eq_true_eq]
    apply List.ext_getElem hl
    intro j h1 h2
    have := h j (by omega)
    simpa [List.getD_eq_getElem?_getD, h1, h2] using this
  | succ d ih =>
    intro i hid h
    have hi' : i < X.length := by omega
    refine Ev.step (fun k => by rw [zN.l0]) (Ev.pos (by rw [List.length_map]; omega) (Ev.pos (Int.natCast_nonneg _) (Ev.pos (by rw [List.length_map]; omega) ?_)))
    simp only [rdS, rdR, z5t, z5u, toR_f0, toR_f1, z1A hi' (show X.length ≤ 4611686018427387904 by omega)]
    by_cases c : X.getD i 0 = Y.getD i 0
    · refine Ev.neg (by rw [c]; simp) (ih (i + 1) (by omega) (fun j hj => ?_))
      by_cases e : j = i
      · rw [e]; exact c
      · exact h j (by omega)
    · refine Ev.pos ?_ (Ev.ret' ?_)
      · simp only [Bool.or_eq_true, Bool.not_eq_true', beq_eq_false_iff_ne]
        by_cases e : hi (X.getD i 0) = hi (Y.getD i 0)
        · right; intro e2; exact c (z4f e e2)
        · left; exact e
      · symm; rw [decide_eq_false_iff_not]
        rintro rfl; exact c rfl
theorem Same_ev (X Y : List E) (hX : X.length ≤ 1000000) : Ev (fun k => zN.f k (X.map toS) (Y.map toR)) (decide (X = Y)) := by
  unfold zN.f
  by_cases h : X.length = Y.length
  · exact Ev.pos (by rw [List.length_map, List.length_map]; omega) (Same_l0 X Y h hX X.length 0 (by omega) (fun j hj => by omega))
  · refine Ev.neg (by rw [List.length_map, List.length_map]; omega) (Ev.ret' ?_)
    symm; rw [decide_eq_false_iff_not]
    rintro rfl; exact h rfl
/-- The same element? as the program asks. -/
theorem eq_pair (x y : E) : (hi x == hi y && (lo x == lo y)) = decide (x = y) := by
  rw [Bool.eq_iff_iff, Bool.and_eq_true, beq_iff_eq, beq_iff_eq, decide_eq_true_eq]
  exact ⟨fun h => z4f h.1 h.2, fun h => by rw [h]; exact ⟨rfl, rfl⟩⟩
theorem z2H (x : E) : (hi x == 0 && (lo x == 0)) = decide (x = 0) := by
  rw [← eq_pair, z28, z29]
end Go.Proofs.Ytngcaphdkgihmaa.Sp
/- The document's product by shifts and masks is the tower's. Own text; nothing of the program in it. -/
namespace Go.Proofs.Ytngcaphdkgihmaa.Tw
set_option linter.unusedVariables false
set_option linter.unusedSimpArgs false
theorem z2l {n a b : Nat} (hb : b < Q n) : (a * Q n + b) / Q n = a := by rw [Nat.mul_comm, Nat.mul_add_div (z20 n), Nat.div_eq_of_lt hb, Nat.add_zero]
theorem z2m {n a b : Nat} (hb : b < Q n) : (a * Q n + b) % Q n = b := by rw [Nat.mul_comm, Nat.mul_add_mod, Nat.mod_eq_of_lt hb]
theorem z4a {n a b c d : Nat} (hb : b < Q n) (hd : d < Q n) : (a * Q n + b) &&& (c * Q n + d) = (a &&& c) * Q n + (b &&& d) := by
  have h1 : ((a * Q n + b) &&& (c * Q n + d)) / Q n = a &&& c := by
    have e1 := z2l (n := n) (a := a) hb
    have e2 := z2l (n := n) (a := c) hd
    unfold Q at *
    rw [Nat.and_div_two_pow, e1, e2]
  have h2 : ((a * Q n + b) &&& (c * Q n + d)) % Q n = b &&& d := by
    have e1 := z2m (n := n) (a := a) hb
    have e2 := z2m (n := n) (a := c) hd
    unfold Q at *
    rw [Nat.and_mod_two_pow, e1, e2]
  have := Nat.div_add_mod ((a * Q n + b) &&& (c * Q n + d)) (Q n)
  rw [h1, h2, Nat.mul_comm] at this
  exact this.symm
theorem z5e {n a b c d : Nat} (hb : b < Q n) (hd : d < Q n) : (a * Q n + b) ||| (c * Q n + d) = (a ||| c) * Q n + (b ||| d) := by
  have h1 : ((a * Q n + b) ||| (c * Q n + d)) / Q n = a ||| c := by
    have e1 := z2l (n := n) (a := a) hb
    have e2 := z2l (n := n) (a := c) hd
    unfold Q at *
    rw [Nat.or_div_two_pow, e1, e2]
  have h2 : ((a * Q n + b) ||| (c * Q n + d)) % Q n = b ||| d := by
    have e1 := z2m (n := n) (a := a) hb
    have e2 := z2m (n := n) (a := c) hd
    unfold Q at *
    rw [Nat.or_mod_two_pow, e1, e2]
  have := Nat.div_add_mod ((a * Q n + b) ||| (c * Q n + d)) (Q n)
  rw [h1, h2, Nat.mul_comm] at this
  exact this.symm
theorem or_lt {n x y : Nat} (hx : x < Q n) (hy : y < Q n) : x ||| y < Q n := Nat.or_lt_two_pow hx hy
/-- The lower halves of all blocks of 2^(j+1) bits in a word of 2^n. -/
def M (j : Nat) : Nat → Nat
  | 0 => 0
  | n + 1 => if n = j then Q j - 1 else if n < j then 0 else M j n * Q n + M j n
theorem M_base (j : Nat) : M j (j + 1) = Q j - 1 := by simp [M]
theorem z4L {j n : Nat} (h : j + 1 ≤ n) : M j (n + 1) = M j n * Q n + M j n := by
  rw [M, if_neg (by omega), if_neg (by omega)]
/-- What is left of a word without its highest block of 2^j bits. -/
def H (j n : Nat) : Nat := 2 ^ (2 ^ n - 2 ^ j)
theorem z4w {j n : Nat} (h : j ≤ n) : H j n * Q j = Q n := by
  have := Nat.pow_le_pow_right (show 2 > 0 by decide) h
  unfold H Q; rw [← Nat.pow_add, Nat.sub_add_cancel this]
theorem H_pos (j n : Nat) : 0 < H j n := Nat.two_pow_pos _
theorem z4K {j n : Nat} (h : j ≤ n) : H j (n + 1) = H j n * Q n := by
  have := Nat.pow_le_pow_right (show 2 > 0 by decide) h
  unfold H Q; rw [← Nat.pow_add]; congr 1; rw [Nat.pow_succ]; omega
theorem H_self (j : Nat) : H j j = 1 := by unfold H; rw [Nat.sub_self, Nat.pow_zero]
theorem H_base (j : Nat) : H j (j + 1) = Q j := by rw [z4K (Nat.le_refl _), H_self, Nat.one_mul]
theorem H_le {j n : Nat} (h : j ≤ n) : H j n ≤ Q n := by rw [← z4w h]; exact Nat.le_mul_of_pos_right _ (z20 j)
theorem lt_H_mul {j n x : Nat} (h : j ≤ n) (hx : x < H j n) : x * Q j < Q n := by
  rw [← z4w h]; exact Nat.mul_lt_mul_of_pos_right hx (z20 j)
theorem M_lt {j : Nat} : ∀ d, M j (j + 1 + d) < H j (j + 1 + d)
  | 0 => by rw [Nat.add_zero, M_base, H_base]; have := z20 j; omega
  | d + 1 => by
    have ih := M_lt (j := j) d
    rw [← Nat.add_assoc, z4L (by omega), z4K (by omega)]
    have h2 : M j (j + 1 + d) < Q (j + 1 + d) := Nat.lt_of_lt_of_le ih (H_le (by omega))
    have h3 : M j (j + 1 + d) * Q (j + 1 + d) + Q (j + 1 + d) ≤ H j (j + 1 + d) * Q (j + 1 + d) := by
      have := Nat.mul_le_mul_right (Q (j + 1 + d)) ih
      rw [Nat.succ_mul] at this; exact this
    omega
theorem M_lt' {j n : Nat} (h : j + 1 ≤ n) : M j n < H j n := by
  obtain ⟨d, rfl⟩ := Nat.le.dest h; exact M_lt d
theorem M_lt_Q {j n : Nat} (h : j + 1 ≤ n) : M j n < Q n := Nat.lt_of_lt_of_le (M_lt' h) (H_le (by omega))
theorem z21 {x m b : Nat} (h : m < b) : x &&& m < b := Nat.lt_of_le_of_lt Nat.and_le_right h
/-- A word times the generator of the level j, block by block. -/
def tw (n : Nat) : Nat → Nat → Nat
  | 0, v => v
  | j + 1, v => (((v &&& M j n) ^^^ tw n j ((v / Q j) &&& M j n)) * Q j) % Q n ||| ((v / Q j) &&& M j n)
theorem z3I (j : Nat) : val (gen j) < Q j := z1g _
theorem z4r {j g : Nat} (hg : g < Q j) : ∀ d u, u < H j (j + d) → val (of (j + d) g * of (j + d) u) < H j (j + d)
  | 0, u, hu => by
    rw [Nat.add_zero, H_self] at hu ⊢
    have : u = 0 := by omega
    rw [this, z2j, z2a, z1t]; decide
  | d + 1, u, hu => by
    rw [← Nat.add_assoc] at hu ⊢
    rw [z4K (Nat.le_add_right _ _)] at hu ⊢
    have hg' : g < Q (j + d) := Nat.lt_of_lt_of_le hg (z2s (Nat.le_add_right _ _))
    have e1 : of (j + d + 1) g = up (of (j + d) g) := z3L hg'
    rw [e1, z2M, z1s, z1X, z24, z1O, z1X, z24]
    have h1 := z4r hg d (u / Q (j + d)) (Nat.div_lt_of_lt_mul (by rw [Nat.mul_comm]; exact hu))
    have h2 := z1g (of (j + d) g * of (j + d) (u % Q (j + d)))
    have h3 : val (of (j + d) g * of (j + d) (u / Q (j + d))) * Q (j + d) + Q (j + d) ≤ H j (j + d) * Q (j + d) := by
      have := Nat.mul_le_mul_right (Q (j + d)) h1
      rw [Nat.succ_mul] at this; exact this
    omega
theorem tw_split {j : Nat} (C : ∀ n, j ≤ n → ∀ v, v < Q n → tw n j v = val (of n (val (gen j)) * of n v)) (D : ∀ n, j ≤ n → ∀ h l, h < Q n → l < Q n → tw (n + 1) j (h * Q n + l) = tw n j h * Q n + tw n j l) :
    ∀ n, j + 1 ≤ n → ∀ h l, h < Q n → l < Q n → tw (n + 1) (j + 1) (h * Q n + l) = tw n (j + 1) h * Q n + tw n (j + 1) l ∧ tw n (j + 1) l < Q n := by
  intro n hn h l hh hl
  have hM := M_lt' hn
  have hMQ := M_lt_Q hn
  have hjn : j ≤ n := by omega
  have hQj := z20 j
  -- the higher parts
  have hdiv : (h * Q n + l) / Q j = (h / Q j) * Q n + ((h % Q j) * H j n + l / Q j) := by
    have e1 : h * Q n = (h * H j n) * Q j := by rw [← z4w hjn, Nat.mul_assoc]
    rw [e1, Nat.mul_comm (h * H j n), Nat.mul_add_div hQj]
    have e2 := Nat.div_add_mod h (Q j)
    have e3 : h * H j n = (h / Q j) * Q n + (h % Q j) * H j n := by
      conv => lhs; rw [← e2]
      rw [Nat.add_mul, ← z4w hjn]
      congr 1
      rw [Nat.mul_comm (Q j), Nat.mul_assoc, Nat.mul_comm (Q j)]
    rw [e3, Nat.add_assoc]
  have hlq : l / Q j < H j n := Nat.div_lt_of_lt_mul (by rw [Nat.mul_comm, z4w hjn]; exact hl)
  have hl' : (h % Q j) * H j n + l / Q j < Q n := by
    have h1 : (h % Q j) * H j n + H j n ≤ Q j * H j n := by
      have := Nat.mul_le_mul_right (H j n) (Nat.mod_lt h hQj)
      rw [Nat.succ_mul] at this; exact this
    rw [Nat.mul_comm (Q j), z4w hjn] at h1
    omega
  have hand : ((h % Q j) * H j n + l / Q j) &&& M j n = (l / Q j) &&& M j n := by
    have e1 : ∀ x, x &&& M j n = (x % H j n) &&& M j n := fun x => by
      have h3 : x &&& M j n < H j n := z21 hM
      have h4 : (x &&& M j n) % H j n = x &&& M j n := Nat.mod_eq_of_lt h3
      rw [← h4]; unfold H; rw [Nat.and_mod_two_pow]
      rw [show M j n % 2 ^ (2 ^ n - 2 ^ j) = M j n from Nat.mod_eq_of_lt hM]
    rw [e1, Nat.mul_comm, Nat.mul_add_mod, ← e1]
  have hhi : ((h * Q n + l) / Q j) &&& M j (n + 1) = ((h / Q j) &&& M j n) * Q n + ((l / Q j) &&& M j n) := by
    rw [z4L hn, hdiv, z4a hl' hMQ, hand]
  have hlo : (h * Q n + l) &&& M j (n + 1) = (h &&& M j n) * Q n + (l &&& M j n) := by rw [z4L hn, z4a hl hMQ]
  have b1 : (h / Q j) &&& M j n < Q n := z21 hMQ
  have b2 : (l / Q j) &&& M j n < Q n := z21 hMQ
  have b3 : l &&& M j n < H j n := z21 hM
  have b4 : (l / Q j) &&& M j n < H j n := z21 hM
  have b5 : tw n j ((l / Q j) &&& M j n) < H j n := by
    rw [C n hjn _ b2]
    obtain ⟨d, rfl⟩ := Nat.le.dest hjn
    exact z4r (z3I j) d _ b4
  have b6 : (l &&& M j n) ^^^ tw n j ((l / Q j) &&& M j n) < H j n := Nat.xor_lt_two_pow b3 b5
  have b7 := lt_H_mul hjn b6
  have b8 : tw n j ((l / Q j) &&& M j n) < Q n := Nat.lt_of_lt_of_le b5 (H_le hjn)
  have b9 : l &&& M j n < Q n := z21 hMQ
  constructor
  · simp only [tw]
    rw [hhi, hlo, D n hjn _ _ b1 b2, z4v b9 b8, Nat.add_mul]
    have e5 : ∀ X Y : Nat, Y < Q n → (X * Q n * Q j + Y) % Q (n + 1) = ((X * Q j) % Q n) * Q n + Y := by
      intro X Y hY
      rw [show X * Q n * Q j = X * Q j * Q n by rw [Nat.mul_assoc, Nat.mul_comm (Q n), ← Nat.mul_assoc], z2f]
      rw [Nat.mul_comm (X * Q j), Nat.mod_mul, Nat.mul_add_mod, Nat.mod_eq_of_lt hY, Nat.mul_add_div (z20 n), Nat.div_eq_of_lt hY, Nat.add_zero, Nat.mul_comm (Q n), Nat.add_comm]
    rw [e5 _ _ b7, z5e b7 b2, Nat.mod_eq_of_lt b7]
  · simp only [tw]
    exact or_lt (Nat.mod_lt _ (z20 n)) b2
theorem z5v : ∀ j, (∀ n, j ≤ n → ∀ v, v < Q n → tw n j v = val (of n (val (gen j)) * of n v)) ∧ (∀ n, j ≤ n → ∀ h l, h < Q n → l < Q n → tw (n + 1) j (h * Q n + l) = tw n j h * Q n + tw n j l)
  | 0 => ⟨fun n _ v hv => by rw [z4e, z2r, of_one, one_mul, z1P _ _ hv]; rfl, fun n _ h l _ _ => rfl⟩
  | j + 1 => by
    obtain ⟨C, D⟩ := z5v j
    have D' := tw_split C D
    refine ⟨?_, fun n hn h l hh hl => (D' n hn h l hh hl).1⟩
    intro n hn
    obtain ⟨d, rfl⟩ := Nat.le.dest hn
    clear hn
    induction d with
    | zero =>
      intro v hv
      rw [Nat.add_zero] at hv ⊢
      have hQj := z20 j
      have hd : v / Q j < Q j := Nat.div_lt_of_lt_mul (by rw [← z2f]; exact hv)
      have hm : v % Q j < Q j := Nat.mod_lt _ hQj
      have hmask : ∀ x, x &&& M j (j + 1) = x % Q j := fun x => by rw [M_base]; unfold Q; rw [Nat.and_two_pow_sub_one_eq_mod]
      have e1 : tw (j + 1) j (v / Q j) = val (gen j * of j (v / Q j)) := by
        rw [C (j + 1) (by omega) _ (Nat.lt_of_lt_of_le hd (z4M j)), z38 (d := 1) (z3I j) hd, z1C]
      simp only [tw]
      rw [hmask, hmask, Nat.mod_eq_of_lt hd, e1]
      have hv2 := z1g (gen j * of j (v / Q j))
      have hX := z1U hm hv2
      rw [Nat.mod_eq_of_lt (show _ * Q j < Q (j + 1) by rw [z2f]; exact Nat.mul_lt_mul_of_pos_right hX hQj)]
      have hor : ∀ X, X * Q j ||| (v / Q j) = X * Q j + v / Q j := fun X => by
        have := z5e (n := j) (a := X) (b := 0) (c := 0) (d := v / Q j) hQj hd
        simpa using this
      rw [hor, z1C, z1s]
      congr 1
      · congr 1
        rw [z1M, z2h, z2i, one_mul, zero_mul, one_mul, add_zero, z1O, z1X, z24, z1u, z1P _ _ hm]
      · rw [z1N, z2h, z2i, one_mul, zero_mul, zero_add, z1O, z1X, z1P _ _ hd]
    | succ d ih =>
      intro v hv
      rw [← Nat.add_assoc] at hv ⊢
      have hvd := Nat.div_add_mod v (Q (j + 1 + d))
      rw [Nat.mul_comm] at hvd
      have h1 : v / Q (j + 1 + d) < Q (j + 1 + d) := Nat.div_lt_of_lt_mul (by rw [← z2f]; exact hv)
      have h2 : v % Q (j + 1 + d) < Q (j + 1 + d) := Nat.mod_lt _ (z20 _)
      have hg : val (gen (j + 1)) < Q (j + 1 + d) := Nat.lt_of_lt_of_le (z3I (j + 1)) (z2s (Nat.le_add_right _ _))
      have e1 : of (j + 1 + d + 1) (val (gen (j + 1))) = up (of (j + 1 + d) (val (gen (j + 1)))) := z3L hg
      rw [e1, z2M, z1s, z1X, z24, z1O, z1X, z24, ← ih _ h1, ← ih _ h2]
      conv => lhs; rw [← hvd]
      exact (D' (j + 1 + d) (by omega) _ _ h1 h2).1
theorem tw_eq {j n v : Nat} (h : j ≤ n) (hv : v < Q n) : tw n j v = val (of n (val (gen j)) * of n v) := (z5v j).1 n h v hv
/-- A bit of a level is a product of generators. -/
def gp (n : Nat) : Nat → Nat → T n
  | 0, _ => 1
  | m + 1, i => (if i.testBit m then of n (val (gen (m + 1))) else 1) * gp n m i
theorem gp_up {n : Nat} : ∀ m i, m ≤ n → gp (n + 1) m i = up (gp n m i)
  | 0, i, _ => rfl
  | m + 1, i, h => by
    show (if i.testBit m then of (n + 1) (val (gen (m + 1))) else 1) * gp (n + 1) m i = up ((if i.testBit m then of n (val (gen (m + 1))) else 1) * gp n m i)
    rw [up_mul, gp_up m i (by omega)]
    congr 1
    split
    · exact z3L (Nat.lt_of_lt_of_le (z3I (m + 1)) (z2s h))
    · rfl
theorem gp_mod {n : Nat} : ∀ m i k, m ≤ k → gp n m (i % 2 ^ k) = gp n m i
  | 0, i, k, _ => rfl
  | m + 1, i, k, h => by
    show (if (i % 2 ^ k).testBit m then _ else _) * gp n m (i % 2 ^ k) = (if i.testBit m then _ else _) * gp n m i
    rw [gp_mod m i k (by omega), Nat.testBit_mod_two_pow, decide_eq_true (by omega), Bool.true_and]
theorem gp_bit : ∀ n i, i < 2 ^ n → gp n n i = of n (2 ^ i)
  | 0, i, h => by
    have : i = 0 := by simpa using h
    rw [this]; rfl
  | n + 1, i, h => by
    show (if i.testBit n then of (n + 1) (val (gen (n + 1))) else 1) * gp (n + 1) n i = of (n + 1) (2 ^ i)
    rw [gp_up n i (Nat.le_refl _), ← gp_mod n i n (Nat.le_refl _), gp_bit n _ (Nat.mod_lt _ (Nat.two_pow_pos n))]
    rw [Nat.pow_succ] at h
    by_cases c : i < 2 ^ n
    · rw [Nat.testBit_lt_two_pow c, Nat.mod_eq_of_lt c]
      rw [z3L (show 2 ^ i < Q n from Nat.pow_lt_pow_right (by decide) c)]
      simp only [Bool.false_eq_true, if_false, one_mul]; rfl
    · have hi : i % 2 ^ n = i - 2 ^ n := by rw [Nat.mod_eq_sub_mod (by omega), Nat.mod_eq_of_lt (by omega)]
      have hb : i.testBit n = true := by
        have := Nat.testBit_two_pow_add_eq (i - 2 ^ n) n
        rw [show 2 ^ n + (i - 2 ^ n) = i by omega, Nat.testBit_lt_two_pow (show i - 2 ^ n < 2 ^ n by omega)] at this
        simpa using this
      rw [hb, if_pos rfl, hi, z1C]
      have e : 2 ^ i = 2 ^ (i - 2 ^ n) * Q n + 0 := by
        unfold Q; rw [← Nat.pow_add, Nat.add_zero]; congr 1; omega
      rw [e, z1O, z2l (z20 n), z2m (z20 n), z2j]
      apply ext
      · rw [z1M, z2h, z2i, z2p, z3m, one_mul, zero_mul, z2a, z2a, add_zero, add_zero]; rfl
      · rw [z1N, z2h, z2i, z2p, zero_mul, z2a, add_zero]; rfl
/-- An element is the sum of its bits. -/
theorem bits_sum {n : Nat} (b k : Nat) (hb : b < Q n) (hk : k < 2 ^ n) : of n (b % 2 ^ (k + 1)) = of n (b % 2 ^ k) + (if b.testBit k then of n (2 ^ k) else 0) := by
  have h2 : 2 ^ k < Q n := Nat.pow_lt_pow_right (by decide) hk
  have h1 : b % 2 ^ k < Q n := Nat.lt_trans (Nat.mod_lt _ (Nat.two_pow_pos k)) h2
  have e : b % 2 ^ (k + 1) = b % 2 ^ k ^^^ (if b.testBit k then 2 ^ k else 0) := by
    apply Nat.eq_of_testBit_eq
    intro i
    rw [Nat.testBit_xor, Nat.testBit_mod_two_pow, Nat.testBit_mod_two_pow]
    by_cases hi : i = k
    · subst hi
      cases hbi : b.testBit i <;> simp
    · by_cases hlt : i < k
      · have : decide (i < k + 1) = true := decide_eq_true (by omega)
        rw [this, decide_eq_true hlt]
        split
        · rw [Nat.testBit_two_pow_of_ne (by omega)]; simp
        · simp
      · rw [decide_eq_false (by omega), decide_eq_false hlt]
        split
        · rw [Nat.testBit_two_pow_of_ne (by omega)]; simp
        · simp
  rw [e]
  split
  · rw [z5b h1 h2]
  · rw [Nat.xor_zero, add_zero]
end Go.Proofs.Ytngcaphdkgihmaa.Tw
/- The document's product of elements is the tower's. Own text. -/
namespace Go.Proofs.Ytngcaphdkgihmaa.Sp
open Go.RowKit Go.Proofs.YtngcaphdkgihmaaW.PrintWords Go.Proofs.YtngcaphdkgihmaaW.PrintMore Go.Proofs.Ytngcaphdkgihmaa.P Go.Proofs.Ytngcaphdkgihmaa.Ar Go.Proofs.Ytngcaphdkgihmaa.Tw
set_option linter.unusedVariables false
set_option linter.unusedSimpArgs false
theorem z58 : ∀ j : Nat, j < 6 → zZ.f (j : Int) = some ((M j 6 : Nat) : Int) := by decide +kernel
theorem tw_lt {j v : Nat} (hj : j ≤ 6) (hv : v < Q 6) : tw 6 j v < Q 6 := by rw [tw_eq hj hv]; exact z1g _
theorem shlw (a w : Nat) (hw : w ≤ 64) : shl .u64 (a : Int) (w : Int) = (((a * 2 ^ w) % 2 ^ 64 : Nat) : Int) := by
  unfold shl
  have h64 : IntKind.u64.bits = 64 := rfl
  rw [h64, Int.toNat_natCast, Nat.min_eq_left hw]
  have hc : ((a : Int) * 2 ^ w) = ((a * 2 ^ w : Nat) : Int) := by simp
  rw [hc]
  simp [IntKind.wrap, IntKind.bits, IntKind.signed]
theorem z2k : ∀ (j : Nat), j ≤ 6 → ∀ (v : Nat), v < Q 6 → Ev (fun k => zr.f k ((j : Int) - 1) (v : Int)) ((tw 6 j v : Nat) : Int) := by
  intro j
  induction j with
  | zero =>
    intro _ v hv
    have h0 : (((0 : Nat) : Int) - 1) < 0 := by decide
    refine Ev.step (fun k => by rw [zr.f]) (Ev.pos h0 ?_)
    exact Ev.ret' rfl
  | succ j ih =>
    intro hj v hv
    have h32 := z1I (n := j) (by omega)
    have hw : IntKind.u64.wrap (((j + 1 : Nat) : Int) - 1) = (j : Int) := by rw [z2d (by omega) (by omega)]; omega
    have hw2 : wrap64 (((j + 1 : Nat) : Int) - 1 - 1) = (j : Int) - 1 := by rw [z2e (by omega) (by omega)]; omega
    have hj1 : (((j + 1 : Nat) : Int) - 1) = (j : Int) := by omega
    have hQ6 : Q 6 = 2 ^ 64 := rfl
    have hM : M j 6 < 2 ^ 64 := by rw [← hQ6]; exact M_lt_Q (by omega)
    have hd : v / 2 ^ 2 ^ j < 2 ^ 64 := Nat.lt_of_le_of_lt (Nat.div_le_self _ _) hv
    have hhi : (v / 2 ^ 2 ^ j) &&& M j 6 < 2 ^ 64 := Nat.and_lt_two_pow _ hM
    have hlo : v &&& M j 6 < 2 ^ 64 := Nat.and_lt_two_pow _ hM
    have hrec := ih (by omega) _ hhi
    have htw : tw 6 j ((v / 2 ^ 2 ^ j) &&& M j 6) < 2 ^ 64 := tw_lt (by omega) hhi
    rw [hj1] at hw hw2 ⊢
    refine Ev.step (fun k => by rw [zr.f]) (Ev.neg (by omega) ?_)
    simp only [hw]
    refine Ev.pos (Int.natCast_nonneg _) (Ev.bnd0 (z58 j (by omega)) (Ev.bnd0 (z58 j (by omega)) ?_))
    simp only [z2K j (by omega), z3z v (2 ^ j) (by omega), z1Z _ _ hd hM, z1Z _ _ hv hM, hw2]
    refine Ev.bnd hrec (Ev.ret' ?_)
    rw [z1E _ _ hlo htw, shlw _ _ (by omega), z4n _ _ (Nat.mod_lt _ (by decide)) hhi]
    rfl
/-- The generator of a level, as an element of the greatest one. -/
def gE (m : Nat) : E := of 7 (val (gen m))
theorem tw_hi {j : Nat} (hj : j ≤ 6) (x : T 6) : tw 6 j (val x) = val (of 6 (val (gen j)) * x) := by rw [tw_eq hj (z1g x), z1C]
theorem Times_ev (j : Nat) (hj : j ≤ 6) (x : E) : Ev (fun k => zy.f k (j : Int) (hi x) (lo x)) (hi (gE (j + 1) * x), lo (gE (j + 1) * x)) := by
  unfold zy.f
  by_cases c : j < 6
  · refine Ev.pos (by omega) ?_
    have h1 := z2k (j + 1) (by omega) (val x.1) (z1g x.1)
    have h2 := z2k (j + 1) (by omega) (val x.2) (z1g x.2)
    rw [show (((j + 1 : Nat) : Int) - 1) = (j : Int) by omega] at h1 h2
    refine Ev.bnd h1 (Ev.bnd h2 (Ev.ret' ?_))
    have e : gE (j + 1) = up (of 6 (val (gen (j + 1)))) := z3L (Nat.lt_of_lt_of_le (z3I (j + 1)) (z2s (by omega)))
    rw [e, z2M, tw_hi (by omega), tw_hi (by omega)]; rfl
  · have : j = 6 := by omega
    subst this
    refine Ev.neg (by decide) ?_
    have h1 := z2k 6 (by omega) (val x.1) (z1g x.1)
    refine Ev.bnd h1 (Ev.ret' ?_)
    have e : gE 7 = gen 7 := z1C _
    have ev : of 6 (val (gen 6)) = gen 6 := z1C _
    rw [tw_hi (by omega), e, ev]
    unfold hi lo
    rw [z1E _ _ (z1g _) (z1g _), ← z1u]
    have m1 : (gen 7 * x).1 = x.2 + gen 6 * x.1 := by rw [z1M, z2h, z2i, one_mul, zero_mul, one_mul, add_zero]
    have m2 : (gen 7 * x).2 = x.1 := by rw [z1N, z2h, z2i, one_mul, zero_mul, zero_add]
    rw [m1, m2]
/-- The element with one bit. -/
def bitE (n : Nat) : E := of 7 (2 ^ n)
theorem z4T {n : Nat} (hn : n < 128) : hi (bitE n) = (if n < 64 then 0 else ((2 ^ (n - 64) : Nat) : Int)) ∧ lo (bitE n) = (if n < 64 then ((2 ^ n : Nat) : Int) else 0) := by
  unfold bitE hi lo
  rw [z1O, z1X, z24]
  have hQ : Q 6 = 2 ^ 64 := rfl
  by_cases c : n < 64
  · have h1 : 2 ^ n < Q 6 := by rw [hQ]; exact Nat.pow_lt_pow_right (by decide) c
    rw [if_pos c, if_pos c, Nat.div_eq_of_lt h1, Nat.mod_eq_of_lt h1, z1P _ _ h1, z2j, z1t]; exact ⟨rfl, rfl⟩
  · have e : 2 ^ n = 2 ^ (n - 64) * Q 6 + 0 := by rw [hQ, ← Nat.pow_add, Nat.add_zero]; congr 1; omega
    have h2 : 2 ^ (n - 64) < Q 6 := by rw [hQ]; exact Nat.pow_lt_pow_right (by decide) (by omega)
    rw [if_neg c, if_neg c, e, z2l (z20 6), z2m (z20 6), z1P _ _ h2, z2j, z1t]; exact ⟨rfl, rfl⟩
theorem z5h (n : Nat) (hn : n < 128) : Ev (fun k => zL.f k (n : Int)) (hi (bitE n), lo (bitE n)) := by
  obtain ⟨h1, h2⟩ := z4T hn
  unfold zL.f
  refine Ev.neg (by omega) ?_
  rw [decide_eq_false (show ¬ ((n : Int) > 127) by omega), h1, h2]
  refine Ev.step (fun k => by rw [zL.j0]) (Ev.neg (by decide) ?_)
  by_cases c : n < 64
  · rw [if_pos c, if_pos c]
    refine Ev.neg (by omega) ?_
    rw [z2d (by omega) (by omega)]
    exact Ev.pos (Int.natCast_nonneg _) (Ev.ret' (by rw [z2K n (by omega)]))
  · rw [if_neg c, if_neg c]
    refine Ev.pos (by omega) ?_
    have e : IntKind.u64.wrap (wrap64 ((n : Int) - 64)) = ((n - 64 : Nat) : Int) := by
      rw [z2e (by omega) (by omega), z2d (by omega) (by omega)]; omega
    rw [e]
    exact Ev.pos (Int.natCast_nonneg _) (Ev.ret' (by rw [z2K (n - 64) (by omega)]))
theorem z3h (x n : Nat) : (x &&& 2 ^ n ≠ 0) ↔ x.testBit n = true := by
  constructor
  · intro h
    cases hb : x.testBit n with
    | true => rfl
    | false =>
      exfalso; apply h
      apply Nat.eq_of_testBit_eq
      intro i
      rw [Nat.testBit_and, Nat.zero_testBit]
      by_cases e : i = n
      · subst e; rw [hb, Bool.false_and]
      · rw [Nat.testBit_two_pow_of_ne (by omega), Bool.and_false]
  · intro h e
    have := congrArg (fun z => z.testBit n) e
    simp only [Nat.testBit_and, Nat.testBit_two_pow_self, Bool.and_true, Nat.zero_testBit] at this
    rw [h] at this; cases this
theorem hasBits (x : E) (n : Nat) (hn : n < 128) : ((Go.bits .or .u64 (Go.bits .and .u64 (lo x) (lo (bitE n))) (Go.bits .and .u64 (hi x) (hi (bitE n)))) != 0) = (val x).testBit n := by
  obtain ⟨h1, h2⟩ := z4T hn
  have hx1 := z1g x.1
  have hx2 := z1g x.2
  have hQ : Q 6 = 2 ^ 64 := rfl
  rw [hQ] at hx1 hx2
  have hv : val x = 2 ^ 64 * val x.1 + val x.2 := by rw [z1s, hQ, Nat.mul_comm]
  rw [h1, h2, hv]
  unfold hi lo
  by_cases c : n < 64
  · rw [if_pos c, if_pos c]
    have hp : 2 ^ n < 2 ^ 64 := Nat.pow_lt_pow_right (by decide) c
    have z : (0 : Int) = ((0 : Nat) : Int) := rfl
    rw [z, z1Z _ _ hx2 hp, z1Z _ _ hx1 (by decide), z4n _ _ (Nat.and_lt_two_pow _ hp) (Nat.and_lt_two_pow _ (by decide)), Nat.and_zero, Nat.or_zero]
    rw [Nat.testBit_two_pow_mul_add _ hx2, if_pos c, Bool.eq_iff_iff, ← z3h, bne_iff_ne]
    exact ⟨fun h e => h (by rw [e]), fun h e => h (by exact_mod_cast e)⟩
  · rw [if_neg c, if_neg c]
    have hp : 2 ^ (n - 64) < 2 ^ 64 := Nat.pow_lt_pow_right (by decide) (by omega)
    have z : (0 : Int) = ((0 : Nat) : Int) := rfl
    rw [z, z1Z _ _ hx1 hp, z1Z _ _ hx2 (by decide), z4n _ _ (Nat.and_lt_two_pow _ (by decide)) (Nat.and_lt_two_pow _ hp), Nat.and_zero, Nat.zero_or]
    rw [Nat.testBit_two_pow_mul_add _ hx2, if_neg c, Bool.eq_iff_iff, ← z3h, bne_iff_ne]
    exact ⟨fun h e => h (by rw [e]), fun h e => h (by exact_mod_cast e)⟩
theorem Has_ev (x : E) (n : Nat) (hn : n < 128) : Ev (fun k => z12.f k (hi x) (lo x) (n : Int)) ((val x).testBit n) := by
  unfold z12.f
  exact Ev.bnd (z5h n hn) (Ev.ret' (hasBits x n hn))
theorem and_one (n j : Nat) (hn : n < 2 ^ 63) (hj : j ≤ 64) : Go.bits .and .i64 (shr .i64 (n : Int) (j : Int)) 1 = (((n / 2 ^ j) % 2 : Nat) : Int) := by
  rw [shr_i64 n j hj]
  have := z3E (n / 2 ^ j) 1 (Nat.lt_of_le_of_lt (Nat.div_le_self _ _) hn) (by decide)
  simpa using this
theorem prod_l1 (a b acc : E) (n : Nat) (hn : n < 128) {R : Int × Int} (hk : Ev (fun k => zk.l0 k ((n + 1 : Nat) : Int) (hi a) (lo a) (hi b) (lo b) (hi (acc + gp 7 7 n * a)) (lo (acc + gp 7 7 n * a))) R) :
    ∀ (d j : Nat), j + d = 7 → Ev (fun k => zk.l1 k (n : Int) (j : Int) (hi a) (lo a) (hi b) (lo b) (hi acc) (lo acc) (hi (gp 7 j n * a)) (lo (gp 7 j n * a))) R := by
  intro d
  induction d with
  | zero =>
    intro j hj
    have : j = 7 := by omega
    subst this
    refine Ev.step (fun k => by rw [zk.l1]) (Ev.neg (by decide) (Ev.bnd0 (z3Q acc _) ?_))
    simp only [z1A hn (by decide)]
    exact hk
  | succ d ih =>
    intro j hj
    have hu : IntKind.u64.wrap (j : Int) = (j : Int) := z2d (by omega) (by omega)
    have hih := ih (j + 1) (by omega)
    refine Ev.step (fun k => by rw [zk.l1]) (Ev.pos (by omega) ?_)
    simp only [hu, and_one n j (Nat.lt_trans hn (by decide)) (by omega), z1A (show j < 7 by omega) (by decide)]
    refine Ev.pos (Int.natCast_nonneg _) ?_
    have hgp : gp 7 (j + 1) n = (if n.testBit j then of 7 (val (gen (j + 1))) else 1) * gp 7 j n := rfl
    have htb : n.testBit j = decide ((n / 2 ^ j) % 2 = 1) := by rw [Nat.testBit_eq_decide_div_mod_eq]
    by_cases c : (n / 2 ^ j) % 2 = 1
    · refine Ev.pos (by omega) (Ev.bnd (Times_ev j (by omega) _) ?_)
      rw [hgp, htb, decide_eq_true c, if_pos rfl, mul_assoc] at hih
      exact hih
    · refine Ev.neg (by omega) ?_
      rw [hgp, htb, decide_eq_false c, if_neg (by decide), one_mul] at hih
      exact hih
theorem prod_l0 (a b : E) : ∀ (d n : Nat), n + d = 128 → Ev (fun k => zk.l0 k (n : Int) (hi a) (lo a) (hi b) (lo b) (hi (of 7 (val b % 2 ^ n) * a)) (lo (of 7 (val b % 2 ^ n) * a))) (hi (b * a), lo (b * a)) := by
  intro d
  induction d with
  | zero =>
    intro n hn
    have : n = 128 := by omega
    subst this
    have hb : val b % 2 ^ 128 = val b := Nat.mod_eq_of_lt (by have := z1g b; rw [z4N] at this; exact this)
    rw [hb, z1C]
    exact Ev.step (fun k => by rw [zk.l0]) (Ev.neg (by decide) (Ev.ret _))
  | succ d ih =>
    intro n hn
    have hn' : n < 128 := by omega
    have hih := ih (n + 1) (by omega)
    rw [bits_sum (val b) n (z1g b) (by simpa using hn')] at hih
    refine Ev.step (fun k => by rw [zk.l0]) (Ev.pos (by omega) (Ev.bnd (Has_ev b n hn') ?_))
    cases c : (val b).testBit n with
    | true =>
      refine Ev.pos rfl ?_
      rw [c, if_pos rfl, add_mul, ← gp_bit 7 n (by simpa using hn')] at hih
      have := prod_l1 a b _ n hn' hih 7 0 (by omega)
      have e0 : gp 7 0 n * a = a := one_mul a
      rw [e0] at this
      exact this
    | false =>
      refine Ev.neg (by decide) ?_
      rw [c, if_neg (by decide), add_zero] at hih
      simp only [z1A hn' (by decide)]
      exact hih
theorem z4x (x y : E) : Ev (fun k => zk.f k (hi x) (lo x) (hi y) (lo y)) (hi (x * y), lo (x * y)) := by
  unfold zk.f
  have := prod_l0 x y 128 0 (by decide)
  rw [Nat.pow_zero, Nat.mod_one, z2j, zero_mul, z28, z29, mul_comm y x] at this
  exact this
end Go.Proofs.Ytngcaphdkgihmaa.Sp
namespace Go.Proofs.Ytngcaphdkgihmaa.P
open Go.RowKit Go.Proofs.YtngcaphdkgihmaaW.PrintWords Go.Proofs.YtngcaphdkgihmaaW.PrintLast Go.Proofs.YtngcaphdkgihmaaW.PrintMore
attribute [local go_sem] z14 z16 z1b z1c z10 z11 z15 z17   -- for this text's walks alone
set_option linter.unusedVariables false
set_option linter.unusedSimpArgs false
def z1l.l0 : Nat → Int → List (S87) → Int → Int → Option (Bool)
 | 0,_,_,_,_=>none
 | k + 1,x1,x7,x8,x9=>if x9 < x8 then (if 0 ≤ x9 then (if x9 < (x7.length : Int) then (if ((zd x7 x9).f0) = 2 then (if ((zd x7 x9).f1) = x1 then (some true) else (z1l.l0 k x1 x7 x8 (wrap64 (x9 + 1)))) else (z1l.l0 k x1 x7 x8 (wrap64 (x9 + 1)))) else (none)) else (none)) else (some false)
def z1l.f (k : Nat) (l0 : List (S87)) (a1 : Int) : Option (Bool):=z1l.l0 k a1 l0 (l0.length : Int) 0
theorem z1l.z18 : ∀ k,(∀ y0 y1 y2 y3,LeO (z1l.l0 k y0 y1 y2 y3) (z1l.l0 (k + 1) y0 y1 y2 y3))
 | 0=>fun _ _ _ _ r h=>by simp [z1l.l0] at h
 | k + 1=>by
  have ih0:=z1l.z18 k
  · intro y0 y1 y2 y3
    unfold z1l.l0
    repeat' first
    | (with_reducible exact ih0 _ _ _ _)
    | (with_reducible exact LeO.refl _)
    | (with_reducible exact LeO.none _)
    | (with_reducible refine LeO.ite ?_ ?_)
    | (with_reducible refine LeO.bind ?_ (fun _=>?_))
    | exact ih0 _ _ _ _
    | exact LeO.none _
    | refine LeO.ite ?_ ?_
    | refine LeO.bind ?_ (fun _=>?_)
theorem z1l.mono : ∀ a0 a1 k,LeO (z1l.f k a0 a1) (z1l.f (k + 1) a0 a1):=by
 intro a0 a1 k
 have ih0:=z1l.z18 k
 unfold z1l.f
 repeat' first
  | (with_reducible exact ih0 _ _ _ _)
  | (with_reducible exact LeO.refl _)
  | (with_reducible exact LeO.none _)
  | (with_reducible refine LeO.ite ?_ ?_)
  | (with_reducible refine LeO.bind ?_ (fun _=>?_))
  | exact ih0 _ _ _ _
  | exact LeO.none _
  | refine LeO.ite ?_ ?_
  | refine LeO.bind ?_ (fun _=>?_)
set_option maxHeartbeats 8000000 in
set_option maxRecDepth 100000 in
theorem z1l.calls (k : Nat) (A0 : Option Addr) (c0 : Nat) (l0 : List (S87)) (a1 : Int) (r : Bool) (w : World) (hr0 : Kd.C k87 w A0 l0.length l0) (hc0 : l0.length ≤ c0) (h : z1l.f k l0 a1 = some r) :
 Calls Try.prog 58 #[.slice A0 l0.length c0,.int .i64 a1] w fun e w'=>e = .returned (.bool r) ∧ Below w.heap.size w w':=by
 have hu87:=Try.underlying87
 have HR0:=z7.mk hr0
 have HC0:=z7.mk hc0
 clear hr0 hc0
 have HB:=z7.mk (Below.refl w.heap.size w)
 have H : (z1l.l0 k a1 l0 (l0.length : Int) 0) = some r:=h
 clear h
 have H':=z7.mk H
 clear H
 go_enter Try.func58,Try.ntmps58
 go_wp2
 go_loopg [9] k (fun kq v9 w'=>∃ (x9_1 : Int),v9 = .int .i64 x9_1 ∧ z7 (z1l.l0 kq a1 l0 (l0.length : Int) x9_1 = some r) ∧ z7 (kq ≤ k) ∧ z7 (Below w.heap.size w w'))
 case atStart=>exact ⟨(0),(by first|rfl|(simp;done)|(simp [*];done)),H',⟨Nat.le_refl _⟩,⟨by repeat (first|(with_reducible first|exact HB.out|apply z4|apply z0|apply z3)|exact HB.out)⟩⟩
 case round =>
  clear H'
  (try clear p2)
  obtain ⟨x9_1,rfl,HA,HK1,HB⟩:=hrel
  cases gk with
  | zero=>exact absurd HA.out (by simp [z1l.l0])
  | succ k1 =>
   have H:=HA.out
   clear HA
   simp only [z1l.l0] at H
   by_cases c3 : x9_1 < (l0.length : Int)
   rotate_left
   · rw [if_neg c3] at H
     have c3b0 : decide (x9_1 < (l0.length : Int)) = false:=decide_eq_false c3
     clear c3
     obtain rfl:=Option.some.inj H
     go_wp2
     go_ret
     exact ⟨by first|rfl|(simp [zl,zm] <;> rfl)|(simp [*,zl,zm] <;> rfl),by repeat (first|(with_reducible first|exact HB.out|apply z4|apply z0|apply z3)|exact HB.out)⟩
   rw [if_pos c3] at H
   have c3b0 : decide (x9_1 < (l0.length : Int)) = true:=decide_eq_true c3
   clear c3
   by_cases c4 : 0 ≤ x9_1
   rotate_left
   · rw [if_neg c4] at H
     exact absurd H (by simp)
   rw [if_pos c4] at H
   have c4b0 : decide (0 ≤ x9_1) = true:=decide_eq_true c4
   clear c4
   by_cases c5 : x9_1 < (l0.length : Int)
   rotate_left
   · rw [if_neg c5] at H
     exact absurd H (by simp)
   rw [if_pos c5] at H
   have c5b0 : decide (x9_1 < (l0.length : Int)) = true:=decide_eq_true c5
   clear c5
   by_cases c6 : ((zd l0 x9_1).f0) = 2
   rotate_left
   · rw [if_neg c6] at H
     have c6b0 : (((zd l0 x9_1).f0) == 2) = false:=beq_eq_false_iff_ne.mpr c6
     have c6b1 : (((zd l0 x9_1).f0) != 2) = true:=bne_iff_ne.mpr c6
     have H':=z7.mk H
     clear H
     have p101 : 0 ≤ (x9_1 : Int):=of_decide_eq_true (by first|(with_reducible assumption)|assumption)
     have q101 : x9_1 < (l0.length : Int):=of_decide_eq_true (by first|(with_reducible assumption)|assumption)
     obtain ⟨ad101,e101,hx101_0,hx101_1,hx101_2,hx101_3,hx101_4⟩:=z22 HR0.out x9_1 p101 q101
     cases e101
     replace hx101_0:=(HB.out.cell (World.block_lt_of_cell? w _ hx101_0)).trans hx101_0
     replace hx101_1:=(HB.out.cell (World.block_lt_of_cell? w _ hx101_1)).trans hx101_1
     replace hx101_2:=(HB.out.cell (World.block_lt_of_cell? w _ hx101_2)).trans hx101_2
     replace hx101_3:=(HB.out.cell (World.block_lt_of_cell? w _ hx101_3)).trans hx101_3
     replace hx101_4:=(HB.out.cell (World.block_lt_of_cell? w _ hx101_4)).trans hx101_4
     replace p101:=eq_true p101
     replace q101:=eq_true q101
     go_wp2_with (first|((with_reducible refine zM (N:=6) rfl ?_);refine zI ?hg (N:=6) ?hd (cs:=#[.int .i64 0,.int .i64 0,.int .i64 0,.int .u64 0,.int .u64 0]) (t:=87) ?hr ?_;(case hd=>rfl);(case hg=>rfl);(case hr=>first|(go_simp;done)|(go_simp;rfl));intro gb102 hg w12 hbox hb;have n0_:=z7.mk (zi (by repeat (first|(with_reducible first|exact HB.out|apply z4|apply z0|apply z3)|exact HB.out)) hb);have n1_:=z7.mk (hbox);have n2_:=z7.mk ((by rw [hg];exact (zf (by repeat (first|(with_reducible first|exact HB.out|apply z4|apply z0|apply z3)|exact HB.out))) : w.heap.size ≤ gb102));have n3_:=z7.mk ((by rw [hg];exact (zf (by repeat (first|(with_reducible first|exact HB.out|apply z4|apply z0|apply z3)|exact HB.out))) : w.heap.size ≤ gb102));clear HB;have HB:=n0_;have BK102:=n1_;have GW102:=n2_;have GE102:=n3_;clear n0_ n1_ n2_ n3_;clear hb hbox hg;have hcz13_0 : w12.cell? ⟨gb102,0,none⟩ = some (.int .i64 0):=(zb BK102.out 0).trans rfl;have hcz13_1 : w12.cell? ⟨gb102,1,none⟩ = some (.int .i64 0):=(zb BK102.out 1).trans rfl;have hcz13_2 : w12.cell? ⟨gb102,2,none⟩ = some (.int .i64 0):=(zb BK102.out 2).trans rfl;have hcz13_3 : w12.cell? ⟨gb102,3,none⟩ = some (.int .u64 0):=(zb BK102.out 3).trans rfl;have hcz13_4 : w12.cell? ⟨gb102,4,none⟩ = some (.int .u64 0):=(zb BK102.out 4).trans rfl;have hfz13_0:=z9 BK102.out 0;have hfz13_1:=z9 BK102.out 1;have hfz13_2:=z9 BK102.out 2;have hfz13_3:=z9 BK102.out 3;have hfz13_4:=z9 BK102.out 4))
     go_roundg k1
     case measure=>have:=HK1.out;omega
     case rel=>exact ⟨(wrap64 (x9_1 + 1)),(by first|rfl|(simp;done)|(simp [*];done)),H',⟨by have:=HK1.out;omega⟩,⟨by repeat (first|(with_reducible first|exact HB.out|apply z4|apply z0|apply z3|refine z8 ?_ GE102.out)|exact HB.out)⟩⟩
   rw [if_pos c6] at H
   have c6b0 : (((zd l0 x9_1).f0) == 2) = true:=beq_iff_eq.mpr c6
   have c6b1 : (((zd l0 x9_1).f0) != 2) = false:=bne_eq_false_iff_eq.mpr c6
   clear c6
   by_cases c7 : ((zd l0 x9_1).f1) = a1
   · rw [if_pos c7] at H
     have c7b0 : (((zd l0 x9_1).f1) == a1) = true:=beq_iff_eq.mpr c7
     have c7b1 : (((zd l0 x9_1).f1) != a1) = false:=bne_eq_false_iff_eq.mpr c7
     clear c7
     obtain rfl:=Option.some.inj H
     have p101 : 0 ≤ (x9_1 : Int):=of_decide_eq_true (by first|(with_reducible assumption)|assumption)
     have q101 : x9_1 < (l0.length : Int):=of_decide_eq_true (by first|(with_reducible assumption)|assumption)
     obtain ⟨ad101,e101,hx101_0,hx101_1,hx101_2,hx101_3,hx101_4⟩:=z22 HR0.out x9_1 p101 q101
     cases e101
     replace hx101_0:=(HB.out.cell (World.block_lt_of_cell? w _ hx101_0)).trans hx101_0
     replace hx101_1:=(HB.out.cell (World.block_lt_of_cell? w _ hx101_1)).trans hx101_1
     replace hx101_2:=(HB.out.cell (World.block_lt_of_cell? w _ hx101_2)).trans hx101_2
     replace hx101_3:=(HB.out.cell (World.block_lt_of_cell? w _ hx101_3)).trans hx101_3
     replace hx101_4:=(HB.out.cell (World.block_lt_of_cell? w _ hx101_4)).trans hx101_4
     replace p101:=eq_true p101
     replace q101:=eq_true q101
     go_wp2_with (first|((with_reducible refine zM (N:=6) rfl ?_);refine zI ?hg (N:=6) ?hd (cs:=#[.int .i64 0,.int .i64 0,.int .i64 0,.int .u64 0,.int .u64 0]) (t:=87) ?hr ?_;(case hd=>rfl);(case hg=>rfl);(case hr=>first|(go_simp;done)|(go_simp;rfl));intro gb102 hg w8 hbox hb;have n0_:=z7.mk (zi (by repeat (first|(with_reducible first|exact HB.out|apply z4|apply z0|apply z3)|exact HB.out)) hb);have n1_:=z7.mk (hbox);have n2_:=z7.mk ((by rw [hg];exact (zf (by repeat (first|(with_reducible first|exact HB.out|apply z4|apply z0|apply z3)|exact HB.out))) : w.heap.size ≤ gb102));have n3_:=z7.mk ((by rw [hg];exact (zf (by repeat (first|(with_reducible first|exact HB.out|apply z4|apply z0|apply z3)|exact HB.out))) : w.heap.size ≤ gb102));clear HB;have HB:=n0_;have BK102:=n1_;have GW102:=n2_;have GE102:=n3_;clear n0_ n1_ n2_ n3_;clear hb hbox hg;have hcz9_0 : w8.cell? ⟨gb102,0,none⟩ = some (.int .i64 0):=(zb BK102.out 0).trans rfl;have hcz9_1 : w8.cell? ⟨gb102,1,none⟩ = some (.int .i64 0):=(zb BK102.out 1).trans rfl;have hcz9_2 : w8.cell? ⟨gb102,2,none⟩ = some (.int .i64 0):=(zb BK102.out 2).trans rfl;have hcz9_3 : w8.cell? ⟨gb102,3,none⟩ = some (.int .u64 0):=(zb BK102.out 3).trans rfl;have hcz9_4 : w8.cell? ⟨gb102,4,none⟩ = some (.int .u64 0):=(zb BK102.out 4).trans rfl;have hfz9_0:=z9 BK102.out 0;have hfz9_1:=z9 BK102.out 1;have hfz9_2:=z9 BK102.out 2;have hfz9_3:=z9 BK102.out 3;have hfz9_4:=z9 BK102.out 4))
     go_ret
     exact ⟨by first|rfl|(simp [zl,zm] <;> rfl)|(simp [*,zl,zm] <;> rfl),by repeat (first|(with_reducible first|exact HB.out|apply z4|apply z0|apply z3|refine z8 ?_ GE102.out)|exact HB.out)⟩
   rw [if_neg c7] at H
   have c7b0 : (((zd l0 x9_1).f1) == a1) = false:=beq_eq_false_iff_ne.mpr c7
   have c7b1 : (((zd l0 x9_1).f1) != a1) = true:=bne_iff_ne.mpr c7
   have H':=z7.mk H
   clear H
   have p101 : 0 ≤ (x9_1 : Int):=of_decide_eq_true (by first|(with_reducible assumption)|assumption)
   have q101 : x9_1 < (l0.length : Int):=of_decide_eq_true (by first|(with_reducible assumption)|assumption)
   obtain ⟨ad101,e101,hx101_0,hx101_1,hx101_2,hx101_3,hx101_4⟩:=z22 HR0.out x9_1 p101 q101
   cases e101
   replace hx101_0:=(HB.out.cell (World.block_lt_of_cell? w _ hx101_0)).trans hx101_0
   replace hx101_1:=(HB.out.cell (World.block_lt_of_cell? w _ hx101_1)).trans hx101_1
   replace hx101_2:=(HB.out.cell (World.block_lt_of_cell? w _ hx101_2)).trans hx101_2
   replace hx101_3:=(HB.out.cell (World.block_lt_of_cell? w _ hx101_3)).trans hx101_3
   replace hx101_4:=(HB.out.cell (World.block_lt_of_cell? w _ hx101_4)).trans hx101_4
   replace p101:=eq_true p101
   replace q101:=eq_true q101
   go_wp2_with (first|((with_reducible refine zM (N:=6) rfl ?_);refine zI ?hg (N:=6) ?hd (cs:=#[.int .i64 0,.int .i64 0,.int .i64 0,.int .u64 0,.int .u64 0]) (t:=87) ?hr ?_;(case hd=>rfl);(case hg=>rfl);(case hr=>first|(go_simp;done)|(go_simp;rfl));intro gb102 hg w10 hbox hb;have n0_:=z7.mk (zi (by repeat (first|(with_reducible first|exact HB.out|apply z4|apply z0|apply z3)|exact HB.out)) hb);have n1_:=z7.mk (hbox);have n2_:=z7.mk ((by rw [hg];exact (zf (by repeat (first|(with_reducible first|exact HB.out|apply z4|apply z0|apply z3)|exact HB.out))) : w.heap.size ≤ gb102));have n3_:=z7.mk ((by rw [hg];exact (zf (by repeat (first|(with_reducible first|exact HB.out|apply z4|apply z0|apply z3)|exact HB.out))) : w.heap.size ≤ gb102));clear HB;have HB:=n0_;have BK102:=n1_;have GW102:=n2_;have GE102:=n3_;clear n0_ n1_ n2_ n3_;clear hb hbox hg;have hcz11_0 : w10.cell? ⟨gb102,0,none⟩ = some (.int .i64 0):=(zb BK102.out 0).trans rfl;have hcz11_1 : w10.cell? ⟨gb102,1,none⟩ = some (.int .i64 0):=(zb BK102.out 1).trans rfl;have hcz11_2 : w10.cell? ⟨gb102,2,none⟩ = some (.int .i64 0):=(zb BK102.out 2).trans rfl;have hcz11_3 : w10.cell? ⟨gb102,3,none⟩ = some (.int .u64 0):=(zb BK102.out 3).trans rfl;have hcz11_4 : w10.cell? ⟨gb102,4,none⟩ = some (.int .u64 0):=(zb BK102.out 4).trans rfl;have hfz11_0:=z9 BK102.out 0;have hfz11_1:=z9 BK102.out 1;have hfz11_2:=z9 BK102.out 2;have hfz11_3:=z9 BK102.out 3;have hfz11_4:=z9 BK102.out 4))
   go_roundg k1
   case measure=>have:=HK1.out;omega
   case rel=>exact ⟨(wrap64 (x9_1 + 1)),(by first|rfl|(simp;done)|(simp [*];done)),H',⟨by have:=HK1.out;omega⟩,⟨by repeat (first|(with_reducible first|exact HB.out|apply z4|apply z0|apply z3|refine z8 ?_ GE102.out)|exact HB.out)⟩⟩
end Go.Proofs.Ytngcaphdkgihmaa.P
/- Expressions: their degrees, what is wrong with them, their values; the program's and the document's. Own text. -/
namespace Go.Proofs.Ytngcaphdkgihmaa.Sp
open Go.RowKit Go.Proofs.YtngcaphdkgihmaaW.PrintWords Go.Proofs.YtngcaphdkgihmaaW.PrintMore Go.Proofs.Ytngcaphdkgihmaa.P Go.Proofs.Ytngcaphdkgihmaa.Ar Go.Proofs.Ytngcaphdkgihmaa.Tw
set_option linter.unusedVariables false
set_option linter.unusedSimpArgs false
/-- A step. -/
structure St where
  k : Int
  a : Int
  b : Int
  v : E
def st0 : St := ⟨0, 0, 0, 0⟩
def toP (o : St) : S87 := ⟨o.k, o.a, o.b, toS o.v⟩
def toD (o : St) : S114 := ⟨o.k, o.a, o.b, toR o.v⟩
theorem z5p (o : St) : (toP o).f0 = o.k := rfl
theorem z5q (o : St) : (toP o).f1 = o.a := rfl
theorem z5r (o : St) : (toP o).f2 = o.b := rfl
theorem z47 (o : St) : (toP o).f3.f0 = hi o.v := rfl
theorem z48 (o : St) : (toP o).f3.f1 = lo o.v := rfl
theorem z3R (o : St) : (toD o).f0 = o.k := rfl
theorem z4s (o : St) : (toD o).f1 = o.a := rfl
theorem z5m (o : St) : (toD o).f2 = o.b := rfl
theorem z5n (o : St) : (toD o).f3.f0 = hi o.v := rfl
theorem z5o (o : St) : (toD o).f3.f1 = lo o.v := rfl
theorem rdP (X : List St) (i : Nat) : zd (X.map toP) (i : Int) = toP (X.getD i st0) := by
  unfold zd
  have : toP st0 = z87 := by unfold toP st0; simp only [z4u]; rfl
  rw [Int.toNat_natCast, ← this, List.getD_eq_getElem?_getD, List.getD_eq_getElem?_getD, List.getElem?_map]
  cases X[i]? <;> rfl
theorem rdD (X : List St) (i : Nat) : za (X.map toD) (i : Int) = toD (X.getD i st0) := by
  unfold za
  have : toD st0 = z114 := by unfold toD st0; simp only [z4t]; rfl
  rw [Int.toNat_natCast, ← this, List.getD_eq_getElem?_getD, List.getD_eq_getElem?_getD, List.getElem?_map]
  cases X[i]? <;> rfl
theorem steps_of (l : List S87) (h : ∀ e ∈ l, ((Lit.int .i64 e.f0).wf = true) ∧ ((Lit.int .i64 e.f1).wf = true) ∧ ((Lit.int .i64 e.f2).wf = true) ∧ (((Lit.int .u64 e.f3.f0).wf = true) ∧ ((Lit.int .u64 e.f3.f1).wf = true))) : ∃ X : List St, l = X.map toP := by
  refine ⟨l.map fun e => ⟨e.f0, e.f1, e.f2, el e.f3.f0 e.f3.f1⟩, ?_⟩
  rw [List.map_map]
  conv => lhs; rw [← List.map_id l]
  apply List.map_congr_left
  intro e he
  have := (z5s e.f3 (wf_of (h e he).2.2.2)).symm
  show e = toP ⟨e.f0, e.f1, e.f2, el e.f3.f0 e.f3.f1⟩
  unfold toP
  rw [← this]
/-- A list that grows by what a step says of what is there. -/
def grow {β : Type} (f : St → List β → β) : List St → List β → List β
  | [], l => l
  | o :: t, l => grow f t (l ++ [f o l])
def G {β : Type} (f : St → List β → β) (X : List St) : List β := grow f X []
theorem z3J {β : Type} (f : St → List β → β) : ∀ (X : List St) (o : St) (l : List β), grow f (X ++ [o]) l = grow f X l ++ [f o (grow f X l)]
  | [], o, l => rfl
  | p :: t, o, l => z3J f t o (l ++ [f p l])
theorem z5l {X : List St} {i : Nat} (h : i < X.length) : X.take (i + 1) = X.take i ++ [X.getD i st0] := by
  rw [List.take_succ_eq_append_getElem h]
  have : X.getD i st0 = X[i] := by rw [List.getD_eq_getElem?_getD, List.getElem?_eq_getElem h]; rfl
  rw [this]
theorem G_nil {β : Type} (f : St → List β → β) (X : List St) : G f (X.take 0) = [] := rfl
theorem z2N {β : Type} (f : St → List β → β) {X : List St} {i : Nat} (h : i < X.length) : G f (X.take (i + 1)) = G f (X.take i) ++ [f (X.getD i st0) (G f (X.take i))] := by
  rw [z5l h]; exact z3J f _ _ _
theorem z1z {β : Type} (f : St → List β → β) {X : List St} : ∀ {i : Nat}, i ≤ X.length → (G f (X.take i)).length = i
  | 0, _ => rfl
  | i + 1, h => by rw [z2N f h, List.length_append, z1z f (Nat.le_of_succ_le h)]; rfl
theorem z4J {β : Type} (f : St → List β → β) (d : β) {X : List St} {i : Nat} (h : i < X.length) : (G f (X.take (i + 1))).getD i d = f (X.getD i st0) (G f (X.take i)) := by
  rw [z2N f h, List.getD_eq_getElem?_getD, List.getElem?_append_right (by rw [z1z f (Nat.le_of_lt h)]; exact Nat.le_refl _), z1z f (Nat.le_of_lt h), Nat.sub_self]; rfl
theorem G_mem {β : Type} (f : St → List β → β) (P : β → Prop) {X : List St} {n : Nat} (hn : n ≤ X.length) (h : ∀ i, i < n → (∀ y ∈ G f (X.take i), P y) → P (f (X.getD i st0) (G f (X.take i)))) : ∀ i, i ≤ n → ∀ y ∈ G f (X.take i), P y := by
  intro i
  induction i with
  | zero => intro _ y hy; cases hy
  | succ i ih =>
    intro hi y hy
    rw [z2N f (by omega)] at hy
    rcases List.mem_append.1 hy with h1 | h1
    · exact ih (by omega) y h1
    · rw [List.mem_singleton.1 h1]; exact h i (by omega) (ih (by omega))
/-- Are both of a step's ahead? -/
def AheadS (o : St) (i : Int) : Prop := 0 ≤ o.a ∧ o.a < i ∧ 0 ≤ o.b ∧ o.b < i
instance (o : St) (i : Int) : Decidable (AheadS o i) := by unfold AheadS; infer_instance
def degS (o : St) (ds : List Int) : Int := if o.k = 2 then 1 else if o.k = 3 then mx (rd ds o.a) (rd ds o.b) else if o.k = 4 then rd ds o.a + rd ds o.b else 0
def FormS (o : St) (i : Int) : Prop := (o.k = 1 ∧ o.a = 0 ∧ o.b = 0) ∨ (o.k = 2 ∧ o.b = 0 ∧ o.v = 0) ∨ ((o.k = 3 ∨ o.k = 4) ∧ o.v = 0 ∧ AheadS o i)
instance (o : St) (i : Int) : Decidable (FormS o i) := by unfold FormS; infer_instance
/-- What is wrong with a step, but for its degree. -/
def err0S (L vars : Int) (o : St) (i : Int) : Int := if FormS o i then (if o.k = 1 ∧ ¬ OfS L o.v then 5 else if o.k = 2 ∧ (o.a < 0 ∨ o.a ≥ vars) then 4 else 0) else 3
def errS (L vars : Int) (o : St) (ds : List Int) : Int := if err0S L vars o (ds.length : Int) = 0 then (if degS o ds > 8 then 7 else 0) else err0S L vars o (ds.length : Int)
def chkS (L vars : Int) : List St → List Int → List Int × Int
  | [], ds => (ds, 0)
  | o :: t, ds => if errS L vars o ds = 0 then chkS L vars t (ds ++ [degS o ds]) else ([], errS L vars o ds)
def checkS (L vars : Int) (X : List St) : List Int × Int := if ¬ LvS L ∨ vars < 0 then ([], 1) else if X.length = 0 then ([], 3) else if X.length > 200 then ([], 2) else chkS L vars X []
def Small (ds : List Int) : Prop := ∀ d ∈ ds, 0 ≤ d ∧ d ≤ 8
theorem z2n {ds : List Int} (h : Small ds) (i : Int) : 0 ≤ rd ds i ∧ rd ds i ≤ 8 := by
  unfold rd; rw [List.getD_eq_getElem?_getD]
  cases e : ds[i.toNat]? with
  | none => exact ⟨by decide, by decide⟩
  | some d => exact h d (List.mem_of_getElem? e)
theorem z4X {ds : List Int} (h : Small ds) (o : St) : 0 ≤ degS o ds ∧ degS o ds ≤ 16 := by
  have h1 := z2n h o.a
  have h2 := z2n h o.b
  unfold degS mx
  split
  · omega
  split
  · split <;> omega
  split <;> omega
theorem z49 (o : St) (i : Int) (x y : Int) : z1n.f o.k o.a o.b x y i = some (decide (AheadS o i)) := by
  have ht : AheadS o i → decide (AheadS o i) = true := decide_eq_true
  have hf : ¬ AheadS o i → decide (AheadS o i) = false := decide_eq_false
  unfold z1n.f
  by_cases h1 : o.a ≥ 0
  · rw [if_pos h1]
    by_cases h2 : o.a < i
    · rw [if_pos h2]
      by_cases h3 : o.b ≥ 0
      · rw [if_pos h3]
        by_cases h4 : o.b < i
        · rw [decide_eq_true h4, ht ⟨h1, h2, h3, h4⟩]
        · rw [decide_eq_false h4, hf (fun h => h4 h.2.2.2)]
      · rw [if_neg h3, hf (fun h => h3 h.2.2.1)]
    · rw [if_neg h2, hf (fun h => h2 h.2.1)]
  · rw [if_neg h1, hf (fun h => h1 h.1)]
/-- What step tells. -/
def stepS (L vars : Int) (o : St) (ds : List Int) : Int × Int := if err0S L vars o (ds.length : Int) = 0 then (degS o ds, 0) else (0, err0S L vars o (ds.length : Int))
theorem z2v {L vars : Int} {o : St} {i : Int} (h : FormS o i) : err0S L vars o i = if o.k = 1 ∧ ¬ OfS L o.v then 5 else if o.k = 2 ∧ (o.a < 0 ∨ o.a ≥ vars) then 4 else 0 := if_pos h
theorem z2o {L vars : Int} {o : St} {ds : List Int} (h : ¬ FormS o (ds.length : Int)) : stepS L vars o ds = (0, 3) := by
  unfold stepS err0S; rw [if_neg h]; rfl
theorem z46 (L vars : Int) (o : St) (ds : List Int) (hs : Small ds) (h1 : o.k ≠ 1) (h2 : o.k ≠ 2) (c : Bool) (hc : c = decide (o.k = 3 ∧ o.v = 0 ∧ AheadS o (ds.length : Int))) :
    Ev (fun q => zH.j2 q ds c o.k o.a o.b (hi o.v) (lo o.v) 0 0) (stepS L vars o ds) := by
  refine Ev.step (fun q => by rw [zH.j2]) ?_
  have hfo : FormS o (ds.length : Int) → stepS L vars o ds = (degS o ds, 0) := by
    intro hf
    have he := z2v (L := L) (vars := vars) hf
    rw [if_neg (show ¬ (o.k = 1 ∧ ¬ OfS L o.v) from fun h => h1 h.1), if_neg (show ¬ (o.k = 2 ∧ (o.a < 0 ∨ o.a ≥ vars)) from fun h => h2 h.1)] at he
    exact if_pos he
  by_cases e : o.k = 3 ∧ o.v = 0 ∧ AheadS o (ds.length : Int)
  · rw [decide_eq_true e] at hc
    have hA := e.2.2
    unfold AheadS at hA
    refine Ev.pos hc (Ev.pos hA.1 (Ev.pos hA.2.1 (Ev.pos hA.2.2.1 (Ev.pos hA.2.2.2 (Ev.ret' ?_)))))
    rw [hfo (Or.inr (Or.inr ⟨Or.inl e.1, e.2⟩))]
    unfold degS
    rw [if_neg h2, if_pos e.1]
  · rw [decide_eq_false e] at hc
    refine Ev.neg (by rw [hc]; decide) ?_
    by_cases h4 : o.k = 4
    · refine Ev.pos h4 ?_
      by_cases hv : o.v = 0
      · refine Ev.pos (by rw [z2H, decide_eq_true hv]) (Ev.bnd0 (z49 o _ _ _) ?_)
        by_cases hA : AheadS o (ds.length : Int)
        · have hA' := hA
          unfold AheadS at hA'
          refine Ev.pos (decide_eq_true hA) (Ev.pos hA'.1 (Ev.pos hA'.2.1 (Ev.pos hA'.2.2.1 (Ev.pos hA'.2.2.2 (Ev.ret' ?_)))))
          have r1 := z2n hs o.a
          have r2 := z2n hs o.b
          rw [hfo (Or.inr (Or.inr ⟨Or.inr h4, hv, hA⟩)), z2e (by omega) (by omega)]
          unfold degS
          rw [if_neg h2, if_neg (by omega), if_pos h4]
        · refine Ev.neg (by simpa using hA) (Ev.ret' ?_)
          rw [z2o]
          rintro (h | h | h)
          · exact h1 h.1
          · exact h2 h.1
          · exact hA h.2.2
      · refine Ev.neg (by rw [z2H, decide_eq_false hv]; decide) (Ev.ret' ?_)
        rw [z2o]
        rintro (h | h | h)
        · exact h1 h.1
        · exact h2 h.1
        · exact hv h.2.1
    · refine Ev.neg h4 (Ev.ret' ?_)
      rw [z2o]
      rintro (h | h | ⟨h | h, h'⟩)
      · exact h1 h.1
      · exact h2 h.1
      · exact e ⟨h, h'⟩
      · exact h4 h
theorem z45 (L vars : Int) (o : St) (ds : List Int) (hs : Small ds) (h1 : o.k ≠ 1 ∨ o.a ≠ 0 ∨ o.b ≠ 0) (c : Bool) (hc : c = decide (o.k = 2 ∧ o.b = 0 ∧ o.v = 0)) :
    Ev (fun q => zH.j1 q vars ds c o.k o.a o.b (hi o.v) (lo o.v) 0 0) (stepS L vars o ds) := by
  refine Ev.step (fun q => by rw [zH.j1]) ?_
  by_cases e : o.k = 2 ∧ o.b = 0 ∧ o.v = 0
  · rw [decide_eq_true e] at hc
    have hf : FormS o (ds.length : Int) := Or.inr (Or.inl e)
    have he := z2v (L := L) (vars := vars) hf
    rw [if_neg (by rintro ⟨h, _⟩; omega)] at he
    refine Ev.pos hc ?_
    by_cases ha : o.a < 0
    · refine Ev.pos ha (Ev.ret' ?_)
      rw [if_pos ⟨e.1, Or.inl ha⟩] at he
      unfold stepS; rw [he]; rfl
    · refine Ev.neg ha ?_
      by_cases hb : o.a ≥ vars
      · refine Ev.pos hb (Ev.ret' ?_)
        rw [if_pos ⟨e.1, Or.inr hb⟩] at he
        unfold stepS; rw [he]; rfl
      · refine Ev.neg hb (Ev.ret' ?_)
        rw [if_neg (by rintro ⟨_, h | h⟩ <;> omega)] at he
        unfold stepS degS; rw [he, if_pos rfl, if_pos e.1]
  · rw [decide_eq_false e] at hc
    refine Ev.neg (by rw [hc]; decide) ?_
    by_cases k1 : o.k = 1 ∨ o.k = 2
    · refine Ev.neg (by omega) (Ev.step (fun q => by rw [zH.j2]) (Ev.neg (by decide) (Ev.neg (by omega) (Ev.ret' ?_))))
      rw [z2o]
      rintro (h | h | ⟨h, _⟩)
      · omega
      · exact e h
      · omega
    · have k1' : o.k ≠ 1 := by omega
      have k2' : o.k ≠ 2 := by omega
      by_cases k3 : o.k = 3
      · refine Ev.pos k3 ?_
        by_cases hv : o.v = 0
        · refine Ev.pos (by rw [z2H, decide_eq_true hv]) (Ev.bnd0 (z49 o _ _ _) (z46 L vars o ds hs k1' k2' _ ?_))
          rw [decide_eq_decide]; exact ⟨fun h => ⟨k3, hv, h⟩, fun h => h.2.2⟩
        · refine Ev.neg (by rw [z2H, decide_eq_false hv]; decide) (z46 L vars o ds hs k1' k2' _ ?_)
          symm; rw [decide_eq_false_iff_not]; exact fun h => hv h.2.1
      · refine Ev.neg k3 (z46 L vars o ds hs k1' k2' _ ?_)
        symm; rw [decide_eq_false_iff_not]; exact fun h => k3 h.1
theorem z44 (L vars : Int) (o : St) (ds : List Int) (hs : Small ds) (c : Bool) (hc : c = decide (o.k = 1 ∧ o.a = 0 ∧ o.b = 0)) :
    Ev (fun q => zH.j0 q L vars ds c o.k o.a o.b (hi o.v) (lo o.v) 0 0) (stepS L vars o ds) := by
  refine Ev.step (fun q => by rw [zH.j0]) ?_
  by_cases e : o.k = 1 ∧ o.a = 0 ∧ o.b = 0
  · rw [decide_eq_true e] at hc
    have hf : FormS o (ds.length : Int) := Or.inl e
    have he := z2v (L := L) (vars := vars) hf
    rw [show (if o.k = 2 ∧ (o.a < 0 ∨ o.a ≥ vars) then (4 : Int) else 0) = 0 from if_neg (by rintro ⟨h, _⟩; omega)] at he
    refine Ev.pos hc (Ev.bnd (z4D L o.v) ?_)
    by_cases hv : OfS L o.v
    · refine Ev.pos (decide_eq_true hv) (Ev.ret' ?_)
      rw [if_neg (fun h => h.2 hv)] at he
      unfold stepS degS; rw [he, if_pos rfl, if_neg (by omega), if_neg (by omega), if_neg (by omega)]
    · refine Ev.neg (by simpa using hv) (Ev.ret' ?_)
      rw [if_pos ⟨e.1, hv⟩] at he
      unfold stepS; rw [he]; rfl
  · rw [decide_eq_false e] at hc
    refine Ev.neg (by rw [hc]; decide) ?_
    have h1 : o.k ≠ 1 ∨ o.a ≠ 0 ∨ o.b ≠ 0 := by
      by_cases g1 : o.k = 1
      · by_cases g2 : o.a = 0
        · exact Or.inr (Or.inr fun g3 => e ⟨g1, g2, g3⟩)
        · exact Or.inr (Or.inl g2)
      · exact Or.inl g1
    by_cases k2 : o.k = 2
    · refine Ev.pos k2 ?_
      by_cases hb : o.b = 0
      · refine Ev.pos hb (z45 L vars o ds hs h1 _ ?_)
        rw [z2H, decide_eq_decide]; exact ⟨fun h => ⟨k2, hb, h⟩, fun h => h.2.2⟩
      · refine Ev.neg hb (z45 L vars o ds hs h1 _ ?_)
        symm; rw [decide_eq_false_iff_not]; exact fun h => hb h.2.1
    · refine Ev.neg k2 (z45 L vars o ds hs h1 _ ?_)
      symm; rw [decide_eq_false_iff_not]; exact fun h => k2 h.1
theorem step_ev (L vars : Int) (o : St) (ds : List Int) (hs : Small ds) : Ev (fun q => zH.f q L vars o.k o.a o.b (hi o.v) (lo o.v) ds) (stepS L vars o ds) := by
  unfold zH.f
  by_cases k1 : o.k = 1
  · refine Ev.pos k1 ?_
    by_cases ha : o.a = 0
    · refine Ev.pos ha (z44 L vars o ds hs _ ?_)
      rw [Bool.eq_iff_iff, beq_iff_eq, decide_eq_true_eq]; exact ⟨fun h => ⟨k1, ha, h⟩, fun h => h.2.2⟩
    · refine Ev.neg ha (z44 L vars o ds hs _ ?_)
      symm; rw [decide_eq_false_iff_not]; exact fun h => ha h.2.1
  · refine Ev.neg k1 (z44 L vars o ds hs _ ?_)
    symm; rw [decide_eq_false_iff_not]; exact fun h => k1 h.1
theorem z2u {X : List St} {i : Nat} (h : i < X.length) : X.drop i = X.getD i st0 :: X.drop (i + 1) := by
  rw [List.drop_eq_getElem_cons h]
  have : X.getD i st0 = X[i] := by rw [List.getD_eq_getElem?_getD, List.getElem?_eq_getElem h]; rfl
  rw [this]
theorem z4H {ds : List Int} {d : Int} (h : Small ds) (h0 : 0 ≤ d) (h8 : d ≤ 8) : Small (ds ++ [d]) := by
  intro x hx
  rcases List.mem_append.1 hx with h1 | h1
  · exact h x h1
  · rw [List.mem_singleton.1 h1]; exact ⟨h0, h8⟩
theorem z3k (L vars : Int) (X : List St) (ds : List Int) (d e : Int) (i : Nat) (c : Bool) (hX : X.length ≤ 1000000) (hl : ds.length ≤ 1000000) (hi' : i < X.length) (hc : c = decide (e = 0 ∧ d > 8)) (r : List Int × Int) (he : e ≠ 0 → r = ([], e)) (h7 : e = 0 → d > 8 → r = ([], 7))
    (ih : e = 0 → ¬ d > 8 → Ev (fun q => zu.l0 q L vars (ds ++ [d]) (X.map toP) ((X.length : Nat) : Int) ((i + 1 : Nat) : Int)) r) :
    Ev (fun q => zu.j2 q L vars ds d e (X.map toP) ((X.length : Nat) : Int) (i : Int) c) r := by
  refine Ev.step (fun q => by rw [zu.j2]) ?_
  by_cases g : e = 0 ∧ d > 8
  · rw [decide_eq_true g] at hc
    exact Ev.pos hc (Ev.ret' (h7 g.1 g.2).symm)
  · rw [decide_eq_false g] at hc
    refine Ev.neg (by rw [hc]; decide) ?_
    by_cases g0 : e = 0
    · refine Ev.pos g0 (Ev.pos (by omega) ?_)
      rw [z1A hi' (by omega)]
      exact ih g0 (fun h => g ⟨g0, h⟩)
    · exact Ev.neg g0 (Ev.ret' (he g0).symm)
theorem z4C (L vars : Int) (X : List St) (hX : X.length ≤ 1000000) : ∀ (d i : Nat) (ds : List Int), i + d = X.length → ds.length = i → Small ds → Ev (fun q => zu.l0 q L vars ds (X.map toP) ((X.length : Nat) : Int) (i : Int)) (chkS L vars (X.drop i) ds) := by
  intro d
  induction d with
  | zero =>
    intro i ds hi _ _
    refine Ev.step (fun q => by rw [zu.l0]) (Ev.neg (by omega) (Ev.ret' ?_))
    rw [List.drop_eq_nil_of_le (by omega)]; rfl
  | succ d ih =>
    intro i ds hi hl hs
    have hi' : i < X.length := by omega
    refine Ev.step (fun q => by rw [zu.l0]) (Ev.pos (by omega) (Ev.pos (Int.natCast_nonneg _) (Ev.pos (by rw [List.length_map]; omega) ?_)))
    simp only [rdP, z5p, z5q, z5r, z47, z48]
    refine Ev.bnd (step_ev L vars _ ds hs) ?_
    rw [z2u hi']
    have hb := z4X hs (X.getD i st0)
    by_cases e : err0S L vars (X.getD i st0) (ds.length : Int) = 0
    · have es : stepS L vars (X.getD i st0) ds = (degS (X.getD i st0) ds, 0) := if_pos e
      rw [es]
      refine Ev.pos (by rfl) (z3k L vars X ds _ _ i _ hX (by omega) hi' (by simp) _ (fun h => absurd rfl h) ?_ ?_)
      · intro _ h8
        have : errS L vars (X.getD i st0) ds = 7 := by unfold errS; rw [if_pos e, if_pos h8]
        unfold chkS; rw [this]; rfl
      · intro _ h8
        have : errS L vars (X.getD i st0) ds = 0 := by unfold errS; rw [if_pos e, if_neg h8]
        unfold chkS; rw [if_pos this]
        have h8' : degS (X.getD i st0) ds ≤ 8 := by
          have h8'' : ¬ (degS (X.getD i st0) ds > 8) := h8
          omega
        exact ih (i + 1) _ (by omega) (by rw [List.length_append, hl]; rfl) (z4H hs hb.1 h8')
    · have es : stepS L vars (X.getD i st0) ds = (0, err0S L vars (X.getD i st0) (ds.length : Int)) := if_neg e
      have er : errS L vars (X.getD i st0) ds = err0S L vars (X.getD i st0) (ds.length : Int) := if_neg e
      rw [es]
      refine Ev.neg e (z3k L vars X ds _ _ i _ hX (by omega) hi' ?_ _ ?_ (fun h => absurd h e) (fun h => absurd h e))
      · symm; rw [decide_eq_false_iff_not]; exact fun h => e h.1
      · intro _
        unfold chkS; rw [er, if_neg e]
theorem z4B (L vars : Int) (X : List St) : Ev (fun q => zu.f q L vars (X.map toP)) (checkS L vars X) := by
  unfold zu.f
  have hj : ∀ c : Bool, c = decide (¬ LvS L ∨ vars < 0) → Ev (fun q => zu.j0 q L vars (X.map toP) c) (checkS L vars X) := by
    intro c hc
    refine Ev.step (fun q => by rw [zu.j0]) ?_
    unfold checkS
    by_cases g : ¬ LvS L ∨ vars < 0
    · rw [if_pos g]; rw [decide_eq_true g] at hc
      exact Ev.pos hc (Ev.ret _)
    · rw [if_neg g]; rw [decide_eq_false g] at hc
      refine Ev.neg (by rw [hc]; decide) ?_
      rw [List.length_map]
      by_cases g0 : X.length = 0
      · rw [if_pos g0]; exact Ev.pos (by omega) (Ev.ret _)
      rw [if_neg g0]
      refine Ev.neg (by omega) ?_
      by_cases g2 : X.length > 200
      · rw [if_pos g2]; exact Ev.pos (by omega) (Ev.ret _)
      rw [if_neg g2]
      refine Ev.neg (by omega) ?_
      exact z4C L vars X (by omega) X.length 0 [] (by omega) rfl (fun d h => by cases h)
  by_cases g : LvS L
  · obtain ⟨v, hv, hw⟩ := wide_in g
    refine Ev.bnd hw (Ev.neg hv (hj _ ?_))
    rw [decide_eq_decide]; exact ⟨Or.inr, fun h => h.resolve_left (fun h => h g)⟩
  · refine Ev.bnd (wide_out g) (Ev.pos rfl (hj _ ?_))
    symm; rw [decide_eq_true_eq]; exact Or.inl g
theorem Check_ev (L vars : Int) (X : List St) : Ev (fun q => z1j.f q L vars (X.map toP)) (checkS L vars X).2 := by
  unfold z1j.f
  exact Ev.bnd (z4B L vars X) (Ev.ret _)
/-- Nothing is wrong up to a step. -/
def OkS (L vars : Int) (X : List St) (n : Nat) : Prop := ∀ i, i < n → errS L vars (X.getD i st0) (G degS (X.take i)) = 0
theorem z5d (L vars : Int) (X : List St) : OkS L vars X 0 := fun i h => by omega
theorem z5c {L vars : Int} {X : List St} {n : Nat} (h : OkS L vars X n) (h' : errS L vars (X.getD n st0) (G degS (X.take n)) = 0) : OkS L vars X (n + 1) := by
  intro i hi
  by_cases e : i = n
  · rw [e]; exact h'
  · exact h i (by omega)
theorem z2w {L vars : Int} {o : St} {ds : List Int} (h : errS L vars o ds = 0) : FormS o (ds.length : Int) ∧ degS o ds ≤ 8 ∧ (o.k = 1 → OfS L o.v) ∧ (o.k = 2 → 0 ≤ o.a ∧ o.a < vars) := by
  unfold errS at h
  by_cases e : err0S L vars o (ds.length : Int) = 0
  · rw [if_pos e] at h
    by_cases g : degS o ds > 8
    · rw [if_pos g] at h; exact absurd h (by decide)
    unfold err0S at e
    by_cases f : FormS o (ds.length : Int)
    · rw [if_pos f] at e
      by_cases f1 : o.k = 1 ∧ ¬ OfS L o.v
      · rw [if_pos f1] at e; exact absurd e (by decide)
      rw [if_neg f1] at e
      by_cases f2 : o.k = 2 ∧ (o.a < 0 ∨ o.a ≥ vars)
      · rw [if_pos f2] at e; exact absurd e (by decide)
      refine ⟨f, by omega, fun h1 => Decidable.not_not.1 (fun h2 => f1 ⟨h1, h2⟩), fun h1 => ?_⟩
      by_cases h2 : o.a < 0 ∨ o.a ≥ vars
      · exact absurd ⟨h1, h2⟩ f2
      · omega
    · rw [if_neg f] at e; exact absurd e (by decide)
  · rw [if_neg e] at h; exact absurd h e
theorem ok_small {L vars : Int} {X : List St} {n : Nat} (hn : n ≤ X.length) (h : OkS L vars X n) : Small (G degS (X.take n)) :=
  G_mem degS (fun d => 0 ≤ d ∧ d ≤ 8) hn (fun i hi hs => ⟨(z4X hs _).1, (z2w (h i hi)).2.1⟩) n (Nat.le_refl n)
theorem z1K {o : St} {i : Int} (h : FormS o i) (hk : o.k > 2) : AheadS o i := by
  rcases h with h | h | h
  · omega
  · omega
  · exact h.2.2
theorem z2x {o : St} {i : Int} (h : FormS o i) : o.k = 1 ∨ o.k = 2 ∨ o.k = 3 ∨ o.k = 4 := by
  rcases h with h | h | h <;> omega
/-- Where the check ends well, nothing is wrong, and the degrees are those of all steps. -/
theorem chk_ok {L vars : Int} {X : List St} : ∀ (d i : Nat), i + d = X.length → OkS L vars X i → (chkS L vars (X.drop i) (G degS (X.take i))).2 = 0 → OkS L vars X X.length ∧ (chkS L vars (X.drop i) (G degS (X.take i))).1 = G degS X := by
  intro d
  induction d with
  | zero =>
    intro i hi hk h
    have : i = X.length := by omega
    subst this
    rw [List.drop_eq_nil_of_le (Nat.le_refl _), List.take_of_length_le (Nat.le_refl _)]
    exact ⟨hk, rfl⟩
  | succ d ih =>
    intro i hi hk h
    have hi' : i < X.length := by omega
    rw [z2u hi'] at h ⊢
    unfold chkS at h ⊢
    by_cases e : errS L vars (X.getD i st0) (G degS (X.take i)) = 0
    · rw [if_pos e] at h ⊢
      rw [← z2N degS hi'] at h ⊢
      exact ih (i + 1) (by omega) (z5c hk e) h
    · rw [if_neg e] at h
      exact absurd h e
theorem z4b {L vars : Int} {X : List St} (h : (checkS L vars X).2 = 0) : LvS L ∧ 0 ≤ vars ∧ 0 < X.length ∧ X.length ≤ 200 ∧ OkS L vars X X.length ∧ (checkS L vars X).1 = G degS X := by
  unfold checkS at h ⊢
  by_cases g : ¬ LvS L ∨ vars < 0
  · rw [if_pos g] at h; exact absurd h (by decide)
  rw [if_neg g] at h ⊢
  by_cases g0 : X.length = 0
  · rw [if_pos g0] at h; exact absurd h (by decide)
  rw [if_neg g0] at h ⊢
  by_cases g2 : X.length > 200
  · rw [if_pos g2] at h; exact absurd h (by decide)
  rw [if_neg g2] at h ⊢
  have := chk_ok (L := L) (vars := vars) (X := X) X.length 0 (by omega) (z5d _ _ _) h
  exact ⟨Decidable.not_not.1 fun h => g (Or.inl h), by omega, by omega, by omega, this⟩
theorem chk_err {L vars : Int} : ∀ {X : List St} {ds : List Int}, (chkS L vars X ds).2 ≠ 0 → (chkS L vars X ds).1 = []
  | [], ds, h => absurd rfl h
  | o :: t, ds, h => by
    unfold chkS at h ⊢
    by_cases e : errS L vars o ds = 0
    · rw [if_pos e] at h ⊢; exact chk_err h
    · rw [if_neg e]
end Go.Proofs.Ytngcaphdkgihmaa.Sp
/- Expressions as the document checks and values them; the program's values. Own text. -/
namespace Go.Proofs.Ytngcaphdkgihmaa.Sp
open Go.RowKit Go.Proofs.YtngcaphdkgihmaaW.PrintWords Go.Proofs.YtngcaphdkgihmaaW.PrintMore Go.Proofs.Ytngcaphdkgihmaa.P Go.Proofs.Ytngcaphdkgihmaa.Ar Go.Proofs.Ytngcaphdkgihmaa.Tw
set_option linter.unusedVariables false
set_option linter.unusedSimpArgs false
theorem z3V (X : List St) (n : Nat) (hn : n < X.length) (hX : X.length ≤ 1000000) (hA : ∀ j, j ≤ n → (X.getD j st0).k > 2 → AheadS (X.getD j st0) (j : Int)) (hs : Small (G degS (X.take n))) (hsj : ∀ j, j ≤ n → Small (G degS (X.take j))) :
    ∀ (d j : Nat), j + d = n + 1 → Ev (fun q => zg.l0 q (X.map toD) (n : Int) (G degS (X.take j)) (j : Int)) (degS (X.getD n st0) (G degS (X.take n))) := by
  intro d
  induction d with
  | zero =>
    intro j hj
    have : j = n + 1 := by omega
    subst this
    refine Ev.step (fun q => by rw [zg.l0]) (Ev.neg (by omega) (Ev.pos (Int.natCast_nonneg _) (Ev.pos (by rw [z1z degS (by omega)]; omega) (Ev.ret' ?_))))
    unfold rd
    rw [Int.toNat_natCast]
    exact z4J degS 0 hn
  | succ d ih =>
    intro j hj
    have hj' : j < X.length := by omega
    have hl := z1z degS (X := X) (i := j) (by omega)
    have hih := ih (j + 1) (by omega)
    rw [z2N degS hj'] at hih
    have hm : ∀ v : Int, (v = if (X.getD j st0).k = 2 then 1 else 0) → Ev (fun q => zg.j1 q (X.map toD) (n : Int) (G degS (X.take j)) (j : Int) v) (degS (X.getD n st0) (G degS (X.take n))) := by
      intro v hv
      refine Ev.step (fun q => by rw [zg.j1]) (Ev.pos (Int.natCast_nonneg _) (Ev.pos (by rw [List.length_map]; omega) ?_))
      simp only [rdD, z3R, z4s, z5m, z1A hj' (show X.length ≤ 4611686018427387904 by omega)]
      have hA' := hA j (by omega)
      have hsm := hsj j (by omega)
      generalize hds : G degS (X.take j) = ds at *
      generalize X.getD j st0 = o at *
      unfold AheadS at hA'
      by_cases k3 : o.k = 3
      · have ha := hA' (by omega)
        have hdeg : degS o ds = mx (rd ds o.a) (rd ds o.b) := by unfold degS; rw [if_neg (by omega), if_pos k3]
        rw [hdeg] at hih
        refine Ev.pos k3 (Ev.pos ha.1 (Ev.pos (by omega) (Ev.pos ha.2.2.1 (Ev.pos (by omega) ?_))))
        by_cases g : rd ds o.b > rd ds o.a
        · refine Ev.pos g (Ev.neg (by omega) (Ev.pos (by omega) ?_))
          unfold mx at hih; rw [if_pos g] at hih; exact hih
        · refine Ev.neg g (Ev.neg (by omega) (Ev.pos (by omega) ?_))
          unfold mx at hih; rw [if_neg g] at hih; exact hih
      · refine Ev.neg k3 ?_
        by_cases k4 : o.k = 4
        · have ha := hA' (by omega)
          have r1 := z2n hsm o.a
          have r2 := z2n hsm o.b
          have hdeg : degS o ds = wrap64 (rd ds o.a + rd ds o.b) := by rw [z2e (by omega) (by omega)]; unfold degS; rw [if_neg (by omega), if_neg k3, if_pos k4]
          rw [hdeg] at hih
          exact Ev.pos k4 (Ev.pos ha.1 (Ev.pos (by omega) (Ev.pos ha.2.2.1 (Ev.pos (by omega) (Ev.pos (by omega) hih)))))
        · have hdeg : degS o ds = v := by
            rw [hv]; unfold degS; rw [if_neg k3, if_neg k4]
          rw [hdeg] at hih
          exact Ev.neg k4 (Ev.pos (by omega) hih)
    refine Ev.step (fun q => by rw [zg.l0]) (Ev.pos (by omega) (Ev.pos (Int.natCast_nonneg _) (Ev.pos (by rw [List.length_map]; omega) ?_)))
    simp only [rdD, z3R]
    by_cases k2 : (X.getD j st0).k = 2
    · exact Ev.pos k2 (hm 1 (by rw [if_pos k2]))
    · exact Ev.neg k2 (hm 0 (by rw [if_neg k2]))
theorem z3U (X : List St) (n : Nat) (hn : n < X.length) (hX : X.length ≤ 1000000) {L vars : Int} (ok : OkS L vars X n) (hA : (X.getD n st0).k > 2 → AheadS (X.getD n st0) (n : Int)) :
    Ev (fun q => zg.f q (X.map toD) (n : Int)) (degS (X.getD n st0) (G degS (X.take n))) := by
  unfold zg.f
  have hsj : ∀ j, j ≤ n → Small (G degS (X.take j)) := fun j hj => ok_small (by omega) (fun i hi => ok i (by omega))
  refine z3V X n hn hX ?_ (hsj n (Nat.le_refl n)) hsj (n + 1) 0 (by omega)
  intro j hj
  by_cases e : j = n
  · rw [e]; exact hA
  · intro hk
    have := z1K (z2w (ok j (by omega))).1 hk
    rwa [z1z degS (by omega)] at this
theorem z3Y (L vars : Int) (X : List St) (n : Nat) (hn : n < X.length) (hX : X.length ≤ 1000000) (ok : OkS L vars X n) (hf : FormS (X.getD n st0) (n : Int)) (c : Bool) (r : Int)
    (h1 : c = true → r = 4) (h2 : c = false → degS (X.getD n st0) (G degS (X.take n)) > 8 → r = 7)
    (h3 : c = false → ¬ degS (X.getD n st0) (G degS (X.take n)) > 8 → Ev (fun q => zc.l0 q L vars (X.map toD) ((n + 1 : Nat) : Int) 0 0) r) :
    Ev (fun q => zc.j6 q L vars (X.map toD) (n : Int) c 0 0) r := by
  refine Ev.step (fun q => by rw [zc.j6]) ?_
  cases c with
  | true => exact Ev.pos rfl (Ev.ret' (h1 rfl).symm)
  | false =>
    refine Ev.neg (by decide) (Ev.bnd (z3U X n hn hX ok (z1K hf)) ?_)
    by_cases g : degS (X.getD n st0) (G degS (X.take n)) > 8
    · exact Ev.pos g (Ev.ret' (h2 rfl g).symm)
    · refine Ev.neg g ?_
      rw [z1A hn (by omega)]
      exact h3 rfl g
theorem z3X (L vars : Int) (X : List St) (n : Nat) (hn : n < X.length) (hX : X.length ≤ 1000000) (ok : OkS L vars X n) (r : Int) (c : Bool) (hc : c = decide ((X.getD n st0).k < 1 ∨ (X.getD n st0).k > 4))
    (h1 : errS L vars (X.getD n st0) (G degS (X.take n)) ≠ 0 → r = errS L vars (X.getD n st0) (G degS (X.take n)))
    (h2 : errS L vars (X.getD n st0) (G degS (X.take n)) = 0 → Ev (fun q => zc.l0 q L vars (X.map toD) ((n + 1 : Nat) : Int) 0 0) r) :
    Ev (fun q => zc.j2 q L vars (X.map toD) (n : Int) c 0 0 (X.getD n st0).k (X.getD n st0).a (X.getD n st0).b (hi (X.getD n st0).v) (lo (X.getD n st0).v)) r := by
  have hj6 := z3Y L vars X n hn hX ok
  have hl := z1z degS (X := X) (i := n) (by omega)
  generalize hds : G degS (X.take n) = ds at *
  generalize ho : X.getD n st0 = o at *
  have hlen : (ds.length : Int) = (n : Int) := by rw [hl]
  have hbad : ¬ FormS o (n : Int) → r = 3 := by
    intro h
    have e0 : err0S L vars o (ds.length : Int) = 3 := by unfold err0S; rw [if_neg (by rw [hlen]; exact h)]
    have : errS L vars o ds = 3 := by unfold errS; rw [e0]; rfl
    rw [h1 (by rw [this]; decide), this]
  refine Ev.step (fun q => by rw [zc.j2]) ?_
  by_cases k : o.k < 1 ∨ o.k > 4
  · rw [decide_eq_true k] at hc
    refine Ev.pos hc (Ev.ret' (hbad ?_).symm)
    intro h; rcases z2x h with h | h | h | h <;> omega
  rw [decide_eq_false k] at hc
  refine Ev.neg (by rw [hc]; decide) ?_
  -- the last tests
  have hj5 : ∀ (c : Bool), FormS o (n : Int) → c = decide (o.k = 1 ∧ ¬ OfS L o.v) → Ev (fun q => zc.j5 q L vars (X.map toD) (n : Int) c 0 0 o.k o.a o.b (hi o.v) (lo o.v)) r := by
    intro c hf hc
    refine Ev.step (fun q => by rw [zc.j5]) ?_
    have hf' : FormS o (ds.length : Int) := by rw [hlen]; exact hf
    have he := z2v (L := L) (vars := vars) hf'
    by_cases e : o.k = 1 ∧ ¬ OfS L o.v
    · rw [decide_eq_true e] at hc
      rw [if_pos e] at he
      refine Ev.pos hc (Ev.ret' ?_)
      have : errS L vars o ds = 5 := by unfold errS; rw [he]; rfl
      rw [h1 (by rw [this]; decide), this]
    · rw [decide_eq_false e] at hc
      rw [if_neg e] at he
      refine Ev.neg (by rw [hc]; decide) ?_
      have hrest : ∀ c : Bool, c = decide (o.k = 2 ∧ (o.a < 0 ∨ o.a ≥ vars)) → Ev (fun q => zc.j6 q L vars (X.map toD) (n : Int) c 0 0) r := by
        intro c hc
        by_cases g : o.k = 2 ∧ (o.a < 0 ∨ o.a ≥ vars)
        · rw [if_pos g] at he
          rw [decide_eq_true g] at hc
          refine hj6 hf c r ?_ (fun h => by rw [hc] at h; cases h) (fun h => by rw [hc] at h; cases h)
          intro _
          have : errS L vars o ds = 4 := by unfold errS; rw [he]; rfl
          rw [h1 (by rw [this]; decide), this]
        · rw [if_neg g] at he
          rw [decide_eq_false g] at hc
          refine hj6 hf c r (fun h => by rw [hc] at h; cases h) ?_ ?_
          · intro _ g8
            have : errS L vars o ds = 7 := by unfold errS; rw [if_pos he, if_pos g8]
            rw [h1 (by rw [this]; decide), this]
          · intro _ g8
            have : errS L vars o ds = 0 := by unfold errS; rw [if_pos he, if_neg g8]
            exact h2 this
      by_cases k2 : o.k = 2
      · refine Ev.pos k2 ?_
        by_cases ha : o.a < 0
        · exact Ev.pos ha (hrest _ (by symm; rw [decide_eq_true_eq]; exact ⟨k2, Or.inl ha⟩))
        · refine Ev.neg ha (hrest _ ?_)
          rw [decide_eq_decide]; exact ⟨fun h => ⟨k2, Or.inr h⟩, fun h => h.2.resolve_left ha⟩
      · exact Ev.neg k2 (hrest _ (by symm; rw [decide_eq_false_iff_not]; exact fun h => k2 h.1))
  have hj4 : ∀ (c : Bool), c = decide (¬ FormS o (n : Int)) → Ev (fun q => zc.j4 q L vars (X.map toD) (n : Int) c 0 0 o.k o.a o.b (hi o.v) (lo o.v)) r := by
    intro c hc
    refine Ev.step (fun q => by rw [zc.j4]) ?_
    by_cases hf : FormS o (n : Int)
    · rw [decide_eq_false (Decidable.not_not.2 hf)] at hc
      refine Ev.neg (by rw [hc]; decide) ?_
      by_cases k1 : o.k = 1
      · refine Ev.pos k1 (Ev.bnd (z4q L o.v) (hj5 _ hf ?_))
        by_cases g : OfS L o.v
        · rw [decide_eq_true g, decide_eq_false (fun h => h.2 g)]; rfl
        · rw [decide_eq_false g, decide_eq_true (show o.k = 1 ∧ ¬ OfS L o.v from ⟨k1, g⟩)]; rfl
      · exact Ev.neg k1 (hj5 _ hf (by symm; rw [decide_eq_false_iff_not]; exact fun h => k1 h.1))
    · rw [decide_eq_true hf] at hc
      exact Ev.pos hc (Ev.ret' (hbad hf).symm)
  have hj3 : ∀ (c : Bool), c = decide (¬ ((o.k = 1 ∧ o.a = 0 ∧ o.b = 0) ∨ (o.k = 2 ∧ o.b = 0 ∧ o.v = 0) ∨ (o.k > 2 ∧ o.v = 0))) → Ev (fun q => zc.j3 q L vars (X.map toD) (n : Int) c 0 0 o.k o.a o.b (hi o.v) (lo o.v)) r := by
    intro c hc
    refine Ev.step (fun q => by rw [zc.j3]) ?_
    by_cases g : (o.k = 1 ∧ o.a = 0 ∧ o.b = 0) ∨ (o.k = 2 ∧ o.b = 0 ∧ o.v = 0) ∨ (o.k > 2 ∧ o.v = 0)
    · rw [decide_eq_false (Decidable.not_not.2 g)] at hc
      refine Ev.neg (by rw [hc]; decide) ?_
      by_cases k2 : o.k > 2
      · have hv : o.v = 0 := by
          rcases g with h | h | h
          · omega
          · omega
          · exact h.2
        have hiff : FormS o (n : Int) ↔ AheadS o (n : Int) := ⟨fun h => z1K h k2, fun h => Or.inr (Or.inr ⟨by omega, hv, h⟩)⟩
        refine Ev.pos k2 ?_
        by_cases a1 : o.a < 0
        · exact Ev.pos a1 (hj4 _ (by symm; rw [decide_eq_true_eq, hiff]; unfold AheadS; omega))
        refine Ev.neg a1 ?_
        by_cases a2 : o.a ≥ (n : Int)
        · exact Ev.pos a2 (hj4 _ (by symm; rw [decide_eq_true_eq, hiff]; unfold AheadS; omega))
        refine Ev.neg a2 ?_
        by_cases a3 : o.b < 0
        · exact Ev.pos a3 (hj4 _ (by symm; rw [decide_eq_true_eq, hiff]; unfold AheadS; omega))
        refine Ev.neg a3 (hj4 _ ?_)
        rw [decide_eq_decide, hiff]; unfold AheadS; omega
      · refine Ev.neg k2 (hj4 _ ?_)
        symm; rw [decide_eq_false_iff_not]
        intro h
        rcases g with g | g | g
        · exact h (Or.inl g)
        · exact h (Or.inr (Or.inl g))
        · exact k2 g.1
    · rw [decide_eq_true g] at hc
      refine Ev.pos hc (Ev.ret' (hbad ?_).symm)
      rintro (h | h | h)
      · exact g (Or.inl h)
      · exact g (Or.inr (Or.inl h))
      · exact g (Or.inr (Or.inr ⟨by omega, h.2.1⟩))
  have hnone : (!(hi o.v == 0) || (!(lo o.v == 0))) = decide (¬ o.v = 0) := by
    rw [← Bool.not_and, z2H]
    by_cases g : o.v = 0
    · rw [decide_eq_true g, decide_eq_false (Decidable.not_not.2 g)]; rfl
    · rw [decide_eq_false g, decide_eq_true g]; rfl
  rw [hnone]
  by_cases k1 : o.k = 1
  · refine Ev.pos k1 ?_
    by_cases ha : o.a = 0
    · refine Ev.pos ha ?_
      by_cases hb : o.b = 0
      · refine Ev.pos hb (Ev.neg (by omega) (Ev.neg (by omega) (hj3 _ ?_)))
        symm; rw [decide_eq_false_iff_not]; exact fun h => h (Or.inl ⟨k1, ha, hb⟩)
      · refine Ev.neg hb (hj3 _ ?_)
        symm; rw [decide_eq_true_eq]
        rintro (h | h | h)
        · exact hb h.2.2
        · omega
        · omega
    · refine Ev.neg ha (hj3 _ ?_)
      symm; rw [decide_eq_true_eq]
      rintro (h | h | h)
      · exact ha h.2.1
      · omega
      · omega
  refine Ev.neg k1 ?_
  by_cases k2 : o.k = 2
  · refine Ev.pos k2 ?_
    by_cases hb : o.b = 0
    · refine Ev.pos hb (Ev.pos (by omega) (hj3 _ ?_))
      rw [decide_eq_decide]
      constructor
      · intro h; rintro (g | g | g)
        · exact k1 g.1
        · exact h g.2.2
        · exact h g.2
      · intro h g; exact h (Or.inr (Or.inl ⟨k2, hb, g⟩))
    · refine Ev.neg hb (hj3 _ ?_)
      symm; rw [decide_eq_true_eq]
      rintro (h | h | h)
      · exact k1 h.1
      · exact hb h.2.1
      · omega
  · refine Ev.neg k2 (Ev.pos (by omega) (hj3 _ ?_))
    rw [decide_eq_decide]
    constructor
    · intro h; rintro (g | g | g)
      · exact k1 g.1
      · exact k2 g.1
      · exact h g.2
    · intro h g; exact h (Or.inr (Or.inr ⟨by omega, g⟩))
theorem z3Z (L vars : Int) (X : List St) (hX : X.length ≤ 1000000) : ∀ (d n : Nat), n + d = X.length → OkS L vars X n →
    Ev (fun q => zc.l0 q L vars (X.map toD) (n : Int) 0 0) (chkS L vars (X.drop n) (G degS (X.take n))).2 := by
  intro d
  induction d with
  | zero =>
    intro n hn _
    refine Ev.step (fun q => by rw [zc.l0]) (Ev.neg (by rw [List.length_map]; omega) (Ev.ret' ?_))
    rw [List.drop_eq_nil_of_le (by omega)]; rfl
  | succ d ih =>
    intro n hn ok
    have hn' : n < X.length := by omega
    refine Ev.step (fun q => by rw [zc.l0]) (Ev.pos (by rw [List.length_map]; omega) (Ev.pos (Int.natCast_nonneg _) ?_))
    simp only [rdD, z3R, z4s, z5m, z5n, z5o]
    have hgo : ∀ c : Bool, c = decide ((X.getD n st0).k < 1 ∨ (X.getD n st0).k > 4) → Ev (fun q => zc.j2 q L vars (X.map toD) (n : Int) c 0 0 (X.getD n st0).k (X.getD n st0).a (X.getD n st0).b (hi (X.getD n st0).v) (lo (X.getD n st0).v)) (chkS L vars (X.drop n) (G degS (X.take n))).2 := by
      intro c hc
      refine z3X L vars X n hn' hX ok _ c hc ?_ ?_
      · intro h; rw [z2u hn']; unfold chkS; rw [if_neg h]
      · intro h
        have hih := ih (n + 1) (by omega) (z5c ok h)
        rw [z2N degS hn'] at hih
        rw [z2u hn']; unfold chkS; rw [if_pos h]; exact hih
    by_cases k : (X.getD n st0).k < 1
    · exact Ev.pos k (hgo true (by symm; rw [decide_eq_true_eq]; exact Or.inl k))
    · refine Ev.neg k (hgo _ ?_)
      rw [decide_eq_decide]; exact ⟨Or.inr, fun h => h.resolve_left k⟩
theorem z3W (L vars : Int) (X : List St) : Ev (fun q => zc.f q L vars (X.map toD)) (checkS L vars X).2 := by
  unfold zc.f
  have hj : ∀ c : Bool, c = decide (¬ LvS L ∨ vars < 0) → Ev (fun q => zc.j0 q L vars (X.map toD) c 0 0) (checkS L vars X).2 := by
    intro c hc
    refine Ev.step (fun q => by rw [zc.j0]) ?_
    unfold checkS
    by_cases g : ¬ LvS L ∨ vars < 0
    · rw [if_pos g]; rw [decide_eq_true g] at hc
      exact Ev.pos hc (Ev.ret _)
    rw [if_neg g]; rw [decide_eq_false g] at hc
    refine Ev.neg (by rw [hc]; decide) ?_
    rw [List.length_map]
    by_cases g0 : X.length = 0
    · rw [if_pos g0]; exact Ev.pos (by omega) (Ev.ret _)
    rw [if_neg g0]
    refine Ev.neg (by omega) ?_
    by_cases g2 : X.length > 200
    · rw [if_pos g2]; exact Ev.pos (by omega) (Ev.ret _)
    rw [if_neg g2]
    refine Ev.neg (by omega) ?_
    exact z3Z L vars X (by omega) X.length 0 (by omega) (z5d _ _ _)
  unfold LvS at hj
  by_cases h0 : L < 0
  · exact Ev.pos h0 (hj true (by symm; rw [decide_eq_true_eq]; left; omega))
  refine Ev.neg h0 ?_
  by_cases h7 : L > 7
  · exact Ev.pos h7 (hj true (by symm; rw [decide_eq_true_eq]; left; omega))
  refine Ev.neg h7 (hj _ ?_)
  rw [decide_eq_decide]; omega
theorem z41 (X : List St) (hX : X.length ≤ 1000000) : ∀ (d i : Nat), i + d = X.length → Ev (fun q => zv.l0 q (X.map toP) ((X.take i).map toD) (i : Int)) (X.map toD) := by
  intro d
  induction d with
  | zero =>
    intro i hi
    refine Ev.step (fun q => by rw [zv.l0]) (Ev.neg (by rw [List.length_map]; omega) (Ev.ret' ?_))
    rw [List.take_of_length_le (by omega)]
  | succ d ih =>
    intro i hi
    have hi' : i < X.length := by omega
    refine Ev.step (fun q => by rw [zv.l0]) (Ev.pos (by rw [List.length_map]; omega) (Ev.pos (Int.natCast_nonneg _) (Ev.pos (by rw [List.length_map, List.length_take]; omega) ?_)))
    simp only [rdP, z5p, z5q, z5r, z47, z48, z1A hi' (show X.length ≤ 4611686018427387904 by omega)]
    have hih := ih (i + 1) (by omega)
    rw [z2y toD X st0 i hi'] at hih
    exact hih
theorem z40 (X : List St) (hX : X.length ≤ 1000000) : Ev (fun q => zv.f q (X.map toP)) (X.map toD) := z41 X hX X.length 0 (by omega)
/-- The value of a step. -/
def valS (V : List E) (o : St) (xs : List E) : E := if o.k = 2 then V.getD o.a.toNat 0 else if o.k = 3 then xs.getD o.a.toNat 0 + xs.getD o.b.toNat 0 else if o.k = 4 then xs.getD o.a.toNat 0 * xs.getD o.b.toNat 0 else o.v
theorem rdSi (X : List E) {i : Int} (h : 0 ≤ i) : zU (X.map toS) i = toS (X.getD i.toNat 0) := by
  have := rdS X i.toNat
  rwa [Int.toNat_of_nonneg h] at this
theorem rdRi (X : List E) {i : Int} (h : 0 ≤ i) : zT (X.map toR) i = toR (X.getD i.toNat 0) := by
  have := rdR X i.toNat
  rwa [Int.toNat_of_nonneg h] at this
theorem z4j {α β : Type} (f : α → β) (X : List α) (x : α) : X.map f ++ [f x] = (X ++ [x]).map f := by rw [List.map_append]; rfl
theorem z43 {L vars : Int} (X : List St) (V : List E) (hX : X.length ≤ 1000000) (hV : V.length ≤ 1000000) (hv : (V.length : Int) = vars) (n : Nat) (hn : n < X.length) (ok : OkS L vars X X.length) :
    ∀ (d j : Nat), j + d = n + 1 → Ev (fun q => zh.l0 q (X.map toD) (n : Int) (V.map toR) ((G (valS V) (X.take j)).map toR) (j : Int)) (hi (valS V (X.getD n st0) (G (valS V) (X.take n))), lo (valS V (X.getD n st0) (G (valS V) (X.take n)))) := by
  intro d
  induction d with
  | zero =>
    intro j hj
    have : j = n + 1 := by omega
    subst this
    refine Ev.step (fun q => by rw [zh.l0]) (Ev.neg (by omega) (Ev.pos (Int.natCast_nonneg _) (Ev.pos (by rw [List.length_map, z1z (valS V) (by omega)]; omega) (Ev.ret' ?_))))
    rw [rdR, z4J (valS V) 0 hn]; rfl
  | succ d ih =>
    intro j hj
    have hj' : j < X.length := by omega
    have hl := z1z (valS V) (X := X) (i := j) (by omega)
    have hih := ih (j + 1) (by omega)
    rw [z2N (valS V) hj', ← z4j] at hih
    have hok := z2w (ok j hj')
    rw [z1z degS (by omega)] at hok
    have hlm : ((G (valS V) (X.take j)).map toR).length = j := by rw [List.length_map]; exact hl
    have hm : ∀ x : E, ((X.getD j st0).k = 1 ∨ (X.getD j st0).k = 2 → valS V (X.getD j st0) (G (valS V) (X.take j)) = x) → Ev (fun q => zh.j1 q (X.map toD) (n : Int) (V.map toR) ((G (valS V) (X.take j)).map toR) (j : Int) (hi x) (lo x)) (hi (valS V (X.getD n st0) (G (valS V) (X.take n))), lo (valS V (X.getD n st0) (G (valS V) (X.take n)))) := by
      intro x hx
      refine Ev.step (fun q => by rw [zh.j1]) (Ev.pos (Int.natCast_nonneg _) (Ev.pos (by rw [List.length_map]; omega) ?_))
      simp only [rdD, z3R, z4s, z5m, z1A hj' (show X.length ≤ 4611686018427387904 by omega)]
      generalize G (valS V) (X.take j) = xs at *
      generalize X.getD j st0 = o at *
      have hk := z2x hok.1
      by_cases k3 : o.k = 3
      · have ha := z1K hok.1 (by omega)
        unfold AheadS at ha
        have hval : valS V o xs = xs.getD o.a.toNat 0 + xs.getD o.b.toNat 0 := by unfold valS; rw [if_neg (by omega), if_pos k3]
        rw [hval] at hih
        refine Ev.pos k3 (Ev.pos ha.1 (Ev.pos (by omega) (Ev.pos ha.2.2.1 (Ev.pos (by omega) ?_))))
        rw [rdRi xs ha.1, rdRi xs ha.2.2.1]
        exact Ev.bnd0 (z3Q _ _) (Ev.neg (by omega) (Ev.pos (by omega) hih))
      refine Ev.neg k3 ?_
      by_cases k4 : o.k = 4
      · have ha := z1K hok.1 (by omega)
        unfold AheadS at ha
        have hval : valS V o xs = xs.getD o.a.toNat 0 * xs.getD o.b.toNat 0 := by unfold valS; rw [if_neg (by omega), if_neg k3, if_pos k4]
        rw [hval] at hih
        refine Ev.pos k4 (Ev.pos ha.1 (Ev.pos (by omega) (Ev.pos ha.2.2.1 (Ev.pos (by omega) ?_))))
        rw [rdRi xs ha.1, rdRi xs ha.2.2.1]
        exact Ev.bnd (z4x _ _) (Ev.pos (by omega) hih)
      · rw [hx (by omega)] at hih
        exact Ev.neg k4 (Ev.pos (by omega) hih)
    refine Ev.step (fun q => by rw [zh.l0]) (Ev.pos (by omega) (Ev.pos (Int.natCast_nonneg _) (Ev.pos (by rw [List.length_map]; omega) ?_)))
    simp only [rdD, z3R, z4s, z5n, z5o]
    by_cases k2 : (X.getD j st0).k = 2
    · have hv2 := hok.2.2.2 k2
      refine Ev.pos k2 (Ev.pos hv2.1 (Ev.pos (by rw [List.length_map]; omega) ?_))
      rw [rdRi V hv2.1]
      refine hm _ (fun _ => ?_)
      unfold valS; rw [if_pos k2]
    · refine Ev.neg k2 (hm _ (fun h => ?_))
      unfold valS; rw [if_neg k2, if_neg (by omega), if_neg (by omega)]
theorem z42 {L : Int} (X : List St) (V : List E) (hX : X.length ≤ 1000000) (hV : V.length ≤ 1000000) (n : Nat) (hn : n < X.length) (ok : OkS L (V.length : Int) X X.length) :
    Ev (fun q => zh.f q (X.map toD) (n : Int) (V.map toR)) (hi (valS V (X.getD n st0) (G (valS V) (X.take n))), lo (valS V (X.getD n st0) (G (valS V) (X.take n)))) := z43 X V hX hV rfl n hn ok (n + 1) 0 (by omega)
/-- The program's values. -/
theorem vals_in {l : Nat} (hl : l ≤ 7) {vars : Int} {X : List St} {V : List E} (ok : OkS (l : Int) vars X X.length) (hA : AllS (l : Int) V) : ∀ j, j ≤ X.length → ∀ y ∈ G (valS V) (X.take j), InL l y := by
  have hin : ∀ (Y : List E) (i : Nat), (∀ y ∈ Y, InL l y) → InL l (Y.getD i 0) := by
    intro Y i h
    rw [List.getD_eq_getElem?_getD]
    cases e : Y[i]? with
    | none => exact z4g l
    | some y => exact h y (List.mem_of_getElem? e)
  refine G_mem (valS V) (InL l) (Nat.le_refl _) (fun i hi' h => ?_)
  have hok := z2w (ok i hi')
  have hk := z2x hok.1
  unfold valS
  by_cases k2 : (X.getD i st0).k = 2
  · rw [if_pos k2]
    refine hin V _ (fun y hy => ?_)
    have := (hA y hy).2.2
    rwa [Int.toNat_natCast] at this
  rw [if_neg k2]
  by_cases k3 : (X.getD i st0).k = 3
  · rw [if_pos k3]; exact inL_add (hin _ _ h) (hin _ _ h)
  rw [if_neg k3]
  by_cases k4 : (X.getD i st0).k = 4
  · rw [if_pos k4]; exact z4Z hl (hin _ _ h) (hin _ _ h)
  rw [if_neg k4]
  have := (hok.2.2.1 (by omega)).2.2
  rwa [Int.toNat_natCast] at this
theorem eval_l1 {l : Nat} (hl : l ≤ 7) (X : List St) (V : List E) (hX : X.length ≤ 1000000) (hV : V.length ≤ 1000000) (n : Nat) (hn : X.length = n + 1) (ok : OkS (l : Int) (V.length : Int) X X.length) (hA : AllS (l : Int) V) :
    ∀ (d j : Nat), j + d = n + 1 → Ev (fun q => zz.l1 q (l : Int) (V.map toS) ((G (valS V) (X.take j)).map toS) (X.map toP) ((X.length : Nat) : Int) (j : Int)) (hi (valS V (X.getD n st0) (G (valS V) (X.take n))), lo (valS V (X.getD n st0) (G (valS V) (X.take n))), 0) := by
  intro d
  induction d with
  | zero =>
    intro j hj
    have : j = n + 1 := by omega
    subst this
    have e : wrap64 (((((G (valS V) (X.take (n + 1))).map toS).length : Nat) : Int) - 1) = (n : Int) := by
      rw [List.length_map, z1z (valS V) (by omega), z2e (by omega) (by omega)]; omega
    refine Ev.step (fun q => by rw [zz.l1]) (Ev.neg (by omega) ?_)
    simp only [e]
    refine Ev.pos (Int.natCast_nonneg _) (Ev.pos (by rw [List.length_map, z1z (valS V) (by omega)]; omega) (Ev.ret' ?_))
    rw [rdS, z4J (valS V) 0 (by omega)]; rfl
  | succ d ih =>
    intro j hj
    have hj' : j < X.length := by omega
    have hl' := z1z (valS V) (X := X) (i := j) (by omega)
    have hih := ih (j + 1) (by omega)
    rw [z2N (valS V) hj', ← z4j] at hih
    have hok := z2w (ok j hj')
    rw [z1z degS (by omega)] at hok
    have hlm : ((G (valS V) (X.take j)).map toS).length = j := by rw [List.length_map]; exact hl'
    have hin := vals_in hl ok hA j (by omega)
    have hgd : ∀ i : Nat, InL l ((G (valS V) (X.take j)).getD i 0) := by
      intro i
      rw [List.getD_eq_getElem?_getD]
      cases e : (G (valS V) (X.take j))[i]? with
      | none => exact z4g l
      | some y => exact hin y (List.mem_of_getElem? e)
    refine Ev.step (fun q => by rw [zz.l1]) (Ev.pos (by omega) (Ev.pos (Int.natCast_nonneg _) (Ev.pos (by rw [List.length_map]; omega) ?_)))
    simp only [rdP, z5p, z5q, z5r, z47, z48, z1A hj' (show X.length ≤ 4611686018427387904 by omega)]
    generalize G (valS V) (X.take j) = xs at *
    generalize X.getD j st0 = o at *
    have hk := z2x hok.1
    by_cases k1 : o.k = 1
    · have hval : valS V o xs = o.v := by unfold valS; rw [if_neg (by omega), if_neg (by omega), if_neg (by omega)]
      rw [hval] at hih
      exact Ev.pos k1 (Ev.pos (by omega) hih)
    refine Ev.neg k1 ?_
    by_cases k2 : o.k = 2
    · have hv2 := hok.2.2.2 k2
      have hval : valS V o xs = V.getD o.a.toNat 0 := by unfold valS; rw [if_pos k2]
      rw [hval] at hih
      refine Ev.pos k2 (Ev.pos hv2.1 (Ev.pos (by rw [List.length_map]; omega) (Ev.pos (by omega) ?_)))
      rw [rdSi V hv2.1]
      exact hih
    refine Ev.neg k2 ?_
    by_cases k3 : o.k = 3
    · have ha := z1K hok.1 (by omega)
      unfold AheadS at ha
      have hval : valS V o xs = xs.getD o.a.toNat 0 + xs.getD o.b.toNat 0 := by unfold valS; rw [if_neg (by omega), if_pos k3]
      rw [hval] at hih
      refine Ev.pos k3 (Ev.pos ha.1 (Ev.pos (by omega) (Ev.pos ha.2.2.1 (Ev.pos (by omega) ?_))))
      rw [rdSi xs ha.1, rdSi xs ha.2.2.1]
      exact Ev.bnd0 (Add_eq _ _) (Ev.pos (by omega) hih)
    refine Ev.neg k3 ?_
    have k4 : o.k = 4 := by omega
    have ha := z1K hok.1 (by omega)
    unfold AheadS at ha
    have hval : valS V o xs = xs.getD o.a.toNat 0 * xs.getD o.b.toNat 0 := by unfold valS; rw [if_neg (by omega), if_neg k3, if_pos k4]
    rw [hval] at hih
    refine Ev.pos k4 (Ev.pos ha.1 (Ev.pos (by omega) (Ev.pos ha.2.2.1 (Ev.pos (by omega) ?_))))
    rw [rdSi xs ha.1, rdSi xs ha.2.2.1]
    exact Ev.bnd (Mul_ev hl (hgd _) (hgd _)) (Ev.pos (by omega) hih)
theorem eval_l0 (L : Int) (X : List St) (V : List E) (hV : V.length ≤ 1000000) (r : Int × Int × Int) (h5 : ¬ AllS L V → r = (0, 0, 5)) (h0 : AllS L V → Ev (fun q => zz.l1 q L (V.map toS) [] (X.map toP) ((X.length : Nat) : Int) 0) r) :
    ∀ (d j : Nat), j + d = V.length → (AllS L (V.drop j) → AllS L V) → (AllS L V → AllS L (V.drop j)) → Ev (fun q => zz.l0 q L (X.map toP) (V.map toS) (V.map toS) ((V.length : Nat) : Int) (j : Int)) r := by
  intro d
  induction d with
  | zero =>
    intro j hj hA _
    refine Ev.step (fun q => by rw [zz.l0]) (Ev.neg (by omega) ?_)
    rw [List.length_map]
    refine h0 (hA ?_)
    rw [List.drop_eq_nil_of_le (by omega)]
    intro x hx; cases hx
  | succ d ih =>
    intro j hj hA hB
    have hj' : j < V.length := by omega
    refine Ev.step (fun q => by rw [zz.l0]) (Ev.pos (by omega) (Ev.pos (Int.natCast_nonneg _) (Ev.pos (by rw [List.length_map]; omega) ?_)))
    simp only [rdS, z5t, z5u, z1A hj' (show V.length ≤ 4611686018427387904 by omega)]
    refine Ev.bnd (z4D L _) ?_
    have hd := z3D (L := L) hj'
    by_cases c : OfS L (V.getD j 0)
    · exact Ev.pos (decide_eq_true c) (ih (j + 1) (by omega) (fun h => hA (hd.2 ⟨c, h⟩)) (fun h => (hd.1 (hB h)).2))
    · refine Ev.neg (by simpa using c) (Ev.ret' (h5 fun h => c (hd.1 (hB h)).1).symm)
/-- What Eval tells. -/
def lastS (X : List St) (V : List E) : E := valS V (X.getD (X.length - 1) st0) (G (valS V) (X.take (X.length - 1)))
def evalErr (L : Int) (X : List St) (V : List E) : Int := if (checkS L (V.length : Int) X).2 = 0 then (if AllS L V then 0 else 5) else (checkS L (V.length : Int) X).2
theorem Eval_ev (L : Int) (X : List St) (V : List E) (hV : V.length ≤ 1000000) : Ev (fun q => zz.f q L (X.map toP) (V.map toS)) (if evalErr L X V = 0 then (hi (lastS X V), lo (lastS X V), 0) else (0, 0, evalErr L X V)) := by
  unfold zz.f
  rw [List.length_map]
  refine Ev.bnd (Check_ev L (V.length : Int) X) ?_
  unfold evalErr
  by_cases c : (checkS L (V.length : Int) X).2 = 0
  · rw [if_pos c]
    refine Ev.pos c ?_
    refine eval_l0 L X V hV _ ?_ ?_ V.length 0 (by omega) (fun h => by rwa [List.drop_zero] at h) (fun h => by rwa [List.drop_zero])
    · intro h; rw [if_neg h]; rfl
    · intro h
      rw [if_pos h, if_pos rfl]
      obtain ⟨hL, _, h0, h200, ok, _⟩ := z4b c
      obtain ⟨l, rfl⟩ := Int.eq_ofNat_of_zero_le hL.1
      exact eval_l1 (by have := hL.2; omega) X V (by omega) hV (X.length - 1) (by omega) ok h (X.length - 1 + 1) 0 (by omega)
  · rw [if_neg c, if_neg c]
    exact Ev.neg c (Ev.ret _)
end Go.Proofs.Ytngcaphdkgihmaa.Sp
namespace Go.Proofs.Ytngcaphdkgihmaa.Sp
open Go.RowKit Go.Proofs.YtngcaphdkgihmaaW.PrintWords Go.Proofs.YtngcaphdkgihmaaW.PrintMore Go.Proofs.Ytngcaphdkgihmaa.P Go.Proofs.Ytngcaphdkgihmaa.Ar Go.Proofs.Ytngcaphdkgihmaa.Tw
theorem z2G : Ev (fun k => zJ.f k) true := Ev.of zJ.mono (k := 60) (by decide +kernel)
theorem z27 (L e want : Int) (X : List St) (V : List E) (hV : V.length ≤ 1000000) (v : E) (he : e = want) (hw : want = evalErr L X V) (hv : v = if want = 0 then lastS X V else 0) :
    Ev (fun k => ze.j2 k e (X.map toD) (V.map toR) want (hi v) (lo v)) true := by
  refine Ev.step (fun k => by rw [ze.j2]) ?_
  by_cases c : want = 0
  · rw [if_pos c] at hv
    rw [c] at hw
    have hc : (checkS L (V.length : Int) X).2 = 0 := by
      unfold evalErr at hw
      by_cases g : (checkS L (V.length : Int) X).2 = 0
      · exact g
      · rw [if_neg g] at hw; exact absurd hw.symm g
    obtain ⟨_, _, h0, h200, ok, _⟩ := z4b hc
    have e1 : wrap64 ((X.length : Int) - 1) = ((X.length - 1 : Nat) : Int) := by rw [z2e (by omega) (by omega)]; omega
    rw [List.length_map]
    simp only [e1]
    refine Ev.pos c (Ev.bnd z2G (Ev.pos rfl (Ev.pos (by omega) (Ev.bnd (z42 X V (by omega) hV (X.length - 1) (by omega) ok) (Ev.ret' ?_)))))
    rw [hv]; unfold lastS; simp
  · rw [if_neg c] at hv
    refine Ev.neg c (Ev.bnd z2G (Ev.pos rfl (Ev.pos he (Ev.ret' ?_))))
    rw [hv, z28, z29]; rfl
end Go.Proofs.Ytngcaphdkgihmaa.Sp
namespace Go.Proofs.Ytngcaphdkgihmaa.Pure
open Go.RowKit Go.Proofs.YtngcaphdkgihmaaW.PrintWords Go.Proofs.YtngcaphdkgihmaaW.PrintMore Go.Proofs.Ytngcaphdkgihmaa.P Go.Proofs.Ytngcaphdkgihmaa.Ar Go.Proofs.Ytngcaphdkgihmaa.Tw Go.Proofs.Ytngcaphdkgihmaa.Sp
theorem ExprValues : Stated.exprValues.Pure := by
  intro L l1 l2 h0 h1 h2
  obtain ⟨X, rfl⟩ := steps_of l1 h1.1
  obtain ⟨V, rfl⟩ := list_of l2 h2.1
  refine Ev.rounds (g := fun k => ze.f k L (X.map toP) (V.map toS)) ?_
  unfold ze.f
  rw [List.length_map, List.length_map]
  have hlong : Ev (fun k => ze.j0 k L (X.map toP) (V.map toS) true) true :=
    Ev.step (fun k => by rw [ze.j0]) (Ev.pos (by rfl) (Ev.bnd z2G (Ev.ret _)))
  by_cases c1 : (X.length : Int) > 210
  · exact Ev.pos c1 hlong
  refine Ev.neg c1 ?_
  by_cases c2 : (V.length : Int) > 20
  · rw [decide_eq_true c2]; exact hlong
  rw [decide_eq_false c2]
  have hV : V.length ≤ 1000000 := by omega
  refine Ev.step (fun k => by rw [ze.j0]) (Ev.neg (by decide) (Ev.bnd (Eval_ev L X V hV) (Ev.bnd (z40 X (by omega)) (Ev.bnd (Ref_ev V hV) ?_))))
  rw [List.length_map]
  refine Ev.bnd (z3W L (V.length : Int) X) ?_
  by_cases c : (checkS L (V.length : Int) X).2 = 0
  · refine Ev.pos c (Ev.bnd (All_ev L V hV) ?_)
    refine Ev.step (fun k => by rw [ze.j1]) ?_
    by_cases g : AllS L V
    · have hw : evalErr L X V = 0 := by unfold evalErr; rw [if_pos c, if_pos g]
      rw [if_pos hw]
      refine Ev.neg (by rw [decide_eq_true g]; decide) (z27 L _ _ X V hV _ c.symm (by rw [hw, c]) ?_)
      rw [if_pos c]
    · have hw : evalErr L X V = 5 := by unfold evalErr; rw [if_pos c, if_neg g]
      rw [if_neg (by rw [hw]; decide), hw]
      refine Ev.pos (by rw [decide_eq_false g]; decide) ?_
      have := z27 L 5 5 X V hV 0 rfl hw.symm (by rw [if_neg (by decide)])
      rw [z28, z29] at this
      exact this
  · have hw : evalErr L X V = (checkS L (V.length : Int) X).2 := by unfold evalErr; rw [if_neg c]
    rw [if_neg (by rw [hw]; exact c), hw]
    refine Ev.neg c (Ev.step (fun k => by rw [ze.j1]) (Ev.neg (by decide) ?_))
    have := z27 L _ _ X V hV 0 rfl hw.symm (by rw [if_neg c])
    rw [z28, z29] at this
    exact this
end Go.Proofs.Ytngcaphdkgihmaa.Pure
-- Own text, written by wip/tools/gen.py: the row of the law ExprValues, out of its pure statement (PureExprValues) and the walk.
namespace Go.Proofs.Ytngcaphdkgihmaa.exprValues
open Go.ChangeShapes Go.WideShapes Go.ChangeAt Go.RowKit Go.Proofs.YtngcaphdkgihmaaW.PrintWords Go.Proofs.Ytngcaphdkgihmaa.P Go.Proofs.Ytngcaphdkgihmaa.Reads
set_option linter.unusedVariables false
set_option linter.unusedSimpArgs false
theorem own : ownKnob Try.prog.godebug = none := by kernel_rfl
theorem laidOut : laidOutB Try.prog = true := by kernel_rfl
theorem op51 : ReadsAs Try.prog 51 k51 (fun x => ((Lit.int .u64 x.f0).wf = true) ∧ ((Lit.int .u64 x.f1).wf = true)) :=
  (z3M (fun x : S51 => (x.f0, x.f1)) (fun a => ⟨⟨a.1, a.2⟩, rfl⟩) Try.underlying51 rfl (by kernel_rfl) (z2z (by kernel_rfl) (by kernel_rfl) (z3l Try.underlying49) (z3N (by kernel_rfl) (by kernel_rfl) (z3l Try.underlying49)) (by intro g hg; simp only [List.mem_cons, List.not_mem_nil, or_false] at hg; rcases hg with rfl <;> exact of_decide_eq_true (by kernel_rfl))))
theorem op87 : ReadsAs Try.prog 87 k87 (fun x => ((Lit.int .i64 x.f0).wf = true) ∧ ((Lit.int .i64 x.f1).wf = true) ∧ ((Lit.int .i64 x.f2).wf = true) ∧ (((Lit.int .u64 x.f3.f0).wf = true) ∧ ((Lit.int .u64 x.f3.f1).wf = true))) :=
  (z3M (fun x : S87 => (x.f0, x.f1, x.f2, x.f3)) (fun a => ⟨⟨a.1, a.2.1, a.2.2.1, a.2.2.2⟩, rfl⟩) Try.underlying87 rfl (by kernel_rfl) (z2z (by kernel_rfl) (by kernel_rfl) (z3l Try.underlying3) (z2z (by kernel_rfl) (by kernel_rfl) (z3l Try.underlying3) (z2z (by kernel_rfl) (by kernel_rfl) (z3l Try.underlying3) (z3N (by kernel_rfl) (by kernel_rfl) op51) (by intro g hg; simp only [List.mem_cons, List.not_mem_nil, or_false] at hg; rcases hg with rfl <;> exact of_decide_eq_true (by kernel_rfl))) (by intro g hg; simp only [List.mem_cons, List.not_mem_nil, or_false] at hg; rcases hg with rfl | rfl <;> exact of_decide_eq_true (by kernel_rfl))) (by intro g hg; simp only [List.mem_cons, List.not_mem_nil, or_false] at hg; rcases hg with rfl | rfl | rfl <;> exact of_decide_eq_true (by kernel_rfl))))
theorem op71 : ReadsAs Try.prog 71 (Kd.slice 87 k87) (fun l => (∀ x_ ∈ l, ((Lit.int .i64 x_.f0).wf = true) ∧ ((Lit.int .i64 x_.f1).wf = true) ∧ ((Lit.int .i64 x_.f2).wf = true) ∧ (((Lit.int .u64 x_.f3.f0).wf = true) ∧ ((Lit.int .u64 x_.f3.f1).wf = true))) ∧ l.length ≤ maxLen) := z4m Try.underlying71 (by kernel_rfl) op87
theorem op37 : ReadsAs Try.prog 37 (Kd.slice 51 k51) (fun l => (∀ x_ ∈ l, ((Lit.int .u64 x_.f0).wf = true) ∧ ((Lit.int .u64 x_.f1).wf = true)) ∧ l.length ≤ maxLen) := z4m Try.underlying37 (by kernel_rfl) op51
set_option maxRecDepth 100000 in
theorem lifted (os : Os) (started : os.Started) (H : Type) (enc : TypeId × Value → H) :
    ReturnsInHanded {} Try.checked os 10 .any (Rows.exprValuesSpec.pre6 enc Try.prog Try.f10 Rows.exprValuesRow.domain false) (Rows.exprValuesSpec.post enc Try.prog Try.f10 false true false false) := by
  refine returnsInHanded_of_change_sized (C := Try.checked) own started (by kernel_rfl) Try.func10
    (ChangeSpec.witness6 (enc := enc) (C := Try.checked) false ⟨#[], #[.int .i64 0, .slice none 0 0, .slice none 0 0], []⟩ 8 (by kernel_rfl) (by kernel_rfl) (by kernel_rfl) (by kernel_rfl)) ?_
  intro W base args ds gs before hval0 hW hcnd hsz0 _
  have hval : ∀ (j : Nat) t v, Try.f10.params[j]? = some t → args[j]? = some v → Value.okWide Try.prog W .any base t v := hval0
  have hW' := hW
  obtain ⟨p, q, hA0, hV, rfl, hfz, hnd⟩ := hW
  have hA : DataW.TrodAll enc Try.prog W 0 (fun _ => true) true Try.f10.params.toList args.toList ds p := hA0
  rw [Try.params10] at hA hval
  obtain ⟨v0, vs0, d0, ds0, p0, q0, hargs, rfl, rfl, h0, r0⟩ := trodAll_cons hA
  obtain ⟨v1, vs1, d1, ds1, p1, q1, rfl, rfl, rfl, h1, r1⟩ := trodAll_cons r0
  obtain ⟨v2, vs2, d2, ds2, p2, q2, rfl, rfl, rfl, h2, r2⟩ := trodAll_cons r1
  obtain ⟨rfl, rfl, rfl⟩ := trodAll_nil r2
  obtain rfl : args = #[v0, v1, v2] := by cases args; simp_all
  obtain ⟨rfl, rfl⟩ := trodVars_none hV
  have k0 := h0
  have lt0 : ∀ x ∈ p0, x.block < W.heap.size := by obtain ⟨m, hm⟩ := k0; exact DataW.trod_lt m _ _ _ hm
  obtain ⟨x0, rfl, g0⟩ := arg_int Try.underlying3 (hval 0 3 v0 rfl rfl) h0
  have k1 := h1
  have lt1 : ∀ x ∈ p1, x.block < W.heap.size := by obtain ⟨m, hm⟩ := k1; exact DataW.trod_lt m _ _ _ hm
  obtain ⟨x1, A1, c1, rfl, hc1, hr1, g1⟩ := z3F op71 Try.underlying71 (hval 1 71 v1 rfl rfl) h1
  have k2 := h2
  have lt2 : ∀ x ∈ p2, x.block < W.heap.size := by obtain ⟨m, hm⟩ := k2; exact DataW.trod_lt m _ _ _ hm
  obtain ⟨x2, A2, c2, rfl, hc2, hr2, g2⟩ := z3F op37 Try.underlying37 (hval 2 37 v2 rfl rfl) h2
  clear hA0 hval0 hsz0
  obtain ⟨k, hpure⟩ := Pure.ExprValues x0 x1 x2 g0 g1 g2
  refine (ze.calls k x0 _ _ x1 _ _ x2 true W hr1 hc1 hr2 hc2 hpure).mono fun e W' hh => ?_
  obtain ⟨rfl, bel0⟩ := hh
  have bel : Below W.heap.size W W' := bel0
  exact ⟨_, rfl, _, _, _, [], _, [], hW', trodAll_mk1 (shut_bool Try.underlying4 _), (trodAll_cons_mk (Below.trod laidOut (by kernel_rfl) (of_decide_eq_true (by kernel_rfl)) k0 bel lt0) (trodAll_cons_mk (Below.trod laidOut (by kernel_rfl) (of_decide_eq_true (by kernel_rfl)) k1 bel lt1) (trodAll_cons_mk (Below.trod laidOut (by kernel_rfl) (of_decide_eq_true (by kernel_rfl)) k2 bel lt2) trodAll_mk0))), rfl, bel.frame _, fun h => by cases h⟩
theorem over : Rows.exprValuesRow.holds Try.pinned (OpenSpec.ofChange Rows.exprValuesSpec) :=
  OpenClaim.holds_of_wide 10 Try.f10 rfl rfl rfl rfl rfl rfl rfl ⟨rfl, rfl, rfl, rfl, rfl⟩ rfl rfl rfl rfl rfl (by kernel_rfl) Try.func10 (by kernel_rfl)
    (of_decide_eq_true (by kernel_rfl)) (by unfold Func.isWrapper; first | (rw [if_pos (by decide +kernel)]; kernel_rfl) | (rw [if_neg (by decide +kernel)]; exact ⟨rfl, rfl⟩))
    (fun os started H enc _ => lifted os started H enc)
theorem proved : Rows.ExprValuesSaid := over
#print axioms proved
end Go.Proofs.Ytngcaphdkgihmaa.exprValues
namespace Go.Proofs.Ytngcaphdkgihmaa
/-- The row, under a short name, for the claim. -/
theorem exprValues_holds : Rows.ExprValuesSaid := exprValues.proved
end Go.Proofs.Ytngcaphdkgihmaa

/- Own text: merged by wip/tools/pack.py out of what the law RingBatches reaches. -/
import Derived.Test.YtkhmpaooinpfoaaMRingBatchesb
import Derived.Test.YtkhmpaooinpfoaaMRingBatchesd
namespace Go.Proofs.Ytkhmpaooinpfoaa.P
open Go.RowKit Go.Proofs.YtkhmpaooinpfoaaW.PrintWords Go.Proofs.YtkhmpaooinpfoaaW.PrintLast Go.Proofs.YtkhmpaooinpfoaaW.PrintMore
attribute [local go_sem] z12 z14 z1i z1j zU zV z13 z15   -- for this text's walks alone
set_option linter.unusedVariables false
set_option linter.unusedSimpArgs false
mutual
def zm.j0 : Nat → Int → List (S40) → List (S40) → Bool → Option (Int)
 | 0,_,_,_,_=>none
 | k + 1,x0,x1,x2,x12=>if x12 = true then (some 1) else ((zz.f k x0).bind fun t101=>(if (x1.length : Int) = t101 then (zm.j1 k x0 x1 x2 ((x2.length : Int) != x0)) else (zm.j1 k x0 x1 x2 true)))
def zm.j1 : Nat → Int → List (S40) → List (S40) → Bool → Option (Int)
 | 0,_,_,_,_=>none
 | k + 1,x0,x1,x2,x23=>if x23 = true then (some 6) else ((zv.f k x0 x1).bind fun t102=>(if t102 = true then ((zv.f k x0 x2).bind fun t103=>(if t103 = true then (some 0) else (some 5))) else (some 5)))
end
def zm.f (k : Nat) (a0 : Int) (l1 : List (S40)) (l2 : List (S40)) : Option (Int):=if a0 < 0 then (zm.j0 k a0 l1 l2 true) else (zm.j0 k a0 l1 l2 (decide (a0 > 7)))
theorem zm.z17 : ∀ k,(∀ y0 y1 y2 y3,LeO (zm.j0 k y0 y1 y2 y3) (zm.j0 (k + 1) y0 y1 y2 y3)) ∧ (∀ y0 y1 y2 y3,LeO (zm.j1 k y0 y1 y2 y3) (zm.j1 (k + 1) y0 y1 y2 y3))
 | 0=>⟨fun _ _ _ _ r h=>by simp [zm.j0] at h,fun _ _ _ _ r h=>by simp [zm.j1] at h⟩
 | k + 1=>by
  obtain ⟨ih0,ih1⟩:=zm.z17 k
  refine ⟨?_,?_⟩
  · intro y0 y1 y2 y3
    unfold zm.j0
    repeat' first
    | (with_reducible exact ih0 _ _ _ _)
    | (with_reducible exact ih1 _ _ _ _)
    | (with_reducible exact zv.mono _ _ _)
    | (with_reducible exact zz.mono _ _)
    | (with_reducible exact LeO.refl _)
    | (with_reducible exact LeO.none _)
    | (with_reducible refine LeO.ite ?_ ?_)
    | (with_reducible refine LeO.bind ?_ (fun _=>?_))
    | exact ih0 _ _ _ _
    | exact ih1 _ _ _ _
    | exact zv.mono _ _ _
    | exact zz.mono _ _
    | exact LeO.none _
    | refine LeO.ite ?_ ?_
    | refine LeO.bind ?_ (fun _=>?_)
  · intro y0 y1 y2 y3
    unfold zm.j1
    repeat' first
    | (with_reducible exact ih0 _ _ _ _)
    | (with_reducible exact ih1 _ _ _ _)
    | (with_reducible exact zv.mono _ _ _)
    | (with_reducible exact zz.mono _ _)
    | (with_reducible exact LeO.refl _)
    | (with_reducible exact LeO.none _)
    | (with_reducible refine LeO.ite ?_ ?_)
    | (with_reducible refine LeO.bind ?_ (fun _=>?_))
    | exact ih0 _ _ _ _
    | exact ih1 _ _ _ _
    | exact zv.mono _ _ _
    | exact zz.mono _ _
    | exact LeO.none _
    | refine LeO.ite ?_ ?_
    | refine LeO.bind ?_ (fun _=>?_)
theorem zm.mono : ∀ a0 a1 a2 k,LeO (zm.f k a0 a1 a2) (zm.f (k + 1) a0 a1 a2):=by
 intro a0 a1 a2 k
 obtain ⟨ih0,ih1⟩:=zm.z17 k
 unfold zm.f
 repeat' first
  | (with_reducible exact ih0 _ _ _ _)
  | (with_reducible exact ih1 _ _ _ _)
  | (with_reducible exact zv.mono _ _ _)
  | (with_reducible exact zz.mono _ _)
  | (with_reducible exact LeO.refl _)
  | (with_reducible exact LeO.none _)
  | (with_reducible refine LeO.ite ?_ ?_)
  | (with_reducible refine LeO.bind ?_ (fun _=>?_))
  | exact ih0 _ _ _ _
  | exact ih1 _ _ _ _
  | exact zv.mono _ _ _
  | exact zz.mono _ _
  | exact LeO.none _
  | refine LeO.ite ?_ ?_
  | refine LeO.bind ?_ (fun _=>?_)
set_option maxHeartbeats 8000000 in
set_option maxRecDepth 100000 in
theorem zm.calls (k : Nat) (a0 : Int) (A1 : Option Addr) (c1 : Nat) (l1 : List (S40)) (A2 : Option Addr) (c2 : Nat) (l2 : List (S40)) (r : Int) (w : World) (hr1 : Kd.C k40 w A1 l1.length l1) (hc1 : l1.length ≤ c1) (hr2 : Kd.C k40 w A2 l2.length l2) (hc2 : l2.length ≤ c2) (h : zm.f k a0 l1 l2 = some r) :
 Calls Try.prog 56 #[.int .i64 a0,.slice A1 l1.length c1,.slice A2 l2.length c2] w fun e w'=>e = .returned (.int .i64 r) ∧ Below w.heap.size w w':=by
 have HR1:=z1.mk hr1
 have HC1:=z1.mk hc1
 clear hr1 hc1
 have HR2:=z1.mk hr2
 have HC2:=z1.mk hc2
 clear hr2 hc2
 have HB:=z1.mk (Below.refl w.heap.size w)
 have H : (if a0 < 0 then (zm.j0 k a0 l1 l2 true) else (zm.j0 k a0 l1 l2 (decide (a0 > 7)))) = some r:=h
 clear h
 have HC4:=z1.mk H
 clear H
 go_enter Try.func56,Try.ntmps56
 go_upto_region 1 with (fail)
 go_cut [12] (fun v12 wc=>∃ (kq : Nat) (x12_3 : Bool),v12 = .bool x12_3 ∧ z1 (zm.j0 kq a0 l1 l2 x12_3 = some r) ∧ z1 (kq ≤ k) ∧ z1 (Below w.heap.size w wc))
 case first =>
  have H:=HC4.out
  clear HC4
  by_cases c5 : a0 < 0
  rotate_left
  · rw [if_neg c5] at H
    have c5b0 : decide (a0 < 0) = false:=decide_eq_false c5
    clear c5
    (first|rw [c5b0]|(simp only [zH,zP];rw [c5b0])|skip)
    have H':=z1.mk H
    clear H
    go_wp2
    go_meet
    case rel=>exact ⟨_,(decide (a0 > 7)),zz86,H',⟨by first|omega|exact Nat.le_refl _⟩,⟨by repeat (first|(with_reducible first|exact HB.out|apply zd|apply z2|apply z9)|exact HB.out)⟩⟩
  rw [if_pos c5] at H
  have c5b0 : decide (a0 < 0) = true:=decide_eq_true c5
  clear c5
  (first|rw [c5b0]|(simp only [zH,zP];rw [c5b0])|skip)
  have H':=z1.mk H
  clear H
  go_wp2
  go_meet
  case rel=>exact ⟨_,(true),zz86,H',⟨by first|omega|exact Nat.le_refl _⟩,⟨by repeat (first|(with_reducible first|exact HB.out|apply zd|apply z2|apply z9)|exact HB.out)⟩⟩
 case rest =>
  clear HC4
  (try clear c1);(try clear c2);(try clear p2);(try clear c5);(try clear c5b0)
  obtain ⟨kq,x12_3,rfl,HA,HJ3,HB⟩:=hcut
  cases kq with
  | zero=>exact absurd HA.out (by simp [zm.j0])
  | succ kj3 =>
   have H:=HA.out
   clear HA
   simp only [zm.j0] at H
   by_cases c6 : x12_3 = true
   · subst c6
     have H1 : (some 1) = some r:=by rw [if_pos rfl] at H;exact H
     clear H
     have H:=H1
     clear H1
     obtain rfl:=Option.some.inj H
     go_wp2
     go_ret
     exact ⟨by first|rfl|(simp [zg,zh] <;> rfl)|(simp [*,zg,zh] <;> rfl),by repeat (first|(with_reducible first|exact HB.out|apply zd|apply z2|apply z9)|exact HB.out)⟩
   replace c6:=Bool.eq_false_iff.mpr c6
   subst c6
   have H1 : ((zz.f kj3 a0).bind fun t101=>(if (l1.length : Int) = t101 then (zm.j1 kj3 a0 l1 l2 ((l2.length : Int) != a0)) else (zm.j1 kj3 a0 l1 l2 true))) = some r:=by rw [if_neg (show ¬ (false = true) by decide)] at H;exact H
   clear H
   have H:=H1
   clear H1
   have HC7:=z1.mk H
   clear H
   go_upto_region 3 with (fail)
   go_cut [23] (fun v23 wc=>∃ (kq : Nat) (x23_6 : Bool),v23 = .bool x23_6 ∧ z1 (zm.j1 kq a0 l1 l2 x23_6 = some r) ∧ z1 (kq ≤ kj3) ∧ z1 (Below w.heap.size w wc))
   case first =>
    have H:=HC7.out
    clear HC7
    replace H:=Option.bind_eq_some_iff.mp H
    obtain ⟨t101,A80,H⟩:=H
    replace H : (if (l1.length : Int) = t101 then (zm.j1 kj3 a0 l1 l2 ((l2.length : Int) != a0)) else (zm.j1 kj3 a0 l1 l2 true)) = some r:=H
    have A8:=z1.mk A80
    clear A80
    by_cases c9 : (l1.length : Int) = t101
    rotate_left
    · rw [if_neg c9] at H
      have c9b0 : ((l1.length : Int) == t101) = false:=beq_eq_false_iff_ne.mpr c9
      have c9b1 : ((l1.length : Int) != t101) = true:=bne_iff_ne.mpr c9
      (first|rw [c9b0]|(simp only [zH,zP];rw [c9b0])|skip)
      have H':=z1.mk H
      clear H
      go_wp2_with (first|((with_reducible refine zi (f:=67) rfl ?_);refine goesL_ (some 16) rfl rfl Try.func67 zz90 rfl #[.int .i64 a0] rfl zz48 ?_;(with_reducible refine (zz.calls kj3 a0 t101 _ A8.out).mono ?_);rintro e w' ⟨rfl,⟨nd,rfl⟩⟩;refine ⟨_,rfl,?_⟩))
      go_meet
      case rel=>exact ⟨_,(true),zz86,H',⟨by have:=HJ3.out;first|omega|exact Nat.le_refl _⟩,⟨by repeat (first|(with_reducible first|exact HB.out|apply zd|apply z2|apply z9)|exact HB.out)⟩⟩
    rw [if_pos c9] at H
    have c9b0 : ((l1.length : Int) == t101) = true:=beq_iff_eq.mpr c9
    have c9b1 : ((l1.length : Int) != t101) = false:=bne_eq_false_iff_eq.mpr c9
    clear c9
    (first|rw [c9b0]|(simp only [zH,zP];rw [c9b0])|skip)
    have H':=z1.mk H
    clear H
    go_wp2_with (first|((with_reducible refine zi (f:=67) rfl ?_);refine goesL_ (some 16) rfl rfl Try.func67 zz90 rfl #[.int .i64 a0] rfl zz48 ?_;(with_reducible refine (zz.calls kj3 a0 t101 _ A8.out).mono ?_);rintro e w' ⟨rfl,⟨nd,rfl⟩⟩;refine ⟨_,rfl,?_⟩))
    go_meet
    case rel=>exact ⟨_,(((l2.length : Int) != a0)),zz86,H',⟨by have:=HJ3.out;first|omega|exact Nat.le_refl _⟩,⟨by repeat (first|(with_reducible first|exact HB.out|apply zd|apply z2|apply z9)|exact HB.out)⟩⟩
   case rest =>
    clear HC7
    (try clear c1);(try clear c2);(try clear p2);(try clear c5);(try clear c5b0);(try clear c6);(try clear c9);(try clear c9b0);(try clear c9b1);(try clear p2)
    obtain ⟨kq,x23_6,rfl,HA,HJ6,HB⟩:=hcut
    cases kq with
    | zero=>exact absurd HA.out (by simp [zm.j1])
    | succ kj6 =>
     have H:=HA.out
     clear HA
     simp only [zm.j1] at H
     by_cases c10 : x23_6 = true
     · subst c10
       have H1 : (some 6) = some r:=by rw [if_pos rfl] at H;exact H
       clear H
       have H:=H1
       clear H1
       obtain rfl:=Option.some.inj H
       go_wp2
       go_ret
       exact ⟨by first|rfl|(simp [zg,zh] <;> rfl)|(simp [*,zg,zh] <;> rfl),by repeat (first|(with_reducible first|exact HB.out|apply zd|apply z2|apply z9)|exact HB.out)⟩
     replace c10:=Bool.eq_false_iff.mpr c10
     subst c10
     have H1 : ((zv.f kj6 a0 l1).bind fun t102=>(if t102 = true then ((zv.f kj6 a0 l2).bind fun t103=>(if t103 = true then (some 0) else (some 5))) else (some 5))) = some r:=by rw [if_neg (show ¬ (false = true) by decide)] at H;exact H
     clear H
     have H:=H1
     clear H1
     replace H:=Option.bind_eq_some_iff.mp H
     obtain ⟨t102,A110,H⟩:=H
     replace H : (if t102 = true then ((zv.f kj6 a0 l2).bind fun t103=>(if t103 = true then (some 0) else (some 5))) else (some 5)) = some r:=H
     have A11:=z1.mk A110
     clear A110
     by_cases c12 : t102 = true
     rotate_left
     · replace c12:=Bool.eq_false_iff.mpr c12
       subst c12
       have H1 : (some 5) = some r:=by rw [if_neg (show ¬ (false = true) by decide)] at H;exact H
       clear H
       have H:=H1
       clear H1
       obtain rfl:=Option.some.inj H
       go_wp2_with (first|((with_reducible refine zi (f:=50) rfl ?_);refine goesL_ (some 26) rfl rfl Try.func50 zz90 rfl #[.int .i64 a0,.slice A1 l1.length c1] rfl zz48 ?_;(with_reducible refine (zv.calls kj6 a0 _ _ l1 false _ ?side1 ?side2 A11.out).mono ?_);(case side1=>repeat (first|exact (Kd.z1r HR1.out HB.out)|(with_reducible refine Kd.zQ ?_ _)|(with_reducible refine Kd.zR ?_ _)|(with_reducible refine Kd.z1d ?_)));(case side2=>exact HC1.out);rintro e w19 ⟨rfl,hb⟩;refine ⟨_,rfl,?_⟩;have n0_:=z1.mk (z3 zz49 hb);clear HB;have HB:=n0_;clear n0_;(try clear hb);(try clear hb2);(try clear hk);(try clear hi)))
       go_ret
       exact ⟨by first|rfl|(simp [zg,zh] <;> rfl)|(simp [*,zg,zh] <;> rfl),by repeat (first|(with_reducible first|exact HB.out|apply zd|apply z2|apply z9)|exact HB.out)⟩
     subst c12
     have H1 : ((zv.f kj6 a0 l2).bind fun t103=>(if t103 = true then (some 0) else (some 5))) = some r:=by rw [if_pos rfl] at H;exact H
     clear H
     have H:=H1
     clear H1
     replace H:=Option.bind_eq_some_iff.mp H
     obtain ⟨t103,A130,H⟩:=H
     replace H : (if t103 = true then (some 0) else (some 5)) = some r:=H
     have A13:=z1.mk A130
     clear A130
     by_cases c14 : t103 = true
     · subst c14
       have H1 : (some 0) = some r:=by rw [if_pos rfl] at H;exact H
       clear H
       have H:=H1
       clear H1
       obtain rfl:=Option.some.inj H
       go_wp2_with (first|((with_reducible refine zi (f:=50) rfl ?_);refine goesL_ (some 26) rfl rfl Try.func50 zz90 rfl #[.int .i64 a0,.slice A1 l1.length c1] rfl zz48 ?_;(with_reducible refine (zv.calls kj6 a0 _ _ l1 true _ ?side1 ?side2 A11.out).mono ?_);(case side1=>repeat (first|exact (Kd.z1r HR1.out HB.out)|(with_reducible refine Kd.zQ ?_ _)|(with_reducible refine Kd.zR ?_ _)|(with_reducible refine Kd.z1d ?_)));(case side2=>exact HC1.out);rintro e w15 ⟨rfl,hb⟩;refine ⟨_,rfl,?_⟩;have n0_:=z1.mk (z3 zz49 hb);clear HB;have HB:=n0_;clear n0_;(try clear hb);(try clear hb2);(try clear hk);(try clear hi))|(go_at_call 50;(with_reducible refine (zv.calls kj6 a0 _ _ l2 true _ ?side1 ?side2 A13.out).mono ?_);(case side1=>repeat (first|exact (Kd.z1r HR2.out HB.out)|(with_reducible refine Kd.zQ ?_ _)|(with_reducible refine Kd.zR ?_ _)|(with_reducible refine Kd.z1d ?_)));(case side2=>exact HC2.out);rintro e w16 ⟨rfl,hb⟩;have n0_:=z1.mk (z3 zz49 hb);clear HB;have HB:=n0_;clear n0_;(try clear hb);(try clear hb2);(try clear hk);(try clear hi)))
       go_ret
       exact ⟨by first|rfl|(simp [zg,zh] <;> rfl)|(simp [*,zg,zh] <;> rfl),by repeat (first|(with_reducible first|exact HB.out|apply zd|apply z2|apply z9)|exact HB.out)⟩
     replace c14:=Bool.eq_false_iff.mpr c14
     subst c14
     have H1 : (some 5) = some r:=by rw [if_neg (show ¬ (false = true) by decide)] at H;exact H
     clear H
     have H:=H1
     clear H1
     obtain rfl:=Option.some.inj H
     go_wp2_with (first|((with_reducible refine zi (f:=50) rfl ?_);refine goesL_ (some 26) rfl rfl Try.func50 zz90 rfl #[.int .i64 a0,.slice A1 l1.length c1] rfl zz48 ?_;(with_reducible refine (zv.calls kj6 a0 _ _ l1 true _ ?side1 ?side2 A11.out).mono ?_);(case side1=>repeat (first|exact (Kd.z1r HR1.out HB.out)|(with_reducible refine Kd.zQ ?_ _)|(with_reducible refine Kd.zR ?_ _)|(with_reducible refine Kd.z1d ?_)));(case side2=>exact HC1.out);rintro e w17 ⟨rfl,hb⟩;refine ⟨_,rfl,?_⟩;have n0_:=z1.mk (z3 zz49 hb);clear HB;have HB:=n0_;clear n0_;(try clear hb);(try clear hb2);(try clear hk);(try clear hi))|(go_at_call 50;(with_reducible refine (zv.calls kj6 a0 _ _ l2 false _ ?side1 ?side2 A13.out).mono ?_);(case side1=>repeat (first|exact (Kd.z1r HR2.out HB.out)|(with_reducible refine Kd.zQ ?_ _)|(with_reducible refine Kd.zR ?_ _)|(with_reducible refine Kd.z1d ?_)));(case side2=>exact HC2.out);rintro e w18 ⟨rfl,hb⟩;have n0_:=z1.mk (z3 zz49 hb);clear HB;have HB:=n0_;clear n0_;(try clear hb);(try clear hb2);(try clear hk);(try clear hi)))
     go_ret
     exact ⟨by first|rfl|(simp [zg,zh] <;> rfl)|(simp [*,zg,zh] <;> rfl),by repeat (first|(with_reducible first|exact HB.out|apply zd|apply z2|apply z9)|exact HB.out)⟩
end Go.Proofs.Ytkhmpaooinpfoaa.P
namespace Go.Proofs.Ytkhmpaooinpfoaa.P
open Go.RowKit Go.Proofs.YtkhmpaooinpfoaaW.PrintWords Go.Proofs.YtkhmpaooinpfoaaW.PrintLast Go.Proofs.YtkhmpaooinpfoaaW.PrintMore
attribute [local go_sem] z12 z14 z1i z1j zU zV z13 z15   -- for this text's walks alone
set_option linter.unusedVariables false
set_option linter.unusedSimpArgs false
def z16.f (a0_0 : Int) (a0_1 : Int) (a1_0 : Int) (a1_1 : Int) : Option (Int × Int):=some (Go.bits .xor .u64 a0_0 a1_0,Go.bits .xor .u64 a0_1 a1_1)
set_option maxHeartbeats 8000000 in
set_option maxRecDepth 100000 in
theorem z16.calls (a0_0 : Int) (a0_1 : Int) (a1_0 : Int) (a1_1 : Int) (r1 : Int) (r2 : Int) (w : World) (h : z16.f a0_0 a0_1 a1_0 a1_1 = some (r1,r2)) :
 Calls Try.prog 69 #[.agg #[.int .u64 a0_0,.int .u64 a0_1],.agg #[.int .u64 a1_0,.int .u64 a1_1]] w fun e w'=>e = .returned (.agg #[.int .u64 r1,.int .u64 r2]) ∧ Below w.heap.size w w':=by
 have hu40:=Try.underlying40
 have HB:=z1.mk (Below.refl w.heap.size w)
 have H : (some (Go.bits .xor .u64 a0_0 a1_0,Go.bits .xor .u64 a0_1 a1_1)) = some (r1,r2):=h
 clear h
 simp only [Option.some.injEq,Prod.mk.injEq] at H
 obtain ⟨rfl,rfl⟩:=H
 go_enter Try.func69,Try.ntmps69
 go_wp2_with (first|((with_reducible refine zp (N:=2) rfl ?_);refine zt ?hg (N:=2) ?hd (cs:=#[.int .u64 a0_0,.int .u64 a0_1]) (t:=40) ?hr ?_;(case hd=>rfl);(case hg=>rfl);(case hr=>first|(go_simp;done)|(go_simp;rfl));intro gb101 hg w3 hbox hb;have n0_:=z1.mk (z3 zz49 hb);have n1_:=z1.mk (hbox);have n2_:=z1.mk ((by rw [hg];exact (zb zz49) : w.heap.size ≤ gb101));have n3_:=z1.mk ((by rw [hg];exact (zb zz49) : w.heap.size ≤ gb101));clear HB;have HB:=n0_;have BK101:=n1_;have GW101:=n2_;have GE101:=n3_;clear n0_ n1_ n2_ n3_;clear hb hbox hg)|((with_reducible refine zp (N:=3) rfl ?_);refine zt ?hg (N:=3) ?hd (cs:=#[.int .u64 a1_0,.int .u64 a1_1]) (t:=40) ?hr ?_;(case hd=>rfl);(case hg=>rfl);(case hr=>first|(go_simp;done)|(go_simp;rfl));intro gb102 hg w4 hbox hb;have n0_:=z1.mk (zc (g:=gb101) (o:=.cells #[.int .u64 a0_0,.int .u64 a0_1] 40 (0,0)) zz50 hb);have n1_:=z1.mk (z3 zz43 hb);have n2_:=z1.mk (hbox);have n3_:=z1.mk ((by rw [hg];exact (zb zz43) : w.heap.size ≤ gb102));have n4_:=z1.mk ((by rw [hg];exact (zb zz43) : w.heap.size ≤ gb102));have n5_:=z1.mk ((by rw [hg];exact Nat.ne_of_lt (zL (g:=gb101) (o:=.cells #[.int .u64 a0_0,.int .u64 a0_1] 40 (0,0)) zz50) : gb101 ≠ gb102));have n6_:=z1.mk ((by rw [hg];exact Nat.ne_of_gt (zL (g:=gb101) (o:=.cells #[.int .u64 a0_0,.int .u64 a0_1] 40 (0,0)) zz50) : gb102 ≠ gb101));clear BK101;clear HB;have BK101:=n0_;have HB:=n1_;have BK102:=n2_;have GW102:=n3_;have GE102:=n4_;have NB101_102:=n5_;have NB102_101:=n6_;clear n0_ n1_ n2_ n3_ n4_ n5_ n6_;clear hb hbox hg)|((with_reducible refine zp (N:=4) rfl ?_);refine zt ?hg (N:=4) ?hd (cs:=#[.int .u64 0,.int .u64 0]) (t:=40) ?hr ?_;(case hd=>rfl);(case hg=>rfl);(case hr=>first|(go_simp;done)|(go_simp;rfl));intro gb103 hg w5 hbox hb;have n0_:=z1.mk (zc (g:=gb101) (o:=.cells #[.int .u64 a0_0,.int .u64 a0_1] 40 (0,0)) zz50 hb);have n1_:=z1.mk (zc (g:=gb102) (o:=.cells #[.int .u64 a1_0,.int .u64 a1_1] 40 (0,0)) zz51 hb);have n2_:=z1.mk (z3 zz36 hb);have n3_:=z1.mk (hbox);have n4_:=z1.mk ((by rw [hg];exact (zb zz36) : w.heap.size ≤ gb103));have n5_:=z1.mk ((by rw [hg];exact (zb zz36) : w.heap.size ≤ gb103));have n6_:=z1.mk ((by rw [hg];exact Nat.ne_of_lt (zL (g:=gb101) (o:=.cells #[.int .u64 a0_0,.int .u64 a0_1] 40 (0,0)) zz50) : gb101 ≠ gb103));have n7_:=z1.mk ((by rw [hg];exact Nat.ne_of_gt (zL (g:=gb101) (o:=.cells #[.int .u64 a0_0,.int .u64 a0_1] 40 (0,0)) zz50) : gb103 ≠ gb101));have n8_:=z1.mk ((by rw [hg];exact Nat.ne_of_lt (zL (g:=gb102) (o:=.cells #[.int .u64 a1_0,.int .u64 a1_1] 40 (0,0)) zz51) : gb102 ≠ gb103));have n9_:=z1.mk ((by rw [hg];exact Nat.ne_of_gt (zL (g:=gb102) (o:=.cells #[.int .u64 a1_0,.int .u64 a1_1] 40 (0,0)) zz51) : gb103 ≠ gb102));clear BK101;clear BK102;clear HB;have BK101:=n0_;have BK102:=n1_;have HB:=n2_;have BK103:=n3_;have GW103:=n4_;have GE103:=n5_;have NB101_103:=n6_;have NB103_101:=n7_;have NB102_103:=n8_;have NB103_102:=n9_;clear n0_ n1_ n2_ n3_ n4_ n5_ n6_ n7_ n8_ n9_;clear hb hbox hg;have hnb6:=NB101_102.out;have hnc6:=NB102_101.out;have hnb7:=NB101_103.out;have hnc7:=NB103_101.out;have hcz8_0 : w5.cell? ⟨gb101,0,none⟩ = some (.int .u64 a0_0):=(z7 BK101.out 0).trans rfl;have hcz8_1 : w5.cell? ⟨gb101,1,none⟩ = some (.int .u64 a0_1):=(z7 BK101.out 1).trans rfl;have hfz8_0:=z6 BK101.out 0;have hfz8_1:=z6 BK101.out 1;have hnb9:=NB102_103.out;have hnc9:=NB103_102.out;have hcz10_0 : w5.cell? ⟨gb102,0,none⟩ = some (.int .u64 a1_0):=(z7 BK102.out 0).trans rfl;have hcz10_1 : w5.cell? ⟨gb102,1,none⟩ = some (.int .u64 a1_1):=(z7 BK102.out 1).trans rfl;have hfz10_0:=z6 BK102.out 0;have hfz10_1:=z6 BK102.out 1;have hcz11_0 : w5.cell? ⟨gb103,0,none⟩ = some (.int .u64 0):=(z7 BK103.out 0).trans rfl;have hcz11_1 : w5.cell? ⟨gb103,1,none⟩ = some (.int .u64 0):=(z7 BK103.out 1).trans rfl;have hfz11_0:=z6 BK103.out 0;have hfz11_1:=z6 BK103.out 1))
 refine bodyPost_ret (results_cell_row rfl _ _ gb103 40 #[.int .u64 (Go.bits .xor .u64 a0_0 a1_0),.int .u64 (Go.bits .xor .u64 a0_1 a1_1)] (0,0) _ rfl zz0 Try.underlying40 rfl zz90) rfl ?_
 exact ⟨by first|rfl|(simp [zg,zh] <;> rfl)|(simp [*,zg,zh] <;> rfl),by repeat (first|(with_reducible first|exact HB.out|apply zd|apply z2|apply z9|refine za ?_ GE101.out|refine za ?_ GE102.out|refine za ?_ GE103.out)|exact HB.out)⟩
end Go.Proofs.Ytkhmpaooinpfoaa.P
namespace Go.Proofs.Ytkhmpaooinpfoaa.P
open Go.RowKit Go.Proofs.YtkhmpaooinpfoaaW.PrintWords Go.Proofs.YtkhmpaooinpfoaaW.PrintLast Go.Proofs.YtkhmpaooinpfoaaW.PrintMore
attribute [local go_sem] z12 z14 z1i z1j zU zV z13 z15   -- for this text's walks alone
set_option linter.unusedVariables false
set_option linter.unusedSimpArgs false
def zy.j0 : Nat → Int → Bool → Option (Int × Int)
 | 0,_,_=>none
 | k + 1,x0,x8=>if x8 = true then (some (0,0)) else (if x0 > 63 then (if 0 ≤ (IntKind.u64.wrap (wrap64 (x0 - 64))) then (some (shl .u64 1 (IntKind.u64.wrap (wrap64 (x0 - 64))),0)) else (none)) else (if 0 ≤ (IntKind.u64.wrap (x0)) then (some (0,shl .u64 1 (IntKind.u64.wrap (x0)))) else (none)))
def zy.f (k : Nat) (a0 : Int) : Option (Int × Int):=if a0 < 0 then (zy.j0 k a0 true) else (zy.j0 k a0 (decide (a0 > 127)))
theorem zy.z17 : ∀ k,(∀ y0 y1,LeO (zy.j0 k y0 y1) (zy.j0 (k + 1) y0 y1))
 | 0=>fun _ _ r h=>by simp [zy.j0] at h
 | k + 1=>by
  have ih0:=zy.z17 k
  · intro y0 y1
    unfold zy.j0
    repeat' first
    | (with_reducible exact ih0 _ _)
    | (with_reducible exact LeO.refl _)
    | (with_reducible exact LeO.none _)
    | (with_reducible refine LeO.ite ?_ ?_)
    | (with_reducible refine LeO.bind ?_ (fun _=>?_))
    | exact ih0 _ _
    | exact LeO.none _
    | refine LeO.ite ?_ ?_
    | refine LeO.bind ?_ (fun _=>?_)
theorem zy.mono : ∀ a0 k,LeO (zy.f k a0) (zy.f (k + 1) a0):=by
 intro a0 k
 have ih0:=zy.z17 k
 unfold zy.f
 repeat' first
  | (with_reducible exact ih0 _ _)
  | (with_reducible exact LeO.refl _)
  | (with_reducible exact LeO.none _)
  | (with_reducible refine LeO.ite ?_ ?_)
  | (with_reducible refine LeO.bind ?_ (fun _=>?_))
  | exact ih0 _ _
  | exact LeO.none _
  | refine LeO.ite ?_ ?_
  | refine LeO.bind ?_ (fun _=>?_)
set_option maxHeartbeats 8000000 in
set_option maxRecDepth 100000 in
theorem zy.calls (k : Nat) (a0 : Int) (r1 : Int) (r2 : Int) (w : World) (h : zy.f k a0 = some (r1,r2)) :
 Calls Try.prog 98 #[.int .i64 a0] w fun e w'=>e = .returned (.agg #[.int .u64 r1,.int .u64 r2]) ∧ Below w.heap.size w w':=by
 have hu40:=Try.underlying40
 have HB:=z1.mk (Below.refl w.heap.size w)
 have H : (if a0 < 0 then (zy.j0 k a0 true) else (zy.j0 k a0 (decide (a0 > 127)))) = some (r1,r2):=h
 clear h
 have HC2:=z1.mk H
 clear H
 go_enter Try.func98,Try.ntmps98
 go_upto_region 1 with (first|((with_reducible refine zp (N:=2) rfl ?_);refine zt ?hg (N:=2) ?hd (cs:=#[.int .u64 0,.int .u64 0]) (t:=40) ?hr ?_;(case hd=>rfl);(case hg=>rfl);(case hr=>first|(go_simp;done)|(go_simp;rfl));intro gb101 hg w3 hbox hb;have n0_:=z1.mk (z3 zz49 hb);have n1_:=z1.mk (hbox);have n2_:=z1.mk ((by rw [hg];exact (zb zz49) : w.heap.size ≤ gb101));have n3_:=z1.mk ((by rw [hg];exact (zb zz49) : w.heap.size ≤ gb101));clear HB;have HB:=n0_;have BK101:=n1_;have GW101:=n2_;have GE101:=n3_;clear n0_ n1_ n2_ n3_;clear hb hbox hg))
 (try simp only [Act.put,List.setIfInBounds_toArray,List.set_cons_zero,List.set_cons_succ])
 go_cut [8] (fun v8 wc=>∃ (kq : Nat) (x8_1 : Bool),v8 = .bool x8_1 ∧ z1 (zy.j0 kq a0 x8_1 = some (r1,r2)) ∧ z1 (kq ≤ k) ∧ z1 (wc.heap[gb101]? = some (.cells #[.int .u64 0,.int .u64 0] 40 (0,0))) ∧ z1 (Below w.heap.size w wc))
 case first =>
  have H:=HC2.out
  clear HC2
  by_cases c4 : a0 < 0
  rotate_left
  · rw [if_neg c4] at H
    have c4b0 : decide (a0 < 0) = false:=decide_eq_false c4
    clear c4
    (first|rw [c4b0]|(simp only [zH,zP];rw [c4b0])|skip)
    have H':=z1.mk H
    clear H
    go_wp2
    go_meet
    case rel=>exact ⟨_,(decide (a0 > 127)),zz86,H',⟨by first|omega|exact Nat.le_refl _⟩,⟨by (with_reducible repeat (first|refine z5 ?_ _|refine z8 ?_|refine z4 ?_ _));exact BK101.out⟩,⟨by repeat (first|(with_reducible first|exact HB.out|apply zd|apply z2|apply z9|refine za ?_ GE101.out)|exact HB.out)⟩⟩
  rw [if_pos c4] at H
  have c4b0 : decide (a0 < 0) = true:=decide_eq_true c4
  clear c4
  (first|rw [c4b0]|(simp only [zH,zP];rw [c4b0])|skip)
  have H':=z1.mk H
  clear H
  go_wp2
  go_meet
  case rel=>exact ⟨_,(true),zz86,H',⟨by first|omega|exact Nat.le_refl _⟩,⟨by (with_reducible repeat (first|refine z5 ?_ _|refine z8 ?_|refine z4 ?_ _));exact BK101.out⟩,⟨by repeat (first|(with_reducible first|exact HB.out|apply zd|apply z2|apply z9|refine za ?_ GE101.out)|exact HB.out)⟩⟩
 case rest =>
  clear HC2
  (try clear p2);(try clear c4);(try clear c4b0)
  obtain ⟨kq,x8_1,rfl,HA,HJ1,BK101,HB⟩:=hcut
  cases kq with
  | zero=>exact absurd HA.out (by simp [zy.j0])
  | succ kj1 =>
   have H:=HA.out
   clear HA
   simp only [zy.j0] at H
   by_cases c5 : x8_1 = true
   · subst c5
     have H1 : (some (0,0)) = some (r1,r2):=by rw [if_pos rfl] at H;exact H
     clear H
     have H:=H1
     clear H1
     simp only [Option.some.injEq,Prod.mk.injEq] at H
     obtain ⟨rfl,rfl⟩:=H
     have hcz6_0 : wc.cell? ⟨gb101,0,none⟩ = some (.int .u64 0):=(z7 BK101.out 0).trans rfl
     have hcz6_1 : wc.cell? ⟨gb101,1,none⟩ = some (.int .u64 0):=(z7 BK101.out 1).trans rfl
     have hfz6_0:=z6 BK101.out 0
     have hfz6_1:=z6 BK101.out 1
     go_wp2
     refine bodyPost_ret (results_cell_row rfl _ _ gb101 40 #[.int .u64 0,.int .u64 0] (0,0) _ rfl zz9 Try.underlying40 rfl zz90) rfl ?_
     exact ⟨by first|rfl|(simp [zg,zh] <;> rfl)|(simp [*,zg,zh] <;> rfl),by repeat (first|(with_reducible first|exact HB.out|apply zd|apply z2|apply z9|refine za ?_ GE101.out)|exact HB.out)⟩
   replace c5:=Bool.eq_false_iff.mpr c5
   subst c5
   have H1 : (if a0 > 63 then (if 0 ≤ (IntKind.u64.wrap (wrap64 (a0 - 64))) then (some (shl .u64 1 (IntKind.u64.wrap (wrap64 (a0 - 64))),0)) else (none)) else (if 0 ≤ (IntKind.u64.wrap (a0)) then (some (0,shl .u64 1 (IntKind.u64.wrap (a0)))) else (none))) = some (r1,r2):=by rw [if_neg (show ¬ (false = true) by decide)] at H;exact H
   clear H
   have H:=H1
   clear H1
   by_cases c7 : a0 > 63
   · rw [if_pos c7] at H
     have c7b0 : decide (63 < a0) = true:=decide_eq_true c7
     clear c7
     obtain ⟨ji8,hji8⟩ : ∃ j_ : Int,(IntKind.u64.wrap (wrap64 (a0 - 64))) = j_:=⟨_,rfl⟩
     replace H : (if 0 ≤ (ji8) then (some (shl .u64 1 (ji8),0)) else (none)) = some (r1,r2):=by first|(rw [hji8] at H;exact H)|(simp only [hji8] at H ⊢;exact H)
     by_cases c9 : 0 ≤ (ji8)
     rotate_left
     · rw [if_neg c9] at H
       exact absurd H zz93
     rw [if_pos c9] at H
     have c9b0:=eq_true c9
     have c9b1 : decide (0 ≤ (ji8)) = true:=decide_eq_true c9
     clear c9
     obtain ⟨ji10,hji10⟩ : ∃ j_ : Int,(shl .u64 1 (ji8)) = j_:=⟨_,rfl⟩
     replace H : (some (ji10,0)) = some (r1,r2):=by first|(rw [hji10] at H;exact H)|(simp only [hji10] at H ⊢;exact H)
     have hji10_ : (IntKind.u64.wrap (1 * 2 ^ min (ji8).toNat 64)) = ji10:=hji10
     have hji10z : (ji8) ≤ 64 → (IntKind.u64.wrap (1 * 2 ^ (ji8).toNat)) = ji10:=z1K hji10
     have hji10n0 : 0 ≤ ji10:=by rw [← hji10];exact Int.emod_nonneg _ zz91
     have hji10n1 : decide (0 ≤ ji10) = true:=decide_eq_true hji10n0
     replace hji10n0:=eq_true hji10n0
     have hji10u : (IntKind.u64.wrap (2 ^ min (ji8).toNat 64)) = ji10:=by have h_:=hji10_;rw [Int.one_mul] at h_;exact h_
     have hji10v : (ji8) ≤ 64 → (IntKind.u64.wrap (2 ^ (ji8).toNat)) = ji10:=fun hle_=>by have h_:=hji10z hle_;rw [Int.one_mul] at h_;exact h_
     simp only [Option.some.injEq,Prod.mk.injEq] at H
     obtain ⟨rfl,rfl⟩:=H
     have hcz11_0 : wc.cell? ⟨gb101,0,none⟩ = some (.int .u64 0):=(z7 BK101.out 0).trans rfl
     have hcz11_1 : wc.cell? ⟨gb101,1,none⟩ = some (.int .u64 0):=(z7 BK101.out 1).trans rfl
     have hfz11_0:=z6 BK101.out 0
     have hfz11_1:=z6 BK101.out 1
     go_wp2
     refine bodyPost_ret (results_cell_row rfl _ _ gb101 40 #[.int .u64 ji10,.int .u64 0] (0,0) _ rfl (by (with_reducible repeat (first|refine z5 ?_ _|refine z8 ?_|refine z4 ?_ _));refine zX (cs:=#[.int .u64 ji10,.int .u64 0]) ?_ 1 _ rfl;(with_reducible repeat (first|refine z5 ?_ _|refine z8 ?_|refine z4 ?_ _));refine zX (cs:=#[.int .u64 0,.int .u64 0]) ?_ 0 _ rfl;(with_reducible repeat (first|refine z5 ?_ _|refine z8 ?_|refine z4 ?_ _));exact BK101.out) Try.underlying40 rfl zz90) rfl ?_
     exact ⟨by first|rfl|(simp [zg,zh] <;> rfl)|(simp only [← hji8,← hji10];first|rfl|(simp [zg,zh] <;> rfl))|(simp [*,zg,zh] <;> rfl),by repeat (first|(with_reducible first|exact HB.out|apply zd|apply z2|apply z9|refine za ?_ GE101.out)|exact HB.out)⟩
   rw [if_neg c7] at H
   have c7b0 : decide (63 < a0) = false:=decide_eq_false c7
   clear c7
   obtain ⟨ji12,hji12⟩ : ∃ j_ : Int,(IntKind.u64.wrap (a0)) = j_:=⟨_,rfl⟩
   replace H : (if 0 ≤ (ji12) then (some (0,shl .u64 1 (ji12))) else (none)) = some (r1,r2):=by first|(rw [hji12] at H;exact H)|(simp only [hji12] at H ⊢;exact H)
   by_cases c13 : 0 ≤ (ji12)
   rotate_left
   · rw [if_neg c13] at H
     exact absurd H zz93
   rw [if_pos c13] at H
   have c13b0:=eq_true c13
   have c13b1 : decide (0 ≤ (ji12)) = true:=decide_eq_true c13
   clear c13
   obtain ⟨ji14,hji14⟩ : ∃ j_ : Int,(shl .u64 1 (ji12)) = j_:=⟨_,rfl⟩
   replace H : (some (0,ji14)) = some (r1,r2):=by first|(rw [hji14] at H;exact H)|(simp only [hji14] at H ⊢;exact H)
   have hji14_ : (IntKind.u64.wrap (1 * 2 ^ min (ji12).toNat 64)) = ji14:=hji14
   have hji14z : (ji12) ≤ 64 → (IntKind.u64.wrap (1 * 2 ^ (ji12).toNat)) = ji14:=z1K hji14
   have hji14n0 : 0 ≤ ji14:=by rw [← hji14];exact Int.emod_nonneg _ zz91
   have hji14n1 : decide (0 ≤ ji14) = true:=decide_eq_true hji14n0
   replace hji14n0:=eq_true hji14n0
   have hji14u : (IntKind.u64.wrap (2 ^ min (ji12).toNat 64)) = ji14:=by have h_:=hji14_;rw [Int.one_mul] at h_;exact h_
   have hji14v : (ji12) ≤ 64 → (IntKind.u64.wrap (2 ^ (ji12).toNat)) = ji14:=fun hle_=>by have h_:=hji14z hle_;rw [Int.one_mul] at h_;exact h_
   simp only [Option.some.injEq,Prod.mk.injEq] at H
   obtain ⟨rfl,rfl⟩:=H
   have hcz15_0 : wc.cell? ⟨gb101,0,none⟩ = some (.int .u64 0):=(z7 BK101.out 0).trans rfl
   have hcz15_1 : wc.cell? ⟨gb101,1,none⟩ = some (.int .u64 0):=(z7 BK101.out 1).trans rfl
   have hfz15_0:=z6 BK101.out 0
   have hfz15_1:=z6 BK101.out 1
   go_wp2
   refine bodyPost_ret (results_cell_row rfl _ _ gb101 40 #[.int .u64 0,.int .u64 ji14] (0,0) _ rfl zz9 Try.underlying40 rfl zz90) rfl ?_
   exact ⟨by first|rfl|(simp [zg,zh] <;> rfl)|(simp only [← hji12,← hji14];first|rfl|(simp [zg,zh] <;> rfl))|(simp [*,zg,zh] <;> rfl),by repeat (first|(with_reducible first|exact HB.out|apply zd|apply z2|apply z9|refine za ?_ GE101.out)|exact HB.out)⟩
end Go.Proofs.Ytkhmpaooinpfoaa.P
namespace Go.Proofs.Ytkhmpaooinpfoaa.P
open Go.RowKit Go.Proofs.YtkhmpaooinpfoaaW.PrintWords Go.Proofs.YtkhmpaooinpfoaaW.PrintLast Go.Proofs.YtkhmpaooinpfoaaW.PrintMore
attribute [local go_sem] z12 z14 z1i z1j zU zV z13 z15   -- for this text's walks alone
set_option linter.unusedVariables false
set_option linter.unusedSimpArgs false
def zE.f (k : Nat) (a0_0 : Int) (a0_1 : Int) (a1 : Int) : Option (Bool):=(zy.f k a1).bind fun bt102=>(some ((Go.bits .or .u64 (Go.bits .and .u64 a0_1 bt102.2) (Go.bits .and .u64 a0_0 bt102.1)) != 0))
theorem zE.mono : ∀ a0 a1 a2 k,LeO (zE.f k a0 a1 a2) (zE.f (k + 1) a0 a1 a2):=by
 intro a0 a1 a2 k
 unfold zE.f
 repeat' first
  | (with_reducible exact zy.mono _ _)
  | (with_reducible exact LeO.refl _)
  | (with_reducible exact LeO.none _)
  | (with_reducible refine LeO.ite ?_ ?_)
  | (with_reducible refine LeO.bind ?_ (fun _=>?_))
  | exact zy.mono _ _
  | exact LeO.none _
  | refine LeO.ite ?_ ?_
  | refine LeO.bind ?_ (fun _=>?_)
set_option maxHeartbeats 8000000 in
set_option maxRecDepth 100000 in
theorem zE.calls (k : Nat) (a0_0 : Int) (a0_1 : Int) (a1 : Int) (r : Bool) (w : World) (h : zE.f k a0_0 a0_1 a1 = some r) :
 Calls Try.prog 104 #[.agg #[.int .u64 a0_0,.int .u64 a0_1],.int .i64 a1] w fun e w'=>e = .returned (.bool r) ∧ Below w.heap.size w w':=by
 have hu40:=Try.underlying40
 have HB:=z1.mk (Below.refl w.heap.size w)
 have H : ((zy.f k a1).bind fun bt102=>(some ((Go.bits .or .u64 (Go.bits .and .u64 a0_1 bt102.2) (Go.bits .and .u64 a0_0 bt102.1)) != 0))) = some r:=h
 clear h
 replace H:=Option.bind_eq_some_iff.mp H
 obtain ⟨⟨t102,t103⟩,A30,H⟩:=H
 replace H : (some ((Go.bits .or .u64 (Go.bits .and .u64 a0_1 t103) (Go.bits .and .u64 a0_0 t102)) != 0)) = some r:=H
 have A3:=z1.mk A30
 clear A30
 obtain rfl:=Option.some.inj H
 go_enter Try.func104,Try.ntmps104
 go_wp2_with (first|((with_reducible refine zp (N:=2) rfl ?_);refine zt ?hg (N:=2) ?hd (cs:=#[.int .u64 a0_0,.int .u64 a0_1]) (t:=40) ?hr ?_;(case hd=>rfl);(case hg=>rfl);(case hr=>first|(go_simp;done)|(go_simp;rfl));intro gb101 hg w4 hbox hb;have n0_:=z1.mk (z3 zz49 hb);have n1_:=z1.mk (hbox);have n2_:=z1.mk ((by rw [hg];exact (zb zz49) : w.heap.size ≤ gb101));have n3_:=z1.mk ((by rw [hg];exact (zb zz49) : w.heap.size ≤ gb101));clear HB;have HB:=n0_;have BK101:=n1_;have GW101:=n2_;have GE101:=n3_;clear n0_ n1_ n2_ n3_;clear hb hbox hg)|((with_reducible refine zi (f:=98) rfl ?_);refine goesL_ (some 7) rfl rfl Try.func98 zz90 rfl #[.int .i64 a1] rfl zz48 ?_;(with_reducible refine (zy.calls k a1 t102 t103 _ A3.out).mono ?_);rintro e w5 ⟨rfl,hb⟩;refine ⟨_,rfl,?_⟩;have n0_:=z1.mk (zc (g:=gb101) (o:=.cells #[.int .u64 a0_0,.int .u64 a0_1] 40 (0,0)) zz50 hb);have n1_:=z1.mk (z3 zz43 hb);clear BK101;clear HB;have BK101:=n0_;have HB:=n1_;clear n0_ n1_;(try clear hb);(try clear hb2);(try clear hk);(try clear hi))|((with_reducible refine zp (N:=5) rfl ?_);refine zt ?hg (N:=5) ?hd (cs:=#[.int .u64 0,.int .u64 0]) (t:=40) ?hr ?_;(case hd=>rfl);(case hg=>rfl);(case hr=>first|(go_simp;done)|(go_simp;rfl));intro gb104 hg w6 hbox hb;have n0_:=z1.mk (zc (g:=gb101) (o:=.cells #[.int .u64 a0_0,.int .u64 a0_1] 40 (0,0)) zz50 hb);have n1_:=z1.mk (z3 zz43 hb);have n2_:=z1.mk (hbox);have n3_:=z1.mk ((by rw [hg];exact (zb zz43) : w.heap.size ≤ gb104));have n4_:=z1.mk ((by rw [hg];exact (zb zz43) : w.heap.size ≤ gb104));have n5_:=z1.mk ((by rw [hg];exact Nat.ne_of_lt (zL (g:=gb101) (o:=.cells #[.int .u64 a0_0,.int .u64 a0_1] 40 (0,0)) zz50) : gb101 ≠ gb104));have n6_:=z1.mk ((by rw [hg];exact Nat.ne_of_gt (zL (g:=gb101) (o:=.cells #[.int .u64 a0_0,.int .u64 a0_1] 40 (0,0)) zz50) : gb104 ≠ gb101));clear BK101;clear HB;have BK101:=n0_;have HB:=n1_;have BK104:=n2_;have GW104:=n3_;have GE104:=n4_;have NB101_104:=n5_;have NB104_101:=n6_;clear n0_ n1_ n2_ n3_ n4_ n5_ n6_;clear hb hbox hg;have hnb7:=NB104_101.out;have hnc7:=NB101_104.out;have hcz8_0 : w6.cell? ⟨gb104,0,none⟩ = some (.int .u64 0):=(z7 BK104.out 0).trans rfl;have hcz8_1 : w6.cell? ⟨gb104,1,none⟩ = some (.int .u64 0):=(z7 BK104.out 1).trans rfl;have hfz8_0:=z6 BK104.out 0;have hfz8_1:=z6 BK104.out 1;have hcz9_0 : w6.cell? ⟨gb101,0,none⟩ = some (.int .u64 a0_0):=(z7 BK101.out 0).trans rfl;have hcz9_1 : w6.cell? ⟨gb101,1,none⟩ = some (.int .u64 a0_1):=(z7 BK101.out 1).trans rfl;have hfz9_0:=z6 BK101.out 0;have hfz9_1:=z6 BK101.out 1))
 go_ret
 exact ⟨by first|rfl|(simp [zg,zh] <;> rfl)|(simp [*,zg,zh] <;> rfl),by repeat (first|(with_reducible first|exact HB.out|apply zd|apply z2|apply z9|refine za ?_ GE101.out|refine za ?_ GE104.out)|exact HB.out)⟩
end Go.Proofs.Ytkhmpaooinpfoaa.P
namespace Go.Proofs.Ytkhmpaooinpfoaa.P
open Go.RowKit Go.Proofs.YtkhmpaooinpfoaaW.PrintWords Go.Proofs.YtkhmpaooinpfoaaW.PrintLast Go.Proofs.YtkhmpaooinpfoaaW.PrintMore
attribute [local go_sem] z12 z14 z1i z1j zU zV z13 z15   -- for this text's walks alone
set_option linter.unusedVariables false
set_option linter.unusedSimpArgs false
def z1l.f (a0 : Int) : Option (Int):=(some (([6148914691236517205,3689348814741910323,1085102592571150095,71777214294589695,281470681808895,4294967295] : List Int) : List Int)).bind fun y101=>(if 0 ≤ a0 then (if a0 < (y101.length : Int) then (some (rd y101 a0)) else (none)) else (none))
set_option maxHeartbeats 8000000 in
set_option maxRecDepth 100000 in
theorem z1l.calls (a0 : Int) (r : Int) (w : World) (h : z1l.f a0 = some r) :
 Calls Try.prog 147 #[.int .i64 a0] w fun e w'=>e = .returned (.int .u64 r) ∧ Below w.heap.size w w':=by
 have HB:=z1.mk (Below.refl w.heap.size w)
 have H : ((some (([6148914691236517205,3689348814741910323,1085102592571150095,71777214294589695,281470681808895,4294967295] : List Int) : List Int)).bind fun y101=>(if 0 ≤ a0 then (if a0 < (y101.length : Int) then (some (rd y101 a0)) else (none)) else (none))) = some r:=h
 clear h
 obtain ⟨y101,hy101⟩ : ∃ y_ : List Int,y_ = (([6148914691236517205,3689348814741910323,1085102592571150095,71777214294589695,281470681808895,4294967295] : List Int)):=⟨_,rfl⟩
 replace H : (if 0 ≤ a0 then (if a0 < (y101.length : Int) then (some (rd y101 a0)) else (none)) else (none)) = some r:=by first|(rw [hy101];with_reducible exact H)|(have H2_:=(Option.bind_some _ _).symm.trans H;rw [hy101];with_reducible exact H2_)|(have H2_:=(Option.bind_some _ _).symm.trans H;with_reducible exact H2_)|with_reducible exact H|(rw [hy101];exact H)|exact H
 have Ny101:=z1.mk hy101
 clear hy101
 by_cases c2 : 0 ≤ a0
 rotate_left
 · rw [if_neg c2] at H
   exact absurd H zz93
 rw [if_pos c2] at H
 have c2b0 : decide (0 ≤ a0) = true:=decide_eq_true c2
 clear c2
 by_cases c3 : a0 < (y101.length : Int)
 rotate_left
 · rw [if_neg c3] at H
   exact absurd H zz93
 rw [if_pos c3] at H
 have c3b0 : decide (a0 < (y101.length : Int)) = true:=decide_eq_true c3
 clear c3
 obtain rfl:=Option.some.inj H
 go_enter Try.func147,Try.ntmps147
 go_wp2_with (first|((with_reducible refine zp (N:=4) rfl ?_);refine Kd.z2k (Kd.int .u64) _ 28 ?hg (N:=4) ?hd (xs:=([6148914691236517205,3689348814741910323,1085102592571150095,71777214294589695,281470681808895,4294967295] : List Int)) (inner:=[.int .u64 6148914691236517205,.int .u64 3689348814741910323,.int .u64 1085102592571150095,.int .u64 71777214294589695,.int .u64 281470681808895,.int .u64 4294967295]) (ok:=fun _=>True) (okp:=fun _=>True) ?hr ?hp (fun _ hk=>hk) trivial (Below.refl _ _) (Nat.le_refl _) zz93 ?_;(case hd=>rfl);(case hg=>rfl);(case hr=>first|(go_simp;done)|(go_simp;rfl));(case hp=>exact (Reps.one (show Kd.M (Kd.int .u64) _ _ _ 6148914691236517205 [.int .u64 6148914691236517205] from rfl) (Reps.one (show Kd.M (Kd.int .u64) _ _ _ 3689348814741910323 [.int .u64 3689348814741910323] from rfl) (Reps.one (show Kd.M (Kd.int .u64) _ _ _ 1085102592571150095 [.int .u64 1085102592571150095] from rfl) (Reps.one (show Kd.M (Kd.int .u64) _ _ _ 71777214294589695 [.int .u64 71777214294589695] from rfl) (Reps.one (show Kd.M (Kd.int .u64) _ _ _ 281470681808895 [.int .u64 281470681808895] from rfl) (Reps.one (show Kd.M (Kd.int .u64) _ _ _ 4294967295 [.int .u64 4294967295] from rfl) (Reps.none _ _))))))));intro v102 w4 ho5 hb hg_ hnew_;clear hg_ hnew_;(first|rw [← Ny101.out] at ho5|(simp only [Int.reduceToNat] at ho5;rw [← Ny101.out] at ho5));have n0_:=z1.mk (Kd.z1h ho5 (zb zz49));have n1_:=z1.mk (z3 zz49 hb);clear HB;have HO103:=n0_;have HB:=n1_;clear n0_ n1_;clear hb ho5;obtain ⟨Ao6,co6,eo6⟩:=Kd.z1q HO103.out;subst eo6;have p104 : 0 ≤ (a0 : Int):=of_decide_eq_true zz85;have q104 : a0 < (y101.length : Int):=of_decide_eq_true zz85;obtain ⟨ad104,e104,hx104_0⟩:=Kd.at_int (Kd.zs HO103.out).2.2 a0 p104 q104;cases e104;replace p104:=eq_true p104;replace q104:=eq_true q104))
 go_ret
 exact ⟨by first|rfl|(simp [zg,zh] <;> rfl)|(simp [*,zg,zh] <;> rfl),by repeat (first|(with_reducible first|exact HB.out|apply zd|apply z2|apply z9)|exact HB.out)⟩
end Go.Proofs.Ytkhmpaooinpfoaa.P
namespace Go.Proofs.Ytkhmpaooinpfoaa.P
open Go.RowKit Go.Proofs.YtkhmpaooinpfoaaW.PrintWords Go.Proofs.YtkhmpaooinpfoaaW.PrintLast Go.Proofs.YtkhmpaooinpfoaaW.PrintMore
attribute [local go_sem] z12 z14 z1i z1j zU zV z13 z15   -- for this text's walks alone
set_option linter.unusedVariables false
set_option linter.unusedSimpArgs false
def zo.f : Nat → Int → Int → Option (Int)
 | 0,_,_=>none
 | k + 1,a0,a1=>if a0 < 0 then (some a1) else (if 0 ≤ (IntKind.u64.wrap (a0)) then ((z1l.f a0).bind fun t101=>((z1l.f a0).bind fun t102=>((zo.f k (wrap64 (a0 - 1)) (Go.bits .and .u64 (shr .u64 a1 (shl .u64 1 (IntKind.u64.wrap (a0)))) t101)).bind fun t103=>(some (Go.bits .or .u64 (shl .u64 (Go.bits .xor .u64 (Go.bits .and .u64 a1 t102) t103) (shl .u64 1 (IntKind.u64.wrap (a0)))) (Go.bits .and .u64 (shr .u64 a1 (shl .u64 1 (IntKind.u64.wrap (a0)))) t101)))))) else (none))
theorem zo.z17 : ∀ k,(∀ y0 y1,LeO (zo.f k y0 y1) (zo.f (k + 1) y0 y1))
 | 0=>fun _ _ r h=>by simp [zo.f] at h
 | k + 1=>by
  have ih0:=zo.z17 k
  · intro y0 y1
    unfold zo.f
    repeat' first
    | (with_reducible exact ih0 _ _)
    | (with_reducible exact LeO.refl _)
    | (with_reducible exact LeO.none _)
    | (with_reducible refine LeO.ite ?_ ?_)
    | (with_reducible refine LeO.bind ?_ (fun _=>?_))
    | exact ih0 _ _
    | exact LeO.none _
    | refine LeO.ite ?_ ?_
    | refine LeO.bind ?_ (fun _=>?_)
theorem zo.mono : ∀ a0 a1 k,LeO (zo.f k a0 a1) (zo.f (k + 1) a0 a1):=by
 intro a0 a1 k
 have ih0:=zo.z17 k
 exact ih0 a0 a1
set_option maxHeartbeats 8000000 in
set_option maxRecDepth 100000 in
theorem zo.calls (k : Nat) : ∀ (a0 : Int) (a1 : Int) (r : Int) (w : World) (h : zo.f k a0 a1 = some r),
 Calls Try.prog 137 #[.int .i64 a0,.int .u64 a1] w fun e w'=>e = .returned (.int .u64 r) ∧ Below w.heap.size w w':=by
 induction k using Nat.strongRecOn with
 | _ k ih =>
 intro a0 a1 r w h
 cases k with
 | zero=>exact absurd h (by simp [zo.f])
 | succ k =>
 simp only [zo.f] at h
 have HB:=z1.mk (Below.refl w.heap.size w)
 have H : (if a0 < 0 then (some a1) else (if 0 ≤ (IntKind.u64.wrap (a0)) then ((z1l.f a0).bind fun t101=>((z1l.f a0).bind fun t102=>((zo.f k (wrap64 (a0 - 1)) (Go.bits .and .u64 (shr .u64 a1 (shl .u64 1 (IntKind.u64.wrap (a0)))) t101)).bind fun t103=>(some (Go.bits .or .u64 (shl .u64 (Go.bits .xor .u64 (Go.bits .and .u64 a1 t102) t103) (shl .u64 1 (IntKind.u64.wrap (a0)))) (Go.bits .and .u64 (shr .u64 a1 (shl .u64 1 (IntKind.u64.wrap (a0)))) t101)))))) else (none))) = some r:=h
 clear h
 by_cases c3 : a0 < 0
 · rw [if_pos c3] at H
   have c3b0 : decide (a0 < 0) = true:=decide_eq_true c3
   clear c3
   obtain rfl:=Option.some.inj H
   go_enter Try.func137,Try.ntmps137
   go_wp2
   go_ret
   exact ⟨by first|rfl|(simp [zg,zh] <;> rfl)|(simp [*,zg,zh] <;> rfl),by repeat (first|(with_reducible first|exact HB.out|apply zd|apply z2|apply z9)|exact HB.out)⟩
 rw [if_neg c3] at H
 have c3b0 : decide (a0 < 0) = false:=decide_eq_false c3
 clear c3
 obtain ⟨ji4,hji4⟩ : ∃ j_ : Int,(IntKind.u64.wrap (a0)) = j_:=⟨_,rfl⟩
 replace H : (if 0 ≤ (ji4) then ((z1l.f a0).bind fun t101=>((z1l.f a0).bind fun t102=>((zo.f k (wrap64 (a0 - 1)) (Go.bits .and .u64 (shr .u64 a1 (shl .u64 1 (ji4))) t101)).bind fun t103=>(some (Go.bits .or .u64 (shl .u64 (Go.bits .xor .u64 (Go.bits .and .u64 a1 t102) t103) (shl .u64 1 (ji4))) (Go.bits .and .u64 (shr .u64 a1 (shl .u64 1 (ji4))) t101)))))) else (none)) = some r:=by first|(rw [hji4] at H;exact H)|(simp only [hji4] at H ⊢;exact H)
 by_cases c5 : 0 ≤ (ji4)
 rotate_left
 · rw [if_neg c5] at H
   exact absurd H zz93
 rw [if_pos c5] at H
 have c5b0:=eq_true c5
 have c5b1 : decide (0 ≤ (ji4)) = true:=decide_eq_true c5
 clear c5
 obtain ⟨ji6,hji6⟩ : ∃ j_ : Int,(shl .u64 1 (ji4)) = j_:=⟨_,rfl⟩
 replace H : ((z1l.f a0).bind fun t101=>((z1l.f a0).bind fun t102=>((zo.f k (wrap64 (a0 - 1)) (Go.bits .and .u64 (shr .u64 a1 (ji6)) t101)).bind fun t103=>(some (Go.bits .or .u64 (shl .u64 (Go.bits .xor .u64 (Go.bits .and .u64 a1 t102) t103) (ji6)) (Go.bits .and .u64 (shr .u64 a1 (ji6)) t101)))))) = some r:=by first|(rw [hji6] at H;exact H)|(simp only [hji6] at H ⊢;exact H)
 have hji6_ : (IntKind.u64.wrap (1 * 2 ^ min (ji4).toNat 64)) = ji6:=hji6
 have hji6z : (ji4) ≤ 64 → (IntKind.u64.wrap (1 * 2 ^ (ji4).toNat)) = ji6:=z1K hji6
 have hji6n0 : 0 ≤ ji6:=by rw [← hji6];exact Int.emod_nonneg _ zz91
 have hji6n1 : decide (0 ≤ ji6) = true:=decide_eq_true hji6n0
 replace hji6n0:=eq_true hji6n0
 have hji6u : (IntKind.u64.wrap (2 ^ min (ji4).toNat 64)) = ji6:=by have h_:=hji6_;rw [Int.one_mul] at h_;exact h_
 have hji6v : (ji4) ≤ 64 → (IntKind.u64.wrap (2 ^ (ji4).toNat)) = ji6:=fun hle_=>by have h_:=hji6z hle_;rw [Int.one_mul] at h_;exact h_
 obtain ⟨ji7,hji7⟩ : ∃ j_ : Int,(shr .u64 a1 (ji6)) = j_:=⟨_,rfl⟩
 replace H : ((z1l.f a0).bind fun t101=>((z1l.f a0).bind fun t102=>((zo.f k (wrap64 (a0 - 1)) (Go.bits .and .u64 (ji7) t101)).bind fun t103=>(some (Go.bits .or .u64 (shl .u64 (Go.bits .xor .u64 (Go.bits .and .u64 a1 t102) t103) (ji6)) (Go.bits .and .u64 (ji7) t101)))))) = some r:=by first|(rw [hji7] at H;exact H)|(simp only [hji7] at H ⊢;exact H)
 have hji7_ : (a1 / 2 ^ min (ji6).toNat 64) = ji7:=hji7
 have hji7z : (ji6) ≤ 64 → (a1 / 2 ^ (ji6).toNat) = ji7:=z2K hji7
 replace H:=Option.bind_eq_some_iff.mp H
 obtain ⟨t101,A80,H⟩:=H
 replace H : ((z1l.f a0).bind fun t102=>((zo.f k (wrap64 (a0 - 1)) (Go.bits .and .u64 (ji7) t101)).bind fun t103=>(some (Go.bits .or .u64 (shl .u64 (Go.bits .xor .u64 (Go.bits .and .u64 a1 t102) t103) (ji6)) (Go.bits .and .u64 (ji7) t101))))) = some r:=H
 have A8:=z1.mk A80
 clear A80
 replace H:=Option.bind_eq_some_iff.mp H
 obtain ⟨t102,A90,H⟩:=H
 replace H : ((zo.f k (wrap64 (a0 - 1)) (Go.bits .and .u64 (ji7) t101)).bind fun t103=>(some (Go.bits .or .u64 (shl .u64 (Go.bits .xor .u64 (Go.bits .and .u64 a1 t102) t103) (ji6)) (Go.bits .and .u64 (ji7) t101)))) = some r:=H
 have A9:=z1.mk A90
 clear A90
 replace H:=Option.bind_eq_some_iff.mp H
 obtain ⟨t103,A100,H⟩:=H
 replace H : (some (Go.bits .or .u64 (shl .u64 (Go.bits .xor .u64 (Go.bits .and .u64 a1 t102) t103) (ji6)) (Go.bits .and .u64 (ji7) t101))) = some r:=H
 have A10:=z1.mk A100
 clear A100
 obtain ⟨ji11,hji11⟩ : ∃ j_ : Int,(shl .u64 (Go.bits .xor .u64 (Go.bits .and .u64 a1 t102) t103) (ji6)) = j_:=⟨_,rfl⟩
 replace H : (some (Go.bits .or .u64 (ji11) (Go.bits .and .u64 (ji7) t101))) = some r:=by first|(rw [hji11] at H;exact H)|(simp only [hji11] at H ⊢;exact H)
 (try rw [hji11] at A8)
 (try rw [hji11] at A9)
 (try rw [hji11] at A10)
 have hji11_ : (IntKind.u64.wrap ((Go.bits .xor .u64 (Go.bits .and .u64 a1 t102) t103) * 2 ^ min (ji6).toNat 64)) = ji11:=hji11
 have hji11z : (ji6) ≤ 64 → (IntKind.u64.wrap ((Go.bits .xor .u64 (Go.bits .and .u64 a1 t102) t103) * 2 ^ (ji6).toNat)) = ji11:=z1K hji11
 have hji11n0 : 0 ≤ ji11:=by rw [← hji11];exact Int.emod_nonneg _ zz91
 have hji11n1 : decide (0 ≤ ji11) = true:=decide_eq_true hji11n0
 replace hji11n0:=eq_true hji11n0
 obtain rfl:=Option.some.inj H
 go_enter Try.func137,Try.ntmps137
 go_wp2_with (first|((with_reducible refine zi (f:=147) rfl ?_);refine goesL_ (some 18) rfl rfl Try.func147 zz90 rfl #[.int .i64 a0] rfl zz48 ?_;(with_reducible refine (z1l.calls a0 t101 _ A8.out).mono ?_);rintro e w12 ⟨rfl,hb⟩;refine ⟨_,rfl,?_⟩;have n0_:=z1.mk (z3 zz49 hb);clear HB;have HB:=n0_;clear n0_;(try clear hb);(try clear hb2);(try clear hk);(try clear hi))|((with_reducible refine zi (f:=147) rfl ?_);refine goesL_ (some 22) rfl rfl Try.func147 zz90 rfl #[.int .i64 a0] rfl zz48 ?_;(with_reducible refine (z1l.calls a0 t102 _ A9.out).mono ?_);rintro e w13 ⟨rfl,hb⟩;refine ⟨_,rfl,?_⟩;have n0_:=z1.mk (z3 zz49 hb);clear HB;have HB:=n0_;clear n0_;(try clear hb);(try clear hb2);(try clear hk);(try clear hi))|((with_reducible refine zi (f:=137) rfl ?_);refine goesL_ (some 28) rfl rfl Try.func137 zz90 rfl #[.int .i64 (wrap64 (a0 - 1)),.int .u64 (Go.bits .and .u64 (ji7) t101)] rfl zz42 ?_;(with_reducible refine (ih k zz92 (wrap64 (a0 - 1)) (Go.bits .and .u64 (ji7) t101) t103 _ A10.out).mono ?_);rintro e w14 ⟨rfl,hb⟩;refine ⟨_,rfl,?_⟩;have n0_:=z1.mk (z3 zz49 hb);clear HB;have HB:=n0_;clear n0_;(try clear hb);(try clear hb2);(try clear hk);(try clear hi)))
 go_ret
 exact ⟨by first|rfl|(simp [zg,zh] <;> rfl)|(simp only [← hji4,← hji6,← hji7,← hji11];first|rfl|(simp [zg,zh] <;> rfl))|(simp [*,zg,zh] <;> rfl),by repeat (first|(with_reducible first|exact HB.out|apply zd|apply z2|apply z9)|exact HB.out)⟩
end Go.Proofs.Ytkhmpaooinpfoaa.P
namespace Go.Proofs.Ytkhmpaooinpfoaa.P
open Go.RowKit Go.Proofs.YtkhmpaooinpfoaaW.PrintWords Go.Proofs.YtkhmpaooinpfoaaW.PrintLast Go.Proofs.YtkhmpaooinpfoaaW.PrintMore
attribute [local go_sem] z12 z14 z1i z1j zU zV z13 z15   -- for this text's walks alone
set_option linter.unusedVariables false
set_option linter.unusedSimpArgs false
def zw.f (k : Nat) (a0 : Int) (a1_0 : Int) (a1_1 : Int) : Option (Int × Int):=if a0 < 6 then ((zo.f k a0 a1_0).bind fun t103=>((zo.f k a0 a1_1).bind fun t104=>(some (t103,t104)))) else ((zo.f k 5 a1_0).bind fun t105=>(some (Go.bits .xor .u64 a1_1 t105,a1_0)))
theorem zw.mono : ∀ a0 a1 a2 k,LeO (zw.f k a0 a1 a2) (zw.f (k + 1) a0 a1 a2):=by
 intro a0 a1 a2 k
 unfold zw.f
 repeat' first
  | (with_reducible exact zo.mono _ _ _)
  | (with_reducible exact LeO.refl _)
  | (with_reducible exact LeO.none _)
  | (with_reducible refine LeO.ite ?_ ?_)
  | (with_reducible refine LeO.bind ?_ (fun _=>?_))
  | exact zo.mono _ _ _
  | exact LeO.none _
  | refine LeO.ite ?_ ?_
  | refine LeO.bind ?_ (fun _=>?_)
def zw.T2 : Bool × List (List Nat × List Nat):=(true,[([],[]),([],[]),([1],[1]),([0,2],[0,2]),([],[]),([],[]),([5],[5]),([4,6,3],[4,6]),([3,7],[3,7]),([8,7,0,1,2,3,4,5,6,7,8],[8])])
def zw.B2 : List Nat:=[0,0,2,7,0,0,32,127,255,511]
theorem zw.tab2 : rtab .any (opsOf Try.f110 2) = zw.T2:=by kernel_rfl
theorem zw.bits2 : waitsOk zw.T2.2 zw.B2 = true:=by kernel_rfl
def zw.T3 : Bool × List (List Nat × List Nat):=(true,[([],[]),([0],[0]),([],[]),([2],[2]),([3],[3]),([1,4],[1,4]),([],[]),([6],[6]),([5,7],[5,7]),([8,4,0,1,2,3,4,5,6,7,8],[8])])
def zw.B3 : List Nat:=[0,1,0,4,12,31,0,64,255,511]
theorem zw.tab3 : rtab .any (opsOf Try.f110 3) = zw.T3:=by kernel_rfl
theorem zw.bits3 : waitsOk zw.T3.2 zw.B3 = true:=by kernel_rfl
set_option maxHeartbeats 8000000 in
set_option maxRecDepth 100000 in
theorem zw.calls (k : Nat) (a0 : Int) (a1_0 : Int) (a1_1 : Int) (r1 : Int) (r2 : Int) (w : World) (h : zw.f k a0 a1_0 a1_1 = some (r1,r2)) :
 Calls Try.prog 110 #[.int .i64 a0,.agg #[.int .u64 a1_0,.int .u64 a1_1]] w fun e w'=>e = .returned (.agg #[.int .u64 r1,.int .u64 r2]) ∧ Below w.heap.size w w':=by
 have hu40:=Try.underlying40
 have HB:=z1.mk (Below.refl w.heap.size w)
 have H : (if a0 < 6 then ((zo.f k a0 a1_0).bind fun t103=>((zo.f k a0 a1_1).bind fun t104=>(some (t103,t104)))) else ((zo.f k 5 a1_0).bind fun t105=>(some (Go.bits .xor .u64 a1_1 t105,a1_0)))) = some (r1,r2):=h
 clear h
 by_cases c3 : a0 < 6
 rotate_left
 · rw [if_neg c3] at H
   have c3b0 : decide (a0 < 6) = false:=decide_eq_false c3
   clear c3
   replace H:=Option.bind_eq_some_iff.mp H
   obtain ⟨t105,A130,H⟩:=H
   replace H : (some (Go.bits .xor .u64 a1_1 t105,a1_0)) = some (r1,r2):=H
   have A13:=z1.mk A130
   clear A130
   simp only [Option.some.injEq,Prod.mk.injEq] at H
   obtain ⟨rfl,rfl⟩:=H
   go_enter Try.func110,Try.ntmps110
   try go_wp2_with (first|((with_reducible refine zp (N:=3) rfl ?_);refine zt ?hg (N:=3) ?hd (cs:=#[.int .u64 a1_0,.int .u64 a1_1]) (t:=40) ?hr ?_;(case hd=>rfl);(case hg=>rfl);(case hr=>first|(go_simp;done)|(go_simp;rfl));intro gb101 hg w14 hbox hb;have n0_:=z1.mk (z3 zz49 hb);have n1_:=z1.mk (hbox);have n2_:=z1.mk ((by rw [hg];exact (zb zz49) : w.heap.size ≤ gb101));have n3_:=z1.mk ((by rw [hg];exact (zb zz49) : w.heap.size ≤ gb101));clear HB;have HB:=n0_;have BK101:=n1_;have GW101:=n2_;have GE101:=n3_;clear n0_ n1_ n2_ n3_;clear hb hbox hg)|((with_reducible refine zp (N:=4) rfl ?_);refine zt ?hg (N:=4) ?hd (cs:=#[.int .u64 0,.int .u64 0]) (t:=40) ?hr ?_;(case hd=>rfl);(case hg=>rfl);(case hr=>first|(go_simp;done)|(go_simp;rfl));intro gb102 hg w15 hbox hb;have n0_:=z1.mk (zc (g:=gb101) (o:=.cells #[.int .u64 a1_0,.int .u64 a1_1] 40 (0,0)) zz50 hb);have n1_:=z1.mk (z3 zz43 hb);have n2_:=z1.mk (hbox);have n3_:=z1.mk ((by rw [hg];exact (zb zz43) : w.heap.size ≤ gb102));have n4_:=z1.mk ((by rw [hg];exact (zb zz43) : w.heap.size ≤ gb102));have n5_:=z1.mk ((by rw [hg];exact Nat.ne_of_lt (zL (g:=gb101) (o:=.cells #[.int .u64 a1_0,.int .u64 a1_1] 40 (0,0)) zz50) : gb101 ≠ gb102));have n6_:=z1.mk ((by rw [hg];exact Nat.ne_of_gt (zL (g:=gb101) (o:=.cells #[.int .u64 a1_0,.int .u64 a1_1] 40 (0,0)) zz50) : gb102 ≠ gb101));clear BK101;clear HB;have BK101:=n0_;have HB:=n1_;have BK102:=n2_;have GW102:=n3_;have GE102:=n4_;have NB101_102:=n5_;have NB102_101:=n6_;clear n0_ n1_ n2_ n3_ n4_ n5_ n6_;clear hb hbox hg))
   have n0_:=z1.mk (z8 BK101.out)
   have n1_:=z1.mk (z8 BK102.out)
   have n2_:=z1.mk (z9 HB.out)
   clear BK101
   clear BK102
   clear HB
   have BK101:=n0_
   have BK102:=n1_
   have HB:=n2_
   clear n0_ n1_ n2_
   refine start_ (n:=10) (S:=fun w'=>w'.cell? ⟨gb101,0,none⟩ = some (.int .u64 a1_0) ∧ w'.cell? ⟨gb101,1,none⟩ = some (.int .u64 a1_1)) (ds:=[]) #[false,false,false,false,false,false,false,false,false,false] zz90 rfl rfl ⟨(z7 BK101.out 0).trans rfl,(z7 BK101.out 1).trans rfl⟩ (fun hHeld=>?_);refine z25 zw.tab3 zw.bits3 (fun HT_ HW_=>?_)
   generalize w15.drew = w16 at BK101 BK102 HB hHeld ⊢
   refine pure_ (i:=0) (N:=some 16) (v:=?_) (a':=?_) #[true,false,false,false,false,false,false,false,false,false] rfl rfl (z19 HT_.out zz90) (fun _ _ _ h=>h) (Or.inl ⟨by rfl,?_⟩) ?_ ?_
   rotate_left
   · intro w'
     go_simp
     with_reducible rfl
   rotate_left
   · simp only [Act.put,List.setIfInBounds_toArray,List.set_cons_zero,List.set_cons_succ,zH,zP]
     rfl
   refine pure_ (i:=2) (N:=some 18) (v:=?_) (a':=?_) #[true,false,true,false,false,false,false,false,false,false] rfl rfl (z19 HT_.out zz90) (fun _ _ _ h=>h) (Or.inl ⟨by rfl,?_⟩) ?_ ?_
   rotate_left
   · intro w'
     go_simp
     with_reducible rfl
   rotate_left
   · simp only [Act.put,List.setIfInBounds_toArray,List.set_cons_zero,List.set_cons_succ,zH,zP]
     rfl
   refine pure_ (i:=6) (N:=some 22) (v:=?_) (a':=?_) #[true,false,true,false,false,false,true,false,false,false] rfl rfl (z19 HT_.out zz90) (fun _ _ _ h=>h) (Or.inl ⟨by rfl,?_⟩) ?_ ?_
   rotate_left
   · intro w'
     go_simp
     with_reducible rfl
   rotate_left
   · simp only [Act.put,List.setIfInBounds_toArray,List.set_cons_zero,List.set_cons_succ,zH,zP]
     rfl
   refine take_ (i:=1) (N:=some 17) (v:=?_) (a':=?_) #[true,true,true,false,false,false,true,false,false,false] rfl rfl (z1I HT_.out HW_.out zz90) (fun _ _ _ h=>h) (Or.inl ⟨by rfl,?_⟩) hHeld ?_ ?_
   rotate_left
   · rintro w' ⟨s0,s1⟩
     go_simp
     with_reducible rfl
   rotate_left
   · simp only [Act.put,List.setIfInBounds_toArray,List.set_cons_zero,List.set_cons_succ,zH,zP]
     rfl
   refine take_ (i:=3) (N:=some 19) (v:=?_) (a':=?_) #[true,true,true,true,false,false,true,false,false,false] rfl rfl (z1I HT_.out HW_.out zz90) (fun _ _ _ h=>h) (Or.inl ⟨by rfl,?_⟩) hHeld ?_ ?_
   rotate_left
   · rintro w' ⟨s0,s1⟩
     go_simp
     with_reducible rfl
   rotate_left
   · simp only [Act.put,List.setIfInBounds_toArray,List.set_cons_zero,List.set_cons_succ,zH,zP]
     rfl
   refine take_ (i:=7) (N:=some 23) (v:=?_) (a':=?_) #[true,true,true,true,false,false,true,true,false,false] rfl rfl (z1I HT_.out HW_.out zz90) (fun _ _ _ h=>h) (Or.inl ⟨by rfl,?_⟩) hHeld ?_ ?_
   rotate_left
   · rintro w' ⟨s0,s1⟩
     go_simp
     with_reducible rfl
   rotate_left
   · simp only [Act.put,List.setIfInBounds_toArray,List.set_cons_zero,List.set_cons_succ,zH,zP]
     rfl
   refine one_ (i:=4) (N:=some 20) #[true,true,true,true,true,false,true,true,false,false] rfl rfl (z1N HT_.out zz90) zz91 (fun K hK=>?_)
   refine goes_ Try.func137 zz90 rfl #[.int .i64 5,.int .u64 a1_0] zz94 rfl rfl zz48 ?_
   with_reducible refine (zo.calls k 5 a1_0 t105 _ A13.out).mono ?_
   rintro e w17 ⟨rfl,hb⟩
   refine ⟨_,rfl,?_⟩
   have n0_:=z1.mk (zc (g:=gb101) (o:=.cells #[.int .u64 a1_0,.int .u64 a1_1] 40 (0,0)) zz50 hb)
   have n1_:=z1.mk (zc (g:=gb102) (o:=.cells #[.int .u64 0,.int .u64 0] 40 (0,0)) zz51 hb)
   have n2_:=z1.mk (z3 zz36 hb)
   clear BK101
   clear BK102
   clear HB
   have BK101:=n0_
   have BK102:=n1_
   have HB:=n2_
   clear n0_ n1_ n2_
   (try clear hb)
   (try clear hb2)
   (try clear hk)
   (try clear hi)
   refine hK.out _ _ ⟨(z7 BK101.out 0).trans rfl,(z7 BK101.out 1).trans rfl⟩ (fun hHeld=>?_)
   clear hK K
   refine norm_ (a':=?_) ?_ ?_
   rotate_left
   · show Act.put _ (some 20) _ = _
     simp only [Act.put,List.setIfInBounds_toArray,List.set_cons_zero,List.set_cons_succ,zH,zP]
     rfl
   refine pure_ (i:=5) (N:=some 21) (v:=?_) (a':=?_) #[true,true,true,true,true,true,true,true,false,false] rfl rfl (z19 HT_.out zz90) (fun _ _ _ h=>h) (Or.inl ⟨by rfl,?_⟩) ?_ ?_
   rotate_left
   · intro w'
     go_simp
     with_reducible rfl
   rotate_left
   · simp only [Act.put,List.setIfInBounds_toArray,List.set_cons_zero,List.set_cons_succ,zH,zP]
     rfl
   refine pure_ (i:=8) (N:=some 24) (v:=?_) (a':=?_) #[true,true,true,true,true,true,true,true,true,false] rfl rfl (z19 HT_.out zz90) (fun _ _ _ h=>h) (Or.inl ⟨by rfl,?_⟩) ?_ ?_
   rotate_left
   · intro w'
     go_simp
     with_reducible rfl
   rotate_left
   · simp only [Act.put,List.setIfInBounds_toArray,List.set_cons_zero,List.set_cons_succ,zH,zP]
     rfl
   refine one_ (i:=9) (N:=none) #[true,true,true,true,true,true,true,true,true,true] rfl rfl (z1N HT_.out zz90) zz91 (fun K hK=>?_)
   have hs18 : w17.cell? ⟨gb102,0,none⟩ = some (.int .u64 0):=(z7 BK102.out 0).trans rfl
   have hfs18:=z6 BK102.out 0
   have hns18_0:=NB101_102.out
   have hms18_0:=NB102_101.out
   have hs19 : w17.cell? ⟨gb102,1,none⟩ = some (.int .u64 0):=(z7 BK102.out 1).trans rfl
   have hfs19:=z6 BK102.out 1
   have hns19_0:=NB101_102.out
   have hms19_0:=NB102_101.out
   refine skip_ (w1:=?_) zz94 rfl ?_ ?_
   rotate_left
   · go_simp
     rfl
   refine hK.out _ _ ⟨((z2z (p:=⟨gb102,_,none⟩) NB101_102.out _).trans (((z2z (p:=⟨gb102,_,none⟩) NB101_102.out _).trans (hHeld.1)))),((z2z (p:=⟨gb102,_,none⟩) NB101_102.out _).trans (((z2z (p:=⟨gb102,_,none⟩) NB101_102.out _).trans (hHeld.2))))⟩ (fun hHeld=>?_)
   clear hK K
   refine done_ (z2i HT_.out zz90) ?_
   try go_wp2
   refine bodyPost_ret (results_cell_row rfl _ _ gb102 40 #[.int .u64 (Go.bits .xor .u64 a1_1 t105),.int .u64 a1_0] (0,0) _ rfl (by (with_reducible repeat (first|refine z5 ?_ _|refine z8 ?_|refine z4 ?_ _));refine zX (cs:=#[.int .u64 (Go.bits .xor .u64 a1_1 t105),.int .u64 0]) ?_ 1 _ rfl;(with_reducible repeat (first|refine z5 ?_ _|refine z8 ?_|refine z4 ?_ _));refine zX (cs:=#[.int .u64 0,.int .u64 0]) ?_ 0 _ rfl;(with_reducible repeat (first|refine z5 ?_ _|refine z8 ?_|refine z4 ?_ _));exact BK102.out) Try.underlying40 rfl zz90) rfl ?_
   exact ⟨by first|rfl|(simp [zg,zh] <;> rfl)|(simp [*,zg,zh] <;> rfl),by repeat (first|(with_reducible first|exact HB.out|apply zd|apply z2|apply z9|refine za ?_ GE101.out|refine za ?_ GE102.out)|exact HB.out)⟩
 rw [if_pos c3] at H
 have c3b0 : decide (a0 < 6) = true:=decide_eq_true c3
 clear c3
 replace H:=Option.bind_eq_some_iff.mp H
 obtain ⟨t103,A40,H⟩:=H
 replace H : ((zo.f k a0 a1_1).bind fun t104=>(some (t103,t104))) = some (r1,r2):=H
 have A4:=z1.mk A40
 clear A40
 replace H:=Option.bind_eq_some_iff.mp H
 obtain ⟨t104,A50,H⟩:=H
 replace H : (some (t103,t104)) = some (r1,r2):=H
 have A5:=z1.mk A50
 clear A50
 simp only [Option.some.injEq,Prod.mk.injEq] at H
 obtain ⟨rfl,rfl⟩:=H
 go_enter Try.func110,Try.ntmps110
 try go_wp2_with (first|((with_reducible refine zp (N:=3) rfl ?_);refine zt ?hg (N:=3) ?hd (cs:=#[.int .u64 a1_0,.int .u64 a1_1]) (t:=40) ?hr ?_;(case hd=>rfl);(case hg=>rfl);(case hr=>first|(go_simp;done)|(go_simp;rfl));intro gb101 hg w6 hbox hb;have n0_:=z1.mk (z3 zz49 hb);have n1_:=z1.mk (hbox);have n2_:=z1.mk ((by rw [hg];exact (zb zz49) : w.heap.size ≤ gb101));have n3_:=z1.mk ((by rw [hg];exact (zb zz49) : w.heap.size ≤ gb101));clear HB;have HB:=n0_;have BK101:=n1_;have GW101:=n2_;have GE101:=n3_;clear n0_ n1_ n2_ n3_;clear hb hbox hg)|((with_reducible refine zp (N:=4) rfl ?_);refine zt ?hg (N:=4) ?hd (cs:=#[.int .u64 0,.int .u64 0]) (t:=40) ?hr ?_;(case hd=>rfl);(case hg=>rfl);(case hr=>first|(go_simp;done)|(go_simp;rfl));intro gb102 hg w7 hbox hb;have n0_:=z1.mk (zc (g:=gb101) (o:=.cells #[.int .u64 a1_0,.int .u64 a1_1] 40 (0,0)) zz50 hb);have n1_:=z1.mk (z3 zz43 hb);have n2_:=z1.mk (hbox);have n3_:=z1.mk ((by rw [hg];exact (zb zz43) : w.heap.size ≤ gb102));have n4_:=z1.mk ((by rw [hg];exact (zb zz43) : w.heap.size ≤ gb102));have n5_:=z1.mk ((by rw [hg];exact Nat.ne_of_lt (zL (g:=gb101) (o:=.cells #[.int .u64 a1_0,.int .u64 a1_1] 40 (0,0)) zz50) : gb101 ≠ gb102));have n6_:=z1.mk ((by rw [hg];exact Nat.ne_of_gt (zL (g:=gb101) (o:=.cells #[.int .u64 a1_0,.int .u64 a1_1] 40 (0,0)) zz50) : gb102 ≠ gb101));clear BK101;clear HB;have BK101:=n0_;have HB:=n1_;have BK102:=n2_;have GW102:=n3_;have GE102:=n4_;have NB101_102:=n5_;have NB102_101:=n6_;clear n0_ n1_ n2_ n3_ n4_ n5_ n6_;clear hb hbox hg))
 have n0_:=z1.mk (z8 BK101.out)
 have n1_:=z1.mk (z8 BK102.out)
 have n2_:=z1.mk (z9 HB.out)
 clear BK101
 clear BK102
 clear HB
 have BK101:=n0_
 have BK102:=n1_
 have HB:=n2_
 clear n0_ n1_ n2_
 refine start_ (n:=10) (S:=fun w'=>w'.cell? ⟨gb101,0,none⟩ = some (.int .u64 a1_0) ∧ w'.cell? ⟨gb101,1,none⟩ = some (.int .u64 a1_1)) (ds:=[]) #[false,false,false,false,false,false,false,false,false,false] zz90 rfl rfl ⟨(z7 BK101.out 0).trans rfl,(z7 BK101.out 1).trans rfl⟩ (fun hHeld=>?_);refine z25 zw.tab2 zw.bits2 (fun HT_ HW_=>?_)
 generalize w7.drew = w8 at BK101 BK102 HB hHeld ⊢
 refine pure_ (i:=0) (N:=some 7) (v:=?_) (a':=?_) #[true,false,false,false,false,false,false,false,false,false] rfl rfl (z19 HT_.out zz90) (fun _ _ _ h=>h) (Or.inl ⟨by rfl,?_⟩) ?_ ?_
 rotate_left
 · intro w'
   go_simp
   with_reducible rfl
 rotate_left
 · simp only [Act.put,List.setIfInBounds_toArray,List.set_cons_zero,List.set_cons_succ,zH,zP]
   rfl
 refine pure_ (i:=1) (N:=some 8) (v:=?_) (a':=?_) #[true,true,false,false,false,false,false,false,false,false] rfl rfl (z19 HT_.out zz90) (fun _ _ _ h=>h) (Or.inl ⟨by rfl,?_⟩) ?_ ?_
 rotate_left
 · intro w'
   go_simp
   with_reducible rfl
 rotate_left
 · simp only [Act.put,List.setIfInBounds_toArray,List.set_cons_zero,List.set_cons_succ,zH,zP]
   rfl
 refine pure_ (i:=4) (N:=some 11) (v:=?_) (a':=?_) #[true,true,false,false,true,false,false,false,false,false] rfl rfl (z19 HT_.out zz90) (fun _ _ _ h=>h) (Or.inl ⟨by rfl,?_⟩) ?_ ?_
 rotate_left
 · intro w'
   go_simp
   with_reducible rfl
 rotate_left
 · simp only [Act.put,List.setIfInBounds_toArray,List.set_cons_zero,List.set_cons_succ,zH,zP]
   rfl
 refine pure_ (i:=5) (N:=some 12) (v:=?_) (a':=?_) #[true,true,false,false,true,true,false,false,false,false] rfl rfl (z19 HT_.out zz90) (fun _ _ _ h=>h) (Or.inl ⟨by rfl,?_⟩) ?_ ?_
 rotate_left
 · intro w'
   go_simp
   with_reducible rfl
 rotate_left
 · simp only [Act.put,List.setIfInBounds_toArray,List.set_cons_zero,List.set_cons_succ,zH,zP]
   rfl
 refine take_ (i:=2) (N:=some 9) (v:=?_) (a':=?_) #[true,true,true,false,true,true,false,false,false,false] rfl rfl (z1I HT_.out HW_.out zz90) (fun _ _ _ h=>h) (Or.inl ⟨by rfl,?_⟩) hHeld ?_ ?_
 rotate_left
 · rintro w' ⟨s0,s1⟩
   go_simp
   with_reducible rfl
 rotate_left
 · simp only [Act.put,List.setIfInBounds_toArray,List.set_cons_zero,List.set_cons_succ,zH,zP]
   rfl
 refine take_ (i:=6) (N:=some 13) (v:=?_) (a':=?_) #[true,true,true,false,true,true,true,false,false,false] rfl rfl (z1I HT_.out HW_.out zz90) (fun _ _ _ h=>h) (Or.inl ⟨by rfl,?_⟩) hHeld ?_ ?_
 rotate_left
 · rintro w' ⟨s0,s1⟩
   go_simp
   with_reducible rfl
 rotate_left
 · simp only [Act.put,List.setIfInBounds_toArray,List.set_cons_zero,List.set_cons_succ,zH,zP]
   rfl
 refine one_ (i:=3) (N:=some 10) #[true,true,true,true,true,true,true,false,false,false] rfl rfl (z1N HT_.out zz90) zz91 (fun K hK=>?_)
 refine goes_ Try.func137 zz90 rfl #[.int .i64 a0,.int .u64 a1_0] zz94 rfl rfl zz48 ?_
 with_reducible refine (zo.calls k a0 a1_0 t103 _ A4.out).mono ?_
 rintro e w9 ⟨rfl,hb⟩
 refine ⟨_,rfl,?_⟩
 have n0_:=z1.mk (zc (g:=gb101) (o:=.cells #[.int .u64 a1_0,.int .u64 a1_1] 40 (0,0)) zz50 hb)
 have n1_:=z1.mk (zc (g:=gb102) (o:=.cells #[.int .u64 0,.int .u64 0] 40 (0,0)) zz51 hb)
 have n2_:=z1.mk (z3 zz36 hb)
 clear BK101
 clear BK102
 clear HB
 have BK101:=n0_
 have BK102:=n1_
 have HB:=n2_
 clear n0_ n1_ n2_
 (try clear hb)
 (try clear hb2)
 (try clear hk)
 (try clear hi)
 refine hK.out _ _ ⟨(z7 BK101.out 0).trans rfl,(z7 BK101.out 1).trans rfl⟩ (fun hHeld=>?_)
 clear hK K
 refine norm_ (a':=?_) ?_ ?_
 rotate_left
 · show Act.put _ (some 10) _ = _
   simp only [Act.put,List.setIfInBounds_toArray,List.set_cons_zero,List.set_cons_succ,zH,zP]
   rfl
 refine one_ (i:=7) (N:=some 14) #[true,true,true,true,true,true,true,true,false,false] rfl rfl (z1N HT_.out zz90) zz91 (fun K hK=>?_)
 refine goes_ Try.func137 zz90 rfl #[.int .i64 a0,.int .u64 a1_1] zz94 rfl rfl zz48 ?_
 with_reducible refine (zo.calls k a0 a1_1 t104 _ A5.out).mono ?_
 rintro e w10 ⟨rfl,hb⟩
 refine ⟨_,rfl,?_⟩
 have n0_:=z1.mk (zc (g:=gb101) (o:=.cells #[.int .u64 a1_0,.int .u64 a1_1] 40 (0,0)) zz50 hb)
 have n1_:=z1.mk (zc (g:=gb102) (o:=.cells #[.int .u64 0,.int .u64 0] 40 (0,0)) zz51 hb)
 have n2_:=z1.mk (z3 zz36 hb)
 clear BK101
 clear BK102
 clear HB
 have BK101:=n0_
 have BK102:=n1_
 have HB:=n2_
 clear n0_ n1_ n2_
 (try clear hb)
 (try clear hb2)
 (try clear hk)
 (try clear hi)
 refine hK.out _ _ ⟨(z7 BK101.out 0).trans rfl,(z7 BK101.out 1).trans rfl⟩ (fun hHeld=>?_)
 clear hK K
 refine norm_ (a':=?_) ?_ ?_
 rotate_left
 · show Act.put _ (some 14) _ = _
   simp only [Act.put,List.setIfInBounds_toArray,List.set_cons_zero,List.set_cons_succ,zH,zP]
   rfl
 refine pure_ (i:=8) (N:=some 15) (v:=?_) (a':=?_) #[true,true,true,true,true,true,true,true,true,false] rfl rfl (z19 HT_.out zz90) (fun _ _ _ h=>h) (Or.inl ⟨by rfl,?_⟩) ?_ ?_
 rotate_left
 · intro w'
   go_simp
   with_reducible rfl
 rotate_left
 · simp only [Act.put,List.setIfInBounds_toArray,List.set_cons_zero,List.set_cons_succ,zH,zP]
   rfl
 refine one_ (i:=9) (N:=none) #[true,true,true,true,true,true,true,true,true,true] rfl rfl (z1N HT_.out zz90) zz91 (fun K hK=>?_)
 have hs11 : w10.cell? ⟨gb102,0,none⟩ = some (.int .u64 0):=(z7 BK102.out 0).trans rfl
 have hfs11:=z6 BK102.out 0
 have hns11_0:=NB101_102.out
 have hms11_0:=NB102_101.out
 have hs12 : w10.cell? ⟨gb102,1,none⟩ = some (.int .u64 0):=(z7 BK102.out 1).trans rfl
 have hfs12:=z6 BK102.out 1
 have hns12_0:=NB101_102.out
 have hms12_0:=NB102_101.out
 refine skip_ (w1:=?_) zz94 rfl ?_ ?_
 rotate_left
 · go_simp
   rfl
 refine hK.out _ _ ⟨((z2z (p:=⟨gb102,_,none⟩) NB101_102.out _).trans (((z2z (p:=⟨gb102,_,none⟩) NB101_102.out _).trans (hHeld.1)))),((z2z (p:=⟨gb102,_,none⟩) NB101_102.out _).trans (((z2z (p:=⟨gb102,_,none⟩) NB101_102.out _).trans (hHeld.2))))⟩ (fun hHeld=>?_)
 clear hK K
 refine done_ (z2i HT_.out zz90) ?_
 try go_wp2
 refine bodyPost_ret (results_cell_row rfl _ _ gb102 40 #[.int .u64 t103,.int .u64 t104] (0,0) _ rfl (by (with_reducible repeat (first|refine z5 ?_ _|refine z8 ?_|refine z4 ?_ _));refine zX (cs:=#[.int .u64 t103,.int .u64 0]) ?_ 1 _ rfl;(with_reducible repeat (first|refine z5 ?_ _|refine z8 ?_|refine z4 ?_ _));refine zX (cs:=#[.int .u64 0,.int .u64 0]) ?_ 0 _ rfl;(with_reducible repeat (first|refine z5 ?_ _|refine z8 ?_|refine z4 ?_ _));exact BK102.out) Try.underlying40 rfl zz90) rfl ?_
 exact ⟨by first|rfl|(simp [zg,zh] <;> rfl)|(simp [*,zg,zh] <;> rfl),by repeat (first|(with_reducible first|exact HB.out|apply zd|apply z2|apply z9|refine za ?_ GE101.out|refine za ?_ GE102.out)|exact HB.out)⟩
end Go.Proofs.Ytkhmpaooinpfoaa.P
namespace Go.Proofs.Ytkhmpaooinpfoaa.P
open Go.RowKit Go.Proofs.YtkhmpaooinpfoaaW.PrintWords Go.Proofs.YtkhmpaooinpfoaaW.PrintLast Go.Proofs.YtkhmpaooinpfoaaW.PrintMore
attribute [local go_sem] z12 z14 z1i z1j zU zV z13 z15   -- for this text's walks alone
set_option linter.unusedVariables false
set_option linter.unusedSimpArgs false
mutual
def zf.l0 : Nat → Int → Int → Int → Int → Int → Int → Int → Option (Int × Int)
 | 0,_,_,_,_,_,_,_=>none
 | k + 1,x6,x102000,x102001,x103000,x103001,x105000,x105001=>if x6 < 128 then ((zE.f k x103000 x103001 x6).bind fun t105=>(if t105 = true then (zf.l1 k x6 0 x102000 x102001 x103000 x103001 x105000 x105001 x102000 x102001) else (zf.l0 k (wrap64 (x6 + 1)) x102000 x102001 x103000 x103001 x105000 x105001))) else (some (x105000,x105001))
def zf.l1 : Nat → Int → Int → Int → Int → Int → Int → Int → Int → Int → Int → Option (Int × Int)
 | 0,_,_,_,_,_,_,_,_,_,_=>none
 | k + 1,x6,x8,x102000,x102001,x103000,x103001,x105000,x105001,x107000,x107001=>if x8 < 7 then (if 0 ≤ (IntKind.u64.wrap (x8)) then (if (Go.bits .and .i64 (shr .i64 x6 (IntKind.u64.wrap (x8))) 1) = 1 then ((zw.f k x8 x107000 x107001).bind fun bt107=>(zf.l1 k x6 (wrap64 (x8 + 1)) x102000 x102001 x103000 x103001 x105000 x105001 bt107.1 bt107.2)) else (zf.l1 k x6 (wrap64 (x8 + 1)) x102000 x102001 x103000 x103001 x105000 x105001 x107000 x107001)) else (none)) else ((z16.f x105000 x105001 x107000 x107001).bind fun bt109=>(zf.l0 k (wrap64 (x6 + 1)) x102000 x102001 x103000 x103001 bt109.1 bt109.2))
end
def zf.f (k : Nat) (a0_0 : Int) (a0_1 : Int) (a1_0 : Int) (a1_1 : Int) : Option (Int × Int):=zf.l0 k 0 a0_0 a0_1 a1_0 a1_1 0 0
theorem zf.z17 : ∀ k,(∀ y0 y1 y2 y3 y4 y5 y6,LeO (zf.l0 k y0 y1 y2 y3 y4 y5 y6) (zf.l0 (k + 1) y0 y1 y2 y3 y4 y5 y6)) ∧ (∀ y0 y1 y2 y3 y4 y5 y6 y7 y8 y9,LeO (zf.l1 k y0 y1 y2 y3 y4 y5 y6 y7 y8 y9) (zf.l1 (k + 1) y0 y1 y2 y3 y4 y5 y6 y7 y8 y9))
 | 0=>⟨fun _ _ _ _ _ _ _ r h=>by simp [zf.l0] at h,fun _ _ _ _ _ _ _ _ _ _ r h=>by simp [zf.l1] at h⟩
 | k + 1=>by
  obtain ⟨ih0,ih1⟩:=zf.z17 k
  refine ⟨?_,?_⟩
  · intro y0 y1 y2 y3 y4 y5 y6
    unfold zf.l0
    repeat' first
    | (with_reducible exact ih0 _ _ _ _ _ _ _)
    | (with_reducible exact ih1 _ _ _ _ _ _ _ _ _ _)
    | (with_reducible exact zE.mono _ _ _ _)
    | (with_reducible exact zw.mono _ _ _ _)
    | (with_reducible exact LeO.refl _)
    | (with_reducible exact LeO.none _)
    | (with_reducible refine LeO.ite ?_ ?_)
    | (with_reducible refine LeO.bind ?_ (fun _=>?_))
    | exact ih0 _ _ _ _ _ _ _
    | exact ih1 _ _ _ _ _ _ _ _ _ _
    | exact zE.mono _ _ _ _
    | exact zw.mono _ _ _ _
    | exact LeO.none _
    | refine LeO.ite ?_ ?_
    | refine LeO.bind ?_ (fun _=>?_)
  · intro y0 y1 y2 y3 y4 y5 y6 y7 y8 y9
    unfold zf.l1
    repeat' first
    | (with_reducible exact ih0 _ _ _ _ _ _ _)
    | (with_reducible exact ih1 _ _ _ _ _ _ _ _ _ _)
    | (with_reducible exact zE.mono _ _ _ _)
    | (with_reducible exact zw.mono _ _ _ _)
    | (with_reducible exact LeO.refl _)
    | (with_reducible exact LeO.none _)
    | (with_reducible refine LeO.ite ?_ ?_)
    | (with_reducible refine LeO.bind ?_ (fun _=>?_))
    | exact ih0 _ _ _ _ _ _ _
    | exact ih1 _ _ _ _ _ _ _ _ _ _
    | exact zE.mono _ _ _ _
    | exact zw.mono _ _ _ _
    | exact LeO.none _
    | refine LeO.ite ?_ ?_
    | refine LeO.bind ?_ (fun _=>?_)
theorem zf.mono : ∀ a0 a1 a2 a3 k,LeO (zf.f k a0 a1 a2 a3) (zf.f (k + 1) a0 a1 a2 a3):=by
 intro a0 a1 a2 a3 k
 obtain ⟨ih0,ih1⟩:=zf.z17 k
 unfold zf.f
 repeat' first
  | (with_reducible exact ih0 _ _ _ _ _ _ _)
  | (with_reducible exact ih1 _ _ _ _ _ _ _ _ _ _)
  | (with_reducible exact zE.mono _ _ _ _)
  | (with_reducible exact zw.mono _ _ _ _)
  | (with_reducible exact LeO.refl _)
  | (with_reducible exact LeO.none _)
  | (with_reducible refine LeO.ite ?_ ?_)
  | (with_reducible refine LeO.bind ?_ (fun _=>?_))
  | exact ih0 _ _ _ _ _ _ _
  | exact ih1 _ _ _ _ _ _ _ _ _ _
  | exact zE.mono _ _ _ _
  | exact zw.mono _ _ _ _
  | exact LeO.none _
  | refine LeO.ite ?_ ?_
  | refine LeO.bind ?_ (fun _=>?_)
set_option maxHeartbeats 8000000 in
set_option maxRecDepth 100000 in
theorem zf.calls (k : Nat) (a0_0 : Int) (a0_1 : Int) (a1_0 : Int) (a1_1 : Int) (r1 : Int) (r2 : Int) (w : World) (h : zf.f k a0_0 a0_1 a1_0 a1_1 = some (r1,r2)) :
 Calls Try.prog 71 #[.agg #[.int .u64 a0_0,.int .u64 a0_1],.agg #[.int .u64 a1_0,.int .u64 a1_1]] w fun e w'=>e = .returned (.agg #[.int .u64 r1,.int .u64 r2]) ∧ Below w.heap.size w w':=by
 have hu40:=Try.underlying40
 have HB:=z1.mk (Below.refl w.heap.size w)
 have H : (zf.l0 k 0 a0_0 a0_1 a1_0 a1_1 0 0) = some (r1,r2):=h
 clear h
 have H':=z1.mk H
 clear H
 go_enter Try.func71,Try.ntmps71
 go_wp2_with (first|((with_reducible refine zp (N:=2) rfl ?_);refine zt ?hg (N:=2) ?hd (cs:=#[.int .u64 a0_0,.int .u64 a0_1]) (t:=40) ?hr ?_;(case hd=>rfl);(case hg=>rfl);(case hr=>first|(go_simp;done)|(go_simp;rfl));intro gb101 hg w3 hbox hb;have n0_:=z1.mk (z3 zz49 hb);have n1_:=z1.mk (hbox);have n2_:=z1.mk ((by rw [hg];exact (zb zz49) : w.heap.size ≤ gb101));have n3_:=z1.mk ((by rw [hg];exact (zb zz49) : w.heap.size ≤ gb101));clear HB;have HB:=n0_;have BK101:=n1_;have GW101:=n2_;have GE101:=n3_;clear n0_ n1_ n2_ n3_;clear hb hbox hg)|((with_reducible refine zp (N:=3) rfl ?_);refine zt ?hg (N:=3) ?hd (cs:=#[.int .u64 a1_0,.int .u64 a1_1]) (t:=40) ?hr ?_;(case hd=>rfl);(case hg=>rfl);(case hr=>first|(go_simp;done)|(go_simp;rfl));intro gb102 hg w4 hbox hb;have n0_:=z1.mk (zc (g:=gb101) (o:=.cells #[.int .u64 a0_0,.int .u64 a0_1] 40 (0,0)) zz50 hb);have n1_:=z1.mk (z3 zz43 hb);have n2_:=z1.mk (hbox);have n3_:=z1.mk ((by rw [hg];exact (zb zz43) : w.heap.size ≤ gb102));have n4_:=z1.mk ((by rw [hg];exact (zb zz43) : w.heap.size ≤ gb102));have n5_:=z1.mk ((by rw [hg];exact Nat.ne_of_lt (zL (g:=gb101) (o:=.cells #[.int .u64 a0_0,.int .u64 a0_1] 40 (0,0)) zz50) : gb101 ≠ gb102));have n6_:=z1.mk ((by rw [hg];exact Nat.ne_of_gt (zL (g:=gb101) (o:=.cells #[.int .u64 a0_0,.int .u64 a0_1] 40 (0,0)) zz50) : gb102 ≠ gb101));clear BK101;clear HB;have BK101:=n0_;have HB:=n1_;have BK102:=n2_;have GW102:=n3_;have GE102:=n4_;have NB101_102:=n5_;have NB102_101:=n6_;clear n0_ n1_ n2_ n3_ n4_ n5_ n6_;clear hb hbox hg)|((with_reducible refine zp (N:=4) rfl ?_);refine zt ?hg (N:=4) ?hd (cs:=#[.int .u64 0,.int .u64 0]) (t:=40) ?hr ?_;(case hd=>rfl);(case hg=>rfl);(case hr=>first|(go_simp;done)|(go_simp;rfl));intro gb103 hg w5 hbox hb;have n0_:=z1.mk (zc (g:=gb101) (o:=.cells #[.int .u64 a0_0,.int .u64 a0_1] 40 (0,0)) zz50 hb);have n1_:=z1.mk (zc (g:=gb102) (o:=.cells #[.int .u64 a1_0,.int .u64 a1_1] 40 (0,0)) zz51 hb);have n2_:=z1.mk (z3 zz36 hb);have n3_:=z1.mk (hbox);have n4_:=z1.mk ((by rw [hg];exact (zb zz36) : w.heap.size ≤ gb103));have n5_:=z1.mk ((by rw [hg];exact (zb zz36) : w.heap.size ≤ gb103));have n6_:=z1.mk ((by rw [hg];exact Nat.ne_of_lt (zL (g:=gb101) (o:=.cells #[.int .u64 a0_0,.int .u64 a0_1] 40 (0,0)) zz50) : gb101 ≠ gb103));have n7_:=z1.mk ((by rw [hg];exact Nat.ne_of_gt (zL (g:=gb101) (o:=.cells #[.int .u64 a0_0,.int .u64 a0_1] 40 (0,0)) zz50) : gb103 ≠ gb101));have n8_:=z1.mk ((by rw [hg];exact Nat.ne_of_lt (zL (g:=gb102) (o:=.cells #[.int .u64 a1_0,.int .u64 a1_1] 40 (0,0)) zz51) : gb102 ≠ gb103));have n9_:=z1.mk ((by rw [hg];exact Nat.ne_of_gt (zL (g:=gb102) (o:=.cells #[.int .u64 a1_0,.int .u64 a1_1] 40 (0,0)) zz51) : gb103 ≠ gb102));clear BK101;clear BK102;clear HB;have BK101:=n0_;have BK102:=n1_;have HB:=n2_;have BK103:=n3_;have GW103:=n4_;have GE103:=n5_;have NB101_103:=n6_;have NB103_101:=n7_;have NB102_103:=n8_;have NB103_102:=n9_;clear n0_ n1_ n2_ n3_ n4_ n5_ n6_ n7_ n8_ n9_;clear hb hbox hg)|((with_reducible refine zp (N:=5) rfl ?_);refine zt ?hg (N:=5) ?hd (cs:=#[.int .u64 0,.int .u64 0]) (t:=40) ?hr ?_;(case hd=>rfl);(case hg=>rfl);(case hr=>first|(go_simp;done)|(go_simp;rfl));intro gb104 hg w6 hbox hb;have n0_:=z1.mk (zc (g:=gb101) (o:=.cells #[.int .u64 a0_0,.int .u64 a0_1] 40 (0,0)) zz50 hb);have n1_:=z1.mk (zc (g:=gb102) (o:=.cells #[.int .u64 a1_0,.int .u64 a1_1] 40 (0,0)) zz51 hb);have n2_:=z1.mk (zc (g:=gb103) (o:=.cells #[.int .u64 0,.int .u64 0] 40 (0,0)) zz52 hb);have n3_:=z1.mk (z3 zz33 hb);have n4_:=z1.mk (hbox);have n5_:=z1.mk ((by rw [hg];exact (zb zz33) : w.heap.size ≤ gb104));have n6_:=z1.mk ((by rw [hg];exact (zb zz33) : w.heap.size ≤ gb104));have n7_:=z1.mk ((by rw [hg];exact Nat.ne_of_lt (zL (g:=gb101) (o:=.cells #[.int .u64 a0_0,.int .u64 a0_1] 40 (0,0)) zz50) : gb101 ≠ gb104));have n8_:=z1.mk ((by rw [hg];exact Nat.ne_of_gt (zL (g:=gb101) (o:=.cells #[.int .u64 a0_0,.int .u64 a0_1] 40 (0,0)) zz50) : gb104 ≠ gb101));have n9_:=z1.mk ((by rw [hg];exact Nat.ne_of_lt (zL (g:=gb102) (o:=.cells #[.int .u64 a1_0,.int .u64 a1_1] 40 (0,0)) zz51) : gb102 ≠ gb104));have n10_:=z1.mk ((by rw [hg];exact Nat.ne_of_gt (zL (g:=gb102) (o:=.cells #[.int .u64 a1_0,.int .u64 a1_1] 40 (0,0)) zz51) : gb104 ≠ gb102));have n11_:=z1.mk ((by rw [hg];exact Nat.ne_of_lt (zL (g:=gb103) (o:=.cells #[.int .u64 0,.int .u64 0] 40 (0,0)) zz52) : gb103 ≠ gb104));have n12_:=z1.mk ((by rw [hg];exact Nat.ne_of_gt (zL (g:=gb103) (o:=.cells #[.int .u64 0,.int .u64 0] 40 (0,0)) zz52) : gb104 ≠ gb103));clear BK101;clear BK102;clear BK103;clear HB;have BK101:=n0_;have BK102:=n1_;have BK103:=n2_;have HB:=n3_;have BK104:=n4_;have GW104:=n5_;have GE104:=n6_;have NB101_104:=n7_;have NB104_101:=n8_;have NB102_104:=n9_;have NB104_102:=n10_;have NB103_104:=n11_;have NB104_103:=n12_;clear n0_ n1_ n2_ n3_ n4_ n5_ n6_ n7_ n8_ n9_ n10_ n11_ n12_;clear hb hbox hg))
 go_loopg [6] k (fun kq v6 w'=>∃ (x6_1 : Int) (x105000_1 : Int) (x105001_1 : Int),v6 = .int .i64 x6_1 ∧ z1 (zf.l0 kq x6_1 a0_0 a0_1 a1_0 a1_1 x105000_1 x105001_1 = some (r1,r2)) ∧ z1 (kq ≤ k) ∧ z1 (w'.heap[gb101]? = some (.cells #[.int .u64 a0_0,.int .u64 a0_1] 40 (0,0))) ∧ z1 (w'.heap[gb102]? = some (.cells #[.int .u64 a1_0,.int .u64 a1_1] 40 (0,0))) ∧ z1 (w'.heap[gb103]? = some (.cells #[.int .u64 0,.int .u64 0] 40 (0,0))) ∧ z1 (w'.heap[gb104]? = some (.cells #[.int .u64 x105000_1,.int .u64 x105001_1] 40 (0,0))) ∧ z1 (Below w.heap.size w w'))
 case atStart=>exact ⟨(0),(0),(0),zz86,H',⟨Nat.le_refl _⟩,⟨by (with_reducible repeat (first|refine z5 ?_ _|refine z8 ?_|refine z4 ?_ _));exact BK101.out⟩,⟨by (with_reducible repeat (first|refine z5 ?_ _|refine z8 ?_|refine z4 ?_ _));exact BK102.out⟩,⟨by (with_reducible repeat (first|refine z5 ?_ _|refine z8 ?_|refine z4 ?_ _));exact BK103.out⟩,⟨by (with_reducible repeat (first|refine z5 ?_ _|refine z8 ?_|refine z4 ?_ _));exact BK104.out⟩,⟨by repeat (first|(with_reducible first|exact HB.out|apply zd|apply z2|apply z9|refine za ?_ GE101.out|refine za ?_ GE102.out|refine za ?_ GE103.out|refine za ?_ GE104.out)|exact HB.out)⟩⟩
 case round =>
  clear H'
  (try clear p2)
  obtain ⟨x6_1,x105000_1,x105001_1,rfl,HA,HK1,BK101,BK102,BK103,BK104,HB⟩:=hrel
  cases gk with
  | zero=>exact absurd HA.out (by simp [zf.l0])
  | succ k1 =>
   have H:=HA.out
   clear HA
   simp only [zf.l0] at H
   by_cases c7 : x6_1 < 128
   rotate_left
   · rw [if_neg c7] at H
     have c7b0 : decide (x6_1 < 128) = false:=decide_eq_false c7
     clear c7
     simp only [Option.some.injEq,Prod.mk.injEq] at H
     obtain ⟨rfl,rfl⟩:=H
     have hnb54:=NB104_101.out
     have hnc54:=NB101_104.out
     have hnb55:=NB104_102.out
     have hnc55:=NB102_104.out
     have hnb56:=NB104_103.out
     have hnc56:=NB103_104.out
     have hcz57_0 : wr.cell? ⟨gb104,0,none⟩ = some (.int .u64 x105000_1):=(z7 BK104.out 0).trans rfl
     have hcz57_1 : wr.cell? ⟨gb104,1,none⟩ = some (.int .u64 x105001_1):=(z7 BK104.out 1).trans rfl
     have hfz57_0:=z6 BK104.out 0
     have hfz57_1:=z6 BK104.out 1
     have hnb58:=NB103_101.out
     have hnc58:=NB101_103.out
     have hnb59:=NB103_102.out
     have hnc59:=NB102_103.out
     have hcz60_0 : wr.cell? ⟨gb103,0,none⟩ = some (.int .u64 0):=(z7 BK103.out 0).trans rfl
     have hcz60_1 : wr.cell? ⟨gb103,1,none⟩ = some (.int .u64 0):=(z7 BK103.out 1).trans rfl
     have hfz60_0:=z6 BK103.out 0
     have hfz60_1:=z6 BK103.out 1
     go_wp2
     refine bodyPost_ret (results_cell_row rfl _ _ gb103 40 #[.int .u64 x105000_1,.int .u64 x105001_1] (0,0) _ rfl (by (with_reducible repeat (first|refine z5 ?_ _|refine z8 ?_|refine z4 ?_ _));refine zX (cs:=#[.int .u64 x105000_1,.int .u64 0]) ?_ 1 _ rfl;(with_reducible repeat (first|refine z5 ?_ _|refine z8 ?_|refine z4 ?_ _));refine zX (cs:=#[.int .u64 0,.int .u64 0]) ?_ 0 _ rfl;(with_reducible repeat (first|refine z5 ?_ _|refine z8 ?_|refine z4 ?_ _));exact BK103.out) Try.underlying40 rfl zz90) rfl ?_
     exact ⟨by first|rfl|(simp [zg,zh] <;> rfl)|(simp [*,zg,zh] <;> rfl),by repeat (first|(with_reducible first|exact HB.out|apply zd|apply z2|apply z9|refine za ?_ GE101.out|refine za ?_ GE102.out|refine za ?_ GE103.out|refine za ?_ GE104.out)|exact HB.out)⟩
   rw [if_pos c7] at H
   have c7b0 : decide (x6_1 < 128) = true:=decide_eq_true c7
   clear c7
   replace H:=Option.bind_eq_some_iff.mp H
   obtain ⟨t105,A80,H⟩:=H
   replace H : (if t105 = true then (zf.l1 k1 x6_1 0 a0_0 a0_1 a1_0 a1_1 x105000_1 x105001_1 a0_0 a0_1) else (zf.l0 k1 (wrap64 (x6_1 + 1)) a0_0 a0_1 a1_0 a1_1 x105000_1 x105001_1)) = some (r1,r2):=H
   have A8:=z1.mk A80
   clear A80
   by_cases c9 : t105 = true
   rotate_left
   · replace c9:=Bool.eq_false_iff.mpr c9
     subst c9
     have H1 : (zf.l0 k1 (wrap64 (x6_1 + 1)) a0_0 a0_1 a1_0 a1_1 x105000_1 x105001_1) = some (r1,r2):=by rw [if_neg (show ¬ (false = true) by decide)] at H;exact H
     clear H
     have H:=H1
     clear H1
     have H':=z1.mk H
     clear H
     have hnb49:=NB102_101.out
     have hnc49:=NB101_102.out
     have hnb50:=NB102_103.out
     have hnc50:=NB103_102.out
     have hnb51:=NB102_104.out
     have hnc51:=NB104_102.out
     have hcz52_0 : wr.cell? ⟨gb102,0,none⟩ = some (.int .u64 a1_0):=(z7 BK102.out 0).trans rfl
     have hcz52_1 : wr.cell? ⟨gb102,1,none⟩ = some (.int .u64 a1_1):=(z7 BK102.out 1).trans rfl
     have hfz52_0:=z6 BK102.out 0
     have hfz52_1:=z6 BK102.out 1
     go_wp2_with (first|((with_reducible refine zi (f:=104) rfl ?_);refine goesL_ (some 15) rfl rfl Try.func104 zz90 rfl #[.agg #[.int .u64 a1_0,.int .u64 a1_1],.int .i64 x6_1] rfl zz48 ?_;(with_reducible refine (zE.calls k1 a1_0 a1_1 x6_1 false _ A8.out).mono ?_);rintro e w53 ⟨rfl,hb⟩;refine ⟨_,rfl,?_⟩;have n0_:=z1.mk (zc (g:=gb101) (o:=.cells #[.int .u64 a0_0,.int .u64 a0_1] 40 (0,0)) zz50 hb);have n1_:=z1.mk (zc (g:=gb102) (o:=.cells #[.int .u64 a1_0,.int .u64 a1_1] 40 (0,0)) zz51 hb);have n2_:=z1.mk (zc (g:=gb103) (o:=.cells #[.int .u64 0,.int .u64 0] 40 (0,0)) zz52 hb);have n3_:=z1.mk (zc (g:=gb104) (o:=.cells #[.int .u64 x105000_1,.int .u64 x105001_1] 40 (0,0)) zz57 hb);have n4_:=z1.mk (z3 zz30 hb);clear BK101;clear BK102;clear BK103;clear BK104;clear HB;have BK101:=n0_;have BK102:=n1_;have BK103:=n2_;have BK104:=n3_;have HB:=n4_;clear n0_ n1_ n2_ n3_ n4_;(try clear hb);(try clear hb2);(try clear hk);(try clear hi)))
     go_roundg k1
     case measure=>have:=HK1.out;omega
     case rel=>exact ⟨(wrap64 (x6_1 + 1)),(x105000_1),(x105001_1),zz86,H',⟨by have:=HK1.out;omega⟩,⟨by (with_reducible repeat (first|refine z5 ?_ _|refine z8 ?_|refine z4 ?_ _));exact BK101.out⟩,⟨by (with_reducible repeat (first|refine z5 ?_ _|refine z8 ?_|refine z4 ?_ _));exact BK102.out⟩,⟨by (with_reducible repeat (first|refine z5 ?_ _|refine z8 ?_|refine z4 ?_ _));exact BK103.out⟩,⟨by (with_reducible repeat (first|refine z5 ?_ _|refine z8 ?_|refine z4 ?_ _));exact BK104.out⟩,⟨by repeat (first|(with_reducible first|exact HB.out|apply zd|apply z2|apply z9|refine za ?_ GE101.out|refine za ?_ GE102.out|refine za ?_ GE103.out|refine za ?_ GE104.out)|exact HB.out)⟩⟩
   subst c9
   have H1 : (zf.l1 k1 x6_1 0 a0_0 a0_1 a1_0 a1_1 x105000_1 x105001_1 a0_0 a0_1) = some (r1,r2):=by rw [if_pos rfl] at H;exact H
   clear H
   have H:=H1
   clear H1
   have H':=z1.mk H
   clear H
   have hnb10:=NB102_101.out
   have hnc10:=NB101_102.out
   have hnb11:=NB102_103.out
   have hnc11:=NB103_102.out
   have hnb12:=NB102_104.out
   have hnc12:=NB104_102.out
   have hcz13_0 : wr.cell? ⟨gb102,0,none⟩ = some (.int .u64 a1_0):=(z7 BK102.out 0).trans rfl
   have hcz13_1 : wr.cell? ⟨gb102,1,none⟩ = some (.int .u64 a1_1):=(z7 BK102.out 1).trans rfl
   have hfz13_0:=z6 BK102.out 0
   have hfz13_1:=z6 BK102.out 1
   go_wp2_with (first|((with_reducible refine zi (f:=104) rfl ?_);refine goesL_ (some 15) rfl rfl Try.func104 zz90 rfl #[.agg #[.int .u64 a1_0,.int .u64 a1_1],.int .i64 x6_1] rfl zz48 ?_;(with_reducible refine (zE.calls k1 a1_0 a1_1 x6_1 true _ A8.out).mono ?_);rintro e w14 ⟨rfl,hb⟩;refine ⟨_,rfl,?_⟩;have n0_:=z1.mk (zc (g:=gb101) (o:=.cells #[.int .u64 a0_0,.int .u64 a0_1] 40 (0,0)) zz50 hb);have n1_:=z1.mk (zc (g:=gb102) (o:=.cells #[.int .u64 a1_0,.int .u64 a1_1] 40 (0,0)) zz51 hb);have n2_:=z1.mk (zc (g:=gb103) (o:=.cells #[.int .u64 0,.int .u64 0] 40 (0,0)) zz52 hb);have n3_:=z1.mk (zc (g:=gb104) (o:=.cells #[.int .u64 x105000_1,.int .u64 x105001_1] 40 (0,0)) zz57 hb);have n4_:=z1.mk (z3 zz30 hb);clear BK101;clear BK102;clear BK103;clear BK104;clear HB;have BK101:=n0_;have BK102:=n1_;have BK103:=n2_;have BK104:=n3_;have HB:=n4_;clear n0_ n1_ n2_ n3_ n4_;(try clear hb);(try clear hb2);(try clear hk);(try clear hi);have hnb15:=NB101_103.out;have hnc15:=NB103_101.out;have hnb16:=NB101_104.out;have hnc16:=NB104_101.out;have hcz17_0 : w14.cell? ⟨gb101,0,none⟩ = some (.int .u64 a0_0):=(z7 BK101.out 0).trans rfl;have hcz17_1 : w14.cell? ⟨gb101,1,none⟩ = some (.int .u64 a0_1):=(z7 BK101.out 1).trans rfl;have hfz17_0:=z6 BK101.out 0;have hfz17_1:=z6 BK101.out 1)|((with_reducible refine zp (N:=7) rfl ?_);refine zt ?hg (N:=7) ?hd (cs:=#[.int .u64 0,.int .u64 0]) (t:=40) ?hr ?_;(case hd=>rfl);(case hg=>rfl);(case hr=>first|(go_simp;done)|(go_simp;rfl));intro gb106 hg w18 hbox hb;have n0_:=z1.mk (zc (g:=gb101) (o:=.cells #[.int .u64 a0_0,.int .u64 a0_1] 40 (0,0)) zz50 hb);have n1_:=z1.mk (zc (g:=gb102) (o:=.cells #[.int .u64 a1_0,.int .u64 a1_1] 40 (0,0)) zz51 hb);have n2_:=z1.mk (zc (g:=gb103) (o:=.cells #[.int .u64 0,.int .u64 0] 40 (0,0)) zz52 hb);have n3_:=z1.mk (zc (g:=gb104) (o:=.cells #[.int .u64 x105000_1,.int .u64 x105001_1] 40 (0,0)) zz57 hb);have n4_:=z1.mk (z3 zz30 hb);have n5_:=z1.mk (hbox);have n6_:=z1.mk ((by rw [hg];exact (zb zz30) : w.heap.size ≤ gb106));have n7_:=z1.mk ((by rw [hg];exact (zb zz30) : w.heap.size ≤ gb106));have n8_:=z1.mk ((by rw [hg];exact Nat.ne_of_lt (zL (g:=gb101) (o:=.cells #[.int .u64 a0_0,.int .u64 a0_1] 40 (0,0)) zz50) : gb101 ≠ gb106));have n9_:=z1.mk ((by rw [hg];exact Nat.ne_of_gt (zL (g:=gb101) (o:=.cells #[.int .u64 a0_0,.int .u64 a0_1] 40 (0,0)) zz50) : gb106 ≠ gb101));have n10_:=z1.mk ((by rw [hg];exact Nat.ne_of_lt (zL (g:=gb102) (o:=.cells #[.int .u64 a1_0,.int .u64 a1_1] 40 (0,0)) zz51) : gb102 ≠ gb106));have n11_:=z1.mk ((by rw [hg];exact Nat.ne_of_gt (zL (g:=gb102) (o:=.cells #[.int .u64 a1_0,.int .u64 a1_1] 40 (0,0)) zz51) : gb106 ≠ gb102));have n12_:=z1.mk ((by rw [hg];exact Nat.ne_of_lt (zL (g:=gb103) (o:=.cells #[.int .u64 0,.int .u64 0] 40 (0,0)) zz52) : gb103 ≠ gb106));have n13_:=z1.mk ((by rw [hg];exact Nat.ne_of_gt (zL (g:=gb103) (o:=.cells #[.int .u64 0,.int .u64 0] 40 (0,0)) zz52) : gb106 ≠ gb103));have n14_:=z1.mk ((by rw [hg];exact Nat.ne_of_lt (zL (g:=gb104) (o:=.cells #[.int .u64 x105000_1,.int .u64 x105001_1] 40 (0,0)) zz57) : gb104 ≠ gb106));have n15_:=z1.mk ((by rw [hg];exact Nat.ne_of_gt (zL (g:=gb104) (o:=.cells #[.int .u64 x105000_1,.int .u64 x105001_1] 40 (0,0)) zz57) : gb106 ≠ gb104));clear BK101;clear BK102;clear BK103;clear BK104;clear HB;have BK101:=n0_;have BK102:=n1_;have BK103:=n2_;have BK104:=n3_;have HB:=n4_;have BK106:=n5_;have GW106:=n6_;have GE106:=n7_;have NB101_106:=n8_;have NB106_101:=n9_;have NB102_106:=n10_;have NB106_102:=n11_;have NB103_106:=n12_;have NB106_103:=n13_;have NB104_106:=n14_;have NB106_104:=n15_;clear n0_ n1_ n2_ n3_ n4_ n5_ n6_ n7_ n8_ n9_ n10_ n11_ n12_ n13_ n14_ n15_;clear hb hbox hg;have hnb19:=NB106_101.out;have hnc19:=NB101_106.out;have hnb20:=NB106_102.out;have hnc20:=NB102_106.out;have hnb21:=NB106_103.out;have hnc21:=NB103_106.out;have hnb22:=NB106_104.out;have hnc22:=NB104_106.out;have hcz23_0 : w18.cell? ⟨gb106,0,none⟩ = some (.int .u64 0):=(z7 BK106.out 0).trans rfl;have hcz23_1 : w18.cell? ⟨gb106,1,none⟩ = some (.int .u64 0):=(z7 BK106.out 1).trans rfl;have hfz23_0:=z6 BK106.out 0;have hfz23_1:=z6 BK106.out 1))
   go_loopg [8] k1 (fun kq v8 w'=>∃ (x8_2 : Int) (x107000_2 : Int) (x107001_2 : Int),v8 = .int .i64 x8_2 ∧ z1 (zf.l1 kq x6_1 x8_2 a0_0 a0_1 a1_0 a1_1 x105000_1 x105001_1 x107000_2 x107001_2 = some (r1,r2)) ∧ z1 (kq ≤ k1) ∧ z1 (w'.heap[gb101]? = some (.cells #[.int .u64 a0_0,.int .u64 a0_1] 40 (0,0))) ∧ z1 (w'.heap[gb102]? = some (.cells #[.int .u64 a1_0,.int .u64 a1_1] 40 (0,0))) ∧ z1 (w'.heap[gb103]? = some (.cells #[.int .u64 0,.int .u64 0] 40 (0,0))) ∧ z1 (w'.heap[gb104]? = some (.cells #[.int .u64 x105000_1,.int .u64 x105001_1] 40 (0,0))) ∧ z1 (w'.heap[gb106]? = some (.cells #[.int .u64 x107000_2,.int .u64 x107001_2] 40 (0,0))) ∧ z1 (Below w.heap.size w w'))
   case atStart=>exact ⟨(0),(a0_0),(a0_1),zz86,H',⟨Nat.le_refl _⟩,⟨by (with_reducible repeat (first|refine z5 ?_ _|refine z8 ?_|refine z4 ?_ _));refine zZ ?_ NB101_106.out _;(with_reducible repeat (first|refine z5 ?_ _|refine z8 ?_|refine z4 ?_ _));refine zZ ?_ NB101_106.out _;(with_reducible repeat (first|refine z5 ?_ _|refine z8 ?_|refine z4 ?_ _));exact BK101.out⟩,⟨by (with_reducible repeat (first|refine z5 ?_ _|refine z8 ?_|refine z4 ?_ _));refine zZ ?_ NB102_106.out _;(with_reducible repeat (first|refine z5 ?_ _|refine z8 ?_|refine z4 ?_ _));refine zZ ?_ NB102_106.out _;(with_reducible repeat (first|refine z5 ?_ _|refine z8 ?_|refine z4 ?_ _));exact BK102.out⟩,⟨by (with_reducible repeat (first|refine z5 ?_ _|refine z8 ?_|refine z4 ?_ _));refine zZ ?_ NB103_106.out _;(with_reducible repeat (first|refine z5 ?_ _|refine z8 ?_|refine z4 ?_ _));refine zZ ?_ NB103_106.out _;(with_reducible repeat (first|refine z5 ?_ _|refine z8 ?_|refine z4 ?_ _));exact BK103.out⟩,⟨by (with_reducible repeat (first|refine z5 ?_ _|refine z8 ?_|refine z4 ?_ _));refine zZ ?_ NB104_106.out _;(with_reducible repeat (first|refine z5 ?_ _|refine z8 ?_|refine z4 ?_ _));refine zZ ?_ NB104_106.out _;(with_reducible repeat (first|refine z5 ?_ _|refine z8 ?_|refine z4 ?_ _));exact BK104.out⟩,⟨by (with_reducible repeat (first|refine z5 ?_ _|refine z8 ?_|refine z4 ?_ _));refine zX (cs:=#[.int .u64 a0_0,.int .u64 0]) ?_ 1 _ rfl;(with_reducible repeat (first|refine z5 ?_ _|refine z8 ?_|refine z4 ?_ _));refine zX (cs:=#[.int .u64 0,.int .u64 0]) ?_ 0 _ rfl;(with_reducible repeat (first|refine z5 ?_ _|refine z8 ?_|refine z4 ?_ _));exact BK106.out⟩,⟨by repeat (first|(with_reducible first|exact HB.out|apply zd|apply z2|apply z9|refine za ?_ GE101.out|refine za ?_ GE102.out|refine za ?_ GE103.out|refine za ?_ GE104.out|refine za ?_ GE106.out)|exact HB.out)⟩⟩
   case round =>
    clear H'
    (try clear c1);(try clear c2);(try clear p2);(try clear p6);(try clear c7);(try clear c7b0);(try clear c9);(try clear c10);(try clear c11);(try clear c12);(try clear c15);(try clear c16);(try clear c19);(try clear c20);(try clear c21);(try clear c22);(try clear hcz13_0);(try clear hcz13_1);(try clear hcz17_0);(try clear hcz17_1);(try clear hcz23_0);(try clear hcz23_1);(try clear hfz13_0);(try clear hfz13_1);(try clear hfz17_0);(try clear hfz17_1);(try clear hfz23_0);(try clear hfz23_1);(try clear p2)
    obtain ⟨x8_2,x107000_2,x107001_2,rfl,HA,HK2,BK101,BK102,BK103,BK104,BK106,HB⟩:=hrel
    cases gk with
    | zero=>exact absurd HA.out (by simp [zf.l1])
    | succ k2 =>
     have H:=HA.out
     clear HA
     simp only [zf.l1] at H
     by_cases c24 : x8_2 < 7
     rotate_left
     · rw [if_neg c24] at H
       have c24b0 : decide (x8_2 < 7) = false:=decide_eq_false c24
       clear c24
       replace H:=Option.bind_eq_some_iff.mp H
       obtain ⟨⟨t109,t110⟩,A370,H⟩:=H
       replace H : (zf.l0 k2 (wrap64 (x6_1 + 1)) a0_0 a0_1 a1_0 a1_1 t109 t110) = some (r1,r2):=H
       have A37:=z1.mk A370
       clear A370
       have H':=z1.mk H
       clear H
       have hnb38:=NB104_101.out
       have hnc38:=NB101_104.out
       have hnb39:=NB104_102.out
       have hnc39:=NB102_104.out
       have hnb40:=NB104_103.out
       have hnc40:=NB103_104.out
       have hnb41:=NB104_106.out
       have hnc41:=NB106_104.out
       have hcz42_0 : wr.cell? ⟨gb104,0,none⟩ = some (.int .u64 x105000_1):=(z7 BK104.out 0).trans rfl
       have hcz42_1 : wr.cell? ⟨gb104,1,none⟩ = some (.int .u64 x105001_1):=(z7 BK104.out 1).trans rfl
       have hfz42_0:=z6 BK104.out 0
       have hfz42_1:=z6 BK104.out 1
       have hnb43:=NB106_101.out
       have hnc43:=NB101_106.out
       have hnb44:=NB106_102.out
       have hnc44:=NB102_106.out
       have hnb45:=NB106_103.out
       have hnc45:=NB103_106.out
       have hcz46_0 : wr.cell? ⟨gb106,0,none⟩ = some (.int .u64 x107000_2):=(z7 BK106.out 0).trans rfl
       have hcz46_1 : wr.cell? ⟨gb106,1,none⟩ = some (.int .u64 x107001_2):=(z7 BK106.out 1).trans rfl
       have hfz46_0:=z6 BK106.out 0
       have hfz46_1:=z6 BK106.out 1
       go_wp2_with (first|((with_reducible refine zi (f:=69) rfl ?_);refine goesL_ (some 33) rfl rfl Try.func69 zz90 rfl #[.agg #[.int .u64 x105000_1,.int .u64 x105001_1],.agg #[.int .u64 x107000_2,.int .u64 x107001_2]] rfl zz48 ?_;(with_reducible refine (z16.calls x105000_1 x105001_1 x107000_2 x107001_2 t109 t110 _ A37.out).mono ?_);rintro e w47 ⟨rfl,hb⟩;refine ⟨_,rfl,?_⟩;have n0_:=z1.mk (zc (g:=gb101) (o:=.cells #[.int .u64 a0_0,.int .u64 a0_1] 40 (0,0)) zz50 hb);have n1_:=z1.mk (zc (g:=gb102) (o:=.cells #[.int .u64 a1_0,.int .u64 a1_1] 40 (0,0)) zz51 hb);have n2_:=z1.mk (zc (g:=gb103) (o:=.cells #[.int .u64 0,.int .u64 0] 40 (0,0)) zz52 hb);have n3_:=z1.mk (zc (g:=gb104) (o:=.cells #[.int .u64 x105000_1,.int .u64 x105001_1] 40 (0,0)) zz57 hb);have n4_:=z1.mk (zc (g:=gb106) (o:=.cells #[.int .u64 x107000_2,.int .u64 x107001_2] 40 (0,0)) zz56 hb);have n5_:=z1.mk (z3 zz27 hb);clear BK101;clear BK102;clear BK103;clear BK104;clear BK106;clear HB;have BK101:=n0_;have BK102:=n1_;have BK103:=n2_;have BK104:=n3_;have BK106:=n4_;have HB:=n5_;clear n0_ n1_ n2_ n3_ n4_ n5_;(try clear hb);(try clear hb2);(try clear hk);(try clear hi);have hcz48_0 : w47.cell? ⟨gb104,0,none⟩ = some (.int .u64 x105000_1):=(z7 BK104.out 0).trans rfl;have hcz48_1 : w47.cell? ⟨gb104,1,none⟩ = some (.int .u64 x105001_1):=(z7 BK104.out 1).trans rfl;have hfz48_0:=z6 BK104.out 0;have hfz48_1:=z6 BK104.out 1))
       go_roundg k2
       case measure=>have:=HK1.out;have:=HK2.out;omega
       case rel=>exact ⟨(wrap64 (x6_1 + 1)),(t109),(t110),zz86,H',⟨by have:=HK1.out;have:=HK2.out;omega⟩,⟨by (with_reducible repeat (first|refine z5 ?_ _|refine z8 ?_|refine z4 ?_ _));refine zZ ?_ NB101_104.out _;(with_reducible repeat (first|refine z5 ?_ _|refine z8 ?_|refine z4 ?_ _));refine zZ ?_ NB101_104.out _;(with_reducible repeat (first|refine z5 ?_ _|refine z8 ?_|refine z4 ?_ _));exact BK101.out⟩,⟨by (with_reducible repeat (first|refine z5 ?_ _|refine z8 ?_|refine z4 ?_ _));refine zZ ?_ NB102_104.out _;(with_reducible repeat (first|refine z5 ?_ _|refine z8 ?_|refine z4 ?_ _));refine zZ ?_ NB102_104.out _;(with_reducible repeat (first|refine z5 ?_ _|refine z8 ?_|refine z4 ?_ _));exact BK102.out⟩,⟨by (with_reducible repeat (first|refine z5 ?_ _|refine z8 ?_|refine z4 ?_ _));refine zZ ?_ NB103_104.out _;(with_reducible repeat (first|refine z5 ?_ _|refine z8 ?_|refine z4 ?_ _));refine zZ ?_ NB103_104.out _;(with_reducible repeat (first|refine z5 ?_ _|refine z8 ?_|refine z4 ?_ _));exact BK103.out⟩,⟨by (with_reducible repeat (first|refine z5 ?_ _|refine z8 ?_|refine z4 ?_ _));refine zX (cs:=#[.int .u64 t109,.int .u64 x105001_1]) ?_ 1 _ rfl;(with_reducible repeat (first|refine z5 ?_ _|refine z8 ?_|refine z4 ?_ _));refine zX (cs:=#[.int .u64 x105000_1,.int .u64 x105001_1]) ?_ 0 _ rfl;(with_reducible repeat (first|refine z5 ?_ _|refine z8 ?_|refine z4 ?_ _));exact BK104.out⟩,⟨by repeat (first|(with_reducible first|exact HB.out|apply zd|apply z2|apply z9|refine za ?_ GE101.out|refine za ?_ GE102.out|refine za ?_ GE103.out|refine za ?_ GE104.out|refine za ?_ GE106.out)|exact HB.out)⟩⟩
     rw [if_pos c24] at H
     have c24b0 : decide (x8_2 < 7) = true:=decide_eq_true c24
     clear c24
     obtain ⟨ji25,hji25⟩ : ∃ j_ : Int,(IntKind.u64.wrap (x8_2)) = j_:=⟨_,rfl⟩
     replace H : (if 0 ≤ (ji25) then (if (Go.bits .and .i64 (shr .i64 x6_1 (ji25)) 1) = 1 then ((zw.f k2 x8_2 x107000_2 x107001_2).bind fun bt107=>(zf.l1 k2 x6_1 (wrap64 (x8_2 + 1)) a0_0 a0_1 a1_0 a1_1 x105000_1 x105001_1 bt107.1 bt107.2)) else (zf.l1 k2 x6_1 (wrap64 (x8_2 + 1)) a0_0 a0_1 a1_0 a1_1 x105000_1 x105001_1 x107000_2 x107001_2)) else (none)) = some (r1,r2):=by first|(rw [hji25] at H;exact H)|(simp only [hji25] at H ⊢;exact H)
     by_cases c26 : 0 ≤ (ji25)
     rotate_left
     · rw [if_neg c26] at H
       exact absurd H zz93
     rw [if_pos c26] at H
     have c26b0:=eq_true c26
     have c26b1 : decide (0 ≤ (ji25)) = true:=decide_eq_true c26
     clear c26
     obtain ⟨ji27,hji27⟩ : ∃ j_ : Int,(shr .i64 x6_1 (ji25)) = j_:=⟨_,rfl⟩
     replace H : (if (Go.bits .and .i64 (ji27) 1) = 1 then ((zw.f k2 x8_2 x107000_2 x107001_2).bind fun bt107=>(zf.l1 k2 x6_1 (wrap64 (x8_2 + 1)) a0_0 a0_1 a1_0 a1_1 x105000_1 x105001_1 bt107.1 bt107.2)) else (zf.l1 k2 x6_1 (wrap64 (x8_2 + 1)) a0_0 a0_1 a1_0 a1_1 x105000_1 x105001_1 x107000_2 x107001_2)) = some (r1,r2):=by first|(rw [hji27] at H;exact H)|(simp only [hji27] at H ⊢;exact H)
     have hji27_ : (x6_1 / 2 ^ min (ji25).toNat 64) = ji27:=hji27
     have hji27z : (ji25) ≤ 64 → (x6_1 / 2 ^ (ji25).toNat) = ji27:=z2K hji27
     by_cases c28 : (Go.bits .and .i64 (ji27) 1) = 1
     rotate_left
     · rw [if_neg c28] at H
       have c28b0 : ((Go.bits .and .i64 (ji27) 1) == 1) = false:=beq_eq_false_iff_ne.mpr c28
       have c28b1 : ((Go.bits .and .i64 (ji27) 1) != 1) = true:=bne_iff_ne.mpr c28
       have H':=z1.mk H
       clear H
       go_wp2
       go_roundg k2
       case measure=>have:=HK1.out;have:=HK2.out;omega
       case rel=>exact ⟨(wrap64 (x8_2 + 1)),(x107000_2),(x107001_2),zz86,H',⟨by have:=HK1.out;have:=HK2.out;omega⟩,⟨by (with_reducible repeat (first|refine z5 ?_ _|refine z8 ?_|refine z4 ?_ _));exact BK101.out⟩,⟨by (with_reducible repeat (first|refine z5 ?_ _|refine z8 ?_|refine z4 ?_ _));exact BK102.out⟩,⟨by (with_reducible repeat (first|refine z5 ?_ _|refine z8 ?_|refine z4 ?_ _));exact BK103.out⟩,⟨by (with_reducible repeat (first|refine z5 ?_ _|refine z8 ?_|refine z4 ?_ _));exact BK104.out⟩,⟨by (with_reducible repeat (first|refine z5 ?_ _|refine z8 ?_|refine z4 ?_ _));exact BK106.out⟩,⟨by repeat (first|(with_reducible first|exact HB.out|apply zd|apply z2|apply z9|refine za ?_ GE101.out|refine za ?_ GE102.out|refine za ?_ GE103.out|refine za ?_ GE104.out|refine za ?_ GE106.out)|exact HB.out)⟩⟩
     rw [if_pos c28] at H
     have c28b0 : ((Go.bits .and .i64 (ji27) 1) == 1) = true:=beq_iff_eq.mpr c28
     have c28b1 : ((Go.bits .and .i64 (ji27) 1) != 1) = false:=bne_eq_false_iff_eq.mpr c28
     clear c28
     replace H:=Option.bind_eq_some_iff.mp H
     obtain ⟨⟨t107,t108⟩,A290,H⟩:=H
     replace H : (zf.l1 k2 x6_1 (wrap64 (x8_2 + 1)) a0_0 a0_1 a1_0 a1_1 x105000_1 x105001_1 t107 t108) = some (r1,r2):=H
     have A29:=z1.mk A290
     clear A290
     have H':=z1.mk H
     clear H
     have hnb30:=NB106_101.out
     have hnc30:=NB101_106.out
     have hnb31:=NB106_102.out
     have hnc31:=NB102_106.out
     have hnb32:=NB106_103.out
     have hnc32:=NB103_106.out
     have hnb33:=NB106_104.out
     have hnc33:=NB104_106.out
     have hcz34_0 : wr.cell? ⟨gb106,0,none⟩ = some (.int .u64 x107000_2):=(z7 BK106.out 0).trans rfl
     have hcz34_1 : wr.cell? ⟨gb106,1,none⟩ = some (.int .u64 x107001_2):=(z7 BK106.out 1).trans rfl
     have hfz34_0:=z6 BK106.out 0
     have hfz34_1:=z6 BK106.out 1
     go_wp2_with (first|((with_reducible refine zi (f:=110) rfl ?_);refine goesL_ (some 30) rfl rfl Try.func110 zz90 rfl #[.int .i64 x8_2,.agg #[.int .u64 x107000_2,.int .u64 x107001_2]] rfl zz48 ?_;(with_reducible refine (zw.calls k2 x8_2 x107000_2 x107001_2 t107 t108 _ A29.out).mono ?_);rintro e w35 ⟨rfl,hb⟩;refine ⟨_,rfl,?_⟩;have n0_:=z1.mk (zc (g:=gb101) (o:=.cells #[.int .u64 a0_0,.int .u64 a0_1] 40 (0,0)) zz50 hb);have n1_:=z1.mk (zc (g:=gb102) (o:=.cells #[.int .u64 a1_0,.int .u64 a1_1] 40 (0,0)) zz51 hb);have n2_:=z1.mk (zc (g:=gb103) (o:=.cells #[.int .u64 0,.int .u64 0] 40 (0,0)) zz52 hb);have n3_:=z1.mk (zc (g:=gb104) (o:=.cells #[.int .u64 x105000_1,.int .u64 x105001_1] 40 (0,0)) zz57 hb);have n4_:=z1.mk (zc (g:=gb106) (o:=.cells #[.int .u64 x107000_2,.int .u64 x107001_2] 40 (0,0)) zz56 hb);have n5_:=z1.mk (z3 zz27 hb);clear BK101;clear BK102;clear BK103;clear BK104;clear BK106;clear HB;have BK101:=n0_;have BK102:=n1_;have BK103:=n2_;have BK104:=n3_;have BK106:=n4_;have HB:=n5_;clear n0_ n1_ n2_ n3_ n4_ n5_;(try clear hb);(try clear hb2);(try clear hk);(try clear hi);have hcz36_0 : w35.cell? ⟨gb106,0,none⟩ = some (.int .u64 x107000_2):=(z7 BK106.out 0).trans rfl;have hcz36_1 : w35.cell? ⟨gb106,1,none⟩ = some (.int .u64 x107001_2):=(z7 BK106.out 1).trans rfl;have hfz36_0:=z6 BK106.out 0;have hfz36_1:=z6 BK106.out 1))
     go_roundg k2
     case measure=>have:=HK1.out;have:=HK2.out;omega
     case rel=>exact ⟨(wrap64 (x8_2 + 1)),(t107),(t108),zz86,H',⟨by have:=HK1.out;have:=HK2.out;omega⟩,⟨by (with_reducible repeat (first|refine z5 ?_ _|refine z8 ?_|refine z4 ?_ _));refine zZ ?_ NB101_106.out _;(with_reducible repeat (first|refine z5 ?_ _|refine z8 ?_|refine z4 ?_ _));refine zZ ?_ NB101_106.out _;(with_reducible repeat (first|refine z5 ?_ _|refine z8 ?_|refine z4 ?_ _));exact BK101.out⟩,⟨by (with_reducible repeat (first|refine z5 ?_ _|refine z8 ?_|refine z4 ?_ _));refine zZ ?_ NB102_106.out _;(with_reducible repeat (first|refine z5 ?_ _|refine z8 ?_|refine z4 ?_ _));refine zZ ?_ NB102_106.out _;(with_reducible repeat (first|refine z5 ?_ _|refine z8 ?_|refine z4 ?_ _));exact BK102.out⟩,⟨by (with_reducible repeat (first|refine z5 ?_ _|refine z8 ?_|refine z4 ?_ _));refine zZ ?_ NB103_106.out _;(with_reducible repeat (first|refine z5 ?_ _|refine z8 ?_|refine z4 ?_ _));refine zZ ?_ NB103_106.out _;(with_reducible repeat (first|refine z5 ?_ _|refine z8 ?_|refine z4 ?_ _));exact BK103.out⟩,⟨by (with_reducible repeat (first|refine z5 ?_ _|refine z8 ?_|refine z4 ?_ _));refine zZ ?_ NB104_106.out _;(with_reducible repeat (first|refine z5 ?_ _|refine z8 ?_|refine z4 ?_ _));refine zZ ?_ NB104_106.out _;(with_reducible repeat (first|refine z5 ?_ _|refine z8 ?_|refine z4 ?_ _));exact BK104.out⟩,⟨by (with_reducible repeat (first|refine z5 ?_ _|refine z8 ?_|refine z4 ?_ _));refine zX (cs:=#[.int .u64 t107,.int .u64 x107001_2]) ?_ 1 _ rfl;(with_reducible repeat (first|refine z5 ?_ _|refine z8 ?_|refine z4 ?_ _));refine zX (cs:=#[.int .u64 x107000_2,.int .u64 x107001_2]) ?_ 0 _ rfl;(with_reducible repeat (first|refine z5 ?_ _|refine z8 ?_|refine z4 ?_ _));exact BK106.out⟩,⟨by repeat (first|(with_reducible first|exact HB.out|apply zd|apply z2|apply z9|refine za ?_ GE101.out|refine za ?_ GE102.out|refine za ?_ GE103.out|refine za ?_ GE104.out|refine za ?_ GE106.out)|exact HB.out)⟩⟩
end Go.Proofs.Ytkhmpaooinpfoaa.P
namespace Go.Proofs.Ytkhmpaooinpfoaa.P
open Go.RowKit Go.Proofs.YtkhmpaooinpfoaaW.PrintWords Go.Proofs.YtkhmpaooinpfoaaW.PrintLast Go.Proofs.YtkhmpaooinpfoaaW.PrintMore
attribute [local go_sem] z12 z14 z1i z1j zU zV z13 z15   -- for this text's walks alone
set_option linter.unusedVariables false
set_option linter.unusedSimpArgs false
def z1H.f  : Option (Int × Int):=some (0,1)
set_option maxHeartbeats 8000000 in
set_option maxRecDepth 100000 in
theorem z1H.calls  (r1 : Int) (r2 : Int) (w : World) (h : z1H.f  = some (r1,r2)) :
 Calls Try.prog 109 #[] w fun e w'=>e = .returned (.agg #[.int .u64 r1,.int .u64 r2]) ∧ Below w.heap.size w w':=by
 have hu40:=Try.underlying40
 have HB:=z1.mk (Below.refl w.heap.size w)
 have H : (some (0,1)) = some (r1,r2):=h
 clear h
 simp only [Option.some.injEq,Prod.mk.injEq] at H
 obtain ⟨rfl,rfl⟩:=H
 go_enter Try.func109,Try.ntmps109
 go_wp2_with (first|((with_reducible refine zp (N:=0) rfl ?_);refine zt ?hg (N:=0) ?hd (cs:=#[.int .u64 0,.int .u64 0]) (t:=40) ?hr ?_;(case hd=>rfl);(case hg=>rfl);(case hr=>first|(go_simp;done)|(go_simp;rfl));intro gb101 hg w1 hbox hb;have n0_:=z1.mk (z3 zz49 hb);have n1_:=z1.mk (hbox);have n2_:=z1.mk ((by rw [hg];exact (zb zz49) : w.heap.size ≤ gb101));have n3_:=z1.mk ((by rw [hg];exact (zb zz49) : w.heap.size ≤ gb101));clear HB;have HB:=n0_;have BK101:=n1_;have GW101:=n2_;have GE101:=n3_;clear n0_ n1_ n2_ n3_;clear hb hbox hg;have hcz2_0 : w1.cell? ⟨gb101,0,none⟩ = some (.int .u64 0):=(z7 BK101.out 0).trans rfl;have hcz2_1 : w1.cell? ⟨gb101,1,none⟩ = some (.int .u64 0):=(z7 BK101.out 1).trans rfl;have hfz2_0:=z6 BK101.out 0;have hfz2_1:=z6 BK101.out 1))
 refine bodyPost_ret (results_cell_row rfl _ _ gb101 40 #[.int .u64 0,.int .u64 1] (0,0) _ rfl zz9 Try.underlying40 rfl zz90) rfl ?_
 exact ⟨by first|rfl|(simp [zg,zh] <;> rfl)|(simp [*,zg,zh] <;> rfl),by repeat (first|(with_reducible first|exact HB.out|apply zd|apply z2|apply z9|refine za ?_ GE101.out)|exact HB.out)⟩
end Go.Proofs.Ytkhmpaooinpfoaa.P
namespace Go.Proofs.Ytkhmpaooinpfoaa.P
open Go.RowKit Go.Proofs.YtkhmpaooinpfoaaW.PrintWords Go.Proofs.YtkhmpaooinpfoaaW.PrintLast Go.Proofs.YtkhmpaooinpfoaaW.PrintMore
attribute [local go_sem] z12 z14 z1i z1j zU zV z13 z15   -- for this text's walks alone
set_option linter.unusedVariables false
set_option linter.unusedSimpArgs false
def zl.l0 : Nat → List (S40) → Int → Int → Int → Int → Option (Int × Int)
 | 0,_,_,_,_,_=>none
 | k + 1,x0,x6,x7,x105000,x105001=>if x7 < (x0.length : Int) then (if (Int.tmod x6 2) = 1 then (if 0 ≤ x7 then ((zf.f k x105000 x105001 ((z1x x0 x7).f0) ((z1x x0 x7).f1)).bind fun bt106=>(zl.l0 k x0 (wrap64 (Int.tdiv x6 2)) (wrap64 (x7 + 1)) bt106.1 bt106.2)) else (none)) else ((z1H.f).bind fun bt108=>(if 0 ≤ x7 then ((z16.f bt108.1 bt108.2 ((z1x x0 x7).f0) ((z1x x0 x7).f1)).bind fun bt111=>((zf.f k x105000 x105001 bt111.1 bt111.2).bind fun bt113=>(zl.l0 k x0 (wrap64 (Int.tdiv x6 2)) (wrap64 (x7 + 1)) bt113.1 bt113.2))) else (none)))) else (some (x105000,x105001))
def zl.f (k : Nat) (l0 : List (S40)) (a1 : Int) : Option (Int × Int):=(z1H.f).bind fun bt102=>(zl.l0 k l0 a1 0 bt102.1 bt102.2)
theorem zl.z17 : ∀ k,(∀ y0 y1 y2 y3 y4,LeO (zl.l0 k y0 y1 y2 y3 y4) (zl.l0 (k + 1) y0 y1 y2 y3 y4))
 | 0=>fun _ _ _ _ _ r h=>by simp [zl.l0] at h
 | k + 1=>by
  have ih0:=zl.z17 k
  · intro y0 y1 y2 y3 y4
    unfold zl.l0
    repeat' first
    | (with_reducible exact ih0 _ _ _ _ _)
    | (with_reducible exact zf.mono _ _ _ _ _)
    | (with_reducible exact LeO.refl _)
    | (with_reducible exact LeO.none _)
    | (with_reducible refine LeO.ite ?_ ?_)
    | (with_reducible refine LeO.bind ?_ (fun _=>?_))
    | exact ih0 _ _ _ _ _
    | exact zf.mono _ _ _ _ _
    | exact LeO.none _
    | refine LeO.ite ?_ ?_
    | refine LeO.bind ?_ (fun _=>?_)
theorem zl.mono : ∀ a0 a1 k,LeO (zl.f k a0 a1) (zl.f (k + 1) a0 a1):=by
 intro a0 a1 k
 have ih0:=zl.z17 k
 unfold zl.f
 repeat' first
  | (with_reducible exact ih0 _ _ _ _ _)
  | (with_reducible exact zf.mono _ _ _ _ _)
  | (with_reducible exact LeO.refl _)
  | (with_reducible exact LeO.none _)
  | (with_reducible refine LeO.ite ?_ ?_)
  | (with_reducible refine LeO.bind ?_ (fun _=>?_))
  | exact ih0 _ _ _ _ _
  | exact zf.mono _ _ _ _ _
  | exact LeO.none _
  | refine LeO.ite ?_ ?_
  | refine LeO.bind ?_ (fun _=>?_)
def zl.T8 : Bool × List (List Nat × List Nat):=(true,[([],[]),([],[]),([],[]),([],[]),([2,3],[2,3]),([4],[4]),([1,5,1],[1,5]),([0,6,6],[0,6]),([7,7,0,1,2,3,4,5,6,7],[7])])
def zl.B8 : List Nat:=[0,0,0,0,12,28,62,127,255]
theorem zl.tab8 : rtab .any (opsOf Try.f70 8) = zl.T8:=by kernel_rfl
theorem zl.bits8 : waitsOk zl.T8.2 zl.B8 = true:=by kernel_rfl
set_option maxHeartbeats 8000000 in
set_option maxRecDepth 100000 in
theorem zl.calls (k : Nat) (A0 : Option Addr) (c0 : Nat) (l0 : List (S40)) (a1 : Int) (r1 : Int) (r2 : Int) (w : World) (hr0 : Kd.C k40 w A0 l0.length l0) (hc0 : l0.length ≤ c0) (h : zl.f k l0 a1 = some (r1,r2)) :
 Calls Try.prog 70 #[.slice A0 l0.length c0,.int .i64 a1] w fun e w'=>e = .returned (.agg #[.int .u64 r1,.int .u64 r2]) ∧ Below w.heap.size w w':=by
 have hu40:=Try.underlying40
 have HR0:=z1.mk hr0
 have HC0:=z1.mk hc0
 clear hr0 hc0
 have HB:=z1.mk (Below.refl w.heap.size w)
 have H : ((z1H.f).bind fun bt102=>(zl.l0 k l0 a1 0 bt102.1 bt102.2)) = some (r1,r2):=h
 clear h
 replace H:=Option.bind_eq_some_iff.mp H
 obtain ⟨⟨t102,t103⟩,A30,H⟩:=H
 replace H : (zl.l0 k l0 a1 0 t102 t103) = some (r1,r2):=H
 have A3:=z1.mk A30
 clear A30
 have H':=z1.mk H
 clear H
 go_enter Try.func70,Try.ntmps70
 go_wp2_with (first|((with_reducible refine zp (N:=4) rfl ?_);refine zt ?hg (N:=4) ?hd (cs:=#[.int .u64 0,.int .u64 0]) (t:=40) ?hr ?_;(case hd=>rfl);(case hg=>rfl);(case hr=>first|(go_simp;done)|(go_simp;rfl));intro gb101 hg w4 hbox hb;have n0_:=z1.mk (z3 zz49 hb);have n1_:=z1.mk (hbox);have n2_:=z1.mk ((by rw [hg];exact (zb zz49) : w.heap.size ≤ gb101));have n3_:=z1.mk ((by rw [hg];exact (zb zz49) : w.heap.size ≤ gb101));clear HB;have HB:=n0_;have BK101:=n1_;have GW101:=n2_;have GE101:=n3_;clear n0_ n1_ n2_ n3_;clear hb hbox hg)|((with_reducible refine zi (f:=109) rfl ?_);refine goesL_ (some 8) rfl rfl Try.func109 zz90 rfl #[] rfl zz48 ?_;(with_reducible refine (z1H.calls  t102 t103 _ A3.out).mono ?_);rintro e w5 ⟨rfl,hb⟩;refine ⟨_,rfl,?_⟩;have n0_:=z1.mk (zc (g:=gb101) (o:=.cells #[.int .u64 0,.int .u64 0] 40 (0,0)) zz50 hb);have n1_:=z1.mk (z3 zz43 hb);clear BK101;clear HB;have BK101:=n0_;have HB:=n1_;clear n0_ n1_;(try clear hb);(try clear hb2);(try clear hk);(try clear hi))|((with_reducible refine zp (N:=5) rfl ?_);refine zt ?hg (N:=5) ?hd (cs:=#[.int .u64 0,.int .u64 0]) (t:=40) ?hr ?_;(case hd=>rfl);(case hg=>rfl);(case hr=>first|(go_simp;done)|(go_simp;rfl));intro gb104 hg w6 hbox hb;have n0_:=z1.mk (zc (g:=gb101) (o:=.cells #[.int .u64 0,.int .u64 0] 40 (0,0)) zz50 hb);have n1_:=z1.mk (z3 zz43 hb);have n2_:=z1.mk (hbox);have n3_:=z1.mk ((by rw [hg];exact (zb zz43) : w.heap.size ≤ gb104));have n4_:=z1.mk ((by rw [hg];exact (zb zz43) : w.heap.size ≤ gb104));have n5_:=z1.mk ((by rw [hg];exact Nat.ne_of_lt (zL (g:=gb101) (o:=.cells #[.int .u64 0,.int .u64 0] 40 (0,0)) zz50) : gb101 ≠ gb104));have n6_:=z1.mk ((by rw [hg];exact Nat.ne_of_gt (zL (g:=gb101) (o:=.cells #[.int .u64 0,.int .u64 0] 40 (0,0)) zz50) : gb104 ≠ gb101));clear BK101;clear HB;have BK101:=n0_;have HB:=n1_;have BK104:=n2_;have GW104:=n3_;have GE104:=n4_;have NB101_104:=n5_;have NB104_101:=n6_;clear n0_ n1_ n2_ n3_ n4_ n5_ n6_;clear hb hbox hg;have hnb7:=NB104_101.out;have hnc7:=NB101_104.out;have hcz8_0 : w6.cell? ⟨gb104,0,none⟩ = some (.int .u64 0):=(z7 BK104.out 0).trans rfl;have hcz8_1 : w6.cell? ⟨gb104,1,none⟩ = some (.int .u64 0):=(z7 BK104.out 1).trans rfl;have hfz8_0:=z6 BK104.out 0;have hfz8_1:=z6 BK104.out 1))
 go_loopg [6,7] k (fun kq v6 v7 w'=>∃ (x6_1 : Int) (x7_1 : Int) (x105000_1 : Int) (x105001_1 : Int),v6 = .int .i64 x6_1 ∧ v7 = .int .i64 x7_1 ∧ z1 (zl.l0 kq l0 x6_1 x7_1 x105000_1 x105001_1 = some (r1,r2)) ∧ z1 (kq ≤ k) ∧ z1 (w'.heap[gb101]? = some (.cells #[.int .u64 0,.int .u64 0] 40 (0,0))) ∧ z1 (w'.heap[gb104]? = some (.cells #[.int .u64 x105000_1,.int .u64 x105001_1] 40 (0,0))) ∧ z1 (Below w.heap.size w w'))
 case atStart=>exact ⟨(a1),(0),(t102),(t103),zz86,zz86,H',⟨Nat.le_refl _⟩,⟨by (with_reducible repeat (first|refine z5 ?_ _|refine z8 ?_|refine z4 ?_ _));refine zZ ?_ NB101_104.out _;(with_reducible repeat (first|refine z5 ?_ _|refine z8 ?_|refine z4 ?_ _));refine zZ ?_ NB101_104.out _;(with_reducible repeat (first|refine z5 ?_ _|refine z8 ?_|refine z4 ?_ _));exact BK101.out⟩,⟨by (with_reducible repeat (first|refine z5 ?_ _|refine z8 ?_|refine z4 ?_ _));refine zX (cs:=#[.int .u64 t102,.int .u64 0]) ?_ 1 _ rfl;(with_reducible repeat (first|refine z5 ?_ _|refine z8 ?_|refine z4 ?_ _));refine zX (cs:=#[.int .u64 0,.int .u64 0]) ?_ 0 _ rfl;(with_reducible repeat (first|refine z5 ?_ _|refine z8 ?_|refine z4 ?_ _));exact BK104.out⟩,⟨by repeat (first|(with_reducible first|exact HB.out|apply zd|apply z2|apply z9|refine za ?_ GE101.out|refine za ?_ GE104.out)|exact HB.out)⟩⟩
 case round =>
  clear H'
  (try clear c1);(try clear p2);(try clear c7);(try clear hcz8_0);(try clear hcz8_1);(try clear hfz8_0);(try clear hfz8_1)
  obtain ⟨x6_1,x7_1,x105000_1,x105001_1,rfl,rfl,HA,HK1,BK101,BK104,HB⟩:=hrel
  cases gk with
  | zero=>exact absurd HA.out (by simp [zl.l0])
  | succ k1 =>
   have H:=HA.out
   clear HA
   simp only [zl.l0] at H
   by_cases c9 : x7_1 < (l0.length : Int)
   rotate_left
   · rw [if_neg c9] at H
     have c9b0 : decide (x7_1 < (l0.length : Int)) = false:=decide_eq_false c9
     clear c9
     simp only [Option.some.injEq,Prod.mk.injEq] at H
     obtain ⟨rfl,rfl⟩:=H
     have hnb27:=NB104_101.out
     have hnc27:=NB101_104.out
     have hcz28_0 : wr.cell? ⟨gb104,0,none⟩ = some (.int .u64 x105000_1):=(z7 BK104.out 0).trans rfl
     have hcz28_1 : wr.cell? ⟨gb104,1,none⟩ = some (.int .u64 x105001_1):=(z7 BK104.out 1).trans rfl
     have hfz28_0:=z6 BK104.out 0
     have hfz28_1:=z6 BK104.out 1
     have hcz29_0 : wr.cell? ⟨gb101,0,none⟩ = some (.int .u64 0):=(z7 BK101.out 0).trans rfl
     have hcz29_1 : wr.cell? ⟨gb101,1,none⟩ = some (.int .u64 0):=(z7 BK101.out 1).trans rfl
     have hfz29_0:=z6 BK101.out 0
     have hfz29_1:=z6 BK101.out 1
     go_wp2
     refine bodyPost_ret (results_cell_row rfl _ _ gb101 40 #[.int .u64 x105000_1,.int .u64 x105001_1] (0,0) _ rfl (by (with_reducible repeat (first|refine z5 ?_ _|refine z8 ?_|refine z4 ?_ _));refine zX (cs:=#[.int .u64 x105000_1,.int .u64 0]) ?_ 1 _ rfl;(with_reducible repeat (first|refine z5 ?_ _|refine z8 ?_|refine z4 ?_ _));refine zX (cs:=#[.int .u64 0,.int .u64 0]) ?_ 0 _ rfl;(with_reducible repeat (first|refine z5 ?_ _|refine z8 ?_|refine z4 ?_ _));exact BK101.out) Try.underlying40 rfl zz90) rfl ?_
     exact ⟨by first|rfl|(simp [zg,zh] <;> rfl)|(simp [*,zg,zh] <;> rfl),by repeat (first|(with_reducible first|exact HB.out|apply zd|apply z2|apply z9|refine za ?_ GE101.out|refine za ?_ GE104.out)|exact HB.out)⟩
   rw [if_pos c9] at H
   have c9b0 : decide (x7_1 < (l0.length : Int)) = true:=decide_eq_true c9
   clear c9
   by_cases c10 : (Int.tmod x6_1 2) = 1
   · rw [if_pos c10] at H
     have c10b0 : ((Int.tmod x6_1 2) == 1) = true:=beq_iff_eq.mpr c10
     have c10b1 : ((Int.tmod x6_1 2) != 1) = false:=bne_eq_false_iff_eq.mpr c10
     clear c10
     by_cases c11 : 0 ≤ x7_1
     rotate_left
     · rw [if_neg c11] at H
       exact absurd H zz93
     rw [if_pos c11] at H
     have c11b0 : decide (0 ≤ x7_1) = true:=decide_eq_true c11
     clear c11
     replace H:=Option.bind_eq_some_iff.mp H
     obtain ⟨⟨t106,t107⟩,A120,H⟩:=H
     replace H : (zl.l0 k1 l0 (wrap64 (Int.tdiv x6_1 2)) (wrap64 (x7_1 + 1)) t106 t107) = some (r1,r2):=H
     have A12:=z1.mk A120
     clear A120
     have H':=z1.mk H
     clear H
     try go_wp2
     have n0_:=z1.mk (z8 BK101.out)
     have n1_:=z1.mk (z8 BK104.out)
     have n2_:=z1.mk (z9 HB.out)
     clear BK101
     clear BK104
     clear HB
     have BK101:=n0_
     have BK104:=n1_
     have HB:=n2_
     clear n0_ n1_ n2_
     have p105 : 0 ≤ (x7_1 : Int):=of_decide_eq_true zz85
     have q105 : x7_1 < (l0.length : Int):=of_decide_eq_true zz85
     obtain ⟨ad105,e105,hx105_0,hx105_1⟩:=z3r HR0.out x7_1 p105 q105
     have hw105_1:=hx105_1
     have hw105_0:=hx105_0
     cases e105
     replace hx105_0:=(HB.out.cell (World.block_lt_of_cell? w _ hx105_0)).trans hx105_0
     replace hx105_1:=(HB.out.cell (World.block_lt_of_cell? w _ hx105_1)).trans hx105_1
     replace p105:=eq_true p105
     replace q105:=eq_true q105
     refine start_ (n:=7) (S:=fun w'=>w'.cell? ⟨gb104,0,none⟩ = some (.int .u64 x105000_1) ∧ w'.cell? ⟨gb104,1,none⟩ = some (.int .u64 x105001_1) ∧ w'.cell? (ad105.add ((x7_1).toNat * 2)) = some (.int .u64 ((z1x l0 x7_1).f0)) ∧ w'.cell? ⟨(ad105.add ((x7_1).toNat * 2)).block,(ad105.add ((x7_1).toNat * 2)).off + 1,none⟩ = some (.int .u64 ((z1x l0 x7_1).f1))) (ds:=[6]) #[false,false,false,false,false,false,false] zz90 rfl rfl ⟨(z7 BK104.out 0).trans rfl,(z7 BK104.out 1).trans rfl,((HB.out.cell (World.block_lt_of_cell? w _ hw105_0)).trans hw105_0),((HB.out.cell (World.block_lt_of_cell? w _ hw105_1)).trans hw105_1)⟩ (fun hHeld=>?_)
     generalize wr.drew = w13 at BK101 BK104 HB hx105_0 hx105_1 hHeld ⊢
     refine pure_ (i:=1) (N:=some 20) (v:=?_) (a':=?_) #[false,true,false,false,false,false,false] rfl rfl zz90 (fun _ _ _ h=>h) (Or.inl ⟨by rfl,?_⟩) ?_ ?_
     rotate_left
     · intro w'
       go_simp
       with_reducible rfl
     rotate_left
     · simp only [Act.put,List.setIfInBounds_toArray,List.set_cons_zero,List.set_cons_succ,zH,zP]
       rfl
     refine pure_ (i:=2) (N:=some 21) (v:=?_) (a':=?_) #[false,true,true,false,false,false,false] rfl rfl zz90 (fun _ _ _ h=>h) (Or.inl ⟨by rfl,?_⟩) ?_ ?_
     rotate_left
     · intro w'
       go_simp
       with_reducible rfl
     rotate_left
     · simp only [Act.put,List.setIfInBounds_toArray,List.set_cons_zero,List.set_cons_succ,zH,zP]
       rfl
     refine pure_ (i:=3) (N:=some 22) (v:=?_) (a':=?_) #[false,true,true,true,false,false,false] rfl rfl zz90 (fun _ _ _ h=>h) (Or.inl ⟨by rfl,?_⟩) ?_ ?_
     rotate_left
     · intro w'
       go_simp
       with_reducible rfl
     rotate_left
     · simp only [Act.put,List.setIfInBounds_toArray,List.set_cons_zero,List.set_cons_succ,zH,zP]
       rfl
     refine take_ (i:=0) (N:=some 19) (v:=?_) (a':=?_) #[true,true,true,true,false,false,false] rfl rfl zz90 (fun _ _ _ h=>h) (Or.inl ⟨by rfl,?_⟩) hHeld ?_ ?_
     rotate_left
     · rintro w' ⟨s0,s1,s2,s3⟩
       go_simp
       with_reducible rfl
     rotate_left
     · simp only [Act.put,List.setIfInBounds_toArray,List.set_cons_zero,List.set_cons_succ,zH,zP]
       rfl
     refine take_ (i:=4) (N:=some 23) (v:=?_) (a':=?_) #[true,true,true,true,true,false,false] rfl rfl zz90 (fun _ _ _ h=>h) (Or.inl ⟨by rfl,?_⟩) hHeld ?_ ?_
     rotate_left
     · rintro w' ⟨s0,s1,s2,s3⟩
       go_simp
       with_reducible rfl
     rotate_left
     · simp only [Act.put,List.setIfInBounds_toArray,List.set_cons_zero,List.set_cons_succ,zH,zP]
       rfl
     refine one_ (i:=5) (N:=some 24) #[true,true,true,true,true,true,false] rfl rfl zz90 zz91 (fun K hK=>?_)
     refine goes_ Try.func71 zz90 rfl #[.agg #[.int .u64 x105000_1,.int .u64 x105001_1],.agg #[.int .u64 ((z1x l0 x7_1).f0),.int .u64 ((z1x l0 x7_1).f1)]] zz94 rfl rfl zz48 ?_
     with_reducible refine (zf.calls k1 x105000_1 x105001_1 ((z1x l0 x7_1).f0) ((z1x l0 x7_1).f1) t106 t107 _ A12.out).mono ?_
     rintro e w14 ⟨rfl,hb⟩
     refine ⟨_,rfl,?_⟩
     have n0_:=z1.mk (zc (g:=gb101) (o:=.cells #[.int .u64 0,.int .u64 0] 40 (0,0)) zz50 hb)
     have n1_:=z1.mk (zc (g:=gb104) (o:=.cells #[.int .u64 x105000_1,.int .u64 x105001_1] 40 (0,0)) zz57 hb)
     have n2_:=z1.mk (z3 zz39 hb)
     clear BK101
     clear BK104
     clear HB
     have BK101:=n0_
     have BK104:=n1_
     have HB:=n2_
     clear n0_ n1_ n2_
     (try clear hb)
     (try clear hb2)
     (try clear hk)
     (try clear hi)
     refine hK.out _ _ ⟨(z7 BK104.out 0).trans rfl,(z7 BK104.out 1).trans rfl,((HB.out.cell (World.block_lt_of_cell? w _ hw105_0)).trans hw105_0),((HB.out.cell (World.block_lt_of_cell? w _ hw105_1)).trans hw105_1)⟩ (fun hHeld=>?_)
     clear hK K
     refine norm_ (a':=?_) ?_ ?_
     rotate_left
     · show Act.put _ (some 24) _ = _
       simp only [Act.put,List.setIfInBounds_toArray,List.set_cons_zero,List.set_cons_succ,zH,zP]
       rfl
     refine last_ (i:=6) (N:=none) #[true,true,true,true,true,true,true] rfl rfl zz90 zz91 (fun K hK=>?_)
     have hs15 : w14.cell? ⟨gb104,0,none⟩ = some (.int .u64 x105000_1):=(z7 BK104.out 0).trans rfl
     have hfs15:=z6 BK104.out 0
     have hns15_0:=NB101_104.out
     have hms15_0:=NB104_101.out
     have hs16 : w14.cell? ⟨gb104,1,none⟩ = some (.int .u64 x105001_1):=(z7 BK104.out 1).trans rfl
     have hfs16:=z6 BK104.out 1
     have hns16_0:=NB101_104.out
     have hms16_0:=NB104_101.out
     refine skip_ (w1:=?_) zz94 rfl ?_ ?_
     rotate_left
     · go_simp
       rfl
     refine hK.out _ _ ?_
     clear hK K
     refine done_ zz90 ?_
     try go_wp2
     go_roundg k1
     case measure=>have:=HK1.out;omega
     case rel=>exact ⟨(wrap64 (Int.tdiv x6_1 2)),(wrap64 (x7_1 + 1)),(t106),(t107),zz86,zz86,H',⟨by have:=HK1.out;omega⟩,⟨by (with_reducible repeat (first|refine z5 ?_ _|refine z8 ?_|refine z4 ?_ _));refine zZ ?_ NB101_104.out _;(with_reducible repeat (first|refine z5 ?_ _|refine z8 ?_|refine z4 ?_ _));refine zZ ?_ NB101_104.out _;(with_reducible repeat (first|refine z5 ?_ _|refine z8 ?_|refine z4 ?_ _));exact BK101.out⟩,⟨by (with_reducible repeat (first|refine z5 ?_ _|refine z8 ?_|refine z4 ?_ _));refine zX (cs:=#[.int .u64 t106,.int .u64 x105001_1]) ?_ 1 _ rfl;(with_reducible repeat (first|refine z5 ?_ _|refine z8 ?_|refine z4 ?_ _));refine zX (cs:=#[.int .u64 x105000_1,.int .u64 x105001_1]) ?_ 0 _ rfl;(with_reducible repeat (first|refine z5 ?_ _|refine z8 ?_|refine z4 ?_ _));exact BK104.out⟩,⟨by repeat (first|(with_reducible first|exact HB.out|apply zd|apply z2|apply z9|refine za ?_ GE101.out|refine za ?_ GE104.out)|exact HB.out)⟩⟩
   rw [if_neg c10] at H
   have c10b0 : ((Int.tmod x6_1 2) == 1) = false:=beq_eq_false_iff_ne.mpr c10
   have c10b1 : ((Int.tmod x6_1 2) != 1) = true:=bne_iff_ne.mpr c10
   replace H:=Option.bind_eq_some_iff.mp H
   obtain ⟨⟨t108,t109⟩,A170,H⟩:=H
   replace H : (if 0 ≤ x7_1 then ((z16.f t108 t109 ((z1x l0 x7_1).f0) ((z1x l0 x7_1).f1)).bind fun bt111=>((zf.f k1 x105000_1 x105001_1 bt111.1 bt111.2).bind fun bt113=>(zl.l0 k1 l0 (wrap64 (Int.tdiv x6_1 2)) (wrap64 (x7_1 + 1)) bt113.1 bt113.2))) else (none)) = some (r1,r2):=H
   have A17:=z1.mk A170
   clear A170
   by_cases c18 : 0 ≤ x7_1
   rotate_left
   · rw [if_neg c18] at H
     exact absurd H zz93
   rw [if_pos c18] at H
   have c18b0 : decide (0 ≤ x7_1) = true:=decide_eq_true c18
   clear c18
   replace H:=Option.bind_eq_some_iff.mp H
   obtain ⟨⟨t111,t112⟩,A190,H⟩:=H
   replace H : ((zf.f k1 x105000_1 x105001_1 t111 t112).bind fun bt113=>(zl.l0 k1 l0 (wrap64 (Int.tdiv x6_1 2)) (wrap64 (x7_1 + 1)) bt113.1 bt113.2)) = some (r1,r2):=H
   have A19:=z1.mk A190
   clear A190
   replace H:=Option.bind_eq_some_iff.mp H
   obtain ⟨⟨t113,t114⟩,A200,H⟩:=H
   replace H : (zl.l0 k1 l0 (wrap64 (Int.tdiv x6_1 2)) (wrap64 (x7_1 + 1)) t113 t114) = some (r1,r2):=H
   have A20:=z1.mk A200
   clear A200
   have H':=z1.mk H
   clear H
   try go_wp2
   have n0_:=z1.mk (z8 BK101.out)
   have n1_:=z1.mk (z8 BK104.out)
   have n2_:=z1.mk (z9 HB.out)
   clear BK101
   clear BK104
   clear HB
   have BK101:=n0_
   have BK104:=n1_
   have HB:=n2_
   clear n0_ n1_ n2_
   have p110 : 0 ≤ (x7_1 : Int):=of_decide_eq_true zz85
   have q110 : x7_1 < (l0.length : Int):=of_decide_eq_true zz85
   obtain ⟨ad110,e110,hx110_0,hx110_1⟩:=z3r HR0.out x7_1 p110 q110
   have hw110_1:=hx110_1
   have hw110_0:=hx110_0
   cases e110
   replace hx110_0:=(HB.out.cell (World.block_lt_of_cell? w _ hx110_0)).trans hx110_0
   replace hx110_1:=(HB.out.cell (World.block_lt_of_cell? w _ hx110_1)).trans hx110_1
   replace p110:=eq_true p110
   replace q110:=eq_true q110
   refine start_ (n:=9) (S:=fun w'=>w'.cell? ⟨gb104,0,none⟩ = some (.int .u64 x105000_1) ∧ w'.cell? ⟨gb104,1,none⟩ = some (.int .u64 x105001_1) ∧ w'.cell? (ad110.add ((x7_1).toNat * 2)) = some (.int .u64 ((z1x l0 x7_1).f0)) ∧ w'.cell? ⟨(ad110.add ((x7_1).toNat * 2)).block,(ad110.add ((x7_1).toNat * 2)).off + 1,none⟩ = some (.int .u64 ((z1x l0 x7_1).f1))) (ds:=[8]) #[false,false,false,false,false,false,false,false,false] zz90 rfl rfl ⟨(z7 BK104.out 0).trans rfl,(z7 BK104.out 1).trans rfl,((HB.out.cell (World.block_lt_of_cell? w _ hw110_0)).trans hw110_0),((HB.out.cell (World.block_lt_of_cell? w _ hw110_1)).trans hw110_1)⟩ (fun hHeld=>?_);refine z25 zl.tab8 zl.bits8 (fun HT_ HW_=>?_)
   generalize wr.drew = w21 at BK101 BK104 HB hx110_0 hx110_1 hHeld ⊢
   refine pure_ (i:=2) (N:=some 27) (v:=?_) (a':=?_) #[false,false,true,false,false,false,false,false,false] rfl rfl (z19 HT_.out zz90) (fun _ _ _ h=>h) (Or.inl ⟨by rfl,?_⟩) ?_ ?_
   rotate_left
   · intro w'
     go_simp
     with_reducible rfl
   rotate_left
   · simp only [Act.put,List.setIfInBounds_toArray,List.set_cons_zero,List.set_cons_succ,zH,zP]
     rfl
   refine pure_ (i:=3) (N:=some 28) (v:=?_) (a':=?_) #[false,false,true,true,false,false,false,false,false] rfl rfl (z19 HT_.out zz90) (fun _ _ _ h=>h) (Or.inl ⟨by rfl,?_⟩) ?_ ?_
   rotate_left
   · intro w'
     go_simp
     with_reducible rfl
   rotate_left
   · simp only [Act.put,List.setIfInBounds_toArray,List.set_cons_zero,List.set_cons_succ,zH,zP]
     rfl
   refine pure_ (i:=4) (N:=some 29) (v:=?_) (a':=?_) #[false,false,true,true,true,false,false,false,false] rfl rfl (z19 HT_.out zz90) (fun _ _ _ h=>h) (Or.inl ⟨by rfl,?_⟩) ?_ ?_
   rotate_left
   · intro w'
     go_simp
     with_reducible rfl
   rotate_left
   · simp only [Act.put,List.setIfInBounds_toArray,List.set_cons_zero,List.set_cons_succ,zH,zP]
     rfl
   refine take_ (i:=0) (N:=some 25) (v:=?_) (a':=?_) #[true,false,true,true,true,false,false,false,false] rfl rfl (z1I HT_.out HW_.out zz90) (fun _ _ _ h=>h) (Or.inl ⟨by rfl,?_⟩) hHeld ?_ ?_
   rotate_left
   · rintro w' ⟨s0,s1,s2,s3⟩
     go_simp
     with_reducible rfl
   rotate_left
   · simp only [Act.put,List.setIfInBounds_toArray,List.set_cons_zero,List.set_cons_succ,zH,zP]
     rfl
   refine take_ (i:=5) (N:=some 30) (v:=?_) (a':=?_) #[true,false,true,true,true,true,false,false,false] rfl rfl (z1I HT_.out HW_.out zz90) (fun _ _ _ h=>h) (Or.inl ⟨by rfl,?_⟩) hHeld ?_ ?_
   rotate_left
   · rintro w' ⟨s0,s1,s2,s3⟩
     go_simp
     with_reducible rfl
   rotate_left
   · simp only [Act.put,List.setIfInBounds_toArray,List.set_cons_zero,List.set_cons_succ,zH,zP]
     rfl
   refine one_ (i:=1) (N:=some 26) #[true,true,true,true,true,true,false,false,false] rfl rfl (z1N HT_.out zz90) zz91 (fun K hK=>?_)
   refine goes_ Try.func109 zz90 rfl #[] zz94 rfl rfl zz48 ?_
   with_reducible refine (z1H.calls  t108 t109 _ A17.out).mono ?_
   rintro e w22 ⟨rfl,hb⟩
   refine ⟨_,rfl,?_⟩
   have n0_:=z1.mk (zc (g:=gb101) (o:=.cells #[.int .u64 0,.int .u64 0] 40 (0,0)) zz50 hb)
   have n1_:=z1.mk (zc (g:=gb104) (o:=.cells #[.int .u64 x105000_1,.int .u64 x105001_1] 40 (0,0)) zz57 hb)
   have n2_:=z1.mk (z3 zz39 hb)
   clear BK101
   clear BK104
   clear HB
   have BK101:=n0_
   have BK104:=n1_
   have HB:=n2_
   clear n0_ n1_ n2_
   (try clear hb)
   (try clear hb2)
   (try clear hk)
   (try clear hi)
   refine hK.out _ _ ⟨(z7 BK104.out 0).trans rfl,(z7 BK104.out 1).trans rfl,((HB.out.cell (World.block_lt_of_cell? w _ hw110_0)).trans hw110_0),((HB.out.cell (World.block_lt_of_cell? w _ hw110_1)).trans hw110_1)⟩ (fun hHeld=>?_)
   clear hK K
   refine norm_ (a':=?_) ?_ ?_
   rotate_left
   · show Act.put _ (some 26) _ = _
     simp only [Act.put,List.setIfInBounds_toArray,List.set_cons_zero,List.set_cons_succ,zH,zP]
     rfl
   refine one_ (i:=6) (N:=some 31) #[true,true,true,true,true,true,true,false,false] rfl rfl (z1N HT_.out zz90) zz91 (fun K hK=>?_)
   refine goes_ Try.func69 zz90 rfl #[.agg #[.int .u64 t108,.int .u64 t109],.agg #[.int .u64 ((z1x l0 x7_1).f0),.int .u64 ((z1x l0 x7_1).f1)]] zz94 rfl rfl zz48 ?_
   with_reducible refine (z16.calls t108 t109 ((z1x l0 x7_1).f0) ((z1x l0 x7_1).f1) t111 t112 _ A19.out).mono ?_
   rintro e w23 ⟨rfl,hb⟩
   refine ⟨_,rfl,?_⟩
   have n0_:=z1.mk (zc (g:=gb101) (o:=.cells #[.int .u64 0,.int .u64 0] 40 (0,0)) zz50 hb)
   have n1_:=z1.mk (zc (g:=gb104) (o:=.cells #[.int .u64 x105000_1,.int .u64 x105001_1] 40 (0,0)) zz57 hb)
   have n2_:=z1.mk (z3 zz39 hb)
   clear BK101
   clear BK104
   clear HB
   have BK101:=n0_
   have BK104:=n1_
   have HB:=n2_
   clear n0_ n1_ n2_
   (try clear hb)
   (try clear hb2)
   (try clear hk)
   (try clear hi)
   refine hK.out _ _ ⟨(z7 BK104.out 0).trans rfl,(z7 BK104.out 1).trans rfl,((HB.out.cell (World.block_lt_of_cell? w _ hw110_0)).trans hw110_0),((HB.out.cell (World.block_lt_of_cell? w _ hw110_1)).trans hw110_1)⟩ (fun hHeld=>?_)
   clear hK K
   refine norm_ (a':=?_) ?_ ?_
   rotate_left
   · show Act.put _ (some 31) _ = _
     simp only [Act.put,List.setIfInBounds_toArray,List.set_cons_zero,List.set_cons_succ,zH,zP]
     rfl
   refine one_ (i:=7) (N:=some 32) #[true,true,true,true,true,true,true,true,false] rfl rfl (z1N HT_.out zz90) zz91 (fun K hK=>?_)
   refine goes_ Try.func71 zz90 rfl #[.agg #[.int .u64 x105000_1,.int .u64 x105001_1],.agg #[.int .u64 t111,.int .u64 t112]] zz94 rfl rfl zz48 ?_
   with_reducible refine (zf.calls k1 x105000_1 x105001_1 t111 t112 t113 t114 _ A20.out).mono ?_
   rintro e w24 ⟨rfl,hb⟩
   refine ⟨_,rfl,?_⟩
   have n0_:=z1.mk (zc (g:=gb101) (o:=.cells #[.int .u64 0,.int .u64 0] 40 (0,0)) zz50 hb)
   have n1_:=z1.mk (zc (g:=gb104) (o:=.cells #[.int .u64 x105000_1,.int .u64 x105001_1] 40 (0,0)) zz57 hb)
   have n2_:=z1.mk (z3 zz39 hb)
   clear BK101
   clear BK104
   clear HB
   have BK101:=n0_
   have BK104:=n1_
   have HB:=n2_
   clear n0_ n1_ n2_
   (try clear hb)
   (try clear hb2)
   (try clear hk)
   (try clear hi)
   refine hK.out _ _ ⟨(z7 BK104.out 0).trans rfl,(z7 BK104.out 1).trans rfl,((HB.out.cell (World.block_lt_of_cell? w _ hw110_0)).trans hw110_0),((HB.out.cell (World.block_lt_of_cell? w _ hw110_1)).trans hw110_1)⟩ (fun hHeld=>?_)
   clear hK K
   refine norm_ (a':=?_) ?_ ?_
   rotate_left
   · show Act.put _ (some 32) _ = _
     simp only [Act.put,List.setIfInBounds_toArray,List.set_cons_zero,List.set_cons_succ,zH,zP]
     rfl
   refine last_ (i:=8) (N:=none) #[true,true,true,true,true,true,true,true,true] rfl rfl (z1N HT_.out zz90) zz91 (fun K hK=>?_)
   have hs25 : w24.cell? ⟨gb104,0,none⟩ = some (.int .u64 x105000_1):=(z7 BK104.out 0).trans rfl
   have hfs25:=z6 BK104.out 0
   have hns25_0:=NB101_104.out
   have hms25_0:=NB104_101.out
   have hs26 : w24.cell? ⟨gb104,1,none⟩ = some (.int .u64 x105001_1):=(z7 BK104.out 1).trans rfl
   have hfs26:=z6 BK104.out 1
   have hns26_0:=NB101_104.out
   have hms26_0:=NB104_101.out
   refine skip_ (w1:=?_) zz94 rfl ?_ ?_
   rotate_left
   · go_simp
     rfl
   refine hK.out _ _ ?_
   clear hK K
   refine done_ (z2i HT_.out zz90) ?_
   try go_wp2
   go_roundg k1
   case measure=>have:=HK1.out;omega
   case rel=>exact ⟨(wrap64 (Int.tdiv x6_1 2)),(wrap64 (x7_1 + 1)),(t113),(t114),zz86,zz86,H',⟨by have:=HK1.out;omega⟩,⟨by (with_reducible repeat (first|refine z5 ?_ _|refine z8 ?_|refine z4 ?_ _));refine zZ ?_ NB101_104.out _;(with_reducible repeat (first|refine z5 ?_ _|refine z8 ?_|refine z4 ?_ _));refine zZ ?_ NB101_104.out _;(with_reducible repeat (first|refine z5 ?_ _|refine z8 ?_|refine z4 ?_ _));exact BK101.out⟩,⟨by (with_reducible repeat (first|refine z5 ?_ _|refine z8 ?_|refine z4 ?_ _));refine zX (cs:=#[.int .u64 t113,.int .u64 x105001_1]) ?_ 1 _ rfl;(with_reducible repeat (first|refine z5 ?_ _|refine z8 ?_|refine z4 ?_ _));refine zX (cs:=#[.int .u64 x105000_1,.int .u64 x105001_1]) ?_ 0 _ rfl;(with_reducible repeat (first|refine z5 ?_ _|refine z8 ?_|refine z4 ?_ _));exact BK104.out⟩,⟨by repeat (first|(with_reducible first|exact HB.out|apply zd|apply z2|apply z9|refine za ?_ GE101.out|refine za ?_ GE104.out)|exact HB.out)⟩⟩
end Go.Proofs.Ytkhmpaooinpfoaa.P
namespace Go.Proofs.Ytkhmpaooinpfoaa.P
open Go.RowKit Go.Proofs.YtkhmpaooinpfoaaW.PrintWords Go.Proofs.YtkhmpaooinpfoaaW.PrintLast Go.Proofs.YtkhmpaooinpfoaaW.PrintMore
attribute [local go_sem] z12 z14 z1i z1j zU zV z13 z15   -- for this text's walks alone
set_option linter.unusedVariables false
set_option linter.unusedSimpArgs false
mutual
def zk.l0 : Nat → List (S40) → List (S40) → Int → Int → Int → Option (Int × Int)
 | 0,_,_,_,_,_=>none
 | k + 1,x0,x1,x6,x103000,x103001=>if x6 < (x0.length : Int) then (zk.l1 k x0 x1 x6 0 x103000 x103001 0 0) else (some (x103000,x103001))
def zk.l1 : Nat → List (S40) → List (S40) → Int → Int → Int → Int → Int → Int → Option (Int × Int)
 | 0,_,_,_,_,_,_,_,_=>none
 | k + 1,x0,x1,x6,x8,x103000,x103001,x104000,x104001=>if x8 < (x0.length : Int) then (if 0 ≤ x8 then ((zE.f k ((z1x x0 x8).f0) ((z1x x0 x8).f1) x6).bind fun t111=>(if t111 = true then ((zy.f k x8).bind fun bt112=>((z16.f x104000 x104001 bt112.1 bt112.2).bind fun bt114=>(zk.l1 k x0 x1 x6 (wrap64 (x8 + 1)) x103000 x103001 bt114.1 bt114.2))) else (zk.l1 k x0 x1 x6 (wrap64 (x8 + 1)) x103000 x103001 x104000 x104001))) else (none)) else ((zl.f k x1 x6).bind fun bt104=>((zf.f k bt104.1 bt104.2 x104000 x104001).bind fun bt106=>((z16.f x103000 x103001 bt106.1 bt106.2).bind fun bt108=>(zk.l0 k x0 x1 (wrap64 (x6 + 1)) bt108.1 bt108.2))))
end
def zk.f (k : Nat) (l0 : List (S40)) (l1 : List (S40)) : Option (Int × Int):=zk.l0 k l0 l1 0 0 0
theorem zk.z17 : ∀ k,(∀ y0 y1 y2 y3 y4,LeO (zk.l0 k y0 y1 y2 y3 y4) (zk.l0 (k + 1) y0 y1 y2 y3 y4)) ∧ (∀ y0 y1 y2 y3 y4 y5 y6 y7,LeO (zk.l1 k y0 y1 y2 y3 y4 y5 y6 y7) (zk.l1 (k + 1) y0 y1 y2 y3 y4 y5 y6 y7))
 | 0=>⟨fun _ _ _ _ _ r h=>by simp [zk.l0] at h,fun _ _ _ _ _ _ _ _ r h=>by simp [zk.l1] at h⟩
 | k + 1=>by
  obtain ⟨ih0,ih1⟩:=zk.z17 k
  refine ⟨?_,?_⟩
  · intro y0 y1 y2 y3 y4
    unfold zk.l0
    repeat' first
    | (with_reducible exact ih0 _ _ _ _ _)
    | (with_reducible exact ih1 _ _ _ _ _ _ _ _)
    | (with_reducible exact zy.mono _ _)
    | (with_reducible exact zE.mono _ _ _ _)
    | (with_reducible exact zf.mono _ _ _ _ _)
    | (with_reducible exact zl.mono _ _ _)
    | (with_reducible exact LeO.refl _)
    | (with_reducible exact LeO.none _)
    | (with_reducible refine LeO.ite ?_ ?_)
    | (with_reducible refine LeO.bind ?_ (fun _=>?_))
    | exact ih0 _ _ _ _ _
    | exact ih1 _ _ _ _ _ _ _ _
    | exact zy.mono _ _
    | exact zE.mono _ _ _ _
    | exact zf.mono _ _ _ _ _
    | exact zl.mono _ _ _
    | exact LeO.none _
    | refine LeO.ite ?_ ?_
    | refine LeO.bind ?_ (fun _=>?_)
  · intro y0 y1 y2 y3 y4 y5 y6 y7
    unfold zk.l1
    repeat' first
    | (with_reducible exact ih0 _ _ _ _ _)
    | (with_reducible exact ih1 _ _ _ _ _ _ _ _)
    | (with_reducible exact zy.mono _ _)
    | (with_reducible exact zE.mono _ _ _ _)
    | (with_reducible exact zf.mono _ _ _ _ _)
    | (with_reducible exact zl.mono _ _ _)
    | (with_reducible exact LeO.refl _)
    | (with_reducible exact LeO.none _)
    | (with_reducible refine LeO.ite ?_ ?_)
    | (with_reducible refine LeO.bind ?_ (fun _=>?_))
    | exact ih0 _ _ _ _ _
    | exact ih1 _ _ _ _ _ _ _ _
    | exact zy.mono _ _
    | exact zE.mono _ _ _ _
    | exact zf.mono _ _ _ _ _
    | exact zl.mono _ _ _
    | exact LeO.none _
    | refine LeO.ite ?_ ?_
    | refine LeO.bind ?_ (fun _=>?_)
theorem zk.mono : ∀ a0 a1 k,LeO (zk.f k a0 a1) (zk.f (k + 1) a0 a1):=by
 intro a0 a1 k
 obtain ⟨ih0,ih1⟩:=zk.z17 k
 unfold zk.f
 repeat' first
  | (with_reducible exact ih0 _ _ _ _ _)
  | (with_reducible exact ih1 _ _ _ _ _ _ _ _)
  | (with_reducible exact zy.mono _ _)
  | (with_reducible exact zE.mono _ _ _ _)
  | (with_reducible exact zf.mono _ _ _ _ _)
  | (with_reducible exact zl.mono _ _ _)
  | (with_reducible exact LeO.refl _)
  | (with_reducible exact LeO.none _)
  | (with_reducible refine LeO.ite ?_ ?_)
  | (with_reducible refine LeO.bind ?_ (fun _=>?_))
  | exact ih0 _ _ _ _ _
  | exact ih1 _ _ _ _ _ _ _ _
  | exact zy.mono _ _
  | exact zE.mono _ _ _ _
  | exact zf.mono _ _ _ _ _
  | exact zl.mono _ _ _
  | exact LeO.none _
  | refine LeO.ite ?_ ?_
  | refine LeO.bind ?_ (fun _=>?_)
def zk.T11 : Bool × List (List Nat × List Nat):=(true,[([],[]),([],[]),([],[]),([1,2],[1,2]),([],[]),([3,4,3],[3,4]),([0,5,5],[0,5]),([6,6,0,1,2,3,4,5,6],[6])])
def zk.B11 : List Nat:=[0,0,0,6,0,30,63,127]
theorem zk.tab11 : rtab .any (opsOf Try.f57 11) = zk.T11:=by kernel_rfl
theorem zk.bits11 : waitsOk zk.T11.2 zk.B11 = true:=by kernel_rfl
set_option maxHeartbeats 8000000 in
set_option maxRecDepth 100000 in
theorem zk.calls (k : Nat) (A0 : Option Addr) (c0 : Nat) (l0 : List (S40)) (A1 : Option Addr) (c1 : Nat) (l1 : List (S40)) (r1 : Int) (r2 : Int) (w : World) (hr0 : Kd.C k40 w A0 l0.length l0) (hc0 : l0.length ≤ c0) (hr1 : Kd.C k40 w A1 l1.length l1) (hc1 : l1.length ≤ c1) (h : zk.f k l0 l1 = some (r1,r2)) :
 Calls Try.prog 57 #[.slice A0 l0.length c0,.slice A1 l1.length c1] w fun e w'=>e = .returned (.agg #[.int .u64 r1,.int .u64 r2]) ∧ Below w.heap.size w w':=by
 have hu40:=Try.underlying40
 have HR0:=z1.mk hr0
 have HC0:=z1.mk hc0
 clear hr0 hc0
 have HR1:=z1.mk hr1
 have HC1:=z1.mk hc1
 clear hr1 hc1
 have HB:=z1.mk (Below.refl w.heap.size w)
 have H : (zk.l0 k l0 l1 0 0 0) = some (r1,r2):=h
 clear h
 have H':=z1.mk H
 clear H
 go_enter Try.func57,Try.ntmps57
 go_wp2_with (first|((with_reducible refine zp (N:=4) rfl ?_);refine zt ?hg (N:=4) ?hd (cs:=#[.int .u64 0,.int .u64 0]) (t:=40) ?hr ?_;(case hd=>rfl);(case hg=>rfl);(case hr=>first|(go_simp;done)|(go_simp;rfl));intro gb101 hg w3 hbox hb;have n0_:=z1.mk (z3 zz49 hb);have n1_:=z1.mk (hbox);have n2_:=z1.mk ((by rw [hg];exact (zb zz49) : w.heap.size ≤ gb101));have n3_:=z1.mk ((by rw [hg];exact (zb zz49) : w.heap.size ≤ gb101));clear HB;have HB:=n0_;have BK101:=n1_;have GW101:=n2_;have GE101:=n3_;clear n0_ n1_ n2_ n3_;clear hb hbox hg)|((with_reducible refine zp (N:=5) rfl ?_);refine zt ?hg (N:=5) ?hd (cs:=#[.int .u64 0,.int .u64 0]) (t:=40) ?hr ?_;(case hd=>rfl);(case hg=>rfl);(case hr=>first|(go_simp;done)|(go_simp;rfl));intro gb102 hg w4 hbox hb;have n0_:=z1.mk (zc (g:=gb101) (o:=.cells #[.int .u64 0,.int .u64 0] 40 (0,0)) zz50 hb);have n1_:=z1.mk (z3 zz43 hb);have n2_:=z1.mk (hbox);have n3_:=z1.mk ((by rw [hg];exact (zb zz43) : w.heap.size ≤ gb102));have n4_:=z1.mk ((by rw [hg];exact (zb zz43) : w.heap.size ≤ gb102));have n5_:=z1.mk ((by rw [hg];exact Nat.ne_of_lt (zL (g:=gb101) (o:=.cells #[.int .u64 0,.int .u64 0] 40 (0,0)) zz50) : gb101 ≠ gb102));have n6_:=z1.mk ((by rw [hg];exact Nat.ne_of_gt (zL (g:=gb101) (o:=.cells #[.int .u64 0,.int .u64 0] 40 (0,0)) zz50) : gb102 ≠ gb101));clear BK101;clear HB;have BK101:=n0_;have HB:=n1_;have BK102:=n2_;have GW102:=n3_;have GE102:=n4_;have NB101_102:=n5_;have NB102_101:=n6_;clear n0_ n1_ n2_ n3_ n4_ n5_ n6_;clear hb hbox hg))
 go_loopg [6] k (fun kq v6 w'=>∃ (x6_1 : Int) (x103000_1 : Int) (x103001_1 : Int),v6 = .int .i64 x6_1 ∧ z1 (zk.l0 kq l0 l1 x6_1 x103000_1 x103001_1 = some (r1,r2)) ∧ z1 (kq ≤ k) ∧ z1 (w'.heap[gb101]? = some (.cells #[.int .u64 0,.int .u64 0] 40 (0,0))) ∧ z1 (w'.heap[gb102]? = some (.cells #[.int .u64 x103000_1,.int .u64 x103001_1] 40 (0,0))) ∧ z1 (Below w.heap.size w w'))
 case atStart=>exact ⟨(0),(0),(0),zz86,H',⟨Nat.le_refl _⟩,⟨by (with_reducible repeat (first|refine z5 ?_ _|refine z8 ?_|refine z4 ?_ _));exact BK101.out⟩,⟨by (with_reducible repeat (first|refine z5 ?_ _|refine z8 ?_|refine z4 ?_ _));exact BK102.out⟩,⟨by repeat (first|(with_reducible first|exact HB.out|apply zd|apply z2|apply z9|refine za ?_ GE101.out|refine za ?_ GE102.out)|exact HB.out)⟩⟩
 case round =>
  clear H'
  (try clear c1);(try clear p2)
  obtain ⟨x6_1,x103000_1,x103001_1,rfl,HA,HK1,BK101,BK102,HB⟩:=hrel
  cases gk with
  | zero=>exact absurd HA.out (by simp [zk.l0])
  | succ k1 =>
   have H:=HA.out
   clear HA
   simp only [zk.l0] at H
   by_cases c5 : x6_1 < (l0.length : Int)
   rotate_left
   · rw [if_neg c5] at H
     have c5b0 : decide (x6_1 < (l0.length : Int)) = false:=decide_eq_false c5
     clear c5
     simp only [Option.some.injEq,Prod.mk.injEq] at H
     obtain ⟨rfl,rfl⟩:=H
     have hnb29:=NB102_101.out
     have hnc29:=NB101_102.out
     have hcz30_0 : wr.cell? ⟨gb102,0,none⟩ = some (.int .u64 x103000_1):=(z7 BK102.out 0).trans rfl
     have hcz30_1 : wr.cell? ⟨gb102,1,none⟩ = some (.int .u64 x103001_1):=(z7 BK102.out 1).trans rfl
     have hfz30_0:=z6 BK102.out 0
     have hfz30_1:=z6 BK102.out 1
     have hcz31_0 : wr.cell? ⟨gb101,0,none⟩ = some (.int .u64 0):=(z7 BK101.out 0).trans rfl
     have hcz31_1 : wr.cell? ⟨gb101,1,none⟩ = some (.int .u64 0):=(z7 BK101.out 1).trans rfl
     have hfz31_0:=z6 BK101.out 0
     have hfz31_1:=z6 BK101.out 1
     go_wp2
     refine bodyPost_ret (results_cell_row rfl _ _ gb101 40 #[.int .u64 x103000_1,.int .u64 x103001_1] (0,0) _ rfl zz4 Try.underlying40 rfl zz90) rfl ?_
     exact ⟨by first|rfl|(simp [zg,zh] <;> rfl)|(simp [*,zg,zh] <;> rfl),by repeat (first|(with_reducible first|exact HB.out|apply zd|apply z2|apply z9|refine za ?_ GE101.out|refine za ?_ GE102.out)|exact HB.out)⟩
   rw [if_pos c5] at H
   have c5b0 : decide (x6_1 < (l0.length : Int)) = true:=decide_eq_true c5
   clear c5
   have H':=z1.mk H
   clear H
   go_wp2_with (first|((with_reducible refine zp (N:=7) rfl ?_);refine zt ?hg (N:=7) ?hd (cs:=#[.int .u64 0,.int .u64 0]) (t:=40) ?hr ?_;(case hd=>rfl);(case hg=>rfl);(case hr=>first|(go_simp;done)|(go_simp;rfl));intro gb103 hg w6 hbox hb;have n0_:=z1.mk (zc (g:=gb101) (o:=.cells #[.int .u64 0,.int .u64 0] 40 (0,0)) zz50 hb);have n1_:=z1.mk (zc (g:=gb102) (o:=.cells #[.int .u64 x103000_1,.int .u64 x103001_1] 40 (0,0)) zz51 hb);have n2_:=z1.mk (z3 zz36 hb);have n3_:=z1.mk (hbox);have n4_:=z1.mk ((by rw [hg];exact (zb zz36) : w.heap.size ≤ gb103));have n5_:=z1.mk ((by rw [hg];exact (zb zz36) : w.heap.size ≤ gb103));have n6_:=z1.mk ((by rw [hg];exact Nat.ne_of_lt (zL (g:=gb101) (o:=.cells #[.int .u64 0,.int .u64 0] 40 (0,0)) zz50) : gb101 ≠ gb103));have n7_:=z1.mk ((by rw [hg];exact Nat.ne_of_gt (zL (g:=gb101) (o:=.cells #[.int .u64 0,.int .u64 0] 40 (0,0)) zz50) : gb103 ≠ gb101));have n8_:=z1.mk ((by rw [hg];exact Nat.ne_of_lt (zL (g:=gb102) (o:=.cells #[.int .u64 x103000_1,.int .u64 x103001_1] 40 (0,0)) zz51) : gb102 ≠ gb103));have n9_:=z1.mk ((by rw [hg];exact Nat.ne_of_gt (zL (g:=gb102) (o:=.cells #[.int .u64 x103000_1,.int .u64 x103001_1] 40 (0,0)) zz51) : gb103 ≠ gb102));clear BK101;clear BK102;clear HB;have BK101:=n0_;have BK102:=n1_;have HB:=n2_;have BK103:=n3_;have GW103:=n4_;have GE103:=n5_;have NB101_103:=n6_;have NB103_101:=n7_;have NB102_103:=n8_;have NB103_102:=n9_;clear n0_ n1_ n2_ n3_ n4_ n5_ n6_ n7_ n8_ n9_;clear hb hbox hg))
   go_loopg [8] k1 (fun kq v8 w'=>∃ (x8_2 : Int) (x104000_2 : Int) (x104001_2 : Int),v8 = .int .i64 x8_2 ∧ z1 (zk.l1 kq l0 l1 x6_1 x8_2 x103000_1 x103001_1 x104000_2 x104001_2 = some (r1,r2)) ∧ z1 (kq ≤ k1) ∧ z1 (w'.heap[gb101]? = some (.cells #[.int .u64 0,.int .u64 0] 40 (0,0))) ∧ z1 (w'.heap[gb102]? = some (.cells #[.int .u64 x103000_1,.int .u64 x103001_1] 40 (0,0))) ∧ z1 (w'.heap[gb103]? = some (.cells #[.int .u64 x104000_2,.int .u64 x104001_2] 40 (0,0))) ∧ z1 (Below w.heap.size w w'))
   case atStart=>exact ⟨(0),(0),(0),zz86,H',⟨Nat.le_refl _⟩,⟨by (with_reducible repeat (first|refine z5 ?_ _|refine z8 ?_|refine z4 ?_ _));exact BK101.out⟩,⟨by (with_reducible repeat (first|refine z5 ?_ _|refine z8 ?_|refine z4 ?_ _));exact BK102.out⟩,⟨by (with_reducible repeat (first|refine z5 ?_ _|refine z8 ?_|refine z4 ?_ _));exact BK103.out⟩,⟨by repeat (first|(with_reducible first|exact HB.out|apply zd|apply z2|apply z9|refine za ?_ GE101.out|refine za ?_ GE102.out|refine za ?_ GE103.out)|exact HB.out)⟩⟩
   case round =>
    clear H'
    (try clear c1);(try clear p2);(try clear c5);(try clear c5b0);(try clear p2)
    obtain ⟨x8_2,x104000_2,x104001_2,rfl,HA,HK2,BK101,BK102,BK103,HB⟩:=hrel
    cases gk with
    | zero=>exact absurd HA.out (by simp [zk.l1])
    | succ k2 =>
     have H:=HA.out
     clear HA
     simp only [zk.l1] at H
     by_cases c7 : x8_2 < (l0.length : Int)
     · rw [if_pos c7] at H
       have c7b0 : decide (x8_2 < (l0.length : Int)) = true:=decide_eq_true c7
       clear c7
       by_cases c8 : 0 ≤ x8_2
       rotate_left
       · rw [if_neg c8] at H
         exact absurd H zz93
       rw [if_pos c8] at H
       have c8b0 : decide (0 ≤ x8_2) = true:=decide_eq_true c8
       clear c8
       replace H:=Option.bind_eq_some_iff.mp H
       obtain ⟨t111,A90,H⟩:=H
       replace H : (if t111 = true then ((zy.f k2 x8_2).bind fun bt112=>((z16.f x104000_2 x104001_2 bt112.1 bt112.2).bind fun bt114=>(zk.l1 k2 l0 l1 x6_1 (wrap64 (x8_2 + 1)) x103000_1 x103001_1 bt114.1 bt114.2))) else (zk.l1 k2 l0 l1 x6_1 (wrap64 (x8_2 + 1)) x103000_1 x103001_1 x104000_2 x104001_2)) = some (r1,r2):=H
       have A9:=z1.mk A90
       clear A90
       by_cases c10 : t111 = true
       rotate_left
       · replace c10:=Bool.eq_false_iff.mpr c10
         subst c10
         have H1 : (zk.l1 k2 l0 l1 x6_1 (wrap64 (x8_2 + 1)) x103000_1 x103001_1 x104000_2 x104001_2) = some (r1,r2):=by rw [if_neg (show ¬ (false = true) by decide)] at H;exact H
         clear H
         have H:=H1
         clear H1
         have H':=z1.mk H
         clear H
         have p110 : 0 ≤ (x8_2 : Int):=of_decide_eq_true zz85
         have q110 : x8_2 < (l0.length : Int):=of_decide_eq_true zz85
         obtain ⟨ad110,e110,hx110_0,hx110_1⟩:=z3r HR0.out x8_2 p110 q110
         cases e110
         replace hx110_0:=(HB.out.cell (World.block_lt_of_cell? w _ hx110_0)).trans hx110_0
         replace hx110_1:=(HB.out.cell (World.block_lt_of_cell? w _ hx110_1)).trans hx110_1
         replace p110:=eq_true p110
         replace q110:=eq_true q110
         go_wp2_with (first|((with_reducible refine zi (f:=104) rfl ?_);refine goesL_ (some 26) rfl rfl Try.func104 zz90 rfl #[.agg #[.int .u64 ((z1x l0 x8_2).f0),.int .u64 ((z1x l0 x8_2).f1)],.int .i64 x6_1] rfl zz48 ?_;(with_reducible refine (zE.calls k2 ((z1x l0 x8_2).f0) ((z1x l0 x8_2).f1) x6_1 false _ A9.out).mono ?_);rintro e w19 ⟨rfl,hb⟩;refine ⟨_,rfl,?_⟩;have n0_:=z1.mk (zc (g:=gb101) (o:=.cells #[.int .u64 0,.int .u64 0] 40 (0,0)) zz50 hb);have n1_:=z1.mk (zc (g:=gb102) (o:=.cells #[.int .u64 x103000_1,.int .u64 x103001_1] 40 (0,0)) zz51 hb);have n2_:=z1.mk (zc (g:=gb103) (o:=.cells #[.int .u64 x104000_2,.int .u64 x104001_2] 40 (0,0)) zz52 hb);have n3_:=z1.mk (z3 zz33 hb);clear BK101;clear BK102;clear BK103;clear HB;have BK101:=n0_;have BK102:=n1_;have BK103:=n2_;have HB:=n3_;clear n0_ n1_ n2_ n3_;(try clear hb);(try clear hb2);(try clear hk);(try clear hi)))
         go_roundg k2
         case measure=>have:=HK1.out;have:=HK2.out;omega
         case rel=>exact ⟨(wrap64 (x8_2 + 1)),(x104000_2),(x104001_2),zz86,H',⟨by have:=HK1.out;have:=HK2.out;omega⟩,⟨by (with_reducible repeat (first|refine z5 ?_ _|refine z8 ?_|refine z4 ?_ _));exact BK101.out⟩,⟨by (with_reducible repeat (first|refine z5 ?_ _|refine z8 ?_|refine z4 ?_ _));exact BK102.out⟩,⟨by (with_reducible repeat (first|refine z5 ?_ _|refine z8 ?_|refine z4 ?_ _));exact BK103.out⟩,⟨by repeat (first|(with_reducible first|exact HB.out|apply zd|apply z2|apply z9|refine za ?_ GE101.out|refine za ?_ GE102.out|refine za ?_ GE103.out)|exact HB.out)⟩⟩
       subst c10
       have H1 : ((zy.f k2 x8_2).bind fun bt112=>((z16.f x104000_2 x104001_2 bt112.1 bt112.2).bind fun bt114=>(zk.l1 k2 l0 l1 x6_1 (wrap64 (x8_2 + 1)) x103000_1 x103001_1 bt114.1 bt114.2))) = some (r1,r2):=by rw [if_pos rfl] at H;exact H
       clear H
       have H:=H1
       clear H1
       replace H:=Option.bind_eq_some_iff.mp H
       obtain ⟨⟨t112,t113⟩,A110,H⟩:=H
       replace H : ((z16.f x104000_2 x104001_2 t112 t113).bind fun bt114=>(zk.l1 k2 l0 l1 x6_1 (wrap64 (x8_2 + 1)) x103000_1 x103001_1 bt114.1 bt114.2)) = some (r1,r2):=H
       have A11:=z1.mk A110
       clear A110
       replace H:=Option.bind_eq_some_iff.mp H
       obtain ⟨⟨t114,t115⟩,A120,H⟩:=H
       replace H : (zk.l1 k2 l0 l1 x6_1 (wrap64 (x8_2 + 1)) x103000_1 x103001_1 t114 t115) = some (r1,r2):=H
       have A12:=z1.mk A120
       clear A120
       have H':=z1.mk H
       clear H
       have p110 : 0 ≤ (x8_2 : Int):=of_decide_eq_true zz85
       have q110 : x8_2 < (l0.length : Int):=of_decide_eq_true zz85
       obtain ⟨ad110,e110,hx110_0,hx110_1⟩:=z3r HR0.out x8_2 p110 q110
       cases e110
       replace hx110_0:=(HB.out.cell (World.block_lt_of_cell? w _ hx110_0)).trans hx110_0
       replace hx110_1:=(HB.out.cell (World.block_lt_of_cell? w _ hx110_1)).trans hx110_1
       replace p110:=eq_true p110
       replace q110:=eq_true q110
       try go_wp2_with (first|((with_reducible refine zi (f:=104) rfl ?_);refine goesL_ (some 26) rfl rfl Try.func104 zz90 rfl #[.agg #[.int .u64 ((z1x l0 x8_2).f0),.int .u64 ((z1x l0 x8_2).f1)],.int .i64 x6_1] rfl zz48 ?_;(with_reducible refine (zE.calls k2 ((z1x l0 x8_2).f0) ((z1x l0 x8_2).f1) x6_1 true _ A9.out).mono ?_);rintro e w13 ⟨rfl,hb⟩;refine ⟨_,rfl,?_⟩;have n0_:=z1.mk (zc (g:=gb101) (o:=.cells #[.int .u64 0,.int .u64 0] 40 (0,0)) zz50 hb);have n1_:=z1.mk (zc (g:=gb102) (o:=.cells #[.int .u64 x103000_1,.int .u64 x103001_1] 40 (0,0)) zz51 hb);have n2_:=z1.mk (zc (g:=gb103) (o:=.cells #[.int .u64 x104000_2,.int .u64 x104001_2] 40 (0,0)) zz52 hb);have n3_:=z1.mk (z3 zz33 hb);clear BK101;clear BK102;clear BK103;clear HB;have BK101:=n0_;have BK102:=n1_;have BK103:=n2_;have HB:=n3_;clear n0_ n1_ n2_ n3_;(try clear hb);(try clear hb2);(try clear hk);(try clear hi)))
       have n0_:=z1.mk (z8 BK101.out)
       have n1_:=z1.mk (z8 BK102.out)
       have n2_:=z1.mk (z8 BK103.out)
       have n3_:=z1.mk (z9 HB.out)
       clear BK101
       clear BK102
       clear BK103
       clear HB
       have BK101:=n0_
       have BK102:=n1_
       have BK103:=n2_
       have HB:=n3_
       clear n0_ n1_ n2_ n3_
       refine start_ (n:=5) (S:=fun w'=>w'.cell? ⟨gb103,0,none⟩ = some (.int .u64 x104000_2) ∧ w'.cell? ⟨gb103,1,none⟩ = some (.int .u64 x104001_2)) (ds:=[4]) #[false,false,false,false,false] zz90 rfl rfl ⟨(z7 BK103.out 0).trans rfl,(z7 BK103.out 1).trans rfl⟩ (fun hHeld=>?_)
       generalize w13.drew = w14 at BK101 BK102 BK103 HB hHeld ⊢
       refine pure_ (i:=1) (N:=some 28) (v:=?_) (a':=?_) #[false,true,false,false,false] rfl rfl zz90 (fun _ _ _ h=>h) (Or.inl ⟨by rfl,?_⟩) ?_ ?_
       rotate_left
       · intro w'
         go_simp
         with_reducible rfl
       rotate_left
       · simp only [Act.put,List.setIfInBounds_toArray,List.set_cons_zero,List.set_cons_succ,zH,zP]
         rfl
       refine take_ (i:=0) (N:=some 27) (v:=?_) (a':=?_) #[true,true,false,false,false] rfl rfl zz90 (fun _ _ _ h=>h) (Or.inl ⟨by rfl,?_⟩) hHeld ?_ ?_
       rotate_left
       · rintro w' ⟨s0,s1⟩
         go_simp
         with_reducible rfl
       rotate_left
       · simp only [Act.put,List.setIfInBounds_toArray,List.set_cons_zero,List.set_cons_succ,zH,zP]
         rfl
       refine one_ (i:=2) (N:=some 29) #[true,true,true,false,false] rfl rfl zz90 zz91 (fun K hK=>?_)
       refine goes_ Try.func98 zz90 rfl #[.int .i64 x8_2] zz94 rfl rfl zz48 ?_
       with_reducible refine (zy.calls k2 x8_2 t112 t113 _ A11.out).mono ?_
       rintro e w15 ⟨rfl,hb⟩
       refine ⟨_,rfl,?_⟩
       have n0_:=z1.mk (zc (g:=gb101) (o:=.cells #[.int .u64 0,.int .u64 0] 40 (0,0)) zz50 hb)
       have n1_:=z1.mk (zc (g:=gb102) (o:=.cells #[.int .u64 x103000_1,.int .u64 x103001_1] 40 (0,0)) zz51 hb)
       have n2_:=z1.mk (zc (g:=gb103) (o:=.cells #[.int .u64 x104000_2,.int .u64 x104001_2] 40 (0,0)) zz52 hb)
       have n3_:=z1.mk (z3 zz33 hb)
       clear BK101
       clear BK102
       clear BK103
       clear HB
       have BK101:=n0_
       have BK102:=n1_
       have BK103:=n2_
       have HB:=n3_
       clear n0_ n1_ n2_ n3_
       (try clear hb)
       (try clear hb2)
       (try clear hk)
       (try clear hi)
       refine hK.out _ _ ⟨(z7 BK103.out 0).trans rfl,(z7 BK103.out 1).trans rfl⟩ (fun hHeld=>?_)
       clear hK K
       refine norm_ (a':=?_) ?_ ?_
       rotate_left
       · show Act.put _ (some 29) _ = _
         simp only [Act.put,List.setIfInBounds_toArray,List.set_cons_zero,List.set_cons_succ,zH,zP]
         rfl
       refine one_ (i:=3) (N:=some 30) #[true,true,true,true,false] rfl rfl zz90 zz91 (fun K hK=>?_)
       refine goes_ Try.func69 zz90 rfl #[.agg #[.int .u64 x104000_2,.int .u64 x104001_2],.agg #[.int .u64 t112,.int .u64 t113]] zz94 rfl rfl zz48 ?_
       with_reducible refine (z16.calls x104000_2 x104001_2 t112 t113 t114 t115 _ A12.out).mono ?_
       rintro e w16 ⟨rfl,hb⟩
       refine ⟨_,rfl,?_⟩
       have n0_:=z1.mk (zc (g:=gb101) (o:=.cells #[.int .u64 0,.int .u64 0] 40 (0,0)) zz50 hb)
       have n1_:=z1.mk (zc (g:=gb102) (o:=.cells #[.int .u64 x103000_1,.int .u64 x103001_1] 40 (0,0)) zz51 hb)
       have n2_:=z1.mk (zc (g:=gb103) (o:=.cells #[.int .u64 x104000_2,.int .u64 x104001_2] 40 (0,0)) zz52 hb)
       have n3_:=z1.mk (z3 zz33 hb)
       clear BK101
       clear BK102
       clear BK103
       clear HB
       have BK101:=n0_
       have BK102:=n1_
       have BK103:=n2_
       have HB:=n3_
       clear n0_ n1_ n2_ n3_
       (try clear hb)
       (try clear hb2)
       (try clear hk)
       (try clear hi)
       refine hK.out _ _ ⟨(z7 BK103.out 0).trans rfl,(z7 BK103.out 1).trans rfl⟩ (fun hHeld=>?_)
       clear hK K
       refine norm_ (a':=?_) ?_ ?_
       rotate_left
       · show Act.put _ (some 30) _ = _
         simp only [Act.put,List.setIfInBounds_toArray,List.set_cons_zero,List.set_cons_succ,zH,zP]
         rfl
       refine last_ (i:=4) (N:=none) #[true,true,true,true,true] rfl rfl zz90 zz91 (fun K hK=>?_)
       have hs17 : w16.cell? ⟨gb103,0,none⟩ = some (.int .u64 x104000_2):=(z7 BK103.out 0).trans rfl
       have hfs17:=z6 BK103.out 0
       have hns17_0:=NB101_103.out
       have hns17_1:=NB102_103.out
       have hms17_0:=NB103_101.out
       have hms17_1:=NB103_102.out
       have hs18 : w16.cell? ⟨gb103,1,none⟩ = some (.int .u64 x104001_2):=(z7 BK103.out 1).trans rfl
       have hfs18:=z6 BK103.out 1
       have hns18_0:=NB101_103.out
       have hns18_1:=NB102_103.out
       have hms18_0:=NB103_101.out
       have hms18_1:=NB103_102.out
       refine skip_ (w1:=?_) zz94 rfl ?_ ?_
       rotate_left
       · go_simp
         rfl
       refine hK.out _ _ ?_
       clear hK K
       refine done_ zz90 ?_
       try go_wp2
       go_roundg k2
       case measure=>have:=HK1.out;have:=HK2.out;omega
       case rel=>exact ⟨(wrap64 (x8_2 + 1)),(t114),(t115),zz86,H',⟨by have:=HK1.out;have:=HK2.out;omega⟩,⟨by (with_reducible repeat (first|refine z5 ?_ _|refine z8 ?_|refine z4 ?_ _));refine zZ ?_ NB101_103.out _;(with_reducible repeat (first|refine z5 ?_ _|refine z8 ?_|refine z4 ?_ _));refine zZ ?_ NB101_103.out _;(with_reducible repeat (first|refine z5 ?_ _|refine z8 ?_|refine z4 ?_ _));exact BK101.out⟩,⟨by (with_reducible repeat (first|refine z5 ?_ _|refine z8 ?_|refine z4 ?_ _));refine zZ ?_ NB102_103.out _;(with_reducible repeat (first|refine z5 ?_ _|refine z8 ?_|refine z4 ?_ _));refine zZ ?_ NB102_103.out _;(with_reducible repeat (first|refine z5 ?_ _|refine z8 ?_|refine z4 ?_ _));exact BK102.out⟩,⟨by (with_reducible repeat (first|refine z5 ?_ _|refine z8 ?_|refine z4 ?_ _));refine zX (cs:=#[.int .u64 t114,.int .u64 x104001_2]) ?_ 1 _ rfl;(with_reducible repeat (first|refine z5 ?_ _|refine z8 ?_|refine z4 ?_ _));refine zX (cs:=#[.int .u64 x104000_2,.int .u64 x104001_2]) ?_ 0 _ rfl;(with_reducible repeat (first|refine z5 ?_ _|refine z8 ?_|refine z4 ?_ _));exact BK103.out⟩,⟨by repeat (first|(with_reducible first|exact HB.out|apply zd|apply z2|apply z9|refine za ?_ GE101.out|refine za ?_ GE102.out|refine za ?_ GE103.out)|exact HB.out)⟩⟩
     rw [if_neg c7] at H
     have c7b0 : decide (x8_2 < (l0.length : Int)) = false:=decide_eq_false c7
     clear c7
     replace H:=Option.bind_eq_some_iff.mp H
     obtain ⟨⟨t104,t105⟩,A200,H⟩:=H
     replace H : ((zf.f k2 t104 t105 x104000_2 x104001_2).bind fun bt106=>((z16.f x103000_1 x103001_1 bt106.1 bt106.2).bind fun bt108=>(zk.l0 k2 l0 l1 (wrap64 (x6_1 + 1)) bt108.1 bt108.2))) = some (r1,r2):=H
     have A20:=z1.mk A200
     clear A200
     replace H:=Option.bind_eq_some_iff.mp H
     obtain ⟨⟨t106,t107⟩,A210,H⟩:=H
     replace H : ((z16.f x103000_1 x103001_1 t106 t107).bind fun bt108=>(zk.l0 k2 l0 l1 (wrap64 (x6_1 + 1)) bt108.1 bt108.2)) = some (r1,r2):=H
     have A21:=z1.mk A210
     clear A210
     replace H:=Option.bind_eq_some_iff.mp H
     obtain ⟨⟨t108,t109⟩,A220,H⟩:=H
     replace H : (zk.l0 k2 l0 l1 (wrap64 (x6_1 + 1)) t108 t109) = some (r1,r2):=H
     have A22:=z1.mk A220
     clear A220
     have H':=z1.mk H
     clear H
     try go_wp2
     have n0_:=z1.mk (z8 BK101.out)
     have n1_:=z1.mk (z8 BK102.out)
     have n2_:=z1.mk (z8 BK103.out)
     have n3_:=z1.mk (z9 HB.out)
     clear BK101
     clear BK102
     clear BK103
     clear HB
     have BK101:=n0_
     have BK102:=n1_
     have BK103:=n2_
     have HB:=n3_
     clear n0_ n1_ n2_ n3_
     refine start_ (n:=8) (S:=fun w'=>w'.cell? ⟨gb102,0,none⟩ = some (.int .u64 x103000_1) ∧ w'.cell? ⟨gb102,1,none⟩ = some (.int .u64 x103001_1) ∧ w'.cell? ⟨gb103,0,none⟩ = some (.int .u64 x104000_2) ∧ w'.cell? ⟨gb103,1,none⟩ = some (.int .u64 x104001_2)) (ds:=[7]) #[false,false,false,false,false,false,false,false] zz90 rfl rfl ⟨(z7 BK102.out 0).trans rfl,(z7 BK102.out 1).trans rfl,(z7 BK103.out 0).trans rfl,(z7 BK103.out 1).trans rfl⟩ (fun hHeld=>?_);refine z25 zk.tab11 zk.bits11 (fun HT_ HW_=>?_)
     generalize wr.drew = w23 at BK101 BK102 BK103 HB hHeld ⊢
     refine pure_ (i:=1) (N:=some 32) (v:=?_) (a':=?_) #[false,true,false,false,false,false,false,false] rfl rfl (z19 HT_.out zz90) (fun _ _ _ h=>h) (Or.inl ⟨by rfl,?_⟩) ?_ ?_
     rotate_left
     · intro w'
       go_simp
       with_reducible rfl
     rotate_left
     · simp only [Act.put,List.setIfInBounds_toArray,List.set_cons_zero,List.set_cons_succ,zH,zP]
       rfl
     refine pure_ (i:=2) (N:=some 33) (v:=?_) (a':=?_) #[false,true,true,false,false,false,false,false] rfl rfl (z19 HT_.out zz90) (fun _ _ _ h=>h) (Or.inl ⟨by rfl,?_⟩) ?_ ?_
     rotate_left
     · intro w'
       go_simp
       with_reducible rfl
     rotate_left
     · simp only [Act.put,List.setIfInBounds_toArray,List.set_cons_zero,List.set_cons_succ,zH,zP]
       rfl
     refine take_ (i:=0) (N:=some 31) (v:=?_) (a':=?_) #[true,true,true,false,false,false,false,false] rfl rfl (z1I HT_.out HW_.out zz90) (fun _ _ _ h=>h) (Or.inl ⟨by rfl,?_⟩) hHeld ?_ ?_
     rotate_left
     · rintro w' ⟨s0,s1,s2,s3⟩
       go_simp
       with_reducible rfl
     rotate_left
     · simp only [Act.put,List.setIfInBounds_toArray,List.set_cons_zero,List.set_cons_succ,zH,zP]
       rfl
     refine take_ (i:=4) (N:=some 35) (v:=?_) (a':=?_) #[true,true,true,false,true,false,false,false] rfl rfl (z1I HT_.out HW_.out zz90) (fun _ _ _ h=>h) (Or.inl ⟨by rfl,?_⟩) hHeld ?_ ?_
     rotate_left
     · rintro w' ⟨s0,s1,s2,s3⟩
       go_simp
       with_reducible rfl
     rotate_left
     · simp only [Act.put,List.setIfInBounds_toArray,List.set_cons_zero,List.set_cons_succ,zH,zP]
       rfl
     refine one_ (i:=3) (N:=some 34) #[true,true,true,true,true,false,false,false] rfl rfl (z1N HT_.out zz90) zz91 (fun K hK=>?_)
     refine goes_ Try.func70 zz90 rfl #[.slice A1 l1.length c1,.int .i64 x6_1] zz94 rfl rfl zz48 ?_
     with_reducible refine (zl.calls k2 _ _ l1 x6_1 t104 t105 _ ?side1 ?side2 A20.out).mono ?_
     (case side1=>repeat (first|exact (Kd.z1r HR1.out HB.out)|(with_reducible refine Kd.zQ ?_ _)|(with_reducible refine Kd.zR ?_ _)|(with_reducible refine Kd.z1d ?_)))
     (case side2=>exact HC1.out)
     rintro e w24 ⟨rfl,hb⟩
     refine ⟨_,rfl,?_⟩
     have n0_:=z1.mk (zc (g:=gb101) (o:=.cells #[.int .u64 0,.int .u64 0] 40 (0,0)) zz50 hb)
     have n1_:=z1.mk (zc (g:=gb102) (o:=.cells #[.int .u64 x103000_1,.int .u64 x103001_1] 40 (0,0)) zz51 hb)
     have n2_:=z1.mk (zc (g:=gb103) (o:=.cells #[.int .u64 x104000_2,.int .u64 x104001_2] 40 (0,0)) zz52 hb)
     have n3_:=z1.mk (z3 zz33 hb)
     clear BK101
     clear BK102
     clear BK103
     clear HB
     have BK101:=n0_
     have BK102:=n1_
     have BK103:=n2_
     have HB:=n3_
     clear n0_ n1_ n2_ n3_
     (try clear hb)
     (try clear hb2)
     (try clear hk)
     (try clear hi)
     refine hK.out _ _ ⟨(z7 BK102.out 0).trans rfl,(z7 BK102.out 1).trans rfl,(z7 BK103.out 0).trans rfl,(z7 BK103.out 1).trans rfl⟩ (fun hHeld=>?_)
     clear hK K
     refine norm_ (a':=?_) ?_ ?_
     rotate_left
     · show Act.put _ (some 34) _ = _
       simp only [Act.put,List.setIfInBounds_toArray,List.set_cons_zero,List.set_cons_succ,zH,zP]
       rfl
     refine one_ (i:=5) (N:=some 36) #[true,true,true,true,true,true,false,false] rfl rfl (z1N HT_.out zz90) zz91 (fun K hK=>?_)
     refine goes_ Try.func71 zz90 rfl #[.agg #[.int .u64 t104,.int .u64 t105],.agg #[.int .u64 x104000_2,.int .u64 x104001_2]] zz94 rfl rfl zz48 ?_
     with_reducible refine (zf.calls k2 t104 t105 x104000_2 x104001_2 t106 t107 _ A21.out).mono ?_
     rintro e w25 ⟨rfl,hb⟩
     refine ⟨_,rfl,?_⟩
     have n0_:=z1.mk (zc (g:=gb101) (o:=.cells #[.int .u64 0,.int .u64 0] 40 (0,0)) zz50 hb)
     have n1_:=z1.mk (zc (g:=gb102) (o:=.cells #[.int .u64 x103000_1,.int .u64 x103001_1] 40 (0,0)) zz51 hb)
     have n2_:=z1.mk (zc (g:=gb103) (o:=.cells #[.int .u64 x104000_2,.int .u64 x104001_2] 40 (0,0)) zz52 hb)
     have n3_:=z1.mk (z3 zz33 hb)
     clear BK101
     clear BK102
     clear BK103
     clear HB
     have BK101:=n0_
     have BK102:=n1_
     have BK103:=n2_
     have HB:=n3_
     clear n0_ n1_ n2_ n3_
     (try clear hb)
     (try clear hb2)
     (try clear hk)
     (try clear hi)
     refine hK.out _ _ ⟨(z7 BK102.out 0).trans rfl,(z7 BK102.out 1).trans rfl,(z7 BK103.out 0).trans rfl,(z7 BK103.out 1).trans rfl⟩ (fun hHeld=>?_)
     clear hK K
     refine norm_ (a':=?_) ?_ ?_
     rotate_left
     · show Act.put _ (some 36) _ = _
       simp only [Act.put,List.setIfInBounds_toArray,List.set_cons_zero,List.set_cons_succ,zH,zP]
       rfl
     refine one_ (i:=6) (N:=some 37) #[true,true,true,true,true,true,true,false] rfl rfl (z1N HT_.out zz90) zz91 (fun K hK=>?_)
     refine goes_ Try.func69 zz90 rfl #[.agg #[.int .u64 x103000_1,.int .u64 x103001_1],.agg #[.int .u64 t106,.int .u64 t107]] zz94 rfl rfl zz48 ?_
     with_reducible refine (z16.calls x103000_1 x103001_1 t106 t107 t108 t109 _ A22.out).mono ?_
     rintro e w26 ⟨rfl,hb⟩
     refine ⟨_,rfl,?_⟩
     have n0_:=z1.mk (zc (g:=gb101) (o:=.cells #[.int .u64 0,.int .u64 0] 40 (0,0)) zz50 hb)
     have n1_:=z1.mk (zc (g:=gb102) (o:=.cells #[.int .u64 x103000_1,.int .u64 x103001_1] 40 (0,0)) zz51 hb)
     have n2_:=z1.mk (zc (g:=gb103) (o:=.cells #[.int .u64 x104000_2,.int .u64 x104001_2] 40 (0,0)) zz52 hb)
     have n3_:=z1.mk (z3 zz33 hb)
     clear BK101
     clear BK102
     clear BK103
     clear HB
     have BK101:=n0_
     have BK102:=n1_
     have BK103:=n2_
     have HB:=n3_
     clear n0_ n1_ n2_ n3_
     (try clear hb)
     (try clear hb2)
     (try clear hk)
     (try clear hi)
     refine hK.out _ _ ⟨(z7 BK102.out 0).trans rfl,(z7 BK102.out 1).trans rfl,(z7 BK103.out 0).trans rfl,(z7 BK103.out 1).trans rfl⟩ (fun hHeld=>?_)
     clear hK K
     refine norm_ (a':=?_) ?_ ?_
     rotate_left
     · show Act.put _ (some 37) _ = _
       simp only [Act.put,List.setIfInBounds_toArray,List.set_cons_zero,List.set_cons_succ,zH,zP]
       rfl
     refine last_ (i:=7) (N:=none) #[true,true,true,true,true,true,true,true] rfl rfl (z1N HT_.out zz90) zz91 (fun K hK=>?_)
     have hs27 : w26.cell? ⟨gb102,0,none⟩ = some (.int .u64 x103000_1):=(z7 BK102.out 0).trans rfl
     have hfs27:=z6 BK102.out 0
     have hns27_0:=NB101_102.out
     have hns27_2:=NB103_102.out
     have hms27_0:=NB102_101.out
     have hms27_2:=NB102_103.out
     have hs28 : w26.cell? ⟨gb102,1,none⟩ = some (.int .u64 x103001_1):=(z7 BK102.out 1).trans rfl
     have hfs28:=z6 BK102.out 1
     have hns28_0:=NB101_102.out
     have hns28_2:=NB103_102.out
     have hms28_0:=NB102_101.out
     have hms28_2:=NB102_103.out
     refine skip_ (w1:=?_) zz94 rfl ?_ ?_
     rotate_left
     · go_simp
       rfl
     refine hK.out _ _ ?_
     clear hK K
     refine done_ (z2i HT_.out zz90) ?_
     try go_wp2
     go_roundg k2
     case measure=>have:=HK1.out;have:=HK2.out;omega
     case rel=>exact ⟨(wrap64 (x6_1 + 1)),(t108),(t109),zz86,H',⟨by have:=HK1.out;have:=HK2.out;omega⟩,⟨by (with_reducible repeat (first|refine z5 ?_ _|refine z8 ?_|refine z4 ?_ _));refine zZ ?_ NB101_102.out _;(with_reducible repeat (first|refine z5 ?_ _|refine z8 ?_|refine z4 ?_ _));refine zZ ?_ NB101_102.out _;(with_reducible repeat (first|refine z5 ?_ _|refine z8 ?_|refine z4 ?_ _));exact BK101.out⟩,⟨by (with_reducible repeat (first|refine z5 ?_ _|refine z8 ?_|refine z4 ?_ _));refine zX (cs:=#[.int .u64 t108,.int .u64 x103001_1]) ?_ 1 _ rfl;(with_reducible repeat (first|refine z5 ?_ _|refine z8 ?_|refine z4 ?_ _));refine zX (cs:=#[.int .u64 x103000_1,.int .u64 x103001_1]) ?_ 0 _ rfl;(with_reducible repeat (first|refine z5 ?_ _|refine z8 ?_|refine z4 ?_ _));exact BK102.out⟩,⟨by repeat (first|(with_reducible first|exact HB.out|apply zd|apply z2|apply z9|refine za ?_ GE101.out|refine za ?_ GE102.out|refine za ?_ GE103.out)|exact HB.out)⟩⟩
end Go.Proofs.Ytkhmpaooinpfoaa.P
namespace Go.Proofs.Ytkhmpaooinpfoaa.P
open Go.RowKit Go.Proofs.YtkhmpaooinpfoaaW.PrintWords Go.Proofs.YtkhmpaooinpfoaaW.PrintLast Go.Proofs.YtkhmpaooinpfoaaW.PrintMore
attribute [local go_sem] z12 z14 z1i z1j zU zV z13 z15   -- for this text's walks alone
set_option linter.unusedVariables false
set_option linter.unusedSimpArgs false
def zn.l0 : Nat → List (S40) → List (S40) → Int → Int → Int → Option (Int × Int)
 | 0,_,_,_,_,_=>none
 | k + 1,x0,x1,x6,x103000,x103001=>if x6 < (x0.length : Int) then (if 0 ≤ x6 then ((zl.f k x1 x6).bind fun bt104=>((zf.f k ((z1x x0 x6).f0) ((z1x x0 x6).f1) bt104.1 bt104.2).bind fun bt106=>((z16.f x103000 x103001 bt106.1 bt106.2).bind fun bt108=>(zn.l0 k x0 x1 (wrap64 (x6 + 1)) bt108.1 bt108.2)))) else (none)) else (some (x103000,x103001))
def zn.f (k : Nat) (l0 : List (S40)) (l1 : List (S40)) : Option (Int × Int):=zn.l0 k l0 l1 0 0 0
theorem zn.z17 : ∀ k,(∀ y0 y1 y2 y3 y4,LeO (zn.l0 k y0 y1 y2 y3 y4) (zn.l0 (k + 1) y0 y1 y2 y3 y4))
 | 0=>fun _ _ _ _ _ r h=>by simp [zn.l0] at h
 | k + 1=>by
  have ih0:=zn.z17 k
  · intro y0 y1 y2 y3 y4
    unfold zn.l0
    repeat' first
    | (with_reducible exact ih0 _ _ _ _ _)
    | (with_reducible exact zf.mono _ _ _ _ _)
    | (with_reducible exact zl.mono _ _ _)
    | (with_reducible exact LeO.refl _)
    | (with_reducible exact LeO.none _)
    | (with_reducible refine LeO.ite ?_ ?_)
    | (with_reducible refine LeO.bind ?_ (fun _=>?_))
    | exact ih0 _ _ _ _ _
    | exact zf.mono _ _ _ _ _
    | exact zl.mono _ _ _
    | exact LeO.none _
    | refine LeO.ite ?_ ?_
    | refine LeO.bind ?_ (fun _=>?_)
theorem zn.mono : ∀ a0 a1 k,LeO (zn.f k a0 a1) (zn.f (k + 1) a0 a1):=by
 intro a0 a1 k
 have ih0:=zn.z17 k
 unfold zn.f
 repeat' first
  | (with_reducible exact ih0 _ _ _ _ _)
  | (with_reducible exact zf.mono _ _ _ _ _)
  | (with_reducible exact zl.mono _ _ _)
  | (with_reducible exact LeO.refl _)
  | (with_reducible exact LeO.none _)
  | (with_reducible refine LeO.ite ?_ ?_)
  | (with_reducible refine LeO.bind ?_ (fun _=>?_))
  | exact ih0 _ _ _ _ _
  | exact zf.mono _ _ _ _ _
  | exact zl.mono _ _ _
  | exact LeO.none _
  | refine LeO.ite ?_ ?_
  | refine LeO.bind ?_ (fun _=>?_)
def zn.T5 : Bool × List (List Nat × List Nat):=(true,[([],[]),([],[]),([],[]),([1,2],[1,2]),([3],[3]),([],[]),([],[]),([5,6],[5,6]),([4,7,7],[4,7]),([0,8,8],[0,8]),([9,9,0,1,2,3,4,5,6,7,8,9],[9])])
def zn.B5 : List Nat:=[0,0,0,6,14,0,0,96,254,511,1023]
theorem zn.tab5 : rtab .any (opsOf Try.f58 5) = zn.T5:=by kernel_rfl
theorem zn.bits5 : waitsOk zn.T5.2 zn.B5 = true:=by kernel_rfl
set_option maxHeartbeats 8000000 in
set_option maxRecDepth 100000 in
theorem zn.calls (k : Nat) (A0 : Option Addr) (c0 : Nat) (l0 : List (S40)) (A1 : Option Addr) (c1 : Nat) (l1 : List (S40)) (r1 : Int) (r2 : Int) (w : World) (hr0 : Kd.C k40 w A0 l0.length l0) (hc0 : l0.length ≤ c0) (hr1 : Kd.C k40 w A1 l1.length l1) (hc1 : l1.length ≤ c1) (h : zn.f k l0 l1 = some (r1,r2)) :
 Calls Try.prog 58 #[.slice A0 l0.length c0,.slice A1 l1.length c1] w fun e w'=>e = .returned (.agg #[.int .u64 r1,.int .u64 r2]) ∧ Below w.heap.size w w':=by
 have hu40:=Try.underlying40
 have HR0:=z1.mk hr0
 have HC0:=z1.mk hc0
 clear hr0 hc0
 have HR1:=z1.mk hr1
 have HC1:=z1.mk hc1
 clear hr1 hc1
 have HB:=z1.mk (Below.refl w.heap.size w)
 have H : (zn.l0 k l0 l1 0 0 0) = some (r1,r2):=h
 clear h
 have H':=z1.mk H
 clear H
 go_enter Try.func58,Try.ntmps58
 go_wp2_with (first|((with_reducible refine zp (N:=4) rfl ?_);refine zt ?hg (N:=4) ?hd (cs:=#[.int .u64 0,.int .u64 0]) (t:=40) ?hr ?_;(case hd=>rfl);(case hg=>rfl);(case hr=>first|(go_simp;done)|(go_simp;rfl));intro gb101 hg w3 hbox hb;have n0_:=z1.mk (z3 zz49 hb);have n1_:=z1.mk (hbox);have n2_:=z1.mk ((by rw [hg];exact (zb zz49) : w.heap.size ≤ gb101));have n3_:=z1.mk ((by rw [hg];exact (zb zz49) : w.heap.size ≤ gb101));clear HB;have HB:=n0_;have BK101:=n1_;have GW101:=n2_;have GE101:=n3_;clear n0_ n1_ n2_ n3_;clear hb hbox hg)|((with_reducible refine zp (N:=5) rfl ?_);refine zt ?hg (N:=5) ?hd (cs:=#[.int .u64 0,.int .u64 0]) (t:=40) ?hr ?_;(case hd=>rfl);(case hg=>rfl);(case hr=>first|(go_simp;done)|(go_simp;rfl));intro gb102 hg w4 hbox hb;have n0_:=z1.mk (zc (g:=gb101) (o:=.cells #[.int .u64 0,.int .u64 0] 40 (0,0)) zz50 hb);have n1_:=z1.mk (z3 zz43 hb);have n2_:=z1.mk (hbox);have n3_:=z1.mk ((by rw [hg];exact (zb zz43) : w.heap.size ≤ gb102));have n4_:=z1.mk ((by rw [hg];exact (zb zz43) : w.heap.size ≤ gb102));have n5_:=z1.mk ((by rw [hg];exact Nat.ne_of_lt (zL (g:=gb101) (o:=.cells #[.int .u64 0,.int .u64 0] 40 (0,0)) zz50) : gb101 ≠ gb102));have n6_:=z1.mk ((by rw [hg];exact Nat.ne_of_gt (zL (g:=gb101) (o:=.cells #[.int .u64 0,.int .u64 0] 40 (0,0)) zz50) : gb102 ≠ gb101));clear BK101;clear HB;have BK101:=n0_;have HB:=n1_;have BK102:=n2_;have GW102:=n3_;have GE102:=n4_;have NB101_102:=n5_;have NB102_101:=n6_;clear n0_ n1_ n2_ n3_ n4_ n5_ n6_;clear hb hbox hg))
 go_loopg [6] k (fun kq v6 w'=>∃ (x6_1 : Int) (x103000_1 : Int) (x103001_1 : Int),v6 = .int .i64 x6_1 ∧ z1 (zn.l0 kq l0 l1 x6_1 x103000_1 x103001_1 = some (r1,r2)) ∧ z1 (kq ≤ k) ∧ z1 (w'.heap[gb101]? = some (.cells #[.int .u64 0,.int .u64 0] 40 (0,0))) ∧ z1 (w'.heap[gb102]? = some (.cells #[.int .u64 x103000_1,.int .u64 x103001_1] 40 (0,0))) ∧ z1 (Below w.heap.size w w'))
 case atStart=>exact ⟨(0),(0),(0),zz86,H',⟨Nat.le_refl _⟩,⟨by (with_reducible repeat (first|refine z5 ?_ _|refine z8 ?_|refine z4 ?_ _));exact BK101.out⟩,⟨by (with_reducible repeat (first|refine z5 ?_ _|refine z8 ?_|refine z4 ?_ _));exact BK102.out⟩,⟨by repeat (first|(with_reducible first|exact HB.out|apply zd|apply z2|apply z9|refine za ?_ GE101.out|refine za ?_ GE102.out)|exact HB.out)⟩⟩
 case round =>
  clear H'
  (try clear c1);(try clear p2)
  obtain ⟨x6_1,x103000_1,x103001_1,rfl,HA,HK1,BK101,BK102,HB⟩:=hrel
  cases gk with
  | zero=>exact absurd HA.out (by simp [zn.l0])
  | succ k1 =>
   have H:=HA.out
   clear HA
   simp only [zn.l0] at H
   by_cases c5 : x6_1 < (l0.length : Int)
   rotate_left
   · rw [if_neg c5] at H
     have c5b0 : decide (x6_1 < (l0.length : Int)) = false:=decide_eq_false c5
     clear c5
     simp only [Option.some.injEq,Prod.mk.injEq] at H
     obtain ⟨rfl,rfl⟩:=H
     have hnb16:=NB102_101.out
     have hnc16:=NB101_102.out
     have hcz17_0 : wr.cell? ⟨gb102,0,none⟩ = some (.int .u64 x103000_1):=(z7 BK102.out 0).trans rfl
     have hcz17_1 : wr.cell? ⟨gb102,1,none⟩ = some (.int .u64 x103001_1):=(z7 BK102.out 1).trans rfl
     have hfz17_0:=z6 BK102.out 0
     have hfz17_1:=z6 BK102.out 1
     have hcz18_0 : wr.cell? ⟨gb101,0,none⟩ = some (.int .u64 0):=(z7 BK101.out 0).trans rfl
     have hcz18_1 : wr.cell? ⟨gb101,1,none⟩ = some (.int .u64 0):=(z7 BK101.out 1).trans rfl
     have hfz18_0:=z6 BK101.out 0
     have hfz18_1:=z6 BK101.out 1
     go_wp2
     refine bodyPost_ret (results_cell_row rfl _ _ gb101 40 #[.int .u64 x103000_1,.int .u64 x103001_1] (0,0) _ rfl zz4 Try.underlying40 rfl zz90) rfl ?_
     exact ⟨by first|rfl|(simp [zg,zh] <;> rfl)|(simp [*,zg,zh] <;> rfl),by repeat (first|(with_reducible first|exact HB.out|apply zd|apply z2|apply z9|refine za ?_ GE101.out|refine za ?_ GE102.out)|exact HB.out)⟩
   rw [if_pos c5] at H
   have c5b0 : decide (x6_1 < (l0.length : Int)) = true:=decide_eq_true c5
   clear c5
   by_cases c6 : 0 ≤ x6_1
   rotate_left
   · rw [if_neg c6] at H
     exact absurd H zz93
   rw [if_pos c6] at H
   have c6b0 : decide (0 ≤ x6_1) = true:=decide_eq_true c6
   clear c6
   replace H:=Option.bind_eq_some_iff.mp H
   obtain ⟨⟨t104,t105⟩,A70,H⟩:=H
   replace H : ((zf.f k1 ((z1x l0 x6_1).f0) ((z1x l0 x6_1).f1) t104 t105).bind fun bt106=>((z16.f x103000_1 x103001_1 bt106.1 bt106.2).bind fun bt108=>(zn.l0 k1 l0 l1 (wrap64 (x6_1 + 1)) bt108.1 bt108.2))) = some (r1,r2):=H
   have A7:=z1.mk A70
   clear A70
   replace H:=Option.bind_eq_some_iff.mp H
   obtain ⟨⟨t106,t107⟩,A80,H⟩:=H
   replace H : ((z16.f x103000_1 x103001_1 t106 t107).bind fun bt108=>(zn.l0 k1 l0 l1 (wrap64 (x6_1 + 1)) bt108.1 bt108.2)) = some (r1,r2):=H
   have A8:=z1.mk A80
   clear A80
   replace H:=Option.bind_eq_some_iff.mp H
   obtain ⟨⟨t108,t109⟩,A90,H⟩:=H
   replace H : (zn.l0 k1 l0 l1 (wrap64 (x6_1 + 1)) t108 t109) = some (r1,r2):=H
   have A9:=z1.mk A90
   clear A90
   have H':=z1.mk H
   clear H
   try go_wp2
   have n0_:=z1.mk (z8 BK101.out)
   have n1_:=z1.mk (z8 BK102.out)
   have n2_:=z1.mk (z9 HB.out)
   clear BK101
   clear BK102
   clear HB
   have BK101:=n0_
   have BK102:=n1_
   have HB:=n2_
   clear n0_ n1_ n2_
   have p103 : 0 ≤ (x6_1 : Int):=of_decide_eq_true zz85
   have q103 : x6_1 < (l0.length : Int):=of_decide_eq_true zz85
   obtain ⟨ad103,e103,hx103_0,hx103_1⟩:=z3r HR0.out x6_1 p103 q103
   have hw103_1:=hx103_1
   have hw103_0:=hx103_0
   cases e103
   replace hx103_0:=(HB.out.cell (World.block_lt_of_cell? w _ hx103_0)).trans hx103_0
   replace hx103_1:=(HB.out.cell (World.block_lt_of_cell? w _ hx103_1)).trans hx103_1
   replace p103:=eq_true p103
   replace q103:=eq_true q103
   refine start_ (n:=11) (S:=fun w'=>w'.cell? ⟨gb102,0,none⟩ = some (.int .u64 x103000_1) ∧ w'.cell? ⟨gb102,1,none⟩ = some (.int .u64 x103001_1) ∧ w'.cell? (ad103.add ((x6_1).toNat * 2)) = some (.int .u64 ((z1x l0 x6_1).f0)) ∧ w'.cell? ⟨(ad103.add ((x6_1).toNat * 2)).block,(ad103.add ((x6_1).toNat * 2)).off + 1,none⟩ = some (.int .u64 ((z1x l0 x6_1).f1))) (ds:=[10]) #[false,false,false,false,false,false,false,false,false,false,false] zz90 rfl rfl ⟨(z7 BK102.out 0).trans rfl,(z7 BK102.out 1).trans rfl,((HB.out.cell (World.block_lt_of_cell? w _ hw103_0)).trans hw103_0),((HB.out.cell (World.block_lt_of_cell? w _ hw103_1)).trans hw103_1)⟩ (fun hHeld=>?_);refine z25 zn.tab5 zn.bits5 (fun HT_ HW_=>?_)
   generalize wr.drew = w10 at BK101 BK102 HB hx103_0 hx103_1 hHeld ⊢
   refine pure_ (i:=1) (N:=some 14) (v:=?_) (a':=?_) #[false,true,false,false,false,false,false,false,false,false,false] rfl rfl (z19 HT_.out zz90) (fun _ _ _ h=>h) (Or.inl ⟨by rfl,?_⟩) ?_ ?_
   rotate_left
   · intro w'
     go_simp
     with_reducible rfl
   rotate_left
   · simp only [Act.put,List.setIfInBounds_toArray,List.set_cons_zero,List.set_cons_succ,zH,zP]
     rfl
   refine pure_ (i:=2) (N:=some 15) (v:=?_) (a':=?_) #[false,true,true,false,false,false,false,false,false,false,false] rfl rfl (z19 HT_.out zz90) (fun _ _ _ h=>h) (Or.inl ⟨by rfl,?_⟩) ?_ ?_
   rotate_left
   · intro w'
     go_simp
     with_reducible rfl
   rotate_left
   · simp only [Act.put,List.setIfInBounds_toArray,List.set_cons_zero,List.set_cons_succ,zH,zP]
     rfl
   refine pure_ (i:=3) (N:=some 16) (v:=?_) (a':=?_) #[false,true,true,true,false,false,false,false,false,false,false] rfl rfl (z19 HT_.out zz90) (fun _ _ _ h=>h) (Or.inl ⟨by rfl,?_⟩) ?_ ?_
   rotate_left
   · intro w'
     go_simp
     with_reducible rfl
   rotate_left
   · simp only [Act.put,List.setIfInBounds_toArray,List.set_cons_zero,List.set_cons_succ,zH,zP]
     rfl
   refine pure_ (i:=5) (N:=some 18) (v:=?_) (a':=?_) #[false,true,true,true,false,true,false,false,false,false,false] rfl rfl (z19 HT_.out zz90) (fun _ _ _ h=>h) (Or.inl ⟨by rfl,?_⟩) ?_ ?_
   rotate_left
   · intro w'
     go_simp
     with_reducible rfl
   rotate_left
   · simp only [Act.put,List.setIfInBounds_toArray,List.set_cons_zero,List.set_cons_succ,zH,zP]
     rfl
   refine pure_ (i:=6) (N:=some 19) (v:=?_) (a':=?_) #[false,true,true,true,false,true,true,false,false,false,false] rfl rfl (z19 HT_.out zz90) (fun _ _ _ h=>h) (Or.inl ⟨by rfl,?_⟩) ?_ ?_
   rotate_left
   · intro w'
     go_simp
     with_reducible rfl
   rotate_left
   · simp only [Act.put,List.setIfInBounds_toArray,List.set_cons_zero,List.set_cons_succ,zH,zP]
     rfl
   refine take_ (i:=0) (N:=some 13) (v:=?_) (a':=?_) #[true,true,true,true,false,true,true,false,false,false,false] rfl rfl (z1I HT_.out HW_.out zz90) (fun _ _ _ h=>h) (Or.inl ⟨by rfl,?_⟩) hHeld ?_ ?_
   rotate_left
   · rintro w' ⟨s0,s1,s2,s3⟩
     go_simp
     with_reducible rfl
   rotate_left
   · simp only [Act.put,List.setIfInBounds_toArray,List.set_cons_zero,List.set_cons_succ,zH,zP]
     rfl
   refine take_ (i:=4) (N:=some 17) (v:=?_) (a':=?_) #[true,true,true,true,true,true,true,false,false,false,false] rfl rfl (z1I HT_.out HW_.out zz90) (fun _ _ _ h=>h) (Or.inl ⟨by rfl,?_⟩) hHeld ?_ ?_
   rotate_left
   · rintro w' ⟨s0,s1,s2,s3⟩
     go_simp
     with_reducible rfl
   rotate_left
   · simp only [Act.put,List.setIfInBounds_toArray,List.set_cons_zero,List.set_cons_succ,zH,zP]
     rfl
   refine one_ (i:=7) (N:=some 20) #[true,true,true,true,true,true,true,true,false,false,false] rfl rfl (z1N HT_.out zz90) zz91 (fun K hK=>?_)
   refine goes_ Try.func70 zz90 rfl #[.slice A1 l1.length c1,.int .i64 x6_1] zz94 rfl rfl zz48 ?_
   with_reducible refine (zl.calls k1 _ _ l1 x6_1 t104 t105 _ ?side1 ?side2 A7.out).mono ?_
   (case side1=>repeat (first|exact (Kd.z1r HR1.out HB.out)|(with_reducible refine Kd.zQ ?_ _)|(with_reducible refine Kd.zR ?_ _)|(with_reducible refine Kd.z1d ?_)))
   (case side2=>exact HC1.out)
   rintro e w11 ⟨rfl,hb⟩
   refine ⟨_,rfl,?_⟩
   have n0_:=z1.mk (zc (g:=gb101) (o:=.cells #[.int .u64 0,.int .u64 0] 40 (0,0)) zz50 hb)
   have n1_:=z1.mk (zc (g:=gb102) (o:=.cells #[.int .u64 x103000_1,.int .u64 x103001_1] 40 (0,0)) zz51 hb)
   have n2_:=z1.mk (z3 zz36 hb)
   clear BK101
   clear BK102
   clear HB
   have BK101:=n0_
   have BK102:=n1_
   have HB:=n2_
   clear n0_ n1_ n2_
   (try clear hb)
   (try clear hb2)
   (try clear hk)
   (try clear hi)
   refine hK.out _ _ ⟨(z7 BK102.out 0).trans rfl,(z7 BK102.out 1).trans rfl,((HB.out.cell (World.block_lt_of_cell? w _ hw103_0)).trans hw103_0),((HB.out.cell (World.block_lt_of_cell? w _ hw103_1)).trans hw103_1)⟩ (fun hHeld=>?_)
   clear hK K
   refine norm_ (a':=?_) ?_ ?_
   rotate_left
   · show Act.put _ (some 20) _ = _
     simp only [Act.put,List.setIfInBounds_toArray,List.set_cons_zero,List.set_cons_succ,zH,zP]
     rfl
   refine one_ (i:=8) (N:=some 21) #[true,true,true,true,true,true,true,true,true,false,false] rfl rfl (z1N HT_.out zz90) zz91 (fun K hK=>?_)
   refine goes_ Try.func71 zz90 rfl #[.agg #[.int .u64 ((z1x l0 x6_1).f0),.int .u64 ((z1x l0 x6_1).f1)],.agg #[.int .u64 t104,.int .u64 t105]] zz94 rfl rfl zz48 ?_
   with_reducible refine (zf.calls k1 ((z1x l0 x6_1).f0) ((z1x l0 x6_1).f1) t104 t105 t106 t107 _ A8.out).mono ?_
   rintro e w12 ⟨rfl,hb⟩
   refine ⟨_,rfl,?_⟩
   have n0_:=z1.mk (zc (g:=gb101) (o:=.cells #[.int .u64 0,.int .u64 0] 40 (0,0)) zz50 hb)
   have n1_:=z1.mk (zc (g:=gb102) (o:=.cells #[.int .u64 x103000_1,.int .u64 x103001_1] 40 (0,0)) zz51 hb)
   have n2_:=z1.mk (z3 zz36 hb)
   clear BK101
   clear BK102
   clear HB
   have BK101:=n0_
   have BK102:=n1_
   have HB:=n2_
   clear n0_ n1_ n2_
   (try clear hb)
   (try clear hb2)
   (try clear hk)
   (try clear hi)
   refine hK.out _ _ ⟨(z7 BK102.out 0).trans rfl,(z7 BK102.out 1).trans rfl,((HB.out.cell (World.block_lt_of_cell? w _ hw103_0)).trans hw103_0),((HB.out.cell (World.block_lt_of_cell? w _ hw103_1)).trans hw103_1)⟩ (fun hHeld=>?_)
   clear hK K
   refine norm_ (a':=?_) ?_ ?_
   rotate_left
   · show Act.put _ (some 21) _ = _
     simp only [Act.put,List.setIfInBounds_toArray,List.set_cons_zero,List.set_cons_succ,zH,zP]
     rfl
   refine one_ (i:=9) (N:=some 22) #[true,true,true,true,true,true,true,true,true,true,false] rfl rfl (z1N HT_.out zz90) zz91 (fun K hK=>?_)
   refine goes_ Try.func69 zz90 rfl #[.agg #[.int .u64 x103000_1,.int .u64 x103001_1],.agg #[.int .u64 t106,.int .u64 t107]] zz94 rfl rfl zz48 ?_
   with_reducible refine (z16.calls x103000_1 x103001_1 t106 t107 t108 t109 _ A9.out).mono ?_
   rintro e w13 ⟨rfl,hb⟩
   refine ⟨_,rfl,?_⟩
   have n0_:=z1.mk (zc (g:=gb101) (o:=.cells #[.int .u64 0,.int .u64 0] 40 (0,0)) zz50 hb)
   have n1_:=z1.mk (zc (g:=gb102) (o:=.cells #[.int .u64 x103000_1,.int .u64 x103001_1] 40 (0,0)) zz51 hb)
   have n2_:=z1.mk (z3 zz36 hb)
   clear BK101
   clear BK102
   clear HB
   have BK101:=n0_
   have BK102:=n1_
   have HB:=n2_
   clear n0_ n1_ n2_
   (try clear hb)
   (try clear hb2)
   (try clear hk)
   (try clear hi)
   refine hK.out _ _ ⟨(z7 BK102.out 0).trans rfl,(z7 BK102.out 1).trans rfl,((HB.out.cell (World.block_lt_of_cell? w _ hw103_0)).trans hw103_0),((HB.out.cell (World.block_lt_of_cell? w _ hw103_1)).trans hw103_1)⟩ (fun hHeld=>?_)
   clear hK K
   refine norm_ (a':=?_) ?_ ?_
   rotate_left
   · show Act.put _ (some 22) _ = _
     simp only [Act.put,List.setIfInBounds_toArray,List.set_cons_zero,List.set_cons_succ,zH,zP]
     rfl
   refine last_ (i:=10) (N:=none) #[true,true,true,true,true,true,true,true,true,true,true] rfl rfl (z1N HT_.out zz90) zz91 (fun K hK=>?_)
   have hs14 : w13.cell? ⟨gb102,0,none⟩ = some (.int .u64 x103000_1):=(z7 BK102.out 0).trans rfl
   have hfs14:=z6 BK102.out 0
   have hns14_0:=NB101_102.out
   have hms14_0:=NB102_101.out
   have hs15 : w13.cell? ⟨gb102,1,none⟩ = some (.int .u64 x103001_1):=(z7 BK102.out 1).trans rfl
   have hfs15:=z6 BK102.out 1
   have hns15_0:=NB101_102.out
   have hms15_0:=NB102_101.out
   refine skip_ (w1:=?_) zz94 rfl ?_ ?_
   rotate_left
   · go_simp
     rfl
   refine hK.out _ _ ?_
   clear hK K
   refine done_ (z2i HT_.out zz90) ?_
   try go_wp2
   go_roundg k1
   case measure=>have:=HK1.out;omega
   case rel=>exact ⟨(wrap64 (x6_1 + 1)),(t108),(t109),zz86,H',⟨by have:=HK1.out;omega⟩,⟨by (with_reducible repeat (first|refine z5 ?_ _|refine z8 ?_|refine z4 ?_ _));refine zZ ?_ NB101_102.out _;(with_reducible repeat (first|refine z5 ?_ _|refine z8 ?_|refine z4 ?_ _));refine zZ ?_ NB101_102.out _;(with_reducible repeat (first|refine z5 ?_ _|refine z8 ?_|refine z4 ?_ _));exact BK101.out⟩,⟨by (with_reducible repeat (first|refine z5 ?_ _|refine z8 ?_|refine z4 ?_ _));refine zX (cs:=#[.int .u64 t108,.int .u64 x103001_1]) ?_ 1 _ rfl;(with_reducible repeat (first|refine z5 ?_ _|refine z8 ?_|refine z4 ?_ _));refine zX (cs:=#[.int .u64 x103000_1,.int .u64 x103001_1]) ?_ 0 _ rfl;(with_reducible repeat (first|refine z5 ?_ _|refine z8 ?_|refine z4 ?_ _));exact BK102.out⟩,⟨by repeat (first|(with_reducible first|exact HB.out|apply zd|apply z2|apply z9|refine za ?_ GE101.out|refine za ?_ GE102.out)|exact HB.out)⟩⟩
end Go.Proofs.Ytkhmpaooinpfoaa.P

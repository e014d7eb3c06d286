/- Own text: merged by wip/tools/pack.py out of what the law RingCounts reaches. -/
import Derived.Test.YtklkmflhnljbdaaMRingCountsb
import Derived.Test.YtklkmflhnljbdaaMRingCountsc
namespace Go.Proofs.Ytklkmflhnljbdaa.P
open Go.RowKit Go.Proofs.YtklkmflhnljbdaaW.PrintWords Go.Proofs.YtklkmflhnljbdaaW.PrintLast Go.Proofs.YtklkmflhnljbdaaW.PrintMore
attribute [local go_sem] z17 z19 z1m z1n zU zV z18 z1a   -- for this text's walks alone
set_option linter.unusedVariables false
set_option linter.unusedSimpArgs false
def z1f.l0 : Nat → List (S37) → List (S37) → List (S37) → Int → Int → Option ((List (S37)) × Int)
 | 0,_,_,_,_,_=>none
 | k + 1,x9,x10,x27,x28,x29=>if x29 < x28 then (if 0 ≤ x29 then (if x29 < (x27.length : Int) then ((z1W.f k x9 ((rd_T37 x27 x29).f0) ((rd_T37 x27 x29).f1)).bind fun bt110=>(if x10.length < 8796093022208 then (z1f.l0 k x9 (x10 ++ [(⟨bt110.1,bt110.2.1⟩ : S37)]) x27 x28 (wrap64 (x29 + 1))) else (none))) else (none)) else (none)) else (some (x10,0))
def z1f.f (k : Nat) (a0 : Int) (l1 : List (S37)) (l2 : List (S37)) : Option ((List (S37)) × Int):=(z13.f k a0 l1 l2).bind fun t101=>(if t101 = 0 then ((zm.f k a0 l2).bind fun t102=>((zm.f k a0 l1).bind fun t105=>(z1f.l0 k t102 ([] : List (S37)) t105 (t105.length : Int) 0))) else (some (([] : List (S37)),t101)))
theorem z1f.z1b : ∀ k,(∀ y0 y1 y2 y3 y4,LeO (z1f.l0 k y0 y1 y2 y3 y4) (z1f.l0 (k + 1) y0 y1 y2 y3 y4))
 | 0=>fun _ _ _ _ _ r h=>by simp [z1f.l0] at h
 | k + 1=>by
  have ih0:=z1f.z1b k
  · intro y0 y1 y2 y3 y4
    unfold z1f.l0
    repeat' first
    | (with_reducible exact ih0 _ _ _ _ _)
    | (with_reducible exact zm.mono _ _ _)
    | (with_reducible exact z13.mono _ _ _ _)
    | (with_reducible exact z1W.mono _ _ _ _)
    | (with_reducible exact LeO.refl _)
    | (with_reducible exact LeO.none _)
    | (with_reducible refine LeO.ite ?_ ?_)
    | (with_reducible refine LeO.bind ?_ (fun _=>?_))
    | exact ih0 _ _ _ _ _
    | exact zm.mono _ _ _
    | exact z13.mono _ _ _ _
    | exact z1W.mono _ _ _ _
    | exact LeO.none _
    | refine LeO.ite ?_ ?_
    | refine LeO.bind ?_ (fun _=>?_)
theorem z1f.mono : ∀ a0 a1 a2 k,LeO (z1f.f k a0 a1 a2) (z1f.f (k + 1) a0 a1 a2):=by
 intro a0 a1 a2 k
 have ih0:=z1f.z1b k
 unfold z1f.f
 repeat' first
  | (with_reducible exact ih0 _ _ _ _ _)
  | (with_reducible exact zm.mono _ _ _)
  | (with_reducible exact z13.mono _ _ _ _)
  | (with_reducible exact z1W.mono _ _ _ _)
  | (with_reducible exact LeO.refl _)
  | (with_reducible exact LeO.none _)
  | (with_reducible refine LeO.ite ?_ ?_)
  | (with_reducible refine LeO.bind ?_ (fun _=>?_))
  | exact ih0 _ _ _ _ _
  | exact zm.mono _ _ _
  | exact z13.mono _ _ _ _
  | exact z1W.mono _ _ _ _
  | exact LeO.none _
  | refine LeO.ite ?_ ?_
  | refine LeO.bind ?_ (fun _=>?_)
set_option maxHeartbeats 8000000 in
set_option maxRecDepth 100000 in
theorem z1f.calls (k : Nat) (a0 : Int) (A1 : Option Addr) (c1 : Nat) (l1 : List (S37)) (A2 : Option Addr) (c2 : Nat) (l2 : List (S37)) (r1 : List (S37)) (r2 : Int) (w : World) (hr1 : Kd.C k37 w A1 l1.length l1) (hc1 : l1.length ≤ c1) (hr2 : Kd.C k37 w A2 l2.length l2) (hc2 : l2.length ≤ c2) (h : z1f.f k a0 l1 l2 = some (r1,r2)) :
 Calls Try.prog 28 #[.int .i64 a0,.slice A1 l1.length c1,.slice A2 l2.length c2] w fun e w'=>∃ v0_ : Value,e = .returned (.tuple #[v0_,.int .i64 r2]) ∧ Kd.R k37 37 w' w.heap.size (fun _=>True) v0_ r1 ∧ Below w.heap.size w w':=by
 have hu37:=Try.underlying37
 have HR1:=z4.mk hr1
 have HC1:=z4.mk hc1
 clear hr1 hc1
 have HR2:=z4.mk hr2
 have HC2:=z4.mk hc2
 clear hr2 hc2
 have HB:=z4.mk (Below.refl w.heap.size w)
 have H : ((z13.f k a0 l1 l2).bind fun t101=>(if t101 = 0 then ((zm.f k a0 l2).bind fun t102=>((zm.f k a0 l1).bind fun t105=>(z1f.l0 k t102 ([] : List (S37)) t105 (t105.length : Int) 0))) else (some (([] : List (S37)),t101)))) = some (r1,r2):=h
 clear h
 replace H:=Option.bind_eq_some_iff.mp H
 obtain ⟨t101,A40,H⟩:=H
 replace H : (if t101 = 0 then ((zm.f k a0 l2).bind fun t102=>((zm.f k a0 l1).bind fun t105=>(z1f.l0 k t102 ([] : List (S37)) t105 (t105.length : Int) 0))) else (some (([] : List (S37)),t101))) = some (r1,r2):=H
 have A4:=z4.mk A40
 clear A40
 by_cases c5 : t101 = 0
 rotate_left
 · rw [if_neg c5] at H
   have c5b0 : (t101 == 0) = false:=beq_eq_false_iff_ne.mpr c5
   have c5b1 : (t101 != 0) = true:=bne_iff_ne.mpr c5
   simp only [Option.some.injEq,Prod.mk.injEq] at H
   obtain ⟨rfl,rfl⟩:=H
   go_enter Try.func28,Try.ntmps28
   go_wp2_with (first|((with_reducible refine zl (f:=68) rfl ?_);refine goesL_ (some 18) rfl rfl Try.func68 zz84 rfl #[.int .i64 a0,.slice A1 l1.length c1,.slice A2 l2.length c2] rfl zz44 ?_;(with_reducible refine (z13.calls k a0 _ _ l1 _ _ l2 t101 _ ?side1 ?side2 ?side3 ?side4 A4.out).mono ?_);(case side1=>repeat (first|exact HR1.out|(with_reducible refine Kd.zQ ?_ _)|(with_reducible refine Kd.zR ?_ _)|(with_reducible refine Kd.z1c ?_)));(case side2=>exact HC1.out);(case side3=>repeat (first|exact HR2.out|(with_reducible refine Kd.zQ ?_ _)|(with_reducible refine Kd.zR ?_ _)|(with_reducible refine Kd.z1c ?_)));(case side4=>exact HC2.out);rintro e w25 ⟨rfl,hb⟩;refine ⟨_,rfl,?_⟩;have n0_:=z4.mk (z9 zz45 hb);clear HB;have HB:=n0_;clear n0_;(try clear hb);(try clear hb2);(try clear hk);(try clear hi)))
   go_ret2
   exact ⟨_,by first|rfl|(simp [zi,zj] <;> rfl)|(simp [*,zi,zj] <;> rfl),by first|exact Kd.z3e _ _ _ _ _|exact Kd.z3N _ _ _ _ _|exact Kd.z3Q _ _ _ _ _|exact Kd.z3O _ _ _ _ _|exact Kd.z3P _ _ _ _ _,by repeat (first|(with_reducible first|exact HB.out|apply zg|apply z6|apply zc)|exact HB.out)⟩
 rw [if_pos c5] at H
 have c5b0 : (t101 == 0) = true:=beq_iff_eq.mpr c5
 have c5b1 : (t101 != 0) = false:=bne_eq_false_iff_eq.mpr c5
 clear c5
 replace H:=Option.bind_eq_some_iff.mp H
 obtain ⟨t102,A60,H⟩:=H
 replace H : ((zm.f k a0 l1).bind fun t105=>(z1f.l0 k t102 ([] : List (S37)) t105 (t105.length : Int) 0)) = some (r1,r2):=H
 have A6:=z4.mk A60
 clear A60
 replace H:=Option.bind_eq_some_iff.mp H
 obtain ⟨t105,A70,H⟩:=H
 replace H : (z1f.l0 k t102 ([] : List (S37)) t105 (t105.length : Int) 0) = some (r1,r2):=H
 have A7:=z4.mk A70
 clear A70
 have H':=z4.mk H
 clear H
 go_enter Try.func28,Try.ntmps28
 go_wp2_with (first|((with_reducible refine zl (f:=68) rfl ?_);refine goesL_ (some 18) rfl rfl Try.func68 zz84 rfl #[.int .i64 a0,.slice A1 l1.length c1,.slice A2 l2.length c2] rfl zz44 ?_;(with_reducible refine (z13.calls k a0 _ _ l1 _ _ l2 t101 _ ?side1 ?side2 ?side3 ?side4 A4.out).mono ?_);(case side1=>repeat (first|exact HR1.out|(with_reducible refine Kd.zQ ?_ _)|(with_reducible refine Kd.zR ?_ _)|(with_reducible refine Kd.z1c ?_)));(case side2=>exact HC1.out);(case side3=>repeat (first|exact HR2.out|(with_reducible refine Kd.zQ ?_ _)|(with_reducible refine Kd.zR ?_ _)|(with_reducible refine Kd.z1c ?_)));(case side4=>exact HC2.out);rintro e w8 ⟨rfl,hb⟩;refine ⟨_,rfl,?_⟩;have n0_:=z4.mk (z9 zz45 hb);clear HB;have HB:=n0_;clear n0_;(try clear hb);(try clear hb2);(try clear hk);(try clear hi))|((with_reducible refine zl (f:=59) rfl ?_);refine goesL_ (some 24) rfl rfl Try.func59 zz84 rfl #[.int .i64 a0,.slice A2 l2.length c2] rfl zz44 ?_;(with_reducible refine (zm.calls k a0 _ _ l2 t102 _ ?side1 ?side2 A6.out).mono ?_);(case side1=>repeat (first|exact (Kd.z1s HR2.out HB.out)|(with_reducible refine Kd.zQ ?_ _)|(with_reducible refine Kd.zR ?_ _)|(with_reducible refine Kd.z1c ?_)));(case side2=>exact HC2.out);rintro e w9 ⟨v103,rfl,ho0,hb⟩;refine ⟨_,rfl,?_⟩;have n0_:=z4.mk (Kd.z1e ho0 (ze zz45));have n1_:=z4.mk (z9 zz45 hb);clear HB;have HO104:=n0_;have HB:=n1_;clear n0_ n1_;(try clear hb);(try clear hb2);(try clear hk);(try clear hi);(try clear ho0))|((with_reducible refine zl (f:=59) rfl ?_);refine goesL_ (some 27) rfl rfl Try.func59 zz84 rfl #[.int .i64 a0,.slice A1 l1.length c1] rfl zz44 ?_;(with_reducible refine (zm.calls k a0 _ _ l1 t105 _ ?side1 ?side2 A7.out).mono ?_);(case side1=>repeat (first|exact (Kd.z1s HR1.out HB.out)|(with_reducible refine Kd.zQ ?_ _)|(with_reducible refine Kd.zR ?_ _)|(with_reducible refine Kd.z1c ?_)));(case side2=>exact HC1.out);rintro e w10 ⟨v106,rfl,ho0,hb⟩;refine ⟨_,rfl,?_⟩;have n0_:=z4.mk (Kd.z1d zz57 (Kd.z1y ho0) hb);have n1_:=z4.mk (Kd.z1e (Kd.z1z ho0 (Kd.R_lt zz57)) (ze zz45));have n2_:=z4.mk (z9 zz45 hb);clear HO104;clear HB;have HO104:=n0_;have HO107:=n1_;have HB:=n2_;clear n0_ n1_ n2_;(try clear hb);(try clear hb2);(try clear hk);(try clear hi);(try clear ho0);obtain ⟨Ao11,co11,eo11⟩:=Kd.z1j HO107.out;subst eo11))
 go_loopg [10,29] k (fun kq v10 v29 w'=>∃ (x10_1 : List (S37)) (x29_1 : Int),v29 = .int .i64 x29_1 ∧ z4 (z1f.l0 kq t102 x10_1 t105 (t105.length : Int) x29_1 = some (r1,r2)) ∧ z4 (kq ≤ k) ∧ z4 (Kd.R k37 37 w' w.heap.size (fun k_=>some k_ ≠ (v10 : Value).ownBlock ∧ some k_ ≠ ((.slice Ao11 t105.length co11) : Value).ownBlock) v103 t102) ∧ z4 (Kd.R k37 37 w' w.heap.size (fun k_=>some k_ ≠ (v103 : Value).ownBlock ∧ some k_ ≠ ((.slice Ao11 t105.length co11) : Value).ownBlock) v10 x10_1) ∧ z4 (Kd.R k37 37 w' w.heap.size (fun k_=>some k_ ≠ (v103 : Value).ownBlock ∧ some k_ ≠ (v10 : Value).ownBlock) (.slice Ao11 t105.length co11) t105) ∧ z4 (Below w.heap.size w w'))
 case atStart=>exact ⟨(([] : List (S37))),(0),zz81,H',⟨Nat.le_refl _⟩,⟨by (with_reducible repeat (first|apply Kd.zH|apply Kd.zI|apply Kd.zS));exact Kd.z12 HO104.out (fun _ hk=>⟨(by simp [Value.ownBlock]),hk.2⟩)⟩,⟨by first|exact Kd.z3e _ _ _ _ _|exact Kd.z3N _ _ _ _ _|exact Kd.z3Q _ _ _ _ _|exact Kd.z3O _ _ _ _ _|exact Kd.z3P _ _ _ _ _⟩,⟨by (with_reducible repeat (first|apply Kd.zH|apply Kd.zI|apply Kd.zS));exact Kd.z12 HO107.out (fun _ hk=>⟨hk.2,(by simp [Value.ownBlock])⟩)⟩,⟨by repeat (first|(with_reducible first|exact HB.out|apply zg|apply z6|apply zc)|exact HB.out)⟩⟩
 case round =>
  clear H'
  (try clear c1);(try clear c2);(try clear p2);(try clear c5);(try clear c5b0);(try clear c5b1);(try clear c6)
  obtain ⟨x10_1,x29_1,rfl,HA,HK1,HO_9,HO_10,HO_27,HB⟩:=hrel
  cases gk with
  | zero=>exact absurd HA.out (by simp [z1f.l0])
  | succ k1 =>
   have H:=HA.out
   clear HA
   simp only [z1f.l0] at H
   by_cases c12 : x29_1 < (t105.length : Int)
   rotate_left
   · rw [if_neg c12] at H
     have c12b0 : decide (x29_1 < (t105.length : Int)) = false:=decide_eq_false c12
     clear c12
     simp only [Option.some.injEq,Prod.mk.injEq] at H
     obtain ⟨rfl,rfl⟩:=H
     go_wp2
     go_ret2
     exact ⟨_,by first|rfl|(simp [zi,zj] <;> rfl)|(simp [*,zi,zj] <;> rfl),by (with_reducible repeat (first|apply Kd.zH|apply Kd.zI|apply Kd.zS));exact Kd.z12 HO_10.out (fun _ hk=>trivial),by repeat (first|(with_reducible first|exact HB.out|apply zg|apply z6|apply zc)|exact HB.out)⟩
   rw [if_pos c12] at H
   have c12b0 : decide (x29_1 < (t105.length : Int)) = true:=decide_eq_true c12
   clear c12
   by_cases c13 : 0 ≤ x29_1
   rotate_left
   · rw [if_neg c13] at H
     exact absurd H zz87
   rw [if_pos c13] at H
   have c13b0 : decide (0 ≤ x29_1) = true:=decide_eq_true c13
   clear c13
   by_cases c14 : x29_1 < (t105.length : Int)
   rotate_left
   · rw [if_neg c14] at H
     exact absurd H zz87
   rw [if_pos c14] at H
   have c14b0 : decide (x29_1 < (t105.length : Int)) = true:=decide_eq_true c14
   clear c14
   replace H:=Option.bind_eq_some_iff.mp H
   obtain ⟨⟨t110,t111,t112⟩,A150,H⟩:=H
   replace H : (if x10_1.length < 8796093022208 then (z1f.l0 k1 t102 (x10_1 ++ [(⟨t110,t111⟩ : S37)]) t105 (t105.length : Int) (wrap64 (x29_1 + 1))) else (none)) = some (r1,r2):=H
   have A15:=z4.mk A150
   clear A150
   by_cases c16 : x10_1.length < 8796093022208
   rotate_left
   · rw [if_neg c16] at H
     exact absurd H zz87
   rw [if_pos c16] at H
   have LMc16:=z4.mk c16
   clear c16
   obtain ⟨y114,hy114⟩ : ∃ y_ : List (S37),y_ = (x10_1 ++ [(⟨t110,t111⟩ : S37)]):=⟨_,rfl⟩
   replace H : (z1f.l0 k1 t102 y114 t105 (t105.length : Int) (wrap64 (x29_1 + 1))) = some (r1,r2):=by first|(rw [hy114];with_reducible exact H)|(have H2_:=(Option.bind_some _ _).symm.trans H;rw [hy114];with_reducible exact H2_)|(have H2_:=(Option.bind_some _ _).symm.trans H;with_reducible exact H2_)|with_reducible exact H|(rw [hy114];exact H)|exact H
   have Ny114:=z4.mk hy114
   clear hy114
   have H':=z4.mk H
   clear H
   have p108 : 0 ≤ (x29_1 : Int):=of_decide_eq_true zz80
   have q108 : x29_1 < (t105.length : Int):=of_decide_eq_true zz80
   obtain ⟨ad108,e108,hx108_0,hx108_1⟩:=z1Y (Kd.zv HO_27.out).2.2 x29_1 p108 q108
   cases e108
   replace p108:=eq_true p108
   replace q108:=eq_true q108
   go_wp2_with (first|((with_reducible refine zr (N:=12) rfl ?_);refine zy ?hg (N:=12) ?hd (cs:=#[.int .u64 0,.int .u64 0]) (t:=37) ?hr ?_;(case hd=>rfl);(case hg=>rfl);(case hr=>first|(go_simp;done)|(go_simp;rfl));intro gb109 hg w17 hbox hb;have n0_:=z4.mk (Kd.zx (Kd.z1r zz67 gb109 (Nat.le_of_eq hg.symm)) hb);have n1_:=z4.mk (Kd.zx (Kd.z1r zz58 gb109 (Nat.le_of_eq hg.symm)) hb);have n2_:=z4.mk (Kd.zx (Kd.z1r zz59 gb109 (Nat.le_of_eq hg.symm)) hb);have n3_:=z4.mk (z9 zz45 hb);have n4_:=z4.mk (hbox);have n5_:=z4.mk ((by rw [hg];exact (ze zz45) : w.heap.size ≤ gb109));have n6_:=z4.mk ((by rw [hg];exact (ze zz45) : w.heap.size ≤ gb109));clear HO_9;clear HO_10;clear HO_27;clear HB;have HO_9:=n0_;have HO_10:=n1_;have HO_27:=n2_;have HB:=n3_;have BK109:=n4_;have GW109:=n5_;have GE109:=n6_;clear n0_ n1_ n2_ n3_ n4_ n5_ n6_;clear hb hbox hg;have hcz18_0 : w17.cell? ⟨gb109,0,none⟩ = some (.int .u64 0):=(zf BK109.out 0).trans rfl;have hcz18_1 : w17.cell? ⟨gb109,1,none⟩ = some (.int .u64 0):=(zf BK109.out 1).trans rfl;have hfz18_0:=za BK109.out 0;have hfz18_1:=za BK109.out 1;obtain ⟨Ao19,co19,eo19⟩:=Kd.z1j HO_9.out;subst eo19)|((with_reducible refine zl (f:=69) rfl ?_);refine goesL_ (some 36) rfl rfl Try.func69 zz84 rfl #[.slice Ao19 t102.length co19,.agg #[.int .u64 ((rd_T37 t105 x29_1).f0),.int .u64 ((rd_T37 t105 x29_1).f1)]] rfl zz44 ?_;(with_reducible refine (z1W.calls k1 _ _ t102 ((rd_T37 t105 x29_1).f0) ((rd_T37 t105 x29_1).f1) t110 t111 t112 _ ?side1 ?side2 A15.out).mono ?_);(case side1=>refine (Kd.zv (e:=37) (base:=w.heap.size) (ok:=fun k_=>((some k_ ≠ (u10 : Value).ownBlock ∧ some k_ ≠ (.slice (some ad108) t105.length co11 : Value).ownBlock) ∧ k_ ≠ gb109)) (n:=t102.length) (c:=co19) ?_).2.2;exact zz15);(case side2=>exact (Kd.zv HO_9.out).2.1);rintro e w20 ⟨rfl,hb⟩;refine ⟨_,rfl,?_⟩;have n0_:=z4.mk (Kd.zx zz15 hb);have n1_:=z4.mk (Kd.zx (by (with_reducible repeat (first|apply Kd.zH|apply Kd.zI|apply Kd.zS));exact (Kd.z12 (Kd.z1O (p:=⟨gb109,1,none⟩) (Kd.z1O (p:=⟨gb109,0,none⟩) (Kd.z12 HO_10.out (fun k_ hk=>(⟨hk,hk.2⟩ : _ ∧ k_ ≠ gb109))) (fun _ hk=>hk.2) (.int .u64 ((rd_T37 t105 x29_1).f0))) (fun _ hk=>hk.2) (.int .u64 ((rd_T37 t105 x29_1).f1))) (fun _ h_=>h_.1))) hb);have n2_:=z4.mk (Kd.zx (by (with_reducible repeat (first|apply Kd.zH|apply Kd.zI|apply Kd.zS));exact (Kd.z12 (Kd.z1O (p:=⟨gb109,1,none⟩) (Kd.z1O (p:=⟨gb109,0,none⟩) (Kd.z12 HO_27.out (fun k_ hk=>(⟨hk,hk.2⟩ : _ ∧ k_ ≠ gb109))) (fun _ hk=>hk.2) (.int .u64 ((rd_T37 t105 x29_1).f0))) (fun _ hk=>hk.2) (.int .u64 ((rd_T37 t105 x29_1).f1))) (fun _ h_=>h_.1))) hb);have n3_:=z4.mk (zh (g:=gb109) (o:=.cells #[.int .u64 ((rd_T37 t105 x29_1).f0),.int .u64 ((rd_T37 t105 x29_1).f1)] 37 (0,0)) (by (with_reducible repeat (first|refine z8 ?_ _|refine zb ?_|refine z7 ?_ _));refine zX (cs:=#[.int .u64 ((rd_T37 t105 x29_1).f0),.int .u64 0]) ?_ 1 _ rfl;(with_reducible repeat (first|refine z8 ?_ _|refine zb ?_|refine z7 ?_ _));refine zX (cs:=#[.int .u64 0,.int .u64 0]) ?_ 0 _ rfl;(with_reducible repeat (first|refine z8 ?_ _|refine zb ?_|refine z7 ?_ _));exact BK109.out) hb);have n4_:=z4.mk (z9 zz41 hb);clear HO_9;clear HO_10;clear HO_27;clear BK109;clear HB;have HO_9:=n0_;have HO_10:=n1_;have HO_27:=n2_;have BK109:=n3_;have HB:=n4_;clear n0_ n1_ n2_ n3_ n4_;(try clear hb);(try clear hb2);(try clear hk);(try clear hi))|((with_reducible refine zr (N:=13) rfl ?_);refine zy ?hg (N:=13) ?hd (cs:=#[.int .u64 0,.int .u64 0]) (t:=37) ?hr ?_;(case hd=>rfl);(case hg=>rfl);(case hr=>first|(go_simp;done)|(go_simp;rfl));intro gb113 hg w21 hbox hb;have n0_:=z4.mk (Kd.zx (Kd.z1r zz67 gb113 (Nat.le_of_eq hg.symm)) hb);have n1_:=z4.mk (Kd.zx (Kd.z1r zz58 gb113 (Nat.le_of_eq hg.symm)) hb);have n2_:=z4.mk (Kd.zx (Kd.z1r zz59 gb113 (Nat.le_of_eq hg.symm)) hb);have n3_:=z4.mk (zh (g:=gb109) (o:=.cells #[.int .u64 ((rd_T37 t105 x29_1).f0),.int .u64 ((rd_T37 t105 x29_1).f1)] 37 (0,0)) zz49 hb);have n4_:=z4.mk (z9 zz41 hb);have n5_:=z4.mk (hbox);have n6_:=z4.mk ((by rw [hg];exact (ze zz41) : w.heap.size ≤ gb113));have n7_:=z4.mk ((by rw [hg];exact (ze zz41) : w.heap.size ≤ gb113));have n8_:=z4.mk ((by rw [hg];exact Nat.ne_of_lt (zO (g:=gb109) (o:=.cells #[.int .u64 ((rd_T37 t105 x29_1).f0),.int .u64 ((rd_T37 t105 x29_1).f1)] 37 (0,0)) zz49) : gb109 ≠ gb113));have n9_:=z4.mk ((by rw [hg];exact Nat.ne_of_gt (zO (g:=gb109) (o:=.cells #[.int .u64 ((rd_T37 t105 x29_1).f0),.int .u64 ((rd_T37 t105 x29_1).f1)] 37 (0,0)) zz49) : gb113 ≠ gb109));clear HO_9;clear HO_10;clear HO_27;clear BK109;clear HB;have HO_9:=n0_;have HO_10:=n1_;have HO_27:=n2_;have BK109:=n3_;have HB:=n4_;have BK113:=n5_;have GW113:=n6_;have GE113:=n7_;have NB109_113:=n8_;have NB113_109:=n9_;clear n0_ n1_ n2_ n3_ n4_ n5_ n6_ n7_ n8_ n9_;clear hb hbox hg;have hnb22:=NB113_109.out;have hnc22:=NB109_113.out;have hcz23_0 : w21.cell? ⟨gb113,0,none⟩ = some (.int .u64 0):=(zf BK113.out 0).trans rfl;have hcz23_1 : w21.cell? ⟨gb113,1,none⟩ = some (.int .u64 0):=(zf BK113.out 1).trans rfl;have hfz23_0:=za BK113.out 0;have hfz23_1:=za BK113.out 1)|((with_reducible refine z2q (b:=.append) (xs:=#[.tmp 39,.tmp 41]) rfl ?_);at_builtin;refine Kd.z3R k37 (w0:=w) w.heap.size rfl (.tmp 39) (.tmp 41) 23 37 (.agg #[(.int .u64 0),(.int .u64 0)]) 16 rfl Try.underlying23 info37 rfl zz85 zz86 u10 x10_1 (⟨t110,t111⟩ : S37) [.int .u64 t110,.int .u64 t111] (fun k_=>some k_ ≠ (.slice Ao19 t102.length co19 : Value).ownBlock ∧ some k_ ≠ (.slice (some ad108) t105.length co11 : Value).ownBlock ∧ k_ ≠ gb109 ∧ k_ ≠ gb113) (fun _=>False) rfl (by first|(go_simp;done)|(go_simp;rfl)) ?aP (fun _ hk=>hk.elim) ?aF ?aO ?aB ?aS ?aL ?_;(case aP=>exact z1K _ _ _ (⟨t110,t111⟩ : S37));(case aB=>exact zz35);(case aF=>exact (fun k_ hk=>⟨Kd.fresh' (Kd.R_lt (by (with_reducible repeat (first|apply Kd.zH|apply Kd.zI|apply Kd.zS));exact (Kd.z12 (Kd.z1O (p:=⟨gb113,1,none⟩) (Kd.z1O (p:=⟨gb113,0,none⟩) (Kd.z12 HO_9.out (fun k_ hk=>(⟨hk,hk.2⟩ : _ ∧ k_ ≠ gb113))) (fun _ hk=>hk.2) (.int .u64 t110)) (fun _ hk=>hk.2) (.int .u64 t111)) (fun _ h_=>h_.1)))) k_ hk,Kd.fresh' (Kd.R_lt (by (with_reducible repeat (first|apply Kd.zH|apply Kd.zI|apply Kd.zS));exact (Kd.z12 (Kd.z1O (p:=⟨gb113,1,none⟩) (Kd.z1O (p:=⟨gb113,0,none⟩) (Kd.z12 HO_27.out (fun k_ hk=>(⟨hk,hk.2⟩ : _ ∧ k_ ≠ gb113))) (fun _ hk=>hk.2) (.int .u64 t110)) (fun _ hk=>hk.2) (.int .u64 t111)) (fun _ h_=>h_.1)))) k_ hk,Kd.freshB (g:=gb109) (o:=.cells #[.int .u64 ((rd_T37 t105 x29_1).f0),.int .u64 ((rd_T37 t105 x29_1).f1)] 37 (0,0)) zz12 k_ hk,Kd.freshB (g:=gb113) (o:=.cells #[.int .u64 t110,.int .u64 t111] 37 (0,0)) zz4 k_ hk⟩));(case aO=>exact (by (with_reducible repeat (first|apply Kd.zH|apply Kd.zI|apply Kd.zS));exact Kd.z12 (Kd.z1O (p:=⟨gb113,1,none⟩) (Kd.z1O (p:=⟨gb113,0,none⟩) (Kd.z12 HO_10.out (fun k_ hk=>(⟨hk,hk.2⟩ : _ ∧ k_ ≠ gb113))) (fun _ hk=>hk.2) (.int .u64 t110)) (fun _ hk=>hk.2) (.int .u64 t111)) (fun _ hk=>⟨hk.1.1.1.1,⟨hk.1.1.1.2,⟨hk.1.1.2,hk.1.2⟩⟩⟩)));(case aS=>exact (ze zz35));(case aL=>have:=LMc16.out;omega);intro v115 w24 ho hb hg hat;rw [← Ny114.out] at ho;have n0_:=z4.mk (Kd.z42 (ok:=(fun k_=>some k_ ≠ (.slice (some ad108) t105.length co11 : Value).ownBlock ∧ k_ ≠ gb109 ∧ k_ ≠ gb113)) (by (with_reducible repeat (first|apply Kd.zH|apply Kd.zI|apply Kd.zS));exact Kd.z12 (Kd.z1O (p:=⟨gb113,1,none⟩) (Kd.z1O (p:=⟨gb113,0,none⟩) (Kd.z12 HO_9.out (fun k_ hk=>(⟨hk,hk.2⟩ : _ ∧ k_ ≠ gb113))) (fun _ hk=>hk.2) (.int .u64 t110)) (fun _ hk=>hk.2) (.int .u64 t111)) (fun _ hk=>⟨⟨hk.1.1.1.2,⟨hk.1.1.2,hk.1.2⟩⟩,hk.1.1.1.1⟩)) hg hat);have n1_:=z4.mk (Kd.z42 (ok:=(fun k_=>some k_ ≠ (.slice Ao19 t102.length co19 : Value).ownBlock ∧ k_ ≠ gb109 ∧ k_ ≠ gb113)) (by (with_reducible repeat (first|apply Kd.zH|apply Kd.zI|apply Kd.zS));exact Kd.z12 (Kd.z1O (p:=⟨gb113,1,none⟩) (Kd.z1O (p:=⟨gb113,0,none⟩) (Kd.z12 HO_27.out (fun k_ hk=>(⟨hk,hk.2⟩ : _ ∧ k_ ≠ gb113))) (fun _ hk=>hk.2) (.int .u64 t110)) (fun _ hk=>hk.2) (.int .u64 t111)) (fun _ hk=>⟨⟨hk.1.1.1.1,⟨hk.1.1.2,hk.1.2⟩⟩,hk.1.1.1.2⟩)) hg hat);have n2_:=z4.mk (z2h (g:=gb109) (o:=.cells #[.int .u64 ((rd_T37 t105 x29_1).f0),.int .u64 ((rd_T37 t105 x29_1).f1)] 37 (0,0)) zz12 hg (Kd.z2H HO_10.out (fun _ hk=>hk.1.2)));have n3_:=z4.mk (z2h (g:=gb113) (o:=.cells #[.int .u64 t110,.int .u64 t111] 37 (0,0)) zz4 hg (Kd.z2H HO_10.out (fun _ hk=>hk.2)));have n4_:=z4.mk (hb);have n5_:=z4.mk (ho);clear HO_9;clear HO_27;clear BK109;clear BK113;clear HB;clear HO_10;have HO_9:=n0_;have HO_27:=n1_;have BK109:=n2_;have BK113:=n3_;have HB:=n4_;have HO116:=n5_;clear n0_ n1_ n2_ n3_ n4_ n5_;clear ho hb hg hat))
   go_roundg k1
   case measure=>have:=HK1.out;omega
   case rel=>exact ⟨(y114),(wrap64 (x29_1 + 1)),zz81,H',⟨by have:=HK1.out;omega⟩,⟨by (with_reducible repeat (first|apply Kd.zH|apply Kd.zI|apply Kd.zS));exact Kd.z12 HO_9.out (fun _ hk=>⟨hk.2,hk.1.1⟩)⟩,⟨by (with_reducible repeat (first|apply Kd.zH|apply Kd.zI|apply Kd.zS));exact Kd.z12 HO116.out (fun _ hk=>⟨hk.1,hk.2.1⟩)⟩,⟨by (with_reducible repeat (first|apply Kd.zH|apply Kd.zI|apply Kd.zS));exact Kd.z12 HO_27.out (fun _ hk=>⟨hk.1.1,hk.2⟩)⟩,⟨by repeat (first|(with_reducible first|exact HB.out|apply zg|apply z6|apply zc|refine zd ?_ GE109.out|refine zd ?_ GE113.out)|exact HB.out)⟩⟩
end Go.Proofs.Ytklkmflhnljbdaa.P
namespace Go.Proofs.Ytklkmflhnljbdaa.P
open Go.RowKit Go.Proofs.YtklkmflhnljbdaaW.PrintWords Go.Proofs.YtklkmflhnljbdaaW.PrintLast Go.Proofs.YtklkmflhnljbdaaW.PrintMore
attribute [local go_sem] z17 z19 z1m z1n zU zV z18 z1a   -- for this text's walks alone
set_option linter.unusedVariables false
set_option linter.unusedSimpArgs false
attribute [local go_sem high] eqA37
def zE.f (k : Nat)  : Option (Bool):=(zq.f k 0 (([true,false] : List Bool)) (([(⟨0,1⟩ : S37)] : List (S37)))).bind fun bt107=>((z1x.f k 0 bt107.1 ([] : List (S37))).bind fun bt111=>((z1f.f k 0 (([(⟨0,1⟩ : S37)] : List (S37))) ([] : List (S37))).bind fun bt118=>(if bt107.2 = 0 then (if bt111.2.2 = 0 then (if bt118.2 = 0 then (if (bt107.1.length : Int) = 1 then (if 0 < (bt107.1.length : Int) then (if (((rd_T37 bt107.1 0).f0) == 0 && (((rd_T37 bt107.1 0).f1) == 0)) = true then (if (bt111.1 == 0 && (bt111.2.1 == 0)) = true then (if (bt118.1.length : Int) = 2 then (if 1 < (bt118.1.length : Int) then (some (((rd_T37 bt118.1 1).f0) == 0 && (((rd_T37 bt118.1 1).f1) == 1))) else (none)) else (some false)) else (some false)) else (some false)) else (none)) else (some false)) else (some false)) else (some false)) else (some false))))
theorem zE.mono : ∀ k,LeO (zE.f k ) (zE.f (k + 1) ):=by
 intro  k
 unfold zE.f
 repeat' first
  | (with_reducible exact z1f.mono _ _ _ _)
  | (with_reducible exact zq.mono _ _ _ _)
  | (with_reducible exact z1x.mono _ _ _ _)
  | (with_reducible exact LeO.refl _)
  | (with_reducible exact LeO.none _)
  | (with_reducible refine LeO.ite ?_ ?_)
  | (with_reducible refine LeO.bind ?_ (fun _=>?_))
  | exact z1f.mono _ _ _ _
  | exact zq.mono _ _ _ _
  | exact z1x.mono _ _ _ _
  | exact LeO.none _
  | refine LeO.ite ?_ ?_
  | refine LeO.bind ?_ (fun _=>?_)
set_option maxHeartbeats 8000000 in
set_option maxRecDepth 100000 in
theorem zE.calls (k : Nat)  (r : Bool) (w : World) (h : zE.f k  = some r) :
 Calls Try.prog 15 #[] w fun e w'=>e = .returned (.bool r) ∧ Below w.heap.size w w':=by
 have hu37:=Try.underlying37
 have HB:=z4.mk (Below.refl w.heap.size w)
 have H : ((zq.f k 0 (([true,false] : List Bool)) (([(⟨0,1⟩ : S37)] : List (S37)))).bind fun bt107=>((z1x.f k 0 bt107.1 ([] : List (S37))).bind fun bt111=>((z1f.f k 0 (([(⟨0,1⟩ : S37)] : List (S37))) ([] : List (S37))).bind fun bt118=>(if bt107.2 = 0 then (if bt111.2.2 = 0 then (if bt118.2 = 0 then (if (bt107.1.length : Int) = 1 then (if 0 < (bt107.1.length : Int) then (if (((rd_T37 bt107.1 0).f0) == 0 && (((rd_T37 bt107.1 0).f1) == 0)) = true then (if (bt111.1 == 0 && (bt111.2.1 == 0)) = true then (if (bt118.1.length : Int) = 2 then (if 1 < (bt118.1.length : Int) then (some (((rd_T37 bt118.1 1).f0) == 0 && (((rd_T37 bt118.1 1).f1) == 1))) else (none)) else (some false)) else (some false)) else (some false)) else (none)) else (some false)) else (some false)) else (some false)) else (some false))))) = some r:=h
 clear h
 obtain ⟨y101,hy101⟩ : ∃ y_ : List Bool,y_ = (([true,false] : List Bool)):=⟨_,rfl⟩
 replace H : ((zq.f k 0 y101 (([(⟨0,1⟩ : S37)] : List (S37)))).bind fun bt107=>((z1x.f k 0 bt107.1 ([] : List (S37))).bind fun bt111=>((z1f.f k 0 (([(⟨0,1⟩ : S37)] : List (S37))) ([] : List (S37))).bind fun bt118=>(if bt107.2 = 0 then (if bt111.2.2 = 0 then (if bt118.2 = 0 then (if (bt107.1.length : Int) = 1 then (if 0 < (bt107.1.length : Int) then (if (((rd_T37 bt107.1 0).f0) == 0 && (((rd_T37 bt107.1 0).f1) == 0)) = true then (if (bt111.1 == 0 && (bt111.2.1 == 0)) = true then (if (bt118.1.length : Int) = 2 then (if 1 < (bt118.1.length : Int) then (some (((rd_T37 bt118.1 1).f0) == 0 && (((rd_T37 bt118.1 1).f1) == 1))) else (none)) else (some false)) else (some false)) else (some false)) else (none)) else (some false)) else (some false)) else (some false)) else (some false))))) = some r:=by first|(rw [hy101];with_reducible exact H)|(have H2_:=(Option.bind_some _ _).symm.trans H;rw [hy101];with_reducible exact H2_)|(have H2_:=(Option.bind_some _ _).symm.trans H;with_reducible exact H2_)|with_reducible exact H|(rw [hy101];exact H)|exact H
 have Ny101:=z4.mk hy101
 clear hy101
 obtain ⟨y104,hy104⟩ : ∃ y_ : List (S37),y_ = (([(⟨0,1⟩ : S37)] : List (S37))):=⟨_,rfl⟩
 replace H : ((zq.f k 0 y101 y104).bind fun bt107=>((z1x.f k 0 bt107.1 ([] : List (S37))).bind fun bt111=>((z1f.f k 0 (([(⟨0,1⟩ : S37)] : List (S37))) ([] : List (S37))).bind fun bt118=>(if bt107.2 = 0 then (if bt111.2.2 = 0 then (if bt118.2 = 0 then (if (bt107.1.length : Int) = 1 then (if 0 < (bt107.1.length : Int) then (if (((rd_T37 bt107.1 0).f0) == 0 && (((rd_T37 bt107.1 0).f1) == 0)) = true then (if (bt111.1 == 0 && (bt111.2.1 == 0)) = true then (if (bt118.1.length : Int) = 2 then (if 1 < (bt118.1.length : Int) then (some (((rd_T37 bt118.1 1).f0) == 0 && (((rd_T37 bt118.1 1).f1) == 1))) else (none)) else (some false)) else (some false)) else (some false)) else (none)) else (some false)) else (some false)) else (some false)) else (some false))))) = some r:=by first|(rw [hy104];with_reducible exact H)|(have H2_:=(Option.bind_some _ _).symm.trans H;rw [hy104];with_reducible exact H2_)|(have H2_:=(Option.bind_some _ _).symm.trans H;with_reducible exact H2_)|with_reducible exact H|(rw [hy104];exact H)|exact H
 have Ny104:=z4.mk hy104
 clear hy104
 replace H:=Option.bind_eq_some_iff.mp H
 obtain ⟨⟨t107,t108⟩,A10,H⟩:=H
 replace H : ((z1x.f k 0 t107 ([] : List (S37))).bind fun bt111=>((z1f.f k 0 (([(⟨0,1⟩ : S37)] : List (S37))) ([] : List (S37))).bind fun bt118=>(if t108 = 0 then (if bt111.2.2 = 0 then (if bt118.2 = 0 then (if (t107.length : Int) = 1 then (if 0 < (t107.length : Int) then (if (((rd_T37 t107 0).f0) == 0 && (((rd_T37 t107 0).f1) == 0)) = true then (if (bt111.1 == 0 && (bt111.2.1 == 0)) = true then (if (bt118.1.length : Int) = 2 then (if 1 < (bt118.1.length : Int) then (some (((rd_T37 bt118.1 1).f0) == 0 && (((rd_T37 bt118.1 1).f1) == 1))) else (none)) else (some false)) else (some false)) else (some false)) else (none)) else (some false)) else (some false)) else (some false)) else (some false)))) = some r:=H
 have A1:=z4.mk A10
 clear A10
 replace H:=Option.bind_eq_some_iff.mp H
 obtain ⟨⟨t111,t112,t113⟩,A20,H⟩:=H
 replace H : ((z1f.f k 0 (([(⟨0,1⟩ : S37)] : List (S37))) ([] : List (S37))).bind fun bt118=>(if t108 = 0 then (if t113 = 0 then (if bt118.2 = 0 then (if (t107.length : Int) = 1 then (if 0 < (t107.length : Int) then (if (((rd_T37 t107 0).f0) == 0 && (((rd_T37 t107 0).f1) == 0)) = true then (if (t111 == 0 && (t112 == 0)) = true then (if (bt118.1.length : Int) = 2 then (if 1 < (bt118.1.length : Int) then (some (((rd_T37 bt118.1 1).f0) == 0 && (((rd_T37 bt118.1 1).f1) == 1))) else (none)) else (some false)) else (some false)) else (some false)) else (none)) else (some false)) else (some false)) else (some false)) else (some false))) = some r:=H
 have A2:=z4.mk A20
 clear A20
 obtain ⟨y115,hy115⟩ : ∃ y_ : List (S37),y_ = (([(⟨0,1⟩ : S37)] : List (S37))):=⟨_,rfl⟩
 replace H : ((z1f.f k 0 y115 ([] : List (S37))).bind fun bt118=>(if t108 = 0 then (if t113 = 0 then (if bt118.2 = 0 then (if (t107.length : Int) = 1 then (if 0 < (t107.length : Int) then (if (((rd_T37 t107 0).f0) == 0 && (((rd_T37 t107 0).f1) == 0)) = true then (if (t111 == 0 && (t112 == 0)) = true then (if (bt118.1.length : Int) = 2 then (if 1 < (bt118.1.length : Int) then (some (((rd_T37 bt118.1 1).f0) == 0 && (((rd_T37 bt118.1 1).f1) == 1))) else (none)) else (some false)) else (some false)) else (some false)) else (none)) else (some false)) else (some false)) else (some false)) else (some false))) = some r:=by first|(rw [hy115];with_reducible exact H)|(have H2_:=(Option.bind_some _ _).symm.trans H;rw [hy115];with_reducible exact H2_)|(have H2_:=(Option.bind_some _ _).symm.trans H;with_reducible exact H2_)|with_reducible exact H|(rw [hy115];exact H)|exact H
 have Ny115:=z4.mk hy115
 clear hy115
 replace H:=Option.bind_eq_some_iff.mp H
 obtain ⟨⟨t118,t119⟩,A30,H⟩:=H
 replace H : (if t108 = 0 then (if t113 = 0 then (if t119 = 0 then (if (t107.length : Int) = 1 then (if 0 < (t107.length : Int) then (if (((rd_T37 t107 0).f0) == 0 && (((rd_T37 t107 0).f1) == 0)) = true then (if (t111 == 0 && (t112 == 0)) = true then (if (t118.length : Int) = 2 then (if 1 < (t118.length : Int) then (some (((rd_T37 t118 1).f0) == 0 && (((rd_T37 t118 1).f1) == 1))) else (none)) else (some false)) else (some false)) else (some false)) else (none)) else (some false)) else (some false)) else (some false)) else (some false)) = some r:=H
 have A3:=z4.mk A30
 clear A30
 by_cases c4 : t108 = 0
 rotate_left
 · rw [if_neg c4] at H
   have c4b0 : (t108 == 0) = false:=beq_eq_false_iff_ne.mpr c4
   have c4b1 : (t108 != 0) = true:=bne_iff_ne.mpr c4
   obtain rfl:=Option.some.inj H
   go_enter Try.func15,Try.ntmps15
   go_wp2_with (first|((with_reducible refine zr (N:=8) rfl ?_);(try (refine zZ zz88 ?_;dsimp only));refine Kd.z2b Kd.bool _ 4 ?hg (N:=8) ?hd (xs:=([true,false] : List Bool)) (inner:=[.bool true,.bool false]) (ok:=fun _=>True) (okp:=fun _=>True) ?hr ?hp (fun _ hk=>hk) trivial (Below.refl _ _) (Nat.le_refl _) zz87 ?_;(case hd=>rfl);(case hg=>rfl);(case hr=>first|(go_simp;done)|(go_simp;rfl));(case hp=>exact (Reps.one (show Kd.M Kd.bool _ _ _ true [.bool true] from rfl) (Reps.one (show Kd.M Kd.bool _ _ _ false [.bool false] from rfl) (Reps.none _ _))));intro v102 w123 ho124 hb hg_ hnew_;clear hg_ hnew_;(first|rw [← Ny101.out] at ho124|(simp only [Int.reduceToNat] at ho124;rw [← Ny101.out] at ho124));have n0_:=z4.mk (Kd.z1e ho124 (ze zz45));have n1_:=z4.mk (z9 zz45 hb);clear HB;have HO103:=n0_;have HB:=n1_;clear n0_ n1_;clear hb ho124)|((with_reducible refine zr (N:=10) rfl ?_);(try (refine zZ zz88 ?_;dsimp only));refine Kd.z2b k37 _ 37 ?hg (N:=10) ?hd (xs:=([(⟨0,1⟩ : S37)] : List (S37))) (inner:=[.int .u64 0,.int .u64 1]) (ok:=fun _=>True) (okp:=fun _=>True) ?hr ?hp (fun _ hk=>hk) trivial (Below.refl _ _) (Nat.le_refl _) zz87 ?_;(case hd=>rfl);(case hg=>rfl);(case hr=>first|(go_simp;done)|(go_simp;rfl));(case hp=>exact (Reps.c2 (show Kd.M k37 _ _ _ (⟨0,1⟩ : S37) [.int .u64 0,.int .u64 1] from (z1K _ _ _ (⟨0,1⟩ : S37) )) (Reps.none _ _)));intro v105 w125 ho126 hb hg_ hnew_;clear hg_ hnew_;(first|rw [← Ny104.out] at ho126|(simp only [Int.reduceToNat] at ho126;rw [← Ny104.out] at ho126));have n0_:=z4.mk (Kd.zx zz60 hb);have n1_:=z4.mk (Kd.z1e ho126 (ze zz45));have n2_:=z4.mk (z9 zz45 hb);clear HO103;clear HB;have HO103:=n0_;have HO106:=n1_;have HB:=n2_;clear n0_ n1_ n2_;clear hb ho126;obtain ⟨Ao127,co127,eo127⟩:=Kd.z1j HO103.out;subst eo127;obtain ⟨Ao128,co128,eo128⟩:=Kd.z1j HO106.out;subst eo128)|((with_reducible refine zl (f:=16) rfl ?_);refine goesL_ (some 11) rfl rfl Try.func16 zz84 rfl #[.int .i64 0,.slice Ao127 y101.length co127,.slice Ao128 y104.length co128] rfl zz44 ?_;(with_reducible refine (zq.calls k 0 _ _ y101 _ _ y104 t107 t108 _ ?side1 ?side2 ?side3 ?side4 A1.out).mono ?_);(case side1=>repeat (first|exact (Kd.zv HO103.out).2.2|(with_reducible refine Kd.zQ ?_ _)|(with_reducible refine Kd.zR ?_ _)|(with_reducible refine Kd.z1c ?_)));(case side2=>exact (Kd.zv HO103.out).2.1);(case side3=>repeat (first|exact (Kd.zv HO106.out).2.2|(with_reducible refine Kd.zQ ?_ _)|(with_reducible refine Kd.zR ?_ _)|(with_reducible refine Kd.z1c ?_)));(case side4=>exact (Kd.zv HO106.out).2.1);rintro e w129 ⟨v109,rfl,ho0,hb⟩;refine ⟨_,rfl,?_⟩;have n0_:=z4.mk (Kd.zx zz60 hb);have n1_:=z4.mk (Kd.z1d zz55 (Kd.z1y ho0) hb);have n2_:=z4.mk (Kd.z1e (Kd.z1z ho0 (Kd.R_lt zz55)) (ze zz45));have n3_:=z4.mk (z9 zz45 hb);clear HO103;clear HO106;clear HB;have HO103:=n0_;have HO106:=n1_;have HO110:=n2_;have HB:=n3_;clear n0_ n1_ n2_ n3_;(try clear hb);(try clear hb2);(try clear hk);(try clear hi);(try clear ho0);obtain ⟨Ao130,co130,eo130⟩:=Kd.z1j HO110.out;subst eo130)|((with_reducible refine zl (f:=25) rfl ?_);refine goesL_ (some 16) rfl rfl Try.func25 zz84 rfl #[.int .i64 0,.slice Ao130 t107.length co130,.slice none 0 0] rfl zz44 ?_;(refine (z1x.calls k 0 _ _ t107 _ _ ([] : List (S37)) t111 t112 t113 _ ?side1 ?side2 ?side3 ?side4 A2.out).mono ?_);(case side1=>repeat (first|exact (Kd.zv HO110.out).2.2|(with_reducible refine Kd.zQ ?_ _)|(with_reducible refine Kd.zR ?_ _)|(with_reducible refine Kd.z1c ?_)));(case side2=>exact (Kd.zv HO110.out).2.1);(case side3=>exact Kd.z2W _ _);(case side4=>exact Nat.le_refl _);rintro e w131 ⟨rfl,hb⟩;refine ⟨_,rfl,?_⟩;have n0_:=z4.mk (Kd.zx zz60 hb);have n1_:=z4.mk (Kd.zx zz55 hb);have n2_:=z4.mk (Kd.zx zz61 hb);have n3_:=z4.mk (z9 zz45 hb);clear HO103;clear HO106;clear HO110;clear HB;have HO103:=n0_;have HO106:=n1_;have HO110:=n2_;have HB:=n3_;clear n0_ n1_ n2_ n3_;(try clear hb);(try clear hb2);(try clear hk);(try clear hi))|((with_reducible refine zr (N:=3) rfl ?_);(try (refine zZ zz88 ?_;dsimp only));refine zy ?hg (N:=3) ?hd (cs:=#[.int .u64 0,.int .u64 0]) (t:=37) ?hr ?_;(case hd=>rfl);(case hg=>rfl);(case hr=>first|(go_simp;done)|(go_simp;rfl));intro gb114 hg w132 hbox hb;have n0_:=z4.mk (Kd.zx zz60 hb);have n1_:=z4.mk (Kd.zx (Kd.z1r zz55 gb114 (Nat.le_of_eq hg.symm)) hb);have n2_:=z4.mk (Kd.zx (Kd.z1r zz61 gb114 (Nat.le_of_eq hg.symm)) hb);have n3_:=z4.mk (z9 zz45 hb);have n4_:=z4.mk (hbox);have n5_:=z4.mk ((by rw [hg];exact (ze zz45) : w.heap.size ≤ gb114));have n6_:=z4.mk ((by rw [hg];exact (ze zz45) : w.heap.size ≤ gb114));clear HO103;clear HO106;clear HO110;clear HB;have HO103:=n0_;have HO106:=n1_;have HO110:=n2_;have HB:=n3_;have BK114:=n4_;have GW114:=n5_;have GE114:=n6_;clear n0_ n1_ n2_ n3_ n4_ n5_ n6_;clear hb hbox hg;have hcz133_0 : w132.cell? ⟨gb114,0,none⟩ = some (.int .u64 0):=(zf BK114.out 0).trans rfl;have hcz133_1 : w132.cell? ⟨gb114,1,none⟩ = some (.int .u64 0):=(zf BK114.out 1).trans rfl;have hfz133_0:=za BK114.out 0;have hfz133_1:=za BK114.out 1)|((with_reducible refine zr (N:=21) rfl ?_);(try (refine zZ zz88 ?_;dsimp only));refine Kd.z2b k37 _ 37 ?hg (N:=21) ?hd (xs:=([(⟨0,1⟩ : S37)] : List (S37))) (inner:=[.int .u64 0,.int .u64 1]) (ok:=fun _=>True) (okp:=fun _=>True) ?hr ?hp (fun _ hk=>hk) trivial (Below.refl _ _) (Nat.le_refl _) zz87 ?_;(case hd=>rfl);(case hg=>rfl);(case hr=>first|(go_simp;done)|(go_simp;rfl));(case hp=>exact (Reps.c2 (show Kd.M k37 _ _ _ (⟨0,1⟩ : S37) [.int .u64 0,.int .u64 1] from (z1K _ _ _ (⟨0,1⟩ : S37) )) (Reps.none _ _)));intro v116 w134 ho135 hb hg_ hnew_;clear hg_ hnew_;(first|rw [← Ny115.out] at ho135|(simp only [Int.reduceToNat] at ho135;rw [← Ny115.out] at ho135));have n0_:=z4.mk (Kd.zx zz22 hb);have n1_:=z4.mk (Kd.z1d zz18 (Kd.z1y ho135) hb);have n2_:=z4.mk (Kd.z1d zz19 (Kd.z1y ho135) hb);have n3_:=z4.mk (Kd.z1e (Kd.z2c (Kd.z1z (Kd.z1z ho135 (Kd.R_lt zz18)) (Kd.R_lt zz19)) (g:=gb114) (o:=.cells #[.int .u64 t111,.int .u64 t112] 37 (0,0)) zz5) (ze zz42));have n4_:=z4.mk (zh (g:=gb114) (o:=.cells #[.int .u64 t111,.int .u64 t112] 37 (0,0)) zz5 hb);have n5_:=z4.mk (z9 zz42 hb);clear HO103;clear HO106;clear HO110;clear BK114;clear HB;have HO103:=n0_;have HO106:=n1_;have HO110:=n2_;have HO117:=n3_;have BK114:=n4_;have HB:=n5_;clear n0_ n1_ n2_ n3_ n4_ n5_;clear hb ho135;obtain ⟨Ao136,co136,eo136⟩:=Kd.z1j HO117.out;subst eo136)|((with_reducible refine zl (f:=28) rfl ?_);refine goesL_ (some 22) rfl rfl Try.func28 zz84 rfl #[.int .i64 0,.slice Ao136 y115.length co136,.slice none 0 0] rfl zz44 ?_;(refine (z1f.calls k 0 _ _ y115 _ _ ([] : List (S37)) t118 t119 _ ?side1 ?side2 ?side3 ?side4 A3.out).mono ?_);(case side1=>repeat (first|exact (Kd.zv HO117.out).2.2|(with_reducible refine Kd.zQ ?_ _)|(with_reducible refine Kd.zR ?_ _)|(with_reducible refine Kd.z1c ?_)));(case side2=>exact (Kd.zv HO117.out).2.1);(case side3=>exact Kd.z2W _ _);(case side4=>exact Nat.le_refl _);rintro e w137 ⟨v120,rfl,ho0,hb⟩;refine ⟨_,rfl,?_⟩;have n0_:=z4.mk (Kd.zx zz60 hb);have n1_:=z4.mk (Kd.z1d zz55 (Kd.z1y ho0) hb);have n2_:=z4.mk (Kd.z1d zz61 (Kd.z1y ho0) hb);have n3_:=z4.mk (Kd.z1d zz62 (Kd.z1y ho0) hb);have n4_:=z4.mk (Kd.z1e (Kd.z2c (Kd.z1z (Kd.z1z (Kd.z1z ho0 (Kd.R_lt zz55)) (Kd.R_lt zz61)) (Kd.R_lt zz62)) (g:=gb114) (o:=.cells #[.int .u64 t111,.int .u64 t112] 37 (0,0)) zz50) (ze zz42));have n5_:=z4.mk (zh (g:=gb114) (o:=.cells #[.int .u64 t111,.int .u64 t112] 37 (0,0)) zz50 hb);have n6_:=z4.mk (z9 zz42 hb);clear HO103;clear HO106;clear HO110;clear HO117;clear BK114;clear HB;have HO103:=n0_;have HO106:=n1_;have HO110:=n2_;have HO117:=n3_;have HO121:=n4_;have BK114:=n5_;have HB:=n6_;clear n0_ n1_ n2_ n3_ n4_ n5_ n6_;(try clear hb);(try clear hb2);(try clear hk);(try clear hi);(try clear ho0)))
   go_ret
   exact ⟨by first|rfl|(simp [zi,zj] <;> rfl)|(simp [*,zi,zj] <;> rfl),by repeat (first|(with_reducible first|exact HB.out|apply zg|apply z6|apply zc|refine zd ?_ GE114.out)|exact HB.out)⟩
 rw [if_pos c4] at H
 have c4b0 : (t108 == 0) = true:=beq_iff_eq.mpr c4
 have c4b1 : (t108 != 0) = false:=bne_eq_false_iff_eq.mpr c4
 clear c4
 by_cases c5 : t113 = 0
 rotate_left
 · rw [if_neg c5] at H
   have c5b0 : (t113 == 0) = false:=beq_eq_false_iff_ne.mpr c5
   have c5b1 : (t113 != 0) = true:=bne_iff_ne.mpr c5
   obtain rfl:=Option.some.inj H
   go_enter Try.func15,Try.ntmps15
   go_wp2_with (first|((with_reducible refine zr (N:=8) rfl ?_);(try (refine zZ zz88 ?_;dsimp only));refine Kd.z2b Kd.bool _ 4 ?hg (N:=8) ?hd (xs:=([true,false] : List Bool)) (inner:=[.bool true,.bool false]) (ok:=fun _=>True) (okp:=fun _=>True) ?hr ?hp (fun _ hk=>hk) trivial (Below.refl _ _) (Nat.le_refl _) zz87 ?_;(case hd=>rfl);(case hg=>rfl);(case hr=>first|(go_simp;done)|(go_simp;rfl));(case hp=>exact (Reps.one (show Kd.M Kd.bool _ _ _ true [.bool true] from rfl) (Reps.one (show Kd.M Kd.bool _ _ _ false [.bool false] from rfl) (Reps.none _ _))));intro v102 w108 ho109 hb hg_ hnew_;clear hg_ hnew_;(first|rw [← Ny101.out] at ho109|(simp only [Int.reduceToNat] at ho109;rw [← Ny101.out] at ho109));have n0_:=z4.mk (Kd.z1e ho109 (ze zz45));have n1_:=z4.mk (z9 zz45 hb);clear HB;have HO103:=n0_;have HB:=n1_;clear n0_ n1_;clear hb ho109)|((with_reducible refine zr (N:=10) rfl ?_);(try (refine zZ zz88 ?_;dsimp only));refine Kd.z2b k37 _ 37 ?hg (N:=10) ?hd (xs:=([(⟨0,1⟩ : S37)] : List (S37))) (inner:=[.int .u64 0,.int .u64 1]) (ok:=fun _=>True) (okp:=fun _=>True) ?hr ?hp (fun _ hk=>hk) trivial (Below.refl _ _) (Nat.le_refl _) zz87 ?_;(case hd=>rfl);(case hg=>rfl);(case hr=>first|(go_simp;done)|(go_simp;rfl));(case hp=>exact (Reps.c2 (show Kd.M k37 _ _ _ (⟨0,1⟩ : S37) [.int .u64 0,.int .u64 1] from (z1K _ _ _ (⟨0,1⟩ : S37) )) (Reps.none _ _)));intro v105 w110 ho111 hb hg_ hnew_;clear hg_ hnew_;(first|rw [← Ny104.out] at ho111|(simp only [Int.reduceToNat] at ho111;rw [← Ny104.out] at ho111));have n0_:=z4.mk (Kd.zx zz60 hb);have n1_:=z4.mk (Kd.z1e ho111 (ze zz45));have n2_:=z4.mk (z9 zz45 hb);clear HO103;clear HB;have HO103:=n0_;have HO106:=n1_;have HB:=n2_;clear n0_ n1_ n2_;clear hb ho111;obtain ⟨Ao112,co112,eo112⟩:=Kd.z1j HO103.out;subst eo112;obtain ⟨Ao113,co113,eo113⟩:=Kd.z1j HO106.out;subst eo113)|((with_reducible refine zl (f:=16) rfl ?_);refine goesL_ (some 11) rfl rfl Try.func16 zz84 rfl #[.int .i64 0,.slice Ao112 y101.length co112,.slice Ao113 y104.length co113] rfl zz44 ?_;(with_reducible refine (zq.calls k 0 _ _ y101 _ _ y104 t107 t108 _ ?side1 ?side2 ?side3 ?side4 A1.out).mono ?_);(case side1=>repeat (first|exact (Kd.zv HO103.out).2.2|(with_reducible refine Kd.zQ ?_ _)|(with_reducible refine Kd.zR ?_ _)|(with_reducible refine Kd.z1c ?_)));(case side2=>exact (Kd.zv HO103.out).2.1);(case side3=>repeat (first|exact (Kd.zv HO106.out).2.2|(with_reducible refine Kd.zQ ?_ _)|(with_reducible refine Kd.zR ?_ _)|(with_reducible refine Kd.z1c ?_)));(case side4=>exact (Kd.zv HO106.out).2.1);rintro e w114 ⟨v109,rfl,ho0,hb⟩;refine ⟨_,rfl,?_⟩;have n0_:=z4.mk (Kd.zx zz60 hb);have n1_:=z4.mk (Kd.z1d zz55 (Kd.z1y ho0) hb);have n2_:=z4.mk (Kd.z1e (Kd.z1z ho0 (Kd.R_lt zz55)) (ze zz45));have n3_:=z4.mk (z9 zz45 hb);clear HO103;clear HO106;clear HB;have HO103:=n0_;have HO106:=n1_;have HO110:=n2_;have HB:=n3_;clear n0_ n1_ n2_ n3_;(try clear hb);(try clear hb2);(try clear hk);(try clear hi);(try clear ho0);obtain ⟨Ao115,co115,eo115⟩:=Kd.z1j HO110.out;subst eo115)|((with_reducible refine zl (f:=25) rfl ?_);refine goesL_ (some 16) rfl rfl Try.func25 zz84 rfl #[.int .i64 0,.slice Ao115 t107.length co115,.slice none 0 0] rfl zz44 ?_;(refine (z1x.calls k 0 _ _ t107 _ _ ([] : List (S37)) t111 t112 t113 _ ?side1 ?side2 ?side3 ?side4 A2.out).mono ?_);(case side1=>repeat (first|exact (Kd.zv HO110.out).2.2|(with_reducible refine Kd.zQ ?_ _)|(with_reducible refine Kd.zR ?_ _)|(with_reducible refine Kd.z1c ?_)));(case side2=>exact (Kd.zv HO110.out).2.1);(case side3=>exact Kd.z2W _ _);(case side4=>exact Nat.le_refl _);rintro e w116 ⟨rfl,hb⟩;refine ⟨_,rfl,?_⟩;have n0_:=z4.mk (Kd.zx zz60 hb);have n1_:=z4.mk (Kd.zx zz55 hb);have n2_:=z4.mk (Kd.zx zz61 hb);have n3_:=z4.mk (z9 zz45 hb);clear HO103;clear HO106;clear HO110;clear HB;have HO103:=n0_;have HO106:=n1_;have HO110:=n2_;have HB:=n3_;clear n0_ n1_ n2_ n3_;(try clear hb);(try clear hb2);(try clear hk);(try clear hi))|((with_reducible refine zr (N:=3) rfl ?_);(try (refine zZ zz88 ?_;dsimp only));refine zy ?hg (N:=3) ?hd (cs:=#[.int .u64 0,.int .u64 0]) (t:=37) ?hr ?_;(case hd=>rfl);(case hg=>rfl);(case hr=>first|(go_simp;done)|(go_simp;rfl));intro gb114 hg w117 hbox hb;have n0_:=z4.mk (Kd.zx zz60 hb);have n1_:=z4.mk (Kd.zx (Kd.z1r zz55 gb114 (Nat.le_of_eq hg.symm)) hb);have n2_:=z4.mk (Kd.zx (Kd.z1r zz61 gb114 (Nat.le_of_eq hg.symm)) hb);have n3_:=z4.mk (z9 zz45 hb);have n4_:=z4.mk (hbox);have n5_:=z4.mk ((by rw [hg];exact (ze zz45) : w.heap.size ≤ gb114));have n6_:=z4.mk ((by rw [hg];exact (ze zz45) : w.heap.size ≤ gb114));clear HO103;clear HO106;clear HO110;clear HB;have HO103:=n0_;have HO106:=n1_;have HO110:=n2_;have HB:=n3_;have BK114:=n4_;have GW114:=n5_;have GE114:=n6_;clear n0_ n1_ n2_ n3_ n4_ n5_ n6_;clear hb hbox hg;have hcz118_0 : w117.cell? ⟨gb114,0,none⟩ = some (.int .u64 0):=(zf BK114.out 0).trans rfl;have hcz118_1 : w117.cell? ⟨gb114,1,none⟩ = some (.int .u64 0):=(zf BK114.out 1).trans rfl;have hfz118_0:=za BK114.out 0;have hfz118_1:=za BK114.out 1)|((with_reducible refine zr (N:=21) rfl ?_);(try (refine zZ zz88 ?_;dsimp only));refine Kd.z2b k37 _ 37 ?hg (N:=21) ?hd (xs:=([(⟨0,1⟩ : S37)] : List (S37))) (inner:=[.int .u64 0,.int .u64 1]) (ok:=fun _=>True) (okp:=fun _=>True) ?hr ?hp (fun _ hk=>hk) trivial (Below.refl _ _) (Nat.le_refl _) zz87 ?_;(case hd=>rfl);(case hg=>rfl);(case hr=>first|(go_simp;done)|(go_simp;rfl));(case hp=>exact (Reps.c2 (show Kd.M k37 _ _ _ (⟨0,1⟩ : S37) [.int .u64 0,.int .u64 1] from (z1K _ _ _ (⟨0,1⟩ : S37) )) (Reps.none _ _)));intro v116 w119 ho120 hb hg_ hnew_;clear hg_ hnew_;(first|rw [← Ny115.out] at ho120|(simp only [Int.reduceToNat] at ho120;rw [← Ny115.out] at ho120));have n0_:=z4.mk (Kd.zx zz22 hb);have n1_:=z4.mk (Kd.z1d zz18 (Kd.z1y ho120) hb);have n2_:=z4.mk (Kd.z1d zz19 (Kd.z1y ho120) hb);have n3_:=z4.mk (Kd.z1e (Kd.z2c (Kd.z1z (Kd.z1z ho120 (Kd.R_lt zz18)) (Kd.R_lt zz19)) (g:=gb114) (o:=.cells #[.int .u64 t111,.int .u64 t112] 37 (0,0)) zz5) (ze zz42));have n4_:=z4.mk (zh (g:=gb114) (o:=.cells #[.int .u64 t111,.int .u64 t112] 37 (0,0)) zz5 hb);have n5_:=z4.mk (z9 zz42 hb);clear HO103;clear HO106;clear HO110;clear BK114;clear HB;have HO103:=n0_;have HO106:=n1_;have HO110:=n2_;have HO117:=n3_;have BK114:=n4_;have HB:=n5_;clear n0_ n1_ n2_ n3_ n4_ n5_;clear hb ho120;obtain ⟨Ao121,co121,eo121⟩:=Kd.z1j HO117.out;subst eo121)|((with_reducible refine zl (f:=28) rfl ?_);refine goesL_ (some 22) rfl rfl Try.func28 zz84 rfl #[.int .i64 0,.slice Ao121 y115.length co121,.slice none 0 0] rfl zz44 ?_;(refine (z1f.calls k 0 _ _ y115 _ _ ([] : List (S37)) t118 t119 _ ?side1 ?side2 ?side3 ?side4 A3.out).mono ?_);(case side1=>repeat (first|exact (Kd.zv HO117.out).2.2|(with_reducible refine Kd.zQ ?_ _)|(with_reducible refine Kd.zR ?_ _)|(with_reducible refine Kd.z1c ?_)));(case side2=>exact (Kd.zv HO117.out).2.1);(case side3=>exact Kd.z2W _ _);(case side4=>exact Nat.le_refl _);rintro e w122 ⟨v120,rfl,ho0,hb⟩;refine ⟨_,rfl,?_⟩;have n0_:=z4.mk (Kd.zx zz60 hb);have n1_:=z4.mk (Kd.z1d zz55 (Kd.z1y ho0) hb);have n2_:=z4.mk (Kd.z1d zz61 (Kd.z1y ho0) hb);have n3_:=z4.mk (Kd.z1d zz62 (Kd.z1y ho0) hb);have n4_:=z4.mk (Kd.z1e (Kd.z2c (Kd.z1z (Kd.z1z (Kd.z1z ho0 (Kd.R_lt zz55)) (Kd.R_lt zz61)) (Kd.R_lt zz62)) (g:=gb114) (o:=.cells #[.int .u64 t111,.int .u64 t112] 37 (0,0)) zz50) (ze zz42));have n5_:=z4.mk (zh (g:=gb114) (o:=.cells #[.int .u64 t111,.int .u64 t112] 37 (0,0)) zz50 hb);have n6_:=z4.mk (z9 zz42 hb);clear HO103;clear HO106;clear HO110;clear HO117;clear BK114;clear HB;have HO103:=n0_;have HO106:=n1_;have HO110:=n2_;have HO117:=n3_;have HO121:=n4_;have BK114:=n5_;have HB:=n6_;clear n0_ n1_ n2_ n3_ n4_ n5_ n6_;(try clear hb);(try clear hb2);(try clear hk);(try clear hi);(try clear ho0)))
   go_ret
   exact ⟨by first|rfl|(simp [zi,zj] <;> rfl)|(simp [*,zi,zj] <;> rfl),by repeat (first|(with_reducible first|exact HB.out|apply zg|apply z6|apply zc|refine zd ?_ GE114.out)|exact HB.out)⟩
 rw [if_pos c5] at H
 have c5b0 : (t113 == 0) = true:=beq_iff_eq.mpr c5
 have c5b1 : (t113 != 0) = false:=bne_eq_false_iff_eq.mpr c5
 clear c5
 by_cases c6 : t119 = 0
 rotate_left
 · rw [if_neg c6] at H
   have c6b0 : (t119 == 0) = false:=beq_eq_false_iff_ne.mpr c6
   have c6b1 : (t119 != 0) = true:=bne_iff_ne.mpr c6
   obtain rfl:=Option.some.inj H
   go_enter Try.func15,Try.ntmps15
   go_wp2_with (first|((with_reducible refine zr (N:=8) rfl ?_);(try (refine zZ zz88 ?_;dsimp only));refine Kd.z2b Kd.bool _ 4 ?hg (N:=8) ?hd (xs:=([true,false] : List Bool)) (inner:=[.bool true,.bool false]) (ok:=fun _=>True) (okp:=fun _=>True) ?hr ?hp (fun _ hk=>hk) trivial (Below.refl _ _) (Nat.le_refl _) zz87 ?_;(case hd=>rfl);(case hg=>rfl);(case hr=>first|(go_simp;done)|(go_simp;rfl));(case hp=>exact (Reps.one (show Kd.M Kd.bool _ _ _ true [.bool true] from rfl) (Reps.one (show Kd.M Kd.bool _ _ _ false [.bool false] from rfl) (Reps.none _ _))));intro v102 w93 ho94 hb hg_ hnew_;clear hg_ hnew_;(first|rw [← Ny101.out] at ho94|(simp only [Int.reduceToNat] at ho94;rw [← Ny101.out] at ho94));have n0_:=z4.mk (Kd.z1e ho94 (ze zz45));have n1_:=z4.mk (z9 zz45 hb);clear HB;have HO103:=n0_;have HB:=n1_;clear n0_ n1_;clear hb ho94)|((with_reducible refine zr (N:=10) rfl ?_);(try (refine zZ zz88 ?_;dsimp only));refine Kd.z2b k37 _ 37 ?hg (N:=10) ?hd (xs:=([(⟨0,1⟩ : S37)] : List (S37))) (inner:=[.int .u64 0,.int .u64 1]) (ok:=fun _=>True) (okp:=fun _=>True) ?hr ?hp (fun _ hk=>hk) trivial (Below.refl _ _) (Nat.le_refl _) zz87 ?_;(case hd=>rfl);(case hg=>rfl);(case hr=>first|(go_simp;done)|(go_simp;rfl));(case hp=>exact (Reps.c2 (show Kd.M k37 _ _ _ (⟨0,1⟩ : S37) [.int .u64 0,.int .u64 1] from (z1K _ _ _ (⟨0,1⟩ : S37) )) (Reps.none _ _)));intro v105 w95 ho96 hb hg_ hnew_;clear hg_ hnew_;(first|rw [← Ny104.out] at ho96|(simp only [Int.reduceToNat] at ho96;rw [← Ny104.out] at ho96));have n0_:=z4.mk (Kd.zx zz60 hb);have n1_:=z4.mk (Kd.z1e ho96 (ze zz45));have n2_:=z4.mk (z9 zz45 hb);clear HO103;clear HB;have HO103:=n0_;have HO106:=n1_;have HB:=n2_;clear n0_ n1_ n2_;clear hb ho96;obtain ⟨Ao97,co97,eo97⟩:=Kd.z1j HO103.out;subst eo97;obtain ⟨Ao98,co98,eo98⟩:=Kd.z1j HO106.out;subst eo98)|((with_reducible refine zl (f:=16) rfl ?_);refine goesL_ (some 11) rfl rfl Try.func16 zz84 rfl #[.int .i64 0,.slice Ao97 y101.length co97,.slice Ao98 y104.length co98] rfl zz44 ?_;(with_reducible refine (zq.calls k 0 _ _ y101 _ _ y104 t107 t108 _ ?side1 ?side2 ?side3 ?side4 A1.out).mono ?_);(case side1=>repeat (first|exact (Kd.zv HO103.out).2.2|(with_reducible refine Kd.zQ ?_ _)|(with_reducible refine Kd.zR ?_ _)|(with_reducible refine Kd.z1c ?_)));(case side2=>exact (Kd.zv HO103.out).2.1);(case side3=>repeat (first|exact (Kd.zv HO106.out).2.2|(with_reducible refine Kd.zQ ?_ _)|(with_reducible refine Kd.zR ?_ _)|(with_reducible refine Kd.z1c ?_)));(case side4=>exact (Kd.zv HO106.out).2.1);rintro e w99 ⟨v109,rfl,ho0,hb⟩;refine ⟨_,rfl,?_⟩;have n0_:=z4.mk (Kd.zx zz60 hb);have n1_:=z4.mk (Kd.z1d zz55 (Kd.z1y ho0) hb);have n2_:=z4.mk (Kd.z1e (Kd.z1z ho0 (Kd.R_lt zz55)) (ze zz45));have n3_:=z4.mk (z9 zz45 hb);clear HO103;clear HO106;clear HB;have HO103:=n0_;have HO106:=n1_;have HO110:=n2_;have HB:=n3_;clear n0_ n1_ n2_ n3_;(try clear hb);(try clear hb2);(try clear hk);(try clear hi);(try clear ho0);obtain ⟨Ao100,co100,eo100⟩:=Kd.z1j HO110.out;subst eo100)|((with_reducible refine zl (f:=25) rfl ?_);refine goesL_ (some 16) rfl rfl Try.func25 zz84 rfl #[.int .i64 0,.slice Ao100 t107.length co100,.slice none 0 0] rfl zz44 ?_;(refine (z1x.calls k 0 _ _ t107 _ _ ([] : List (S37)) t111 t112 t113 _ ?side1 ?side2 ?side3 ?side4 A2.out).mono ?_);(case side1=>repeat (first|exact (Kd.zv HO110.out).2.2|(with_reducible refine Kd.zQ ?_ _)|(with_reducible refine Kd.zR ?_ _)|(with_reducible refine Kd.z1c ?_)));(case side2=>exact (Kd.zv HO110.out).2.1);(case side3=>exact Kd.z2W _ _);(case side4=>exact Nat.le_refl _);rintro e w101 ⟨rfl,hb⟩;refine ⟨_,rfl,?_⟩;have n0_:=z4.mk (Kd.zx zz60 hb);have n1_:=z4.mk (Kd.zx zz55 hb);have n2_:=z4.mk (Kd.zx zz61 hb);have n3_:=z4.mk (z9 zz45 hb);clear HO103;clear HO106;clear HO110;clear HB;have HO103:=n0_;have HO106:=n1_;have HO110:=n2_;have HB:=n3_;clear n0_ n1_ n2_ n3_;(try clear hb);(try clear hb2);(try clear hk);(try clear hi))|((with_reducible refine zr (N:=3) rfl ?_);(try (refine zZ zz88 ?_;dsimp only));refine zy ?hg (N:=3) ?hd (cs:=#[.int .u64 0,.int .u64 0]) (t:=37) ?hr ?_;(case hd=>rfl);(case hg=>rfl);(case hr=>first|(go_simp;done)|(go_simp;rfl));intro gb114 hg w102 hbox hb;have n0_:=z4.mk (Kd.zx zz60 hb);have n1_:=z4.mk (Kd.zx (Kd.z1r zz55 gb114 (Nat.le_of_eq hg.symm)) hb);have n2_:=z4.mk (Kd.zx (Kd.z1r zz61 gb114 (Nat.le_of_eq hg.symm)) hb);have n3_:=z4.mk (z9 zz45 hb);have n4_:=z4.mk (hbox);have n5_:=z4.mk ((by rw [hg];exact (ze zz45) : w.heap.size ≤ gb114));have n6_:=z4.mk ((by rw [hg];exact (ze zz45) : w.heap.size ≤ gb114));clear HO103;clear HO106;clear HO110;clear HB;have HO103:=n0_;have HO106:=n1_;have HO110:=n2_;have HB:=n3_;have BK114:=n4_;have GW114:=n5_;have GE114:=n6_;clear n0_ n1_ n2_ n3_ n4_ n5_ n6_;clear hb hbox hg;have hcz103_0 : w102.cell? ⟨gb114,0,none⟩ = some (.int .u64 0):=(zf BK114.out 0).trans rfl;have hcz103_1 : w102.cell? ⟨gb114,1,none⟩ = some (.int .u64 0):=(zf BK114.out 1).trans rfl;have hfz103_0:=za BK114.out 0;have hfz103_1:=za BK114.out 1)|((with_reducible refine zr (N:=21) rfl ?_);(try (refine zZ zz88 ?_;dsimp only));refine Kd.z2b k37 _ 37 ?hg (N:=21) ?hd (xs:=([(⟨0,1⟩ : S37)] : List (S37))) (inner:=[.int .u64 0,.int .u64 1]) (ok:=fun _=>True) (okp:=fun _=>True) ?hr ?hp (fun _ hk=>hk) trivial (Below.refl _ _) (Nat.le_refl _) zz87 ?_;(case hd=>rfl);(case hg=>rfl);(case hr=>first|(go_simp;done)|(go_simp;rfl));(case hp=>exact (Reps.c2 (show Kd.M k37 _ _ _ (⟨0,1⟩ : S37) [.int .u64 0,.int .u64 1] from (z1K _ _ _ (⟨0,1⟩ : S37) )) (Reps.none _ _)));intro v116 w104 ho105 hb hg_ hnew_;clear hg_ hnew_;(first|rw [← Ny115.out] at ho105|(simp only [Int.reduceToNat] at ho105;rw [← Ny115.out] at ho105));have n0_:=z4.mk (Kd.zx zz22 hb);have n1_:=z4.mk (Kd.z1d zz18 (Kd.z1y ho105) hb);have n2_:=z4.mk (Kd.z1d zz19 (Kd.z1y ho105) hb);have n3_:=z4.mk (Kd.z1e (Kd.z2c (Kd.z1z (Kd.z1z ho105 (Kd.R_lt zz18)) (Kd.R_lt zz19)) (g:=gb114) (o:=.cells #[.int .u64 t111,.int .u64 t112] 37 (0,0)) zz5) (ze zz42));have n4_:=z4.mk (zh (g:=gb114) (o:=.cells #[.int .u64 t111,.int .u64 t112] 37 (0,0)) zz5 hb);have n5_:=z4.mk (z9 zz42 hb);clear HO103;clear HO106;clear HO110;clear BK114;clear HB;have HO103:=n0_;have HO106:=n1_;have HO110:=n2_;have HO117:=n3_;have BK114:=n4_;have HB:=n5_;clear n0_ n1_ n2_ n3_ n4_ n5_;clear hb ho105;obtain ⟨Ao106,co106,eo106⟩:=Kd.z1j HO117.out;subst eo106)|((with_reducible refine zl (f:=28) rfl ?_);refine goesL_ (some 22) rfl rfl Try.func28 zz84 rfl #[.int .i64 0,.slice Ao106 y115.length co106,.slice none 0 0] rfl zz44 ?_;(refine (z1f.calls k 0 _ _ y115 _ _ ([] : List (S37)) t118 t119 _ ?side1 ?side2 ?side3 ?side4 A3.out).mono ?_);(case side1=>repeat (first|exact (Kd.zv HO117.out).2.2|(with_reducible refine Kd.zQ ?_ _)|(with_reducible refine Kd.zR ?_ _)|(with_reducible refine Kd.z1c ?_)));(case side2=>exact (Kd.zv HO117.out).2.1);(case side3=>exact Kd.z2W _ _);(case side4=>exact Nat.le_refl _);rintro e w107 ⟨v120,rfl,ho0,hb⟩;refine ⟨_,rfl,?_⟩;have n0_:=z4.mk (Kd.zx zz60 hb);have n1_:=z4.mk (Kd.z1d zz55 (Kd.z1y ho0) hb);have n2_:=z4.mk (Kd.z1d zz61 (Kd.z1y ho0) hb);have n3_:=z4.mk (Kd.z1d zz62 (Kd.z1y ho0) hb);have n4_:=z4.mk (Kd.z1e (Kd.z2c (Kd.z1z (Kd.z1z (Kd.z1z ho0 (Kd.R_lt zz55)) (Kd.R_lt zz61)) (Kd.R_lt zz62)) (g:=gb114) (o:=.cells #[.int .u64 t111,.int .u64 t112] 37 (0,0)) zz50) (ze zz42));have n5_:=z4.mk (zh (g:=gb114) (o:=.cells #[.int .u64 t111,.int .u64 t112] 37 (0,0)) zz50 hb);have n6_:=z4.mk (z9 zz42 hb);clear HO103;clear HO106;clear HO110;clear HO117;clear BK114;clear HB;have HO103:=n0_;have HO106:=n1_;have HO110:=n2_;have HO117:=n3_;have HO121:=n4_;have BK114:=n5_;have HB:=n6_;clear n0_ n1_ n2_ n3_ n4_ n5_ n6_;(try clear hb);(try clear hb2);(try clear hk);(try clear hi);(try clear ho0)))
   go_ret
   exact ⟨by first|rfl|(simp [zi,zj] <;> rfl)|(simp [*,zi,zj] <;> rfl),by repeat (first|(with_reducible first|exact HB.out|apply zg|apply z6|apply zc|refine zd ?_ GE114.out)|exact HB.out)⟩
 rw [if_pos c6] at H
 have c6b0 : (t119 == 0) = true:=beq_iff_eq.mpr c6
 have c6b1 : (t119 != 0) = false:=bne_eq_false_iff_eq.mpr c6
 clear c6
 by_cases c7 : (t107.length : Int) = 1
 rotate_left
 · rw [if_neg c7] at H
   have c7b0 : ((t107.length : Int) == 1) = false:=beq_eq_false_iff_ne.mpr c7
   have c7b1 : ((t107.length : Int) != 1) = true:=bne_iff_ne.mpr c7
   obtain rfl:=Option.some.inj H
   go_enter Try.func15,Try.ntmps15
   go_wp2_with (first|((with_reducible refine zr (N:=8) rfl ?_);(try (refine zZ zz88 ?_;dsimp only));refine Kd.z2b Kd.bool _ 4 ?hg (N:=8) ?hd (xs:=([true,false] : List Bool)) (inner:=[.bool true,.bool false]) (ok:=fun _=>True) (okp:=fun _=>True) ?hr ?hp (fun _ hk=>hk) trivial (Below.refl _ _) (Nat.le_refl _) zz87 ?_;(case hd=>rfl);(case hg=>rfl);(case hr=>first|(go_simp;done)|(go_simp;rfl));(case hp=>exact (Reps.one (show Kd.M Kd.bool _ _ _ true [.bool true] from rfl) (Reps.one (show Kd.M Kd.bool _ _ _ false [.bool false] from rfl) (Reps.none _ _))));intro v102 w78 ho79 hb hg_ hnew_;clear hg_ hnew_;(first|rw [← Ny101.out] at ho79|(simp only [Int.reduceToNat] at ho79;rw [← Ny101.out] at ho79));have n0_:=z4.mk (Kd.z1e ho79 (ze zz45));have n1_:=z4.mk (z9 zz45 hb);clear HB;have HO103:=n0_;have HB:=n1_;clear n0_ n1_;clear hb ho79)|((with_reducible refine zr (N:=10) rfl ?_);(try (refine zZ zz88 ?_;dsimp only));refine Kd.z2b k37 _ 37 ?hg (N:=10) ?hd (xs:=([(⟨0,1⟩ : S37)] : List (S37))) (inner:=[.int .u64 0,.int .u64 1]) (ok:=fun _=>True) (okp:=fun _=>True) ?hr ?hp (fun _ hk=>hk) trivial (Below.refl _ _) (Nat.le_refl _) zz87 ?_;(case hd=>rfl);(case hg=>rfl);(case hr=>first|(go_simp;done)|(go_simp;rfl));(case hp=>exact (Reps.c2 (show Kd.M k37 _ _ _ (⟨0,1⟩ : S37) [.int .u64 0,.int .u64 1] from (z1K _ _ _ (⟨0,1⟩ : S37) )) (Reps.none _ _)));intro v105 w80 ho81 hb hg_ hnew_;clear hg_ hnew_;(first|rw [← Ny104.out] at ho81|(simp only [Int.reduceToNat] at ho81;rw [← Ny104.out] at ho81));have n0_:=z4.mk (Kd.zx zz60 hb);have n1_:=z4.mk (Kd.z1e ho81 (ze zz45));have n2_:=z4.mk (z9 zz45 hb);clear HO103;clear HB;have HO103:=n0_;have HO106:=n1_;have HB:=n2_;clear n0_ n1_ n2_;clear hb ho81;obtain ⟨Ao82,co82,eo82⟩:=Kd.z1j HO103.out;subst eo82;obtain ⟨Ao83,co83,eo83⟩:=Kd.z1j HO106.out;subst eo83)|((with_reducible refine zl (f:=16) rfl ?_);refine goesL_ (some 11) rfl rfl Try.func16 zz84 rfl #[.int .i64 0,.slice Ao82 y101.length co82,.slice Ao83 y104.length co83] rfl zz44 ?_;(with_reducible refine (zq.calls k 0 _ _ y101 _ _ y104 t107 t108 _ ?side1 ?side2 ?side3 ?side4 A1.out).mono ?_);(case side1=>repeat (first|exact (Kd.zv HO103.out).2.2|(with_reducible refine Kd.zQ ?_ _)|(with_reducible refine Kd.zR ?_ _)|(with_reducible refine Kd.z1c ?_)));(case side2=>exact (Kd.zv HO103.out).2.1);(case side3=>repeat (first|exact (Kd.zv HO106.out).2.2|(with_reducible refine Kd.zQ ?_ _)|(with_reducible refine Kd.zR ?_ _)|(with_reducible refine Kd.z1c ?_)));(case side4=>exact (Kd.zv HO106.out).2.1);rintro e w84 ⟨v109,rfl,ho0,hb⟩;refine ⟨_,rfl,?_⟩;have n0_:=z4.mk (Kd.zx zz60 hb);have n1_:=z4.mk (Kd.z1d zz55 (Kd.z1y ho0) hb);have n2_:=z4.mk (Kd.z1e (Kd.z1z ho0 (Kd.R_lt zz55)) (ze zz45));have n3_:=z4.mk (z9 zz45 hb);clear HO103;clear HO106;clear HB;have HO103:=n0_;have HO106:=n1_;have HO110:=n2_;have HB:=n3_;clear n0_ n1_ n2_ n3_;(try clear hb);(try clear hb2);(try clear hk);(try clear hi);(try clear ho0);obtain ⟨Ao85,co85,eo85⟩:=Kd.z1j HO110.out;subst eo85)|((with_reducible refine zl (f:=25) rfl ?_);refine goesL_ (some 16) rfl rfl Try.func25 zz84 rfl #[.int .i64 0,.slice Ao85 t107.length co85,.slice none 0 0] rfl zz44 ?_;(refine (z1x.calls k 0 _ _ t107 _ _ ([] : List (S37)) t111 t112 t113 _ ?side1 ?side2 ?side3 ?side4 A2.out).mono ?_);(case side1=>repeat (first|exact (Kd.zv HO110.out).2.2|(with_reducible refine Kd.zQ ?_ _)|(with_reducible refine Kd.zR ?_ _)|(with_reducible refine Kd.z1c ?_)));(case side2=>exact (Kd.zv HO110.out).2.1);(case side3=>exact Kd.z2W _ _);(case side4=>exact Nat.le_refl _);rintro e w86 ⟨rfl,hb⟩;refine ⟨_,rfl,?_⟩;have n0_:=z4.mk (Kd.zx zz60 hb);have n1_:=z4.mk (Kd.zx zz55 hb);have n2_:=z4.mk (Kd.zx zz61 hb);have n3_:=z4.mk (z9 zz45 hb);clear HO103;clear HO106;clear HO110;clear HB;have HO103:=n0_;have HO106:=n1_;have HO110:=n2_;have HB:=n3_;clear n0_ n1_ n2_ n3_;(try clear hb);(try clear hb2);(try clear hk);(try clear hi))|((with_reducible refine zr (N:=3) rfl ?_);(try (refine zZ zz88 ?_;dsimp only));refine zy ?hg (N:=3) ?hd (cs:=#[.int .u64 0,.int .u64 0]) (t:=37) ?hr ?_;(case hd=>rfl);(case hg=>rfl);(case hr=>first|(go_simp;done)|(go_simp;rfl));intro gb114 hg w87 hbox hb;have n0_:=z4.mk (Kd.zx zz60 hb);have n1_:=z4.mk (Kd.zx (Kd.z1r zz55 gb114 (Nat.le_of_eq hg.symm)) hb);have n2_:=z4.mk (Kd.zx (Kd.z1r zz61 gb114 (Nat.le_of_eq hg.symm)) hb);have n3_:=z4.mk (z9 zz45 hb);have n4_:=z4.mk (hbox);have n5_:=z4.mk ((by rw [hg];exact (ze zz45) : w.heap.size ≤ gb114));have n6_:=z4.mk ((by rw [hg];exact (ze zz45) : w.heap.size ≤ gb114));clear HO103;clear HO106;clear HO110;clear HB;have HO103:=n0_;have HO106:=n1_;have HO110:=n2_;have HB:=n3_;have BK114:=n4_;have GW114:=n5_;have GE114:=n6_;clear n0_ n1_ n2_ n3_ n4_ n5_ n6_;clear hb hbox hg;have hcz88_0 : w87.cell? ⟨gb114,0,none⟩ = some (.int .u64 0):=(zf BK114.out 0).trans rfl;have hcz88_1 : w87.cell? ⟨gb114,1,none⟩ = some (.int .u64 0):=(zf BK114.out 1).trans rfl;have hfz88_0:=za BK114.out 0;have hfz88_1:=za BK114.out 1)|((with_reducible refine zr (N:=21) rfl ?_);(try (refine zZ zz88 ?_;dsimp only));refine Kd.z2b k37 _ 37 ?hg (N:=21) ?hd (xs:=([(⟨0,1⟩ : S37)] : List (S37))) (inner:=[.int .u64 0,.int .u64 1]) (ok:=fun _=>True) (okp:=fun _=>True) ?hr ?hp (fun _ hk=>hk) trivial (Below.refl _ _) (Nat.le_refl _) zz87 ?_;(case hd=>rfl);(case hg=>rfl);(case hr=>first|(go_simp;done)|(go_simp;rfl));(case hp=>exact (Reps.c2 (show Kd.M k37 _ _ _ (⟨0,1⟩ : S37) [.int .u64 0,.int .u64 1] from (z1K _ _ _ (⟨0,1⟩ : S37) )) (Reps.none _ _)));intro v116 w89 ho90 hb hg_ hnew_;clear hg_ hnew_;(first|rw [← Ny115.out] at ho90|(simp only [Int.reduceToNat] at ho90;rw [← Ny115.out] at ho90));have n0_:=z4.mk (Kd.zx zz22 hb);have n1_:=z4.mk (Kd.z1d zz18 (Kd.z1y ho90) hb);have n2_:=z4.mk (Kd.z1d zz19 (Kd.z1y ho90) hb);have n3_:=z4.mk (Kd.z1e (Kd.z2c (Kd.z1z (Kd.z1z ho90 (Kd.R_lt zz18)) (Kd.R_lt zz19)) (g:=gb114) (o:=.cells #[.int .u64 t111,.int .u64 t112] 37 (0,0)) zz5) (ze zz42));have n4_:=z4.mk (zh (g:=gb114) (o:=.cells #[.int .u64 t111,.int .u64 t112] 37 (0,0)) zz5 hb);have n5_:=z4.mk (z9 zz42 hb);clear HO103;clear HO106;clear HO110;clear BK114;clear HB;have HO103:=n0_;have HO106:=n1_;have HO110:=n2_;have HO117:=n3_;have BK114:=n4_;have HB:=n5_;clear n0_ n1_ n2_ n3_ n4_ n5_;clear hb ho90;obtain ⟨Ao91,co91,eo91⟩:=Kd.z1j HO117.out;subst eo91)|((with_reducible refine zl (f:=28) rfl ?_);refine goesL_ (some 22) rfl rfl Try.func28 zz84 rfl #[.int .i64 0,.slice Ao91 y115.length co91,.slice none 0 0] rfl zz44 ?_;(refine (z1f.calls k 0 _ _ y115 _ _ ([] : List (S37)) t118 t119 _ ?side1 ?side2 ?side3 ?side4 A3.out).mono ?_);(case side1=>repeat (first|exact (Kd.zv HO117.out).2.2|(with_reducible refine Kd.zQ ?_ _)|(with_reducible refine Kd.zR ?_ _)|(with_reducible refine Kd.z1c ?_)));(case side2=>exact (Kd.zv HO117.out).2.1);(case side3=>exact Kd.z2W _ _);(case side4=>exact Nat.le_refl _);rintro e w92 ⟨v120,rfl,ho0,hb⟩;refine ⟨_,rfl,?_⟩;have n0_:=z4.mk (Kd.zx zz60 hb);have n1_:=z4.mk (Kd.z1d zz55 (Kd.z1y ho0) hb);have n2_:=z4.mk (Kd.z1d zz61 (Kd.z1y ho0) hb);have n3_:=z4.mk (Kd.z1d zz62 (Kd.z1y ho0) hb);have n4_:=z4.mk (Kd.z1e (Kd.z2c (Kd.z1z (Kd.z1z (Kd.z1z ho0 (Kd.R_lt zz55)) (Kd.R_lt zz61)) (Kd.R_lt zz62)) (g:=gb114) (o:=.cells #[.int .u64 t111,.int .u64 t112] 37 (0,0)) zz50) (ze zz42));have n5_:=z4.mk (zh (g:=gb114) (o:=.cells #[.int .u64 t111,.int .u64 t112] 37 (0,0)) zz50 hb);have n6_:=z4.mk (z9 zz42 hb);clear HO103;clear HO106;clear HO110;clear HO117;clear BK114;clear HB;have HO103:=n0_;have HO106:=n1_;have HO110:=n2_;have HO117:=n3_;have HO121:=n4_;have BK114:=n5_;have HB:=n6_;clear n0_ n1_ n2_ n3_ n4_ n5_ n6_;(try clear hb);(try clear hb2);(try clear hk);(try clear hi);(try clear ho0)))
   go_ret
   exact ⟨by first|rfl|(simp [zi,zj] <;> rfl)|(simp [*,zi,zj] <;> rfl),by repeat (first|(with_reducible first|exact HB.out|apply zg|apply z6|apply zc|refine zd ?_ GE114.out)|exact HB.out)⟩
 rw [if_pos c7] at H
 have c7b0 : ((t107.length : Int) == 1) = true:=beq_iff_eq.mpr c7
 have c7b1 : ((t107.length : Int) != 1) = false:=bne_eq_false_iff_eq.mpr c7
 clear c7
 by_cases c8 : 0 < (t107.length : Int)
 rotate_left
 · rw [if_neg c8] at H
   exact absurd H zz87
 rw [if_pos c8] at H
 have c8b0 : decide (0 < (t107.length : Int)) = true:=decide_eq_true c8
 have c8b1 : decide (0 < t107.length) = true:=decide_eq_true zz86
 clear c8
 by_cases c9 : (((rd_T37 t107 0).f0) == 0 && (((rd_T37 t107 0).f1) == 0)) = true
 rotate_left
 · rw [if_neg c9] at H
   have c9b0 : (((rd_T37 t107 0).f0) == 0 && (((rd_T37 t107 0).f1) == 0)) = false:=by simpa using c9
   (try (have c9b1 : decide (((rd_T37 t107 0).f0) = 0 && (((rd_T37 t107 0).f1) == 0)) = false:=by simpa using c9))
   (try (have c9b2 : (((rd_T37 t107 0).f0) == 0 && (((rd_T37 t107 0).f1) == 0)) = false:=by simpa using c9))
   (try (have c9b3 : ¬ (((rd_T37 t107 0).f0) = 0 && (((rd_T37 t107 0).f1) == 0)):=by simpa using c9))
   clear c9
   obtain rfl:=Option.some.inj H
   go_enter Try.func15,Try.ntmps15
   go_wp2_with (first|((with_reducible refine zr (N:=8) rfl ?_);(try (refine zZ zz88 ?_;dsimp only));refine Kd.z2b Kd.bool _ 4 ?hg (N:=8) ?hd (xs:=([true,false] : List Bool)) (inner:=[.bool true,.bool false]) (ok:=fun _=>True) (okp:=fun _=>True) ?hr ?hp (fun _ hk=>hk) trivial (Below.refl _ _) (Nat.le_refl _) zz87 ?_;(case hd=>rfl);(case hg=>rfl);(case hr=>first|(go_simp;done)|(go_simp;rfl));(case hp=>exact (Reps.one (show Kd.M Kd.bool _ _ _ true [.bool true] from rfl) (Reps.one (show Kd.M Kd.bool _ _ _ false [.bool false] from rfl) (Reps.none _ _))));intro v102 w63 ho64 hb hg_ hnew_;clear hg_ hnew_;(first|rw [← Ny101.out] at ho64|(simp only [Int.reduceToNat] at ho64;rw [← Ny101.out] at ho64));have n0_:=z4.mk (Kd.z1e ho64 (ze zz45));have n1_:=z4.mk (z9 zz45 hb);clear HB;have HO103:=n0_;have HB:=n1_;clear n0_ n1_;clear hb ho64)|((with_reducible refine zr (N:=10) rfl ?_);(try (refine zZ zz88 ?_;dsimp only));refine Kd.z2b k37 _ 37 ?hg (N:=10) ?hd (xs:=([(⟨0,1⟩ : S37)] : List (S37))) (inner:=[.int .u64 0,.int .u64 1]) (ok:=fun _=>True) (okp:=fun _=>True) ?hr ?hp (fun _ hk=>hk) trivial (Below.refl _ _) (Nat.le_refl _) zz87 ?_;(case hd=>rfl);(case hg=>rfl);(case hr=>first|(go_simp;done)|(go_simp;rfl));(case hp=>exact (Reps.c2 (show Kd.M k37 _ _ _ (⟨0,1⟩ : S37) [.int .u64 0,.int .u64 1] from (z1K _ _ _ (⟨0,1⟩ : S37) )) (Reps.none _ _)));intro v105 w65 ho66 hb hg_ hnew_;clear hg_ hnew_;(first|rw [← Ny104.out] at ho66|(simp only [Int.reduceToNat] at ho66;rw [← Ny104.out] at ho66));have n0_:=z4.mk (Kd.zx zz60 hb);have n1_:=z4.mk (Kd.z1e ho66 (ze zz45));have n2_:=z4.mk (z9 zz45 hb);clear HO103;clear HB;have HO103:=n0_;have HO106:=n1_;have HB:=n2_;clear n0_ n1_ n2_;clear hb ho66;obtain ⟨Ao67,co67,eo67⟩:=Kd.z1j HO103.out;subst eo67;obtain ⟨Ao68,co68,eo68⟩:=Kd.z1j HO106.out;subst eo68)|((with_reducible refine zl (f:=16) rfl ?_);refine goesL_ (some 11) rfl rfl Try.func16 zz84 rfl #[.int .i64 0,.slice Ao67 y101.length co67,.slice Ao68 y104.length co68] rfl zz44 ?_;(with_reducible refine (zq.calls k 0 _ _ y101 _ _ y104 t107 t108 _ ?side1 ?side2 ?side3 ?side4 A1.out).mono ?_);(case side1=>repeat (first|exact (Kd.zv HO103.out).2.2|(with_reducible refine Kd.zQ ?_ _)|(with_reducible refine Kd.zR ?_ _)|(with_reducible refine Kd.z1c ?_)));(case side2=>exact (Kd.zv HO103.out).2.1);(case side3=>repeat (first|exact (Kd.zv HO106.out).2.2|(with_reducible refine Kd.zQ ?_ _)|(with_reducible refine Kd.zR ?_ _)|(with_reducible refine Kd.z1c ?_)));(case side4=>exact (Kd.zv HO106.out).2.1);rintro e w69 ⟨v109,rfl,ho0,hb⟩;refine ⟨_,rfl,?_⟩;have n0_:=z4.mk (Kd.zx zz60 hb);have n1_:=z4.mk (Kd.z1d zz55 (Kd.z1y ho0) hb);have n2_:=z4.mk (Kd.z1e (Kd.z1z ho0 (Kd.R_lt zz55)) (ze zz45));have n3_:=z4.mk (z9 zz45 hb);clear HO103;clear HO106;clear HB;have HO103:=n0_;have HO106:=n1_;have HO110:=n2_;have HB:=n3_;clear n0_ n1_ n2_ n3_;(try clear hb);(try clear hb2);(try clear hk);(try clear hi);(try clear ho0);obtain ⟨Ao70,co70,eo70⟩:=Kd.z1j HO110.out;subst eo70)|((with_reducible refine zl (f:=25) rfl ?_);refine goesL_ (some 16) rfl rfl Try.func25 zz84 rfl #[.int .i64 0,.slice Ao70 t107.length co70,.slice none 0 0] rfl zz44 ?_;(refine (z1x.calls k 0 _ _ t107 _ _ ([] : List (S37)) t111 t112 t113 _ ?side1 ?side2 ?side3 ?side4 A2.out).mono ?_);(case side1=>repeat (first|exact (Kd.zv HO110.out).2.2|(with_reducible refine Kd.zQ ?_ _)|(with_reducible refine Kd.zR ?_ _)|(with_reducible refine Kd.z1c ?_)));(case side2=>exact (Kd.zv HO110.out).2.1);(case side3=>exact Kd.z2W _ _);(case side4=>exact Nat.le_refl _);rintro e w71 ⟨rfl,hb⟩;refine ⟨_,rfl,?_⟩;have n0_:=z4.mk (Kd.zx zz60 hb);have n1_:=z4.mk (Kd.zx zz55 hb);have n2_:=z4.mk (Kd.zx zz61 hb);have n3_:=z4.mk (z9 zz45 hb);clear HO103;clear HO106;clear HO110;clear HB;have HO103:=n0_;have HO106:=n1_;have HO110:=n2_;have HB:=n3_;clear n0_ n1_ n2_ n3_;(try clear hb);(try clear hb2);(try clear hk);(try clear hi))|((with_reducible refine zr (N:=3) rfl ?_);(try (refine zZ zz88 ?_;dsimp only));refine zy ?hg (N:=3) ?hd (cs:=#[.int .u64 0,.int .u64 0]) (t:=37) ?hr ?_;(case hd=>rfl);(case hg=>rfl);(case hr=>first|(go_simp;done)|(go_simp;rfl));intro gb114 hg w72 hbox hb;have n0_:=z4.mk (Kd.zx zz60 hb);have n1_:=z4.mk (Kd.zx (Kd.z1r zz55 gb114 (Nat.le_of_eq hg.symm)) hb);have n2_:=z4.mk (Kd.zx (Kd.z1r zz61 gb114 (Nat.le_of_eq hg.symm)) hb);have n3_:=z4.mk (z9 zz45 hb);have n4_:=z4.mk (hbox);have n5_:=z4.mk ((by rw [hg];exact (ze zz45) : w.heap.size ≤ gb114));have n6_:=z4.mk ((by rw [hg];exact (ze zz45) : w.heap.size ≤ gb114));clear HO103;clear HO106;clear HO110;clear HB;have HO103:=n0_;have HO106:=n1_;have HO110:=n2_;have HB:=n3_;have BK114:=n4_;have GW114:=n5_;have GE114:=n6_;clear n0_ n1_ n2_ n3_ n4_ n5_ n6_;clear hb hbox hg;have hcz73_0 : w72.cell? ⟨gb114,0,none⟩ = some (.int .u64 0):=(zf BK114.out 0).trans rfl;have hcz73_1 : w72.cell? ⟨gb114,1,none⟩ = some (.int .u64 0):=(zf BK114.out 1).trans rfl;have hfz73_0:=za BK114.out 0;have hfz73_1:=za BK114.out 1)|((with_reducible refine zr (N:=21) rfl ?_);(try (refine zZ zz88 ?_;dsimp only));refine Kd.z2b k37 _ 37 ?hg (N:=21) ?hd (xs:=([(⟨0,1⟩ : S37)] : List (S37))) (inner:=[.int .u64 0,.int .u64 1]) (ok:=fun _=>True) (okp:=fun _=>True) ?hr ?hp (fun _ hk=>hk) trivial (Below.refl _ _) (Nat.le_refl _) zz87 ?_;(case hd=>rfl);(case hg=>rfl);(case hr=>first|(go_simp;done)|(go_simp;rfl));(case hp=>exact (Reps.c2 (show Kd.M k37 _ _ _ (⟨0,1⟩ : S37) [.int .u64 0,.int .u64 1] from (z1K _ _ _ (⟨0,1⟩ : S37) )) (Reps.none _ _)));intro v116 w74 ho75 hb hg_ hnew_;clear hg_ hnew_;(first|rw [← Ny115.out] at ho75|(simp only [Int.reduceToNat] at ho75;rw [← Ny115.out] at ho75));have n0_:=z4.mk (Kd.zx zz22 hb);have n1_:=z4.mk (Kd.z1d zz18 (Kd.z1y ho75) hb);have n2_:=z4.mk (Kd.z1d zz19 (Kd.z1y ho75) hb);have n3_:=z4.mk (Kd.z1e (Kd.z2c (Kd.z1z (Kd.z1z ho75 (Kd.R_lt zz18)) (Kd.R_lt zz19)) (g:=gb114) (o:=.cells #[.int .u64 t111,.int .u64 t112] 37 (0,0)) zz5) (ze zz42));have n4_:=z4.mk (zh (g:=gb114) (o:=.cells #[.int .u64 t111,.int .u64 t112] 37 (0,0)) zz5 hb);have n5_:=z4.mk (z9 zz42 hb);clear HO103;clear HO106;clear HO110;clear BK114;clear HB;have HO103:=n0_;have HO106:=n1_;have HO110:=n2_;have HO117:=n3_;have BK114:=n4_;have HB:=n5_;clear n0_ n1_ n2_ n3_ n4_ n5_;clear hb ho75;obtain ⟨Ao76,co76,eo76⟩:=Kd.z1j HO117.out;subst eo76)|((with_reducible refine zl (f:=28) rfl ?_);refine goesL_ (some 22) rfl rfl Try.func28 zz84 rfl #[.int .i64 0,.slice Ao76 y115.length co76,.slice none 0 0] rfl zz44 ?_;(refine (z1f.calls k 0 _ _ y115 _ _ ([] : List (S37)) t118 t119 _ ?side1 ?side2 ?side3 ?side4 A3.out).mono ?_);(case side1=>repeat (first|exact (Kd.zv HO117.out).2.2|(with_reducible refine Kd.zQ ?_ _)|(with_reducible refine Kd.zR ?_ _)|(with_reducible refine Kd.z1c ?_)));(case side2=>exact (Kd.zv HO117.out).2.1);(case side3=>exact Kd.z2W _ _);(case side4=>exact Nat.le_refl _);rintro e w77 ⟨v120,rfl,ho0,hb⟩;refine ⟨_,rfl,?_⟩;have n0_:=z4.mk (Kd.zx zz60 hb);have n1_:=z4.mk (Kd.z1d zz55 (Kd.z1y ho0) hb);have n2_:=z4.mk (Kd.z1d zz61 (Kd.z1y ho0) hb);have n3_:=z4.mk (Kd.z1d zz62 (Kd.z1y ho0) hb);have n4_:=z4.mk (Kd.z1e (Kd.z2c (Kd.z1z (Kd.z1z (Kd.z1z ho0 (Kd.R_lt zz55)) (Kd.R_lt zz61)) (Kd.R_lt zz62)) (g:=gb114) (o:=.cells #[.int .u64 t111,.int .u64 t112] 37 (0,0)) zz50) (ze zz42));have n5_:=z4.mk (zh (g:=gb114) (o:=.cells #[.int .u64 t111,.int .u64 t112] 37 (0,0)) zz50 hb);have n6_:=z4.mk (z9 zz42 hb);clear HO103;clear HO106;clear HO110;clear HO117;clear BK114;clear HB;have HO103:=n0_;have HO106:=n1_;have HO110:=n2_;have HO117:=n3_;have HO121:=n4_;have BK114:=n5_;have HB:=n6_;clear n0_ n1_ n2_ n3_ n4_ n5_ n6_;(try clear hb);(try clear hb2);(try clear hk);(try clear hi);(try clear ho0);have p122 : 0 ≤ (0 : Int):=zz86;have q122 : 0 < (t107.length : Int):=of_decide_eq_true zz80;obtain ⟨ad122,e122,hx122_0,hx122_1⟩:=z1Y (Kd.zv HO110.out).2.2 0 p122 q122;cases e122;have qi122 : (0 < t107.length) = True:=eq_true zz86;(try rw [show ((0 : Int)).toNat = 0 from rfl] at hx122_0);(try rw [show 0 * 2 = 0 from rfl] at hx122_0);(try rw [Addr.add_zero'] at hx122_0);(try rw [show ((0 : Int)).toNat = 0 from rfl] at hx122_1);(try rw [show 0 * 2 = 0 from rfl] at hx122_1);(try rw [Addr.add_zero'] at hx122_1);replace p122:=eq_true p122;replace q122:=eq_true q122))
   go_ret
   exact ⟨by first|rfl|(simp [zi,zj] <;> rfl)|(simp [*,zi,zj] <;> rfl),by repeat (first|(with_reducible first|exact HB.out|apply zg|apply z6|apply zc|refine zd ?_ GE114.out)|exact HB.out)⟩
 rw [if_pos c9] at H
 have c9b0 : (((rd_T37 t107 0).f0) == 0 && (((rd_T37 t107 0).f1) == 0)) = true:=c9
 (try (have c9b1 : decide (((rd_T37 t107 0).f0) = 0 && (((rd_T37 t107 0).f1) == 0)) = true:=by simpa using c9))
 (try (have c9b2 : (((rd_T37 t107 0).f0) == 0 && (((rd_T37 t107 0).f1) == 0)) = true:=by simpa using c9))
 clear c9
 by_cases c10 : (t111 == 0 && (t112 == 0)) = true
 rotate_left
 · rw [if_neg c10] at H
   have c10b0 : (t111 == 0 && (t112 == 0)) = false:=by simpa using c10
   (try (have c10b1 : decide (t111 = 0 && (t112 == 0)) = false:=by simpa using c10))
   (try (have c10b2 : (t111 == 0 && (t112 == 0)) = false:=by simpa using c10))
   (try (have c10b3 : ¬ (t111 = 0 && (t112 == 0)):=by simpa using c10))
   clear c10
   obtain rfl:=Option.some.inj H
   go_enter Try.func15,Try.ntmps15
   go_wp2_with (first|((with_reducible refine zr (N:=8) rfl ?_);(try (refine zZ zz88 ?_;dsimp only));refine Kd.z2b Kd.bool _ 4 ?hg (N:=8) ?hd (xs:=([true,false] : List Bool)) (inner:=[.bool true,.bool false]) (ok:=fun _=>True) (okp:=fun _=>True) ?hr ?hp (fun _ hk=>hk) trivial (Below.refl _ _) (Nat.le_refl _) zz87 ?_;(case hd=>rfl);(case hg=>rfl);(case hr=>first|(go_simp;done)|(go_simp;rfl));(case hp=>exact (Reps.one (show Kd.M Kd.bool _ _ _ true [.bool true] from rfl) (Reps.one (show Kd.M Kd.bool _ _ _ false [.bool false] from rfl) (Reps.none _ _))));intro v102 w47 ho48 hb hg_ hnew_;clear hg_ hnew_;(first|rw [← Ny101.out] at ho48|(simp only [Int.reduceToNat] at ho48;rw [← Ny101.out] at ho48));have n0_:=z4.mk (Kd.z1e ho48 (ze zz45));have n1_:=z4.mk (z9 zz45 hb);clear HB;have HO103:=n0_;have HB:=n1_;clear n0_ n1_;clear hb ho48)|((with_reducible refine zr (N:=10) rfl ?_);(try (refine zZ zz88 ?_;dsimp only));refine Kd.z2b k37 _ 37 ?hg (N:=10) ?hd (xs:=([(⟨0,1⟩ : S37)] : List (S37))) (inner:=[.int .u64 0,.int .u64 1]) (ok:=fun _=>True) (okp:=fun _=>True) ?hr ?hp (fun _ hk=>hk) trivial (Below.refl _ _) (Nat.le_refl _) zz87 ?_;(case hd=>rfl);(case hg=>rfl);(case hr=>first|(go_simp;done)|(go_simp;rfl));(case hp=>exact (Reps.c2 (show Kd.M k37 _ _ _ (⟨0,1⟩ : S37) [.int .u64 0,.int .u64 1] from (z1K _ _ _ (⟨0,1⟩ : S37) )) (Reps.none _ _)));intro v105 w49 ho50 hb hg_ hnew_;clear hg_ hnew_;(first|rw [← Ny104.out] at ho50|(simp only [Int.reduceToNat] at ho50;rw [← Ny104.out] at ho50));have n0_:=z4.mk (Kd.zx zz60 hb);have n1_:=z4.mk (Kd.z1e ho50 (ze zz45));have n2_:=z4.mk (z9 zz45 hb);clear HO103;clear HB;have HO103:=n0_;have HO106:=n1_;have HB:=n2_;clear n0_ n1_ n2_;clear hb ho50;obtain ⟨Ao51,co51,eo51⟩:=Kd.z1j HO103.out;subst eo51;obtain ⟨Ao52,co52,eo52⟩:=Kd.z1j HO106.out;subst eo52)|((with_reducible refine zl (f:=16) rfl ?_);refine goesL_ (some 11) rfl rfl Try.func16 zz84 rfl #[.int .i64 0,.slice Ao51 y101.length co51,.slice Ao52 y104.length co52] rfl zz44 ?_;(with_reducible refine (zq.calls k 0 _ _ y101 _ _ y104 t107 t108 _ ?side1 ?side2 ?side3 ?side4 A1.out).mono ?_);(case side1=>repeat (first|exact (Kd.zv HO103.out).2.2|(with_reducible refine Kd.zQ ?_ _)|(with_reducible refine Kd.zR ?_ _)|(with_reducible refine Kd.z1c ?_)));(case side2=>exact (Kd.zv HO103.out).2.1);(case side3=>repeat (first|exact (Kd.zv HO106.out).2.2|(with_reducible refine Kd.zQ ?_ _)|(with_reducible refine Kd.zR ?_ _)|(with_reducible refine Kd.z1c ?_)));(case side4=>exact (Kd.zv HO106.out).2.1);rintro e w53 ⟨v109,rfl,ho0,hb⟩;refine ⟨_,rfl,?_⟩;have n0_:=z4.mk (Kd.zx zz60 hb);have n1_:=z4.mk (Kd.z1d zz55 (Kd.z1y ho0) hb);have n2_:=z4.mk (Kd.z1e (Kd.z1z ho0 (Kd.R_lt zz55)) (ze zz45));have n3_:=z4.mk (z9 zz45 hb);clear HO103;clear HO106;clear HB;have HO103:=n0_;have HO106:=n1_;have HO110:=n2_;have HB:=n3_;clear n0_ n1_ n2_ n3_;(try clear hb);(try clear hb2);(try clear hk);(try clear hi);(try clear ho0);obtain ⟨Ao54,co54,eo54⟩:=Kd.z1j HO110.out;subst eo54)|((with_reducible refine zl (f:=25) rfl ?_);refine goesL_ (some 16) rfl rfl Try.func25 zz84 rfl #[.int .i64 0,.slice Ao54 t107.length co54,.slice none 0 0] rfl zz44 ?_;(refine (z1x.calls k 0 _ _ t107 _ _ ([] : List (S37)) t111 t112 t113 _ ?side1 ?side2 ?side3 ?side4 A2.out).mono ?_);(case side1=>repeat (first|exact (Kd.zv HO110.out).2.2|(with_reducible refine Kd.zQ ?_ _)|(with_reducible refine Kd.zR ?_ _)|(with_reducible refine Kd.z1c ?_)));(case side2=>exact (Kd.zv HO110.out).2.1);(case side3=>exact Kd.z2W _ _);(case side4=>exact Nat.le_refl _);rintro e w55 ⟨rfl,hb⟩;refine ⟨_,rfl,?_⟩;have n0_:=z4.mk (Kd.zx zz60 hb);have n1_:=z4.mk (Kd.zx zz55 hb);have n2_:=z4.mk (Kd.zx zz61 hb);have n3_:=z4.mk (z9 zz45 hb);clear HO103;clear HO106;clear HO110;clear HB;have HO103:=n0_;have HO106:=n1_;have HO110:=n2_;have HB:=n3_;clear n0_ n1_ n2_ n3_;(try clear hb);(try clear hb2);(try clear hk);(try clear hi))|((with_reducible refine zr (N:=3) rfl ?_);(try (refine zZ zz88 ?_;dsimp only));refine zy ?hg (N:=3) ?hd (cs:=#[.int .u64 0,.int .u64 0]) (t:=37) ?hr ?_;(case hd=>rfl);(case hg=>rfl);(case hr=>first|(go_simp;done)|(go_simp;rfl));intro gb114 hg w56 hbox hb;have n0_:=z4.mk (Kd.zx zz60 hb);have n1_:=z4.mk (Kd.zx (Kd.z1r zz55 gb114 (Nat.le_of_eq hg.symm)) hb);have n2_:=z4.mk (Kd.zx (Kd.z1r zz61 gb114 (Nat.le_of_eq hg.symm)) hb);have n3_:=z4.mk (z9 zz45 hb);have n4_:=z4.mk (hbox);have n5_:=z4.mk ((by rw [hg];exact (ze zz45) : w.heap.size ≤ gb114));have n6_:=z4.mk ((by rw [hg];exact (ze zz45) : w.heap.size ≤ gb114));clear HO103;clear HO106;clear HO110;clear HB;have HO103:=n0_;have HO106:=n1_;have HO110:=n2_;have HB:=n3_;have BK114:=n4_;have GW114:=n5_;have GE114:=n6_;clear n0_ n1_ n2_ n3_ n4_ n5_ n6_;clear hb hbox hg;have hcz57_0 : w56.cell? ⟨gb114,0,none⟩ = some (.int .u64 0):=(zf BK114.out 0).trans rfl;have hcz57_1 : w56.cell? ⟨gb114,1,none⟩ = some (.int .u64 0):=(zf BK114.out 1).trans rfl;have hfz57_0:=za BK114.out 0;have hfz57_1:=za BK114.out 1)|((with_reducible refine zr (N:=21) rfl ?_);(try (refine zZ zz88 ?_;dsimp only));refine Kd.z2b k37 _ 37 ?hg (N:=21) ?hd (xs:=([(⟨0,1⟩ : S37)] : List (S37))) (inner:=[.int .u64 0,.int .u64 1]) (ok:=fun _=>True) (okp:=fun _=>True) ?hr ?hp (fun _ hk=>hk) trivial (Below.refl _ _) (Nat.le_refl _) zz87 ?_;(case hd=>rfl);(case hg=>rfl);(case hr=>first|(go_simp;done)|(go_simp;rfl));(case hp=>exact (Reps.c2 (show Kd.M k37 _ _ _ (⟨0,1⟩ : S37) [.int .u64 0,.int .u64 1] from (z1K _ _ _ (⟨0,1⟩ : S37) )) (Reps.none _ _)));intro v116 w58 ho59 hb hg_ hnew_;clear hg_ hnew_;(first|rw [← Ny115.out] at ho59|(simp only [Int.reduceToNat] at ho59;rw [← Ny115.out] at ho59));have n0_:=z4.mk (Kd.zx zz22 hb);have n1_:=z4.mk (Kd.z1d zz18 (Kd.z1y ho59) hb);have n2_:=z4.mk (Kd.z1d zz19 (Kd.z1y ho59) hb);have n3_:=z4.mk (Kd.z1e (Kd.z2c (Kd.z1z (Kd.z1z ho59 (Kd.R_lt zz18)) (Kd.R_lt zz19)) (g:=gb114) (o:=.cells #[.int .u64 t111,.int .u64 t112] 37 (0,0)) zz5) (ze zz42));have n4_:=z4.mk (zh (g:=gb114) (o:=.cells #[.int .u64 t111,.int .u64 t112] 37 (0,0)) zz5 hb);have n5_:=z4.mk (z9 zz42 hb);clear HO103;clear HO106;clear HO110;clear BK114;clear HB;have HO103:=n0_;have HO106:=n1_;have HO110:=n2_;have HO117:=n3_;have BK114:=n4_;have HB:=n5_;clear n0_ n1_ n2_ n3_ n4_ n5_;clear hb ho59;obtain ⟨Ao60,co60,eo60⟩:=Kd.z1j HO117.out;subst eo60)|((with_reducible refine zl (f:=28) rfl ?_);refine goesL_ (some 22) rfl rfl Try.func28 zz84 rfl #[.int .i64 0,.slice Ao60 y115.length co60,.slice none 0 0] rfl zz44 ?_;(refine (z1f.calls k 0 _ _ y115 _ _ ([] : List (S37)) t118 t119 _ ?side1 ?side2 ?side3 ?side4 A3.out).mono ?_);(case side1=>repeat (first|exact (Kd.zv HO117.out).2.2|(with_reducible refine Kd.zQ ?_ _)|(with_reducible refine Kd.zR ?_ _)|(with_reducible refine Kd.z1c ?_)));(case side2=>exact (Kd.zv HO117.out).2.1);(case side3=>exact Kd.z2W _ _);(case side4=>exact Nat.le_refl _);rintro e w61 ⟨v120,rfl,ho0,hb⟩;refine ⟨_,rfl,?_⟩;have n0_:=z4.mk (Kd.zx zz60 hb);have n1_:=z4.mk (Kd.z1d zz55 (Kd.z1y ho0) hb);have n2_:=z4.mk (Kd.z1d zz61 (Kd.z1y ho0) hb);have n3_:=z4.mk (Kd.z1d zz62 (Kd.z1y ho0) hb);have n4_:=z4.mk (Kd.z1e (Kd.z2c (Kd.z1z (Kd.z1z (Kd.z1z ho0 (Kd.R_lt zz55)) (Kd.R_lt zz61)) (Kd.R_lt zz62)) (g:=gb114) (o:=.cells #[.int .u64 t111,.int .u64 t112] 37 (0,0)) zz50) (ze zz42));have n5_:=z4.mk (zh (g:=gb114) (o:=.cells #[.int .u64 t111,.int .u64 t112] 37 (0,0)) zz50 hb);have n6_:=z4.mk (z9 zz42 hb);clear HO103;clear HO106;clear HO110;clear HO117;clear BK114;clear HB;have HO103:=n0_;have HO106:=n1_;have HO110:=n2_;have HO117:=n3_;have HO121:=n4_;have BK114:=n5_;have HB:=n6_;clear n0_ n1_ n2_ n3_ n4_ n5_ n6_;(try clear hb);(try clear hb2);(try clear hk);(try clear hi);(try clear ho0);have p122 : 0 ≤ (0 : Int):=zz86;have q122 : 0 < (t107.length : Int):=of_decide_eq_true zz80;obtain ⟨ad122,e122,hx122_0,hx122_1⟩:=z1Y (Kd.zv HO110.out).2.2 0 p122 q122;cases e122;have qi122 : (0 < t107.length) = True:=eq_true zz86;(try rw [show ((0 : Int)).toNat = 0 from rfl] at hx122_0);(try rw [show 0 * 2 = 0 from rfl] at hx122_0);(try rw [Addr.add_zero'] at hx122_0);(try rw [show ((0 : Int)).toNat = 0 from rfl] at hx122_1);(try rw [show 0 * 2 = 0 from rfl] at hx122_1);(try rw [Addr.add_zero'] at hx122_1);replace p122:=eq_true p122;replace q122:=eq_true q122;have hcz62_0 : w61.cell? ⟨gb114,0,none⟩ = some (.int .u64 t111):=(zf BK114.out 0).trans rfl;have hcz62_1 : w61.cell? ⟨gb114,1,none⟩ = some (.int .u64 t112):=(zf BK114.out 1).trans rfl;have hfz62_0:=za BK114.out 0;have hfz62_1:=za BK114.out 1))
   go_ret
   exact ⟨by first|rfl|(simp [zi,zj] <;> rfl)|(simp [*,zi,zj] <;> rfl),by repeat (first|(with_reducible first|exact HB.out|apply zg|apply z6|apply zc|refine zd ?_ GE114.out)|exact HB.out)⟩
 rw [if_pos c10] at H
 have c10b0 : (t111 == 0 && (t112 == 0)) = true:=c10
 (try (have c10b1 : decide (t111 = 0 && (t112 == 0)) = true:=by simpa using c10))
 (try (have c10b2 : (t111 == 0 && (t112 == 0)) = true:=by simpa using c10))
 clear c10
 by_cases c11 : (t118.length : Int) = 2
 rotate_left
 · rw [if_neg c11] at H
   have c11b0 : ((t118.length : Int) == 2) = false:=beq_eq_false_iff_ne.mpr c11
   have c11b1 : ((t118.length : Int) != 2) = true:=bne_iff_ne.mpr c11
   obtain rfl:=Option.some.inj H
   go_enter Try.func15,Try.ntmps15
   go_wp2_with (first|((with_reducible refine zr (N:=8) rfl ?_);(try (refine zZ zz88 ?_;dsimp only));refine Kd.z2b Kd.bool _ 4 ?hg (N:=8) ?hd (xs:=([true,false] : List Bool)) (inner:=[.bool true,.bool false]) (ok:=fun _=>True) (okp:=fun _=>True) ?hr ?hp (fun _ hk=>hk) trivial (Below.refl _ _) (Nat.le_refl _) zz87 ?_;(case hd=>rfl);(case hg=>rfl);(case hr=>first|(go_simp;done)|(go_simp;rfl));(case hp=>exact (Reps.one (show Kd.M Kd.bool _ _ _ true [.bool true] from rfl) (Reps.one (show Kd.M Kd.bool _ _ _ false [.bool false] from rfl) (Reps.none _ _))));intro v102 w30 ho31 hb hg_ hnew_;clear hg_ hnew_;(first|rw [← Ny101.out] at ho31|(simp only [Int.reduceToNat] at ho31;rw [← Ny101.out] at ho31));have n0_:=z4.mk (Kd.z1e ho31 (ze zz45));have n1_:=z4.mk (z9 zz45 hb);clear HB;have HO103:=n0_;have HB:=n1_;clear n0_ n1_;clear hb ho31)|((with_reducible refine zr (N:=10) rfl ?_);(try (refine zZ zz88 ?_;dsimp only));refine Kd.z2b k37 _ 37 ?hg (N:=10) ?hd (xs:=([(⟨0,1⟩ : S37)] : List (S37))) (inner:=[.int .u64 0,.int .u64 1]) (ok:=fun _=>True) (okp:=fun _=>True) ?hr ?hp (fun _ hk=>hk) trivial (Below.refl _ _) (Nat.le_refl _) zz87 ?_;(case hd=>rfl);(case hg=>rfl);(case hr=>first|(go_simp;done)|(go_simp;rfl));(case hp=>exact (Reps.c2 (show Kd.M k37 _ _ _ (⟨0,1⟩ : S37) [.int .u64 0,.int .u64 1] from (z1K _ _ _ (⟨0,1⟩ : S37) )) (Reps.none _ _)));intro v105 w32 ho33 hb hg_ hnew_;clear hg_ hnew_;(first|rw [← Ny104.out] at ho33|(simp only [Int.reduceToNat] at ho33;rw [← Ny104.out] at ho33));have n0_:=z4.mk (Kd.zx zz60 hb);have n1_:=z4.mk (Kd.z1e ho33 (ze zz45));have n2_:=z4.mk (z9 zz45 hb);clear HO103;clear HB;have HO103:=n0_;have HO106:=n1_;have HB:=n2_;clear n0_ n1_ n2_;clear hb ho33;obtain ⟨Ao34,co34,eo34⟩:=Kd.z1j HO103.out;subst eo34;obtain ⟨Ao35,co35,eo35⟩:=Kd.z1j HO106.out;subst eo35)|((with_reducible refine zl (f:=16) rfl ?_);refine goesL_ (some 11) rfl rfl Try.func16 zz84 rfl #[.int .i64 0,.slice Ao34 y101.length co34,.slice Ao35 y104.length co35] rfl zz44 ?_;(with_reducible refine (zq.calls k 0 _ _ y101 _ _ y104 t107 t108 _ ?side1 ?side2 ?side3 ?side4 A1.out).mono ?_);(case side1=>repeat (first|exact (Kd.zv HO103.out).2.2|(with_reducible refine Kd.zQ ?_ _)|(with_reducible refine Kd.zR ?_ _)|(with_reducible refine Kd.z1c ?_)));(case side2=>exact (Kd.zv HO103.out).2.1);(case side3=>repeat (first|exact (Kd.zv HO106.out).2.2|(with_reducible refine Kd.zQ ?_ _)|(with_reducible refine Kd.zR ?_ _)|(with_reducible refine Kd.z1c ?_)));(case side4=>exact (Kd.zv HO106.out).2.1);rintro e w36 ⟨v109,rfl,ho0,hb⟩;refine ⟨_,rfl,?_⟩;have n0_:=z4.mk (Kd.zx zz60 hb);have n1_:=z4.mk (Kd.z1d zz55 (Kd.z1y ho0) hb);have n2_:=z4.mk (Kd.z1e (Kd.z1z ho0 (Kd.R_lt zz55)) (ze zz45));have n3_:=z4.mk (z9 zz45 hb);clear HO103;clear HO106;clear HB;have HO103:=n0_;have HO106:=n1_;have HO110:=n2_;have HB:=n3_;clear n0_ n1_ n2_ n3_;(try clear hb);(try clear hb2);(try clear hk);(try clear hi);(try clear ho0);obtain ⟨Ao37,co37,eo37⟩:=Kd.z1j HO110.out;subst eo37)|((with_reducible refine zl (f:=25) rfl ?_);refine goesL_ (some 16) rfl rfl Try.func25 zz84 rfl #[.int .i64 0,.slice Ao37 t107.length co37,.slice none 0 0] rfl zz44 ?_;(refine (z1x.calls k 0 _ _ t107 _ _ ([] : List (S37)) t111 t112 t113 _ ?side1 ?side2 ?side3 ?side4 A2.out).mono ?_);(case side1=>repeat (first|exact (Kd.zv HO110.out).2.2|(with_reducible refine Kd.zQ ?_ _)|(with_reducible refine Kd.zR ?_ _)|(with_reducible refine Kd.z1c ?_)));(case side2=>exact (Kd.zv HO110.out).2.1);(case side3=>exact Kd.z2W _ _);(case side4=>exact Nat.le_refl _);rintro e w38 ⟨rfl,hb⟩;refine ⟨_,rfl,?_⟩;have n0_:=z4.mk (Kd.zx zz60 hb);have n1_:=z4.mk (Kd.zx zz55 hb);have n2_:=z4.mk (Kd.zx zz61 hb);have n3_:=z4.mk (z9 zz45 hb);clear HO103;clear HO106;clear HO110;clear HB;have HO103:=n0_;have HO106:=n1_;have HO110:=n2_;have HB:=n3_;clear n0_ n1_ n2_ n3_;(try clear hb);(try clear hb2);(try clear hk);(try clear hi))|((with_reducible refine zr (N:=3) rfl ?_);(try (refine zZ zz88 ?_;dsimp only));refine zy ?hg (N:=3) ?hd (cs:=#[.int .u64 0,.int .u64 0]) (t:=37) ?hr ?_;(case hd=>rfl);(case hg=>rfl);(case hr=>first|(go_simp;done)|(go_simp;rfl));intro gb114 hg w39 hbox hb;have n0_:=z4.mk (Kd.zx zz60 hb);have n1_:=z4.mk (Kd.zx (Kd.z1r zz55 gb114 (Nat.le_of_eq hg.symm)) hb);have n2_:=z4.mk (Kd.zx (Kd.z1r zz61 gb114 (Nat.le_of_eq hg.symm)) hb);have n3_:=z4.mk (z9 zz45 hb);have n4_:=z4.mk (hbox);have n5_:=z4.mk ((by rw [hg];exact (ze zz45) : w.heap.size ≤ gb114));have n6_:=z4.mk ((by rw [hg];exact (ze zz45) : w.heap.size ≤ gb114));clear HO103;clear HO106;clear HO110;clear HB;have HO103:=n0_;have HO106:=n1_;have HO110:=n2_;have HB:=n3_;have BK114:=n4_;have GW114:=n5_;have GE114:=n6_;clear n0_ n1_ n2_ n3_ n4_ n5_ n6_;clear hb hbox hg;have hcz40_0 : w39.cell? ⟨gb114,0,none⟩ = some (.int .u64 0):=(zf BK114.out 0).trans rfl;have hcz40_1 : w39.cell? ⟨gb114,1,none⟩ = some (.int .u64 0):=(zf BK114.out 1).trans rfl;have hfz40_0:=za BK114.out 0;have hfz40_1:=za BK114.out 1)|((with_reducible refine zr (N:=21) rfl ?_);(try (refine zZ zz88 ?_;dsimp only));refine Kd.z2b k37 _ 37 ?hg (N:=21) ?hd (xs:=([(⟨0,1⟩ : S37)] : List (S37))) (inner:=[.int .u64 0,.int .u64 1]) (ok:=fun _=>True) (okp:=fun _=>True) ?hr ?hp (fun _ hk=>hk) trivial (Below.refl _ _) (Nat.le_refl _) zz87 ?_;(case hd=>rfl);(case hg=>rfl);(case hr=>first|(go_simp;done)|(go_simp;rfl));(case hp=>exact (Reps.c2 (show Kd.M k37 _ _ _ (⟨0,1⟩ : S37) [.int .u64 0,.int .u64 1] from (z1K _ _ _ (⟨0,1⟩ : S37) )) (Reps.none _ _)));intro v116 w41 ho42 hb hg_ hnew_;clear hg_ hnew_;(first|rw [← Ny115.out] at ho42|(simp only [Int.reduceToNat] at ho42;rw [← Ny115.out] at ho42));have n0_:=z4.mk (Kd.zx zz22 hb);have n1_:=z4.mk (Kd.z1d zz18 (Kd.z1y ho42) hb);have n2_:=z4.mk (Kd.z1d zz19 (Kd.z1y ho42) hb);have n3_:=z4.mk (Kd.z1e (Kd.z2c (Kd.z1z (Kd.z1z ho42 (Kd.R_lt zz18)) (Kd.R_lt zz19)) (g:=gb114) (o:=.cells #[.int .u64 t111,.int .u64 t112] 37 (0,0)) zz5) (ze zz42));have n4_:=z4.mk (zh (g:=gb114) (o:=.cells #[.int .u64 t111,.int .u64 t112] 37 (0,0)) zz5 hb);have n5_:=z4.mk (z9 zz42 hb);clear HO103;clear HO106;clear HO110;clear BK114;clear HB;have HO103:=n0_;have HO106:=n1_;have HO110:=n2_;have HO117:=n3_;have BK114:=n4_;have HB:=n5_;clear n0_ n1_ n2_ n3_ n4_ n5_;clear hb ho42;obtain ⟨Ao43,co43,eo43⟩:=Kd.z1j HO117.out;subst eo43)|((with_reducible refine zl (f:=28) rfl ?_);refine goesL_ (some 22) rfl rfl Try.func28 zz84 rfl #[.int .i64 0,.slice Ao43 y115.length co43,.slice none 0 0] rfl zz44 ?_;(refine (z1f.calls k 0 _ _ y115 _ _ ([] : List (S37)) t118 t119 _ ?side1 ?side2 ?side3 ?side4 A3.out).mono ?_);(case side1=>repeat (first|exact (Kd.zv HO117.out).2.2|(with_reducible refine Kd.zQ ?_ _)|(with_reducible refine Kd.zR ?_ _)|(with_reducible refine Kd.z1c ?_)));(case side2=>exact (Kd.zv HO117.out).2.1);(case side3=>exact Kd.z2W _ _);(case side4=>exact Nat.le_refl _);rintro e w44 ⟨v120,rfl,ho0,hb⟩;refine ⟨_,rfl,?_⟩;have n0_:=z4.mk (Kd.zx zz60 hb);have n1_:=z4.mk (Kd.z1d zz55 (Kd.z1y ho0) hb);have n2_:=z4.mk (Kd.z1d zz61 (Kd.z1y ho0) hb);have n3_:=z4.mk (Kd.z1d zz62 (Kd.z1y ho0) hb);have n4_:=z4.mk (Kd.z1e (Kd.z2c (Kd.z1z (Kd.z1z (Kd.z1z ho0 (Kd.R_lt zz55)) (Kd.R_lt zz61)) (Kd.R_lt zz62)) (g:=gb114) (o:=.cells #[.int .u64 t111,.int .u64 t112] 37 (0,0)) zz50) (ze zz42));have n5_:=z4.mk (zh (g:=gb114) (o:=.cells #[.int .u64 t111,.int .u64 t112] 37 (0,0)) zz50 hb);have n6_:=z4.mk (z9 zz42 hb);clear HO103;clear HO106;clear HO110;clear HO117;clear BK114;clear HB;have HO103:=n0_;have HO106:=n1_;have HO110:=n2_;have HO117:=n3_;have HO121:=n4_;have BK114:=n5_;have HB:=n6_;clear n0_ n1_ n2_ n3_ n4_ n5_ n6_;(try clear hb);(try clear hb2);(try clear hk);(try clear hi);(try clear ho0);have p122 : 0 ≤ (0 : Int):=zz86;have q122 : 0 < (t107.length : Int):=of_decide_eq_true zz80;obtain ⟨ad122,e122,hx122_0,hx122_1⟩:=z1Y (Kd.zv HO110.out).2.2 0 p122 q122;cases e122;have qi122 : (0 < t107.length) = True:=eq_true zz86;(try rw [show ((0 : Int)).toNat = 0 from rfl] at hx122_0);(try rw [show 0 * 2 = 0 from rfl] at hx122_0);(try rw [Addr.add_zero'] at hx122_0);(try rw [show ((0 : Int)).toNat = 0 from rfl] at hx122_1);(try rw [show 0 * 2 = 0 from rfl] at hx122_1);(try rw [Addr.add_zero'] at hx122_1);replace p122:=eq_true p122;replace q122:=eq_true q122;have hcz45_0 : w44.cell? ⟨gb114,0,none⟩ = some (.int .u64 t111):=(zf BK114.out 0).trans rfl;have hcz45_1 : w44.cell? ⟨gb114,1,none⟩ = some (.int .u64 t112):=(zf BK114.out 1).trans rfl;have hfz45_0:=za BK114.out 0;have hfz45_1:=za BK114.out 1;obtain ⟨Ao46,co46,eo46⟩:=Kd.z1j HO121.out;subst eo46))
   go_ret
   exact ⟨by first|rfl|(simp [zi,zj] <;> rfl)|(simp [*,zi,zj] <;> rfl),by repeat (first|(with_reducible first|exact HB.out|apply zg|apply z6|apply zc|refine zd ?_ GE114.out)|exact HB.out)⟩
 rw [if_pos c11] at H
 have c11b0 : ((t118.length : Int) == 2) = true:=beq_iff_eq.mpr c11
 have c11b1 : ((t118.length : Int) != 2) = false:=bne_eq_false_iff_eq.mpr c11
 clear c11
 by_cases c12 : 1 < (t118.length : Int)
 rotate_left
 · rw [if_neg c12] at H
   exact absurd H zz87
 rw [if_pos c12] at H
 have c12b0 : decide (1 < (t118.length : Int)) = true:=decide_eq_true c12
 have c12b1 : decide (1 < t118.length) = true:=decide_eq_true zz86
 clear c12
 obtain rfl:=Option.some.inj H
 go_enter Try.func15,Try.ntmps15
 go_wp2_with (first|((with_reducible refine zr (N:=8) rfl ?_);(try (refine zZ zz88 ?_;dsimp only));refine Kd.z2b Kd.bool _ 4 ?hg (N:=8) ?hd (xs:=([true,false] : List Bool)) (inner:=[.bool true,.bool false]) (ok:=fun _=>True) (okp:=fun _=>True) ?hr ?hp (fun _ hk=>hk) trivial (Below.refl _ _) (Nat.le_refl _) zz87 ?_;(case hd=>rfl);(case hg=>rfl);(case hr=>first|(go_simp;done)|(go_simp;rfl));(case hp=>exact (Reps.one (show Kd.M Kd.bool _ _ _ true [.bool true] from rfl) (Reps.one (show Kd.M Kd.bool _ _ _ false [.bool false] from rfl) (Reps.none _ _))));intro v102 w13 ho14 hb hg_ hnew_;clear hg_ hnew_;(first|rw [← Ny101.out] at ho14|(simp only [Int.reduceToNat] at ho14;rw [← Ny101.out] at ho14));have n0_:=z4.mk (Kd.z1e ho14 (ze zz45));have n1_:=z4.mk (z9 zz45 hb);clear HB;have HO103:=n0_;have HB:=n1_;clear n0_ n1_;clear hb ho14)|((with_reducible refine zr (N:=10) rfl ?_);(try (refine zZ zz88 ?_;dsimp only));refine Kd.z2b k37 _ 37 ?hg (N:=10) ?hd (xs:=([(⟨0,1⟩ : S37)] : List (S37))) (inner:=[.int .u64 0,.int .u64 1]) (ok:=fun _=>True) (okp:=fun _=>True) ?hr ?hp (fun _ hk=>hk) trivial (Below.refl _ _) (Nat.le_refl _) zz87 ?_;(case hd=>rfl);(case hg=>rfl);(case hr=>first|(go_simp;done)|(go_simp;rfl));(case hp=>exact (Reps.c2 (show Kd.M k37 _ _ _ (⟨0,1⟩ : S37) [.int .u64 0,.int .u64 1] from (z1K _ _ _ (⟨0,1⟩ : S37) )) (Reps.none _ _)));intro v105 w15 ho16 hb hg_ hnew_;clear hg_ hnew_;(first|rw [← Ny104.out] at ho16|(simp only [Int.reduceToNat] at ho16;rw [← Ny104.out] at ho16));have n0_:=z4.mk (Kd.zx zz60 hb);have n1_:=z4.mk (Kd.z1e ho16 (ze zz45));have n2_:=z4.mk (z9 zz45 hb);clear HO103;clear HB;have HO103:=n0_;have HO106:=n1_;have HB:=n2_;clear n0_ n1_ n2_;clear hb ho16;obtain ⟨Ao17,co17,eo17⟩:=Kd.z1j HO103.out;subst eo17;obtain ⟨Ao18,co18,eo18⟩:=Kd.z1j HO106.out;subst eo18)|((with_reducible refine zl (f:=16) rfl ?_);refine goesL_ (some 11) rfl rfl Try.func16 zz84 rfl #[.int .i64 0,.slice Ao17 y101.length co17,.slice Ao18 y104.length co18] rfl zz44 ?_;(with_reducible refine (zq.calls k 0 _ _ y101 _ _ y104 t107 t108 _ ?side1 ?side2 ?side3 ?side4 A1.out).mono ?_);(case side1=>repeat (first|exact (Kd.zv HO103.out).2.2|(with_reducible refine Kd.zQ ?_ _)|(with_reducible refine Kd.zR ?_ _)|(with_reducible refine Kd.z1c ?_)));(case side2=>exact (Kd.zv HO103.out).2.1);(case side3=>repeat (first|exact (Kd.zv HO106.out).2.2|(with_reducible refine Kd.zQ ?_ _)|(with_reducible refine Kd.zR ?_ _)|(with_reducible refine Kd.z1c ?_)));(case side4=>exact (Kd.zv HO106.out).2.1);rintro e w19 ⟨v109,rfl,ho0,hb⟩;refine ⟨_,rfl,?_⟩;have n0_:=z4.mk (Kd.zx zz60 hb);have n1_:=z4.mk (Kd.z1d zz55 (Kd.z1y ho0) hb);have n2_:=z4.mk (Kd.z1e (Kd.z1z ho0 (Kd.R_lt zz55)) (ze zz45));have n3_:=z4.mk (z9 zz45 hb);clear HO103;clear HO106;clear HB;have HO103:=n0_;have HO106:=n1_;have HO110:=n2_;have HB:=n3_;clear n0_ n1_ n2_ n3_;(try clear hb);(try clear hb2);(try clear hk);(try clear hi);(try clear ho0);obtain ⟨Ao20,co20,eo20⟩:=Kd.z1j HO110.out;subst eo20)|((with_reducible refine zl (f:=25) rfl ?_);refine goesL_ (some 16) rfl rfl Try.func25 zz84 rfl #[.int .i64 0,.slice Ao20 t107.length co20,.slice none 0 0] rfl zz44 ?_;(refine (z1x.calls k 0 _ _ t107 _ _ ([] : List (S37)) t111 t112 t113 _ ?side1 ?side2 ?side3 ?side4 A2.out).mono ?_);(case side1=>repeat (first|exact (Kd.zv HO110.out).2.2|(with_reducible refine Kd.zQ ?_ _)|(with_reducible refine Kd.zR ?_ _)|(with_reducible refine Kd.z1c ?_)));(case side2=>exact (Kd.zv HO110.out).2.1);(case side3=>exact Kd.z2W _ _);(case side4=>exact Nat.le_refl _);rintro e w21 ⟨rfl,hb⟩;refine ⟨_,rfl,?_⟩;have n0_:=z4.mk (Kd.zx zz60 hb);have n1_:=z4.mk (Kd.zx zz55 hb);have n2_:=z4.mk (Kd.zx zz61 hb);have n3_:=z4.mk (z9 zz45 hb);clear HO103;clear HO106;clear HO110;clear HB;have HO103:=n0_;have HO106:=n1_;have HO110:=n2_;have HB:=n3_;clear n0_ n1_ n2_ n3_;(try clear hb);(try clear hb2);(try clear hk);(try clear hi))|((with_reducible refine zr (N:=3) rfl ?_);(try (refine zZ zz88 ?_;dsimp only));refine zy ?hg (N:=3) ?hd (cs:=#[.int .u64 0,.int .u64 0]) (t:=37) ?hr ?_;(case hd=>rfl);(case hg=>rfl);(case hr=>first|(go_simp;done)|(go_simp;rfl));intro gb114 hg w22 hbox hb;have n0_:=z4.mk (Kd.zx zz60 hb);have n1_:=z4.mk (Kd.zx (Kd.z1r zz55 gb114 (Nat.le_of_eq hg.symm)) hb);have n2_:=z4.mk (Kd.zx (Kd.z1r zz61 gb114 (Nat.le_of_eq hg.symm)) hb);have n3_:=z4.mk (z9 zz45 hb);have n4_:=z4.mk (hbox);have n5_:=z4.mk ((by rw [hg];exact (ze zz45) : w.heap.size ≤ gb114));have n6_:=z4.mk ((by rw [hg];exact (ze zz45) : w.heap.size ≤ gb114));clear HO103;clear HO106;clear HO110;clear HB;have HO103:=n0_;have HO106:=n1_;have HO110:=n2_;have HB:=n3_;have BK114:=n4_;have GW114:=n5_;have GE114:=n6_;clear n0_ n1_ n2_ n3_ n4_ n5_ n6_;clear hb hbox hg;have hcz23_0 : w22.cell? ⟨gb114,0,none⟩ = some (.int .u64 0):=(zf BK114.out 0).trans rfl;have hcz23_1 : w22.cell? ⟨gb114,1,none⟩ = some (.int .u64 0):=(zf BK114.out 1).trans rfl;have hfz23_0:=za BK114.out 0;have hfz23_1:=za BK114.out 1)|((with_reducible refine zr (N:=21) rfl ?_);(try (refine zZ zz88 ?_;dsimp only));refine Kd.z2b k37 _ 37 ?hg (N:=21) ?hd (xs:=([(⟨0,1⟩ : S37)] : List (S37))) (inner:=[.int .u64 0,.int .u64 1]) (ok:=fun _=>True) (okp:=fun _=>True) ?hr ?hp (fun _ hk=>hk) trivial (Below.refl _ _) (Nat.le_refl _) zz87 ?_;(case hd=>rfl);(case hg=>rfl);(case hr=>first|(go_simp;done)|(go_simp;rfl));(case hp=>exact (Reps.c2 (show Kd.M k37 _ _ _ (⟨0,1⟩ : S37) [.int .u64 0,.int .u64 1] from (z1K _ _ _ (⟨0,1⟩ : S37) )) (Reps.none _ _)));intro v116 w24 ho25 hb hg_ hnew_;clear hg_ hnew_;(first|rw [← Ny115.out] at ho25|(simp only [Int.reduceToNat] at ho25;rw [← Ny115.out] at ho25));have n0_:=z4.mk (Kd.zx zz22 hb);have n1_:=z4.mk (Kd.z1d zz18 (Kd.z1y ho25) hb);have n2_:=z4.mk (Kd.z1d zz19 (Kd.z1y ho25) hb);have n3_:=z4.mk (Kd.z1e (Kd.z2c (Kd.z1z (Kd.z1z ho25 (Kd.R_lt zz18)) (Kd.R_lt zz19)) (g:=gb114) (o:=.cells #[.int .u64 t111,.int .u64 t112] 37 (0,0)) zz5) (ze zz42));have n4_:=z4.mk (zh (g:=gb114) (o:=.cells #[.int .u64 t111,.int .u64 t112] 37 (0,0)) zz5 hb);have n5_:=z4.mk (z9 zz42 hb);clear HO103;clear HO106;clear HO110;clear BK114;clear HB;have HO103:=n0_;have HO106:=n1_;have HO110:=n2_;have HO117:=n3_;have BK114:=n4_;have HB:=n5_;clear n0_ n1_ n2_ n3_ n4_ n5_;clear hb ho25;obtain ⟨Ao26,co26,eo26⟩:=Kd.z1j HO117.out;subst eo26)|((with_reducible refine zl (f:=28) rfl ?_);refine goesL_ (some 22) rfl rfl Try.func28 zz84 rfl #[.int .i64 0,.slice Ao26 y115.length co26,.slice none 0 0] rfl zz44 ?_;(refine (z1f.calls k 0 _ _ y115 _ _ ([] : List (S37)) t118 t119 _ ?side1 ?side2 ?side3 ?side4 A3.out).mono ?_);(case side1=>repeat (first|exact (Kd.zv HO117.out).2.2|(with_reducible refine Kd.zQ ?_ _)|(with_reducible refine Kd.zR ?_ _)|(with_reducible refine Kd.z1c ?_)));(case side2=>exact (Kd.zv HO117.out).2.1);(case side3=>exact Kd.z2W _ _);(case side4=>exact Nat.le_refl _);rintro e w27 ⟨v120,rfl,ho0,hb⟩;refine ⟨_,rfl,?_⟩;have n0_:=z4.mk (Kd.zx zz60 hb);have n1_:=z4.mk (Kd.z1d zz55 (Kd.z1y ho0) hb);have n2_:=z4.mk (Kd.z1d zz61 (Kd.z1y ho0) hb);have n3_:=z4.mk (Kd.z1d zz62 (Kd.z1y ho0) hb);have n4_:=z4.mk (Kd.z1e (Kd.z2c (Kd.z1z (Kd.z1z (Kd.z1z ho0 (Kd.R_lt zz55)) (Kd.R_lt zz61)) (Kd.R_lt zz62)) (g:=gb114) (o:=.cells #[.int .u64 t111,.int .u64 t112] 37 (0,0)) zz50) (ze zz42));have n5_:=z4.mk (zh (g:=gb114) (o:=.cells #[.int .u64 t111,.int .u64 t112] 37 (0,0)) zz50 hb);have n6_:=z4.mk (z9 zz42 hb);clear HO103;clear HO106;clear HO110;clear HO117;clear BK114;clear HB;have HO103:=n0_;have HO106:=n1_;have HO110:=n2_;have HO117:=n3_;have HO121:=n4_;have BK114:=n5_;have HB:=n6_;clear n0_ n1_ n2_ n3_ n4_ n5_ n6_;(try clear hb);(try clear hb2);(try clear hk);(try clear hi);(try clear ho0);have p122 : 0 ≤ (0 : Int):=zz86;have q122 : 0 < (t107.length : Int):=of_decide_eq_true zz80;obtain ⟨ad122,e122,hx122_0,hx122_1⟩:=z1Y (Kd.zv HO110.out).2.2 0 p122 q122;cases e122;have qi122 : (0 < t107.length) = True:=eq_true zz86;(try rw [show ((0 : Int)).toNat = 0 from rfl] at hx122_0);(try rw [show 0 * 2 = 0 from rfl] at hx122_0);(try rw [Addr.add_zero'] at hx122_0);(try rw [show ((0 : Int)).toNat = 0 from rfl] at hx122_1);(try rw [show 0 * 2 = 0 from rfl] at hx122_1);(try rw [Addr.add_zero'] at hx122_1);replace p122:=eq_true p122;replace q122:=eq_true q122;have hcz28_0 : w27.cell? ⟨gb114,0,none⟩ = some (.int .u64 t111):=(zf BK114.out 0).trans rfl;have hcz28_1 : w27.cell? ⟨gb114,1,none⟩ = some (.int .u64 t112):=(zf BK114.out 1).trans rfl;have hfz28_0:=za BK114.out 0;have hfz28_1:=za BK114.out 1;obtain ⟨Ao29,co29,eo29⟩:=Kd.z1j HO121.out;subst eo29;have p123 : 0 ≤ (1 : Int):=zz86;have q123 : 1 < (t118.length : Int):=of_decide_eq_true zz80;obtain ⟨ad123,e123,hx123_0,hx123_1⟩:=z1Y (Kd.zv HO121.out).2.2 1 p123 q123;cases e123;(try simp only [show (1 : Int).toNat = 1 from rfl,Nat.reduceMul,Nat.reduceEqDiff,Go.Addr.add,↓reduceIte] at hx123_0);(try simp only [show (1 : Int).toNat = 1 from rfl,Nat.reduceMul,Nat.reduceEqDiff,Go.Addr.add,↓reduceIte] at hx123_1);have qi123 : (1 < t118.length) = True:=eq_true zz86;(try rw [show ((1 : Int)).toNat = 1 from rfl] at hx123_0);(try rw [show 1 * 2 = 2 from rfl] at hx123_0);(try rw [show ((1 : Int)).toNat = 1 from rfl] at hx123_1);(try rw [show 1 * 2 = 2 from rfl] at hx123_1);replace p123:=eq_true p123;replace q123:=eq_true q123))
 go_ret
 exact ⟨by first|rfl|(simp [zi,zj] <;> rfl)|(simp [*,zi,zj] <;> rfl),by repeat (first|(with_reducible first|exact HB.out|apply zg|apply z6|apply zc|refine zd ?_ GE114.out)|exact HB.out)⟩
end Go.Proofs.Ytklkmflhnljbdaa.P
namespace Go.Proofs.Ytklkmflhnljbdaa.P
open Go.RowKit Go.Proofs.YtklkmflhnljbdaaW.PrintWords Go.Proofs.YtklkmflhnljbdaaW.PrintLast Go.Proofs.YtklkmflhnljbdaaW.PrintMore
attribute [local go_sem] z17 z19 z1m z1n zU zV z18 z1a   -- for this text's walks alone
set_option linter.unusedVariables false
set_option linter.unusedSimpArgs false
theorem eqA48 (d : Nat) (w : World) (x0 y0 : Int) (x1 y1 : Int) :
 (Op.equalIn (d + 2) 48 (.agg #[.int .u64 x0,.int .u64 x1]) (.agg #[.int .u64 y0,.int .u64 y1])).run Try.prog w = .ok (x0 == y0 && (x1 == y1)) w:=by
 refine eqA_of Try.underlying48 zz84 ?_
 refine z60 zz88 zz82 zz82 (by go_simp) ?_
 exact z61 zz88 zz82 zz82 (by go_simp)
end Go.Proofs.Ytklkmflhnljbdaa.P
namespace Go.Proofs.Ytklkmflhnljbdaa.P
open Go.RowKit Go.Proofs.YtklkmflhnljbdaaW.PrintWords Go.Proofs.YtklkmflhnljbdaaW.PrintLast Go.Proofs.YtklkmflhnljbdaaW.PrintMore
attribute [local go_sem] z17 z19 z1m z1n zU zV z18 z1a   -- for this text's walks alone
set_option linter.unusedVariables false
set_option linter.unusedSimpArgs false
attribute [local go_sem high] eqA48
def zt.l0 : Nat → List (S37) → List (S48) → Int → Option (Bool)
 | 0,_,_,_=>none
 | k + 1,x0,x1,x5=>if x5 < (x0.length : Int) then (if 0 ≤ x5 then (if x5 < (x1.length : Int) then (if (!(((rd_T37 x0 x5).f0) == ((z1A x1 x5).f0)) || (!(((rd_T37 x0 x5).f1) == ((z1A x1 x5).f1)))) = true then (some false) else (zt.l0 k x0 x1 (wrap64 (x5 + 1)))) else (none)) else (none)) else (some true)
def zt.f (k : Nat) (l0 : List (S37)) (l1 : List (S48)) : Option (Bool):=if (l0.length : Int) = (l1.length : Int) then (zt.l0 k l0 l1 0) else (some false)
theorem zt.z1b : ∀ k,(∀ y0 y1 y2,LeO (zt.l0 k y0 y1 y2) (zt.l0 (k + 1) y0 y1 y2))
 | 0=>fun _ _ _ r h=>by simp [zt.l0] at h
 | k + 1=>by
  have ih0:=zt.z1b k
  · intro y0 y1 y2
    unfold zt.l0
    repeat' first
    | (with_reducible exact ih0 _ _ _)
    | (with_reducible exact LeO.refl _)
    | (with_reducible exact LeO.none _)
    | (with_reducible refine LeO.ite ?_ ?_)
    | (with_reducible refine LeO.bind ?_ (fun _=>?_))
    | exact ih0 _ _ _
    | exact LeO.none _
    | refine LeO.ite ?_ ?_
    | refine LeO.bind ?_ (fun _=>?_)
theorem zt.mono : ∀ a0 a1 k,LeO (zt.f k a0 a1) (zt.f (k + 1) a0 a1):=by
 intro a0 a1 k
 have ih0:=zt.z1b k
 unfold zt.f
 repeat' first
  | (with_reducible exact ih0 _ _ _)
  | (with_reducible exact LeO.refl _)
  | (with_reducible exact LeO.none _)
  | (with_reducible refine LeO.ite ?_ ?_)
  | (with_reducible refine LeO.bind ?_ (fun _=>?_))
  | exact ih0 _ _ _
  | exact LeO.none _
  | refine LeO.ite ?_ ?_
  | refine LeO.bind ?_ (fun _=>?_)
set_option maxHeartbeats 8000000 in
set_option maxRecDepth 100000 in
theorem zt.calls (k : Nat) (A0 : Option Addr) (c0 : Nat) (l0 : List (S37)) (A1 : Option Addr) (c1 : Nat) (l1 : List (S48)) (r : Bool) (w : World) (hr0 : Kd.C k37 w A0 l0.length l0) (hc0 : l0.length ≤ c0) (hr1 : Kd.C k48 w A1 l1.length l1) (hc1 : l1.length ≤ c1) (h : zt.f k l0 l1 = some r) :
 Calls Try.prog 17 #[.slice A0 l0.length c0,.slice A1 l1.length c1] w fun e w'=>e = .returned (.bool r) ∧ Drawn0 w w':=by
 have hu37:=Try.underlying37
 have hu48:=Try.underlying48
 have HR0:=z4.mk hr0
 have HC0:=z4.mk hc0
 clear hr0 hc0
 have HR1:=z4.mk hr1
 have HC1:=z4.mk hc1
 clear hr1 hc1
 have H : (if (l0.length : Int) = (l1.length : Int) then (zt.l0 k l0 l1 0) else (some false)) = some r:=h
 clear h
 by_cases c3 : (l0.length : Int) = (l1.length : Int)
 rotate_left
 · rw [if_neg c3] at H
   have c3b0 : ((l0.length : Int) == (l1.length : Int)) = false:=beq_eq_false_iff_ne.mpr c3
   have c3b1 : ((l0.length : Int) != (l1.length : Int)) = true:=bne_iff_ne.mpr c3
   have c3b2 : (l0.length == l1.length) = false:=by first|simpa using c3|(simp at c3 ⊢;omega)
   obtain rfl:=Option.some.inj H
   go_enter Try.func17,Try.ntmps17
   go_wp2
   repeat (go_quiet (fail);try go_wp2)
   go_ret
   exact ⟨by first|rfl|(simp;done)|(simp [*];done),by repeat (first|exact Drawn0.refl _|apply Drawn0.step)⟩
 rw [if_pos c3] at H
 have c3b0 : ((l0.length : Int) == (l1.length : Int)) = true:=beq_iff_eq.mpr c3
 have c3b1 : ((l0.length : Int) != (l1.length : Int)) = false:=bne_eq_false_iff_eq.mpr c3
 have c3b2 : (l0.length == l1.length) = true:=by first|simpa using c3|(simp at c3 ⊢;omega)
 clear c3
 have H':=z4.mk H
 clear H
 go_enter Try.func17,Try.ntmps17
 go_wp2
 repeat (go_quiet (fail);try go_wp2)
 go_loopg [5] k (fun kq v5 w'=>∃ (x5_1 : Int),v5 = .int .i64 x5_1 ∧ z4 (zt.l0 kq l0 l1 x5_1 = some r) ∧ z4 (kq ≤ k) ∧ Drawn0 w w')
 case atStart=>exact ⟨(0),zz81,H',⟨Nat.le_refl _⟩,by repeat (first|exact Drawn0.refl _|apply Drawn0.step)⟩
 case round =>
  clear H'
  (try clear c1);(try clear p2);(try clear c3);(try clear c3b0);(try clear c3b1);(try clear c3b2)
  obtain ⟨x5_1,rfl,HA,HK1,⟨m1,rfl⟩⟩:=hrel
  cases gk with
  | zero=>exact absurd HA.out (by simp [zt.l0])
  | succ k1 =>
   have H:=HA.out
   clear HA
   simp only [zt.l0] at H
   by_cases c4 : x5_1 < (l0.length : Int)
   rotate_left
   · rw [if_neg c4] at H
     have c4b0 : decide (x5_1 < (l0.length : Int)) = false:=decide_eq_false c4
     clear c4
     obtain rfl:=Option.some.inj H
     go_wp2
     repeat (go_quiet (fail);try go_wp2)
     go_ret
     exact ⟨by first|rfl|(simp;done)|(simp [*];done),by repeat (first|exact Drawn0.refl _|apply Drawn0.step)⟩
   rw [if_pos c4] at H
   have c4b0 : decide (x5_1 < (l0.length : Int)) = true:=decide_eq_true c4
   clear c4
   by_cases c5 : 0 ≤ x5_1
   rotate_left
   · rw [if_neg c5] at H
     exact absurd H zz87
   rw [if_pos c5] at H
   have c5b0 : decide (0 ≤ x5_1) = true:=decide_eq_true c5
   clear c5
   by_cases c6 : x5_1 < (l1.length : Int)
   rotate_left
   · rw [if_neg c6] at H
     exact absurd H zz87
   rw [if_pos c6] at H
   have c6b0 : decide (x5_1 < (l1.length : Int)) = true:=decide_eq_true c6
   clear c6
   by_cases c7 : (!(((rd_T37 l0 x5_1).f0) == ((z1A l1 x5_1).f0)) || (!(((rd_T37 l0 x5_1).f1) == ((z1A l1 x5_1).f1)))) = true
   · rw [if_pos c7] at H
     have c7b0 : (!(((rd_T37 l0 x5_1).f0) == ((z1A l1 x5_1).f0)) || (!(((rd_T37 l0 x5_1).f1) == ((z1A l1 x5_1).f1)))) = true:=c7
     clear c7
     obtain rfl:=Option.some.inj H
     have p101 : 0 ≤ (x5_1 : Int):=of_decide_eq_true zz80
     have q101 : x5_1 < (l0.length : Int):=of_decide_eq_true zz80
     obtain ⟨ad101,e101,hx101_0,hx101_1⟩:=z1Y HR0.out x5_1 p101 q101
     cases e101
     replace p101:=eq_true p101
     replace q101:=eq_true q101
     have p102 : 0 ≤ (x5_1 : Int):=of_decide_eq_true zz80
     have q102 : x5_1 < (l1.length : Int):=of_decide_eq_true zz80
     obtain ⟨ad102,e102,hx102_0,hx102_1⟩:=z44 HR1.out x5_1 p102 q102
     cases e102
     replace p102:=eq_true p102
     replace q102:=eq_true q102
     go_wp2
     repeat (go_quiet (fail);try go_wp2)
     go_ret
     exact ⟨by first|rfl|(simp;done)|(simp [*];done),by repeat (first|exact Drawn0.refl _|apply Drawn0.step)⟩
   rw [if_neg c7] at H
   have c7b0 : (!(((rd_T37 l0 x5_1).f0) == ((z1A l1 x5_1).f0)) || (!(((rd_T37 l0 x5_1).f1) == ((z1A l1 x5_1).f1)))) = false:=by simpa using c7
   clear c7
   have H':=z4.mk H
   clear H
   have p101 : 0 ≤ (x5_1 : Int):=of_decide_eq_true zz80
   have q101 : x5_1 < (l0.length : Int):=of_decide_eq_true zz80
   obtain ⟨ad101,e101,hx101_0,hx101_1⟩:=z1Y HR0.out x5_1 p101 q101
   cases e101
   replace p101:=eq_true p101
   replace q101:=eq_true q101
   have p102 : 0 ≤ (x5_1 : Int):=of_decide_eq_true zz80
   have q102 : x5_1 < (l1.length : Int):=of_decide_eq_true zz80
   obtain ⟨ad102,e102,hx102_0,hx102_1⟩:=z44 HR1.out x5_1 p102 q102
   cases e102
   replace p102:=eq_true p102
   replace q102:=eq_true q102
   go_wp2
   repeat (go_quiet (fail);try go_wp2)
   go_roundg k1
   case measure=>have:=HK1.out;omega
   case rel=>exact ⟨(wrap64 (x5_1 + 1)),zz81,H',⟨by have:=HK1.out;omega⟩,by repeat (first|exact Drawn0.refl _|apply Drawn0.step)⟩
end Go.Proofs.Ytklkmflhnljbdaa.P
namespace Go.Proofs.Ytklkmflhnljbdaa.P
open Go.RowKit Go.Proofs.YtklkmflhnljbdaaW.PrintWords Go.Proofs.YtklkmflhnljbdaaW.PrintLast Go.Proofs.YtklkmflhnljbdaaW.PrintMore
attribute [local go_sem] z17 z19 z1m z1n zU zV z18 z1a   -- for this text's walks alone
set_option linter.unusedVariables false
set_option linter.unusedSimpArgs false
def zK.q.f (k : Nat) (a0 : Int) (x0 : Int) (x1 : Int) : Option Bool:=(z1Q.f k x0 x1).bind fun t=>some (!(decide (t ≥ a0)))
theorem zK.q.mono : ∀ a0 a1 a2 k,LeO (zK.q.f k a0 a1 a2) (zK.q.f (k + 1) a0 a1 a2):=fun a0 a1 a2 k=>LeO.bind (z1Q.mono _ _ k) (fun _=>LeO.refl _)
set_option maxHeartbeats 800000 in
set_option maxRecDepth 100000 in
theorem zK.clo (k : Nat) (a0 : Int) (x : S37) (g : Nat) (r : Bool) (w : World) (hg : w.heap[g]? = some (.cells #[.int .i64 a0] 3 (0,0))) (h : zK.q.f k a0 x.f0 x.f1 = some r) :
 Calls Try.prog 117 #[.agg #[.int .u64 x.f0,.int .u64 x.f1],.pointer (some ⟨g,0,none⟩)] w fun e w'=>e = .returned (.bool (!r)) ∧ Below w.heap.size w w':=by
 have hu37:=Try.underlying37
 obtain ⟨t,ht,h2⟩:=Option.bind_eq_some_iff.mp h
 obtain rfl:=Option.some.inj h2
 have HB:=z4.mk (Below.refl w.heap.size w)
 have HG:=z4.mk hg
 have A8:=z4.mk ht
 clear hg h h2 ht
 go_enter Try.func117,Try.ntmps117
 try go_wp2_with (first
  | ((with_reducible refine zr (N:=2) rfl ?_);refine zy ?hg (N:=2) ?hd (cs:=#[.int .u64 x.f0,.int .u64 x.f1]) (t:=37) ?hr ?_;(case hd=>rfl);(case hg=>rfl);(case hr=>first|(go_simp;done)|(go_simp;rfl));intro gb hgb w1_ hbox hb;have n0_:=z4.mk (z9 HB.out hb);have n1_:=z4.mk (zh (g:=g) (o:=(.cells #[.int .i64 a0] 3 (0,0))) HG.out hb);have n2_:=z4.mk hbox;clear HB HG hbox hb hgb;have HB:=n0_;have HG:=n1_;have BX:=n2_;clear n0_ n1_ n2_))
 have n0_:=z4.mk (zb HG.out)
 have n1_:=z4.mk (zb BX.out)
 have n2_:=z4.mk (zc HB.out)
 clear HG BX HB
 have HG:=n0_
 have BX:=n1_
 have HB:=n2_
 clear n0_ n1_ n2_
 refine start_ (n:=5) (S:=fun w'=>w'.cell? ⟨gb,0,none⟩ = some (.int .u64 x.f0) ∧ w'.cell? ⟨gb,1,none⟩ = some (.int .u64 x.f1) ∧ w'.cell? ⟨g,0,none⟩ = some (.int .i64 a0)) (ds:=[]) #[false,false,false,false,false] zz84 rfl rfl ⟨(zf BX.out 0).trans rfl,(zf BX.out 1).trans rfl,(zf HG.out 0).trans rfl⟩ (fun hHeld=>?_)
 generalize w1_.drew = w2_ at HG BX HB hHeld ⊢
 refine take_ (i:=0) (N:=some 4) (v:=?_) (a':=?_) #[true,false,false,false,false] rfl rfl zz84 (fun _ _ _ h=>h) (Or.inl ⟨by rfl,?_⟩) hHeld ?_ ?_
 rotate_left
 · rintro w' ⟨s0,s1,s2⟩
   go_simp
   with_reducible rfl
 rotate_left
 · simp only [Act.put,List.setIfInBounds_toArray,List.set_cons_zero,List.set_cons_succ,zY,z16]
   rfl
 refine take_ (i:=2) (N:=some 6) (v:=?_) (a':=?_) #[true,false,true,false,false] rfl rfl zz84 (fun _ _ _ h=>h) (Or.inl ⟨by rfl,?_⟩) hHeld ?_ ?_
 rotate_left
 · rintro w' ⟨s0,s1,s2⟩
   go_simp
   with_reducible rfl
 rotate_left
 · simp only [Act.put,List.setIfInBounds_toArray,List.set_cons_zero,List.set_cons_succ,zY,z16]
   rfl
 refine one_ (i:=1) (N:=some 5) #[true,true,true,false,false] rfl rfl zz84 zz85 (fun K hK=>?_)
 refine goes_ Try.func100 zz84 rfl #[.agg #[.int .u64 x.f0,.int .u64 x.f1]] zz88 rfl rfl zz79 ?_
 with_reducible refine (z1Q.calls k x.f0 x.f1 t _ A8.out).mono ?_
 rintro e w3_ ⟨rfl,hb0⟩
 have hb:=hb0
 refine ⟨_,rfl,?_⟩
 have n0_:=z4.mk (zh (g:=g) (o:=(.cells #[.int .i64 a0] 3 (0,0))) HG.out hb)
 have n1_:=z4.mk (zh (g:=gb) (o:=(.cells #[.int .u64 x.f0,.int .u64 x.f1] 37 (0,0))) BX.out hb)
 have n2_:=z4.mk (z9 HB.out hb)
 clear HG BX HB hb hb0
 have HG:=n0_
 have BX:=n1_
 have HB:=n2_
 clear n0_ n1_ n2_
 refine hK.out _ _ ⟨(zf BX.out 0).trans rfl,(zf BX.out 1).trans rfl,(zf HG.out 0).trans rfl⟩ (fun hHeld=>?_)
 clear hK K
 refine norm_ (a':=?_) ?_ ?_
 rotate_left
 · show Act.put _ (some 5) _ = _
   simp only [Act.put,List.setIfInBounds_toArray,List.set_cons_zero,List.set_cons_succ,zY,z16]
   rfl
 refine pure_ (i:=3) (N:=some 7) (v:=?_) (a':=?_) #[true,true,true,true,false] rfl rfl zz84 (fun _ _ _ h=>h) (Or.inl ⟨by rfl,?_⟩) ?_ ?_
 rotate_left
 · intro w'
   go_simp
   with_reducible rfl
 rotate_left
 · simp only [Act.put,List.setIfInBounds_toArray,List.set_cons_zero,List.set_cons_succ,zY,z16]
   rfl
 refine pure_ (i:=4) (N:=some 3) (v:=?_) (a':=?_) #[true,true,true,true,true] rfl rfl zz84 (fun _ _ _ h=>h) (Or.inl ⟨by rfl,?_⟩) ?_ ?_
 rotate_left
 · intro w'
   go_simp
   with_reducible rfl
 rotate_left
 · simp only [Act.put,List.setIfInBounds_toArray,List.set_cons_zero,List.set_cons_succ,zY,z16]
   rfl
 refine done_ zz84 ?_
 try go_wp2
 go_ret
 exact ⟨by simp,HB.out⟩
def zK.all (k : Nat) (a0 : Int) : List S37 → Option Bool
 | []=>some true
 | x :: xs=>(zK.q.f k a0 x.f0 x.f1).bind fun b=>if b = true then zK.all k a0 xs else some false
theorem zK.z2w (a0 : Int) : ∀ (l : List S37) (k : Nat),LeO (zK.all k a0 l) (zK.all (k + 1) a0 l)
 | [],k=>LeO.refl _
 | x :: xs,k=>LeO.bind (zK.q.mono a0 x.f0 x.f1 k) (fun b=>LeO.ite (zK.z2w a0 xs k) (LeO.refl _))
theorem zK.z3k (k : Nat) (a0 : Int) (l : List S37) (i : Nat) (h : i < l.length) : zK.all k a0 (l.drop i) = (zK.q.f k a0 (rd_T37 l (i : Int)).f0 (rd_T37 l (i : Int)).f1).bind fun b=>if b = true then zK.all k a0 (l.drop (i + 1)) else some false:=by
 rw [List.drop_eq_getElem_cons h]
 have e : rd_T37 l (i : Int) = l[i]:=by unfold rd_T37;rw [Int.toNat_natCast,List.getD_eq_getElem?_getD,List.getElem?_eq_getElem h];rfl
 rw [e];rfl
set_option maxHeartbeats 800000 in
set_option maxRecDepth 100000 in
theorem zK.idx (k : Nat) (a0 : Int) (A_ : Option Addr) (c : Nat) (l : List S37) (g : Nat) (r : Bool) (w : World) (hr : Kd.C k37 w A_ l.length l) (hg : w.heap[g]? = some (.cells #[.int .i64 a0] 3 (0,0))) (h : zK.all k a0 l = some r) :
 Calls Try.prog 115 #[.slice A_ l.length c,.func (.func 117) #[] #[.pointer (some ⟨g,0,none⟩)]] w fun e w'=>(∃ i : Int,e = .returned (.int .i64 i) ∧ decide (i ≥ 0) = !r) ∧ Below w.heap.size w w':=by
 have hu37:=Try.underlying37
 have HB:=z4.mk (Below.refl w.heap.size w)
 have HG:=z4.mk hg
 have HR:=z4.mk hr
 have HA:=z4.mk h
 have HM:=z4.mk (Kd.C_max hr)
 clear hg h hr
 go_enter Try.func115,Try.ntmps115
 go_wp2
 go_loopg [8] l.length (fun kq v8 w'=>∃ (i : Nat),v8 = .int .i64 i ∧ z4 (i + kq = l.length) ∧ z4 (zK.all k a0 (l.drop i) = some r) ∧ z4 (w'.heap[g]? = some (.cells #[.int .i64 a0] 3 (0,0))) ∧ z4 (Below w.heap.size w w'))
 case atStart=>exact ⟨0,rfl,⟨by omega⟩,HA,HG,HB⟩
 case round =>
  obtain ⟨i,rfl,HK,HAi,HGi,HBi⟩:=hrel
  clear HG HB HA
  by_cases hlt : i < l.length
  rotate_left
  · have p0 : decide (i < l.length) = false:=decide_eq_false hlt
    have p1 : decide ((i : Int) < (l.length : Int)) = false:=decide_eq_false zz86
    have hr : r = true:=by
     have h1:=HAi.out
     rw [List.drop_eq_nil_of_le zz86] at h1
     exact (Option.some.inj h1).symm
    clear hlt HAi
    subst hr
    go_wp2
    go_ret
    exact ⟨⟨-1,rfl,by decide⟩,HBi.out⟩
  have hd:=zK.z3k k a0 l i hlt
  have e1:=HAi.out
  rw [hd] at e1
  obtain ⟨b,hb,e2⟩:=Option.bind_eq_some_iff.mp e1
  clear e1 hd
  have HE:=z4.mk e2
  have HF:=z4.mk hb
  clear e2 hb
  obtain ⟨ad,e205,hx0,hx1⟩:=z1Y HR.out (i : Int) zz86 zz86
  cases e205
  rw [Int.toNat_natCast] at hx0 hx1
  replace hx0:=(HBi.out.cell (World.block_lt_of_cell? w _ hx0)).trans hx0
  replace hx1:=(HBi.out.cell (World.block_lt_of_cell? w _ hx1)).trans hx1
  have p0 : decide (i < l.length) = true:=decide_eq_true hlt
  have p1 : decide ((i : Int) < (l.length : Int)) = true:=decide_eq_true zz86
  have p2 : (0 ≤ (i : Int)) = True:=eq_true zz86
  have p3 : ((i : Int) < (l.length : Int)) = True:=eq_true zz86
  clear hlt
  go_wp2_with fail
  refine (zK.clo k a0 (rd_T37 l (i : Int)) g b _ HGi.out HF.out).mono ?_
  rintro e w1 ⟨rfl,hb1⟩
  have n0_:=z4.mk (z9 HBi.out hb1)
  have n1_:=z4.mk (zh (g:=g) (o:=.cells #[.int .i64 a0] 3 (0,0)) HGi.out hb1)
  clear HBi HGi hb1 hx0 hx1
  cases b with
  | true =>
   rw [if_pos rfl] at HE
   simp only [Bool.not_true]
   go_wp2
   have hi : wrap64 ((i : Int) + 1) = ((i + 1 : Nat) : Int):=by
    have:=HM.out;have:=HK.out;have h9:=of_decide_eq_true p0;unfold wrap64;omega
   go_roundg (l.length - i - 1)
   case measure=>have:=HK.out;have h9:=of_decide_eq_true p0;omega
   case rel=>exact ⟨i + 1,congrArg (Value.int .i64) hi,⟨by have:=HK.out;have h9:=of_decide_eq_true p0;omega⟩,HE,n1_,n0_⟩
  | false =>
   have hr : r = false:=by
    have:=HE.out
    simp at this
    exact this
   subst hr
   simp only [Bool.not_false]
   go_wp2
   go_ret
   exact ⟨⟨(i : Int),rfl,by simp⟩,n0_.out⟩
set_option maxHeartbeats 800000 in
set_option maxRecDepth 100000 in
theorem zK.cont (k : Nat) (a0 : Int) (A_ : Option Addr) (c : Nat) (l : List S37) (g : Nat) (r : Bool) (w : World) (hr : Kd.C k37 w A_ l.length l) (hg : w.heap[g]? = some (.cells #[.int .i64 a0] 3 (0,0))) (h : zK.all k a0 l = some r) :
 Calls Try.prog 90 #[.slice A_ l.length c,.func (.func 117) #[] #[.pointer (some ⟨g,0,none⟩)]] w fun e w'=>e = .returned (.bool (!r)) ∧ Below w.heap.size w w':=by
 have HB:=z4.mk (Below.refl w.heap.size w)
 have HG:=z4.mk hg
 have HR:=z4.mk hr
 have HA:=z4.mk h
 clear hg h hr
 go_enter Try.func90,Try.ntmps90
 go_wp2_with fail
 refine (zK.idx k a0 A_ c l g r _ HR.out HG.out HA.out).mono ?_
 rintro e w1 ⟨⟨i,rfl,hi⟩,hb1⟩
 have hb:=z4.mk hb1
 have hj:=z4.mk hi
 clear hb1 hi
 go_wp2
 go_ret
 exact ⟨by rw [← hj.out];rfl,hb.out⟩
def zK.f (k : Nat) (l0 : List S37) (a1 : Int) : Option Bool:=zK.all k a1 l0
theorem zK.mono : ∀ a0 a1 k,LeO (zK.f k a0 a1) (zK.f (k + 1) a0 a1):=fun l a0 k=>zK.z2w a0 l k
set_option maxHeartbeats 800000 in
set_option maxRecDepth 100000 in
theorem zK.calls (k : Nat) (A0 : Option Addr) (c0 : Nat) (l0 : List S37) (a1 : Int) (r : Bool) (w : World) (hr0 : Kd.C k37 w A0 l0.length l0) (hc0 : l0.length ≤ c0) (h : zK.f k l0 a1 = some r) :
 Calls Try.prog 94 #[.slice A0 l0.length c0,.int .i64 a1] w fun e w'=>e = .returned (.bool r) ∧ Below w.heap.size w w':=by
 have hmf : ∀ (fn : Fn) (first cap : Array Value) (w : World),(Instr.makeFunc fn first cap).run Try.prog w = .ok (.func fn first cap) w:=fun _ _ _ _=>rfl
 have HB:=z4.mk (Below.refl w.heap.size w)
 have HR:=z4.mk hr0
 have HA:=z4.mk (show zK.all k a1 l0 = some r from h)
 clear h hr0
 go_enter Try.func94,Try.ntmps94
 go_wp2_with (first
  | ((with_reducible refine zr (N:=3) rfl ?_);refine zy ?hg (N:=3) ?hd (cs:=#[.int .i64 a1]) (t:=3) ?hr ?_;(case hd=>rfl);(case hg=>rfl);(case hr=>first|(go_simp;done)|(go_simp;rfl));intro gb hgb w1_ hbox hb;have n0_:=z4.mk (z9 HB.out hb);have n1_:=z4.mk hbox;have n2_:=z4.mk (Kd.z1s HR.out hb);clear HB HR hbox hb hgb;have HB:=n0_;have HG:=n1_;have HR:=n2_;clear n0_ n1_ n2_)
  | ((with_reducible refine zl (f:=90) rfl ?_);refine goesL_ (some 7) rfl rfl Try.func90 zz84 rfl #[.slice A0 l0.length c0,.func (.func 117) #[] #[.pointer (some ⟨gb,0,none⟩)]] rfl zz79 ?_;(with_reducible refine (zK.cont k a1 _ _ l0 gb r _ HR.out HG.out HA.out).mono ?_);rintro e w2_ ⟨rfl,hb2⟩;refine ⟨_,rfl,?_⟩;have n0_:=z4.mk (z9 HB.out hb2);clear HB hb2;have HB:=n0_;clear n0_))
 go_ret
 exact ⟨by simp,HB.out⟩
end Go.Proofs.Ytklkmflhnljbdaa.P
namespace Go.Proofs.Ytklkmflhnljbdaa.P
open Go.RowKit Go.Proofs.YtklkmflhnljbdaaW.PrintWords Go.Proofs.YtklkmflhnljbdaaW.PrintLast Go.Proofs.YtklkmflhnljbdaaW.PrintMore
attribute [local go_sem] z17 z19 z1m z1n zU zV z18 z1a   -- for this text's walks alone
set_option linter.unusedVariables false
set_option linter.unusedSimpArgs false
mutual
def zD.j0 : Nat → List (S37) → Int → Bool → Option ((List (S37)) × Int)
 | 0,_,_,_=>none
 | k + 1,x0,x1,x10=>if x10 = true then (some (([] : List (S37)),1)) else ((zK.f k x0 x1).bind fun t101=>(if t101 = true then (if 0 ≤ x1 then (if (x1 : Int).toNat ≤ 17592186044416 then (zD.l0 k x1 (List.replicate (x1 : Int).toNat z37) x0 (x0.length : Int) 0) else (none)) else (none)) else (some (([] : List (S37)),6))))
def zD.l0 : Nat → Int → List (S37) → List (S37) → Int → Int → Option ((List (S37)) × Int)
 | 0,_,_,_,_,_=>none
 | k + 1,x1,x6,x29,x30,x31=>if x31 < x30 then (if 0 ≤ x31 then (if x31 < (x29.length : Int) then (zD.l1 k x1 x6 x31 x29 x30 x31 x1 0 ((rd_T37 x29 x31).f0) ((rd_T37 x29 x31).f1)) else (none)) else (none)) else (some (x6,0))
def zD.l1 : Nat → Int → List (S37) → Int → List (S37) → Int → Int → Int → Int → Int → Int → Option ((List (S37)) × Int)
 | 0,_,_,_,_,_,_,_,_,_,_=>none
 | k + 1,x1,x6,x7,x29,x30,x31,x36,x37,x107000,x107001=>if x37 < x36 then ((z1D.f k x107000 x107001 x37).bind fun t107=>(if t107 = true then (if 0 ≤ x37 then (if x37 < (x6.length : Int) then ((zT.f k x7).bind fun bt109=>((z1t.f ((rd_T37 x6 x37).f0) ((rd_T37 x6 x37).f1) bt109.1 bt109.2).bind fun bt111=>(zD.l1 k x1 (x6.set (x37 : Int).toNat (⟨bt111.1,bt111.2⟩ : S37)) x7 x29 x30 x31 x36 (wrap64 (x37 + 1)) x107000 x107001))) else (none)) else (none)) else (zD.l1 k x1 x6 x7 x29 x30 x31 x36 (wrap64 (x37 + 1)) x107000 x107001))) else (zD.l0 k x1 x6 x29 x30 (wrap64 (x31 + 1)))
end
def zD.f (k : Nat) (l0 : List (S37)) (a1 : Int) : Option ((List (S37)) × Int):=if (l0.length : Int) > 128 then (zD.j0 k l0 a1 true) else (if a1 < 0 then (zD.j0 k l0 a1 true) else (zD.j0 k l0 a1 (decide (a1 > 128))))
theorem zD.z1b : ∀ k,(∀ y0 y1 y2,LeO (zD.j0 k y0 y1 y2) (zD.j0 (k + 1) y0 y1 y2)) ∧ (∀ y0 y1 y2 y3 y4,LeO (zD.l0 k y0 y1 y2 y3 y4) (zD.l0 (k + 1) y0 y1 y2 y3 y4)) ∧ (∀ y0 y1 y2 y3 y4 y5 y6 y7 y8 y9,LeO (zD.l1 k y0 y1 y2 y3 y4 y5 y6 y7 y8 y9) (zD.l1 (k + 1) y0 y1 y2 y3 y4 y5 y6 y7 y8 y9))
 | 0=>⟨fun _ _ _ r h=>by simp [zD.j0] at h,fun _ _ _ _ _ r h=>by simp [zD.l0] at h,fun _ _ _ _ _ _ _ _ _ _ r h=>by simp [zD.l1] at h⟩
 | k + 1=>by
  obtain ⟨ih0,ih1,ih2⟩:=zD.z1b k
  refine ⟨?_,?_,?_⟩
  · intro y0 y1 y2
    unfold zD.j0
    repeat' first
    | (with_reducible exact ih0 _ _ _)
    | (with_reducible exact ih1 _ _ _ _ _)
    | (with_reducible exact ih2 _ _ _ _ _ _ _ _ _ _)
    | (with_reducible exact z1D.mono _ _ _ _)
    | (with_reducible exact zK.mono _ _ _)
    | (with_reducible exact zT.mono _ _)
    | (with_reducible exact LeO.refl _)
    | (with_reducible exact LeO.none _)
    | (with_reducible refine LeO.ite ?_ ?_)
    | (with_reducible refine LeO.bind ?_ (fun _=>?_))
    | exact ih0 _ _ _
    | exact ih1 _ _ _ _ _
    | exact ih2 _ _ _ _ _ _ _ _ _ _
    | exact z1D.mono _ _ _ _
    | exact zK.mono _ _ _
    | exact zT.mono _ _
    | exact LeO.none _
    | refine LeO.ite ?_ ?_
    | refine LeO.bind ?_ (fun _=>?_)
  · intro y0 y1 y2 y3 y4
    unfold zD.l0
    repeat' first
    | (with_reducible exact ih0 _ _ _)
    | (with_reducible exact ih1 _ _ _ _ _)
    | (with_reducible exact ih2 _ _ _ _ _ _ _ _ _ _)
    | (with_reducible exact z1D.mono _ _ _ _)
    | (with_reducible exact zK.mono _ _ _)
    | (with_reducible exact zT.mono _ _)
    | (with_reducible exact LeO.refl _)
    | (with_reducible exact LeO.none _)
    | (with_reducible refine LeO.ite ?_ ?_)
    | (with_reducible refine LeO.bind ?_ (fun _=>?_))
    | exact ih0 _ _ _
    | exact ih1 _ _ _ _ _
    | exact ih2 _ _ _ _ _ _ _ _ _ _
    | exact z1D.mono _ _ _ _
    | exact zK.mono _ _ _
    | exact zT.mono _ _
    | exact LeO.none _
    | refine LeO.ite ?_ ?_
    | refine LeO.bind ?_ (fun _=>?_)
  · intro y0 y1 y2 y3 y4 y5 y6 y7 y8 y9
    unfold zD.l1
    repeat' first
    | (with_reducible exact ih0 _ _ _)
    | (with_reducible exact ih1 _ _ _ _ _)
    | (with_reducible exact ih2 _ _ _ _ _ _ _ _ _ _)
    | (with_reducible exact z1D.mono _ _ _ _)
    | (with_reducible exact zK.mono _ _ _)
    | (with_reducible exact zT.mono _ _)
    | (with_reducible exact LeO.refl _)
    | (with_reducible exact LeO.none _)
    | (with_reducible refine LeO.ite ?_ ?_)
    | (with_reducible refine LeO.bind ?_ (fun _=>?_))
    | exact ih0 _ _ _
    | exact ih1 _ _ _ _ _
    | exact ih2 _ _ _ _ _ _ _ _ _ _
    | exact z1D.mono _ _ _ _
    | exact zK.mono _ _ _
    | exact zT.mono _ _
    | exact LeO.none _
    | refine LeO.ite ?_ ?_
    | refine LeO.bind ?_ (fun _=>?_)
theorem zD.mono : ∀ a0 a1 k,LeO (zD.f k a0 a1) (zD.f (k + 1) a0 a1):=by
 intro a0 a1 k
 obtain ⟨ih0,ih1,ih2⟩:=zD.z1b k
 unfold zD.f
 repeat' first
  | (with_reducible exact ih0 _ _ _)
  | (with_reducible exact ih1 _ _ _ _ _)
  | (with_reducible exact ih2 _ _ _ _ _ _ _ _ _ _)
  | (with_reducible exact z1D.mono _ _ _ _)
  | (with_reducible exact zK.mono _ _ _)
  | (with_reducible exact zT.mono _ _)
  | (with_reducible exact LeO.refl _)
  | (with_reducible exact LeO.none _)
  | (with_reducible refine LeO.ite ?_ ?_)
  | (with_reducible refine LeO.bind ?_ (fun _=>?_))
  | exact ih0 _ _ _
  | exact ih1 _ _ _ _ _
  | exact ih2 _ _ _ _ _ _ _ _ _ _
  | exact z1D.mono _ _ _ _
  | exact zK.mono _ _ _
  | exact zT.mono _ _
  | exact LeO.none _
  | refine LeO.ite ?_ ?_
  | refine LeO.bind ?_ (fun _=>?_)
def zD.T13 : Bool × List (List Nat × List Nat):=(true,[([],[]),([],[]),([],[]),([],[]),([2,3],[2,3]),([4],[4]),([],[]),([6],[6]),([5,7,7],[5,7]),([0,1,0,1,2,3,4,5,6,7,8],[0,1]),([9,8,8,0,1,2,3,4,5,6,7,8],[8,9])])
def zD.B13 : List Nat:=[0,0,0,0,12,28,0,64,252,511,1023]
theorem zD.tab13 : rtab .any (opsOf Try.f62 13) = zD.T13:=by kernel_rfl
theorem zD.bits13 : waitsOk zD.T13.2 zD.B13 = true:=by kernel_rfl
set_option maxHeartbeats 8000000 in
set_option maxRecDepth 100000 in
theorem zD.calls (k : Nat) (A0 : Option Addr) (c0 : Nat) (l0 : List (S37)) (a1 : Int) (r1 : List (S37)) (r2 : Int) (w : World) (hr0 : Kd.C k37 w A0 l0.length l0) (hc0 : l0.length ≤ c0) (h : zD.f k l0 a1 = some (r1,r2)) :
 Calls Try.prog 62 #[.slice A0 l0.length c0,.int .i64 a1] w fun e w'=>∃ v0_ : Value,e = .returned (.tuple #[v0_,.int .i64 r2]) ∧ Kd.R k37 37 w' w.heap.size (fun _=>True) v0_ r1 ∧ Below w.heap.size w w':=by
 have hu37:=Try.underlying37
 have HR0:=z4.mk hr0
 have HC0:=z4.mk hc0
 clear hr0 hc0
 have HB:=z4.mk (Below.refl w.heap.size w)
 have H : (if (l0.length : Int) > 128 then (zD.j0 k l0 a1 true) else (if a1 < 0 then (zD.j0 k l0 a1 true) else (zD.j0 k l0 a1 (decide (a1 > 128))))) = some (r1,r2):=h
 clear h
 have HC3:=z4.mk H
 clear H
 go_enter Try.func62,Try.ntmps62
 go_upto_region 1 with (fail)
 go_cut [10] (fun v10 wc=>∃ (kq : Nat) (x10_2 : Bool),v10 = .bool x10_2 ∧ z4 (zD.j0 kq l0 a1 x10_2 = some (r1,r2)) ∧ z4 (kq ≤ k) ∧ z4 (Below w.heap.size w wc))
 case first =>
  have H:=HC3.out
  clear HC3
  by_cases c4 : (l0.length : Int) > 128
  · rw [if_pos c4] at H
    have c4b0 : decide (128 < (l0.length : Int)) = true:=decide_eq_true c4
    have c4b1 : decide (128 < l0.length) = true:=decide_eq_true zz86
    clear c4
    (first|rw [c4b0]|(simp only [zY,z16];rw [c4b0])|skip)
    have H':=z4.mk H
    clear H
    go_wp2
    go_meet
    case rel=>exact ⟨_,(true),zz81,H',⟨by first|omega|exact Nat.le_refl _⟩,⟨by repeat (first|(with_reducible first|exact HB.out|apply zg|apply z6|apply zc)|exact HB.out)⟩⟩
  rw [if_neg c4] at H
  have c4b0 : decide (128 < (l0.length : Int)) = false:=decide_eq_false c4
  have c4b1 : decide (128 < l0.length) = false:=decide_eq_false zz86
  clear c4
  (first|rw [c4b0]|(simp only [zY,z16];rw [c4b0])|skip)
  by_cases c5 : a1 < 0
  rotate_left
  · rw [if_neg c5] at H
    have c5b0 : decide (a1 < 0) = false:=decide_eq_false c5
    clear c5
    have H':=z4.mk H
    clear H
    go_wp2
    go_meet
    case rel=>exact ⟨_,(decide (a1 > 128)),zz81,H',⟨by first|omega|exact Nat.le_refl _⟩,⟨by repeat (first|(with_reducible first|exact HB.out|apply zg|apply z6|apply zc)|exact HB.out)⟩⟩
  rw [if_pos c5] at H
  have c5b0 : decide (a1 < 0) = true:=decide_eq_true c5
  clear c5
  have H':=z4.mk H
  clear H
  go_wp2
  go_meet
  case rel=>exact ⟨_,(true),zz81,H',⟨by first|omega|exact Nat.le_refl _⟩,⟨by repeat (first|(with_reducible first|exact HB.out|apply zg|apply z6|apply zc)|exact HB.out)⟩⟩
 case rest =>
  clear HC3
  (try clear p2);(try clear c4);(try clear c4b0);(try clear c4b1);(try clear c5);(try clear c5b0)
  obtain ⟨kq,x10_2,rfl,HA,HJ2,HB⟩:=hcut
  cases kq with
  | zero=>exact absurd HA.out (by simp [zD.j0])
  | succ kj2 =>
   have H:=HA.out
   clear HA
   simp only [zD.j0] at H
   by_cases c6 : x10_2 = true
   · subst c6
     have H1 : (some (([] : List (S37)),1)) = some (r1,r2):=by rw [if_pos rfl] at H;exact H
     clear H
     have H:=H1
     clear H1
     simp only [Option.some.injEq,Prod.mk.injEq] at H
     obtain ⟨rfl,rfl⟩:=H
     go_wp2
     go_ret2
     exact ⟨_,by first|rfl|(simp [zi,zj] <;> rfl)|(simp [*,zi,zj] <;> rfl),by first|exact Kd.z3e _ _ _ _ _|exact Kd.z3N _ _ _ _ _|exact Kd.z3Q _ _ _ _ _|exact Kd.z3O _ _ _ _ _|exact Kd.z3P _ _ _ _ _,by repeat (first|(with_reducible first|exact HB.out|apply zg|apply z6|apply zc)|exact HB.out)⟩
   replace c6:=Bool.eq_false_iff.mpr c6
   subst c6
   have H1 : ((zK.f kj2 l0 a1).bind fun t101=>(if t101 = true then (if 0 ≤ a1 then (if (a1 : Int).toNat ≤ 17592186044416 then (zD.l0 kj2 a1 (List.replicate (a1 : Int).toNat z37) l0 (l0.length : Int) 0) else (none)) else (none)) else (some (([] : List (S37)),6)))) = some (r1,r2):=by rw [if_neg (show ¬ (false = true) by decide)] at H;exact H
   clear H
   have H:=H1
   clear H1
   replace H:=Option.bind_eq_some_iff.mp H
   obtain ⟨t101,A70,H⟩:=H
   replace H : (if t101 = true then (if 0 ≤ a1 then (if (a1 : Int).toNat ≤ 17592186044416 then (zD.l0 kj2 a1 (List.replicate (a1 : Int).toNat z37) l0 (l0.length : Int) 0) else (none)) else (none)) else (some (([] : List (S37)),6))) = some (r1,r2):=H
   have A7:=z4.mk A70
   clear A70
   by_cases c8 : t101 = true
   rotate_left
   · replace c8:=Bool.eq_false_iff.mpr c8
     subst c8
     have H1 : (some (([] : List (S37)),6)) = some (r1,r2):=by rw [if_neg (show ¬ (false = true) by decide)] at H;exact H
     clear H
     have H:=H1
     clear H1
     simp only [Option.some.injEq,Prod.mk.injEq] at H
     obtain ⟨rfl,rfl⟩:=H
     go_wp2_with (first|((with_reducible refine zl (f:=94) rfl ?_);refine goesL_ (some 25) rfl rfl Try.func94 zz84 rfl #[.slice A0 l0.length c0,.int .i64 a1] rfl zz44 ?_;(with_reducible refine (zK.calls kj2 _ _ l0 a1 false _ ?side1 ?side2 A7.out).mono ?_);(case side1=>repeat (first|exact (Kd.z1s HR0.out HB.out)|(with_reducible refine Kd.zQ ?_ _)|(with_reducible refine Kd.zR ?_ _)|(with_reducible refine Kd.z1c ?_)));(case side2=>exact HC0.out);rintro e w36 ⟨rfl,hb⟩;refine ⟨_,rfl,?_⟩;have n0_:=z4.mk (z9 zz45 hb);clear HB;have HB:=n0_;clear n0_;(try clear hb);(try clear hb2);(try clear hk);(try clear hi)))
     go_ret2
     exact ⟨_,by first|rfl|(simp [zi,zj] <;> rfl)|(simp [*,zi,zj] <;> rfl),by first|exact Kd.z3e _ _ _ _ _|exact Kd.z3N _ _ _ _ _|exact Kd.z3Q _ _ _ _ _|exact Kd.z3O _ _ _ _ _|exact Kd.z3P _ _ _ _ _,by repeat (first|(with_reducible first|exact HB.out|apply zg|apply z6|apply zc)|exact HB.out)⟩
   subst c8
   have H1 : (if 0 ≤ a1 then (if (a1 : Int).toNat ≤ 17592186044416 then (zD.l0 kj2 a1 (List.replicate (a1 : Int).toNat z37) l0 (l0.length : Int) 0) else (none)) else (none)) = some (r1,r2):=by rw [if_pos rfl] at H;exact H
   clear H
   have H:=H1
   clear H1
   by_cases c9 : 0 ≤ a1
   rotate_left
   · rw [if_neg c9] at H
     exact absurd H zz87
   rw [if_pos c9] at H
   have c9b0:=eq_true c9
   have c9b1 : decide (0 ≤ a1) = true:=decide_eq_true c9
   clear c9
   by_cases c10 : (a1 : Int).toNat ≤ 17592186044416
   rotate_left
   · rw [if_neg c10] at H
     exact absurd H zz87
   rw [if_pos c10] at H
   have c10b0:=eq_true c10
   have c10b1 : decide ((a1 : Int).toNat ≤ 17592186044416) = true:=decide_eq_true c10
   clear c10
   obtain ⟨y102,hy102⟩ : ∃ y_ : List (S37),y_ = (List.replicate (a1 : Int).toNat z37):=⟨_,rfl⟩
   replace H : (zD.l0 kj2 a1 y102 l0 (l0.length : Int) 0) = some (r1,r2):=by first|(rw [hy102];with_reducible exact H)|(have H2_:=(Option.bind_some _ _).symm.trans H;rw [hy102];with_reducible exact H2_)|(have H2_:=(Option.bind_some _ _).symm.trans H;with_reducible exact H2_)|with_reducible exact H|(rw [hy102];exact H)|exact H
   have Ny102:=z4.mk hy102
   clear hy102
   have H':=z4.mk H
   clear H
   go_wp2_with (first|((with_reducible refine zl (f:=94) rfl ?_);refine goesL_ (some 25) rfl rfl Try.func94 zz84 rfl #[.slice A0 l0.length c0,.int .i64 a1] rfl zz44 ?_;(with_reducible refine (zK.calls kj2 _ _ l0 a1 true _ ?side1 ?side2 A7.out).mono ?_);(case side1=>repeat (first|exact (Kd.z1s HR0.out HB.out)|(with_reducible refine Kd.zQ ?_ _)|(with_reducible refine Kd.zR ?_ _)|(with_reducible refine Kd.z1c ?_)));(case side2=>exact HC0.out);rintro e w11 ⟨rfl,hb⟩;refine ⟨_,rfl,?_⟩;have n0_:=z4.mk (z9 zz45 hb);clear HB;have HB:=n0_;clear n0_;(try clear hb);(try clear hb2);(try clear hk);(try clear hi))|((with_reducible refine zr (N:=28) rfl ?_);refine Kd.z5W k37 _ 37 rfl (N:=28) rfl 23 _ _ rfl a1 rfl rfl Try.underlying23 (.agg #[(.int .u64 0),(.int .u64 0)]) 16 info37 rfl zz85 zz86 z37 (ok:=fun _=>True) (okp:=fun _=>True) (z1K _ _ _ z37 ) (fun _ hk=>hk) trivial (of_decide_eq_true zz80) (Nat.le_trans (Nat.mul_le_mul_right _ (of_decide_eq_true zz80 : a1.toNat ≤ 17592186044416)) zz86) (Below.refl _ _) (Nat.le_refl _) ?_;intro v103 w12 ho13 hb hg_ hnew_;clear hg_ hnew_;(first|rw [← Ny102.out] at ho13|(simp only [Int.reduceToNat] at ho13;rw [← Ny102.out] at ho13));have n0_:=z4.mk (Kd.z1e ho13 (ze zz45));have n1_:=z4.mk (z9 zz45 hb);clear HB;have HO104:=n0_;have HB:=n1_;clear n0_ n1_;clear hb ho13))
   go_loopg [31] kj2 (fun kq v31 w'=>∃ (x6_2 : List (S37)) (x31_2 : Int),v31 = .int .i64 x31_2 ∧ z4 (zD.l0 kq a1 x6_2 l0 (l0.length : Int) x31_2 = some (r1,r2)) ∧ z4 (kq ≤ kj2) ∧ z4 (Kd.R k37 37 w' w.heap.size (fun _=>True) v103 x6_2) ∧ z4 (Below w.heap.size w w'))
   case atStart=>exact ⟨(y102),(0),zz81,H',⟨Nat.le_refl _⟩,⟨by (with_reducible repeat (first|apply Kd.zH|apply Kd.zI|apply Kd.zS));exact HO104.out⟩,⟨by repeat (first|(with_reducible first|exact HB.out|apply zg|apply z6|apply zc)|exact HB.out)⟩⟩
   case round =>
    clear H'
    (try clear c1);(try clear p2);(try clear c4);(try clear c4b0);(try clear c4b1);(try clear c5);(try clear c5b0);(try clear c6);(try clear c8);(try clear c9);(try clear c9b0);(try clear c9b1);(try clear c10);(try clear c10b0);(try clear c10b1);(try clear p2)
    obtain ⟨x6_2,x31_2,rfl,HA,HK2,HO_6,HB⟩:=hrel
    cases gk with
    | zero=>exact absurd HA.out (by simp [zD.l0])
    | succ k2 =>
     have H:=HA.out
     clear HA
     simp only [zD.l0] at H
     by_cases c14 : x31_2 < (l0.length : Int)
     rotate_left
     · rw [if_neg c14] at H
       have c14b0 : decide (x31_2 < (l0.length : Int)) = false:=decide_eq_false c14
       clear c14
       simp only [Option.some.injEq,Prod.mk.injEq] at H
       obtain ⟨rfl,rfl⟩:=H
       go_wp2
       go_ret2
       exact ⟨_,by first|rfl|(simp [zi,zj] <;> rfl)|(simp [*,zi,zj] <;> rfl),by (with_reducible repeat (first|apply Kd.zH|apply Kd.zI|apply Kd.zS));exact HO_6.out,by repeat (first|(with_reducible first|exact HB.out|apply zg|apply z6|apply zc)|exact HB.out)⟩
     rw [if_pos c14] at H
     have c14b0 : decide (x31_2 < (l0.length : Int)) = true:=decide_eq_true c14
     clear c14
     by_cases c15 : 0 ≤ x31_2
     rotate_left
     · rw [if_neg c15] at H
       exact absurd H zz87
     rw [if_pos c15] at H
     have c15b0 : decide (0 ≤ x31_2) = true:=decide_eq_true c15
     clear c15
     by_cases c16 : x31_2 < (l0.length : Int)
     rotate_left
     · rw [if_neg c16] at H
       exact absurd H zz87
     rw [if_pos c16] at H
     have c16b0 : decide (x31_2 < (l0.length : Int)) = true:=decide_eq_true c16
     clear c16
     have H':=z4.mk H
     clear H
     have p105 : 0 ≤ (x31_2 : Int):=of_decide_eq_true zz80
     have q105 : x31_2 < (l0.length : Int):=of_decide_eq_true zz80
     obtain ⟨ad105,e105,hx105_0,hx105_1⟩:=z1Y HR0.out x31_2 p105 q105
     cases e105
     replace hx105_0:=(HB.out.cell (World.block_lt_of_cell? w _ hx105_0)).trans hx105_0
     replace hx105_1:=(HB.out.cell (World.block_lt_of_cell? w _ hx105_1)).trans hx105_1
     replace p105:=eq_true p105
     replace q105:=eq_true q105
     go_wp2_with (first|((with_reducible refine zr (N:=8) rfl ?_);refine zy ?hg (N:=8) ?hd (cs:=#[.int .u64 0,.int .u64 0]) (t:=37) ?hr ?_;(case hd=>rfl);(case hg=>rfl);(case hr=>first|(go_simp;done)|(go_simp;rfl));intro gb106 hg w17 hbox hb;have n0_:=z4.mk (Kd.zx (Kd.z1r zz68 gb106 (Nat.le_of_eq hg.symm)) hb);have n1_:=z4.mk (z9 zz45 hb);have n2_:=z4.mk (hbox);have n3_:=z4.mk ((by rw [hg];exact (ze zz45) : w.heap.size ≤ gb106));have n4_:=z4.mk ((by rw [hg];exact (ze zz45) : w.heap.size ≤ gb106));clear HO_6;clear HB;have HO_6:=n0_;have HB:=n1_;have BK106:=n2_;have GW106:=n3_;have GE106:=n4_;clear n0_ n1_ n2_ n3_ n4_;clear hb hbox hg;have hcz18_0 : w17.cell? ⟨gb106,0,none⟩ = some (.int .u64 0):=(zf BK106.out 0).trans rfl;have hcz18_1 : w17.cell? ⟨gb106,1,none⟩ = some (.int .u64 0):=(zf BK106.out 1).trans rfl;have hfz18_0:=za BK106.out 0;have hfz18_1:=za BK106.out 1))
     go_loopg [37] k2 (fun kq v37 w'=>∃ (x6_3 : List (S37)) (x37_3 : Int) (x107000_3 : Int) (x107001_3 : Int),v37 = .int .i64 x37_3 ∧ z4 (zD.l1 kq a1 x6_3 x31_2 l0 (l0.length : Int) x31_2 a1 x37_3 x107000_3 x107001_3 = some (r1,r2)) ∧ z4 (kq ≤ k2) ∧ z4 (Kd.R k37 37 w' w.heap.size (fun k_=>k_ ≠ gb106) v103 x6_3) ∧ z4 (w'.heap[gb106]? = some (.cells #[.int .u64 x107000_3,.int .u64 x107001_3] 37 (0,0))) ∧ z4 (Below w.heap.size w w'))
     case atStart=>exact ⟨(x6_2),(0),((rd_T37 l0 x31_2).f0),((rd_T37 l0 x31_2).f1),zz81,H',⟨Nat.le_refl _⟩,⟨by (with_reducible repeat (first|apply Kd.zH|apply Kd.zI|apply Kd.zS));exact Kd.z12 (Kd.z1O (p:=⟨gb106,1,none⟩) (Kd.z1O (p:=⟨gb106,0,none⟩) (Kd.z12 HO_6.out (fun k_ hk=>(⟨hk,hk.2⟩ : _ ∧ k_ ≠ gb106))) (fun _ hk=>hk.2) (.int .u64 ((rd_T37 l0 x31_2).f0))) (fun _ hk=>hk.2) (.int .u64 ((rd_T37 l0 x31_2).f1))) (fun _ hk=>hk.1.2)⟩,⟨by (with_reducible repeat (first|refine z8 ?_ _|refine zb ?_|refine z7 ?_ _));refine zX (cs:=#[.int .u64 ((rd_T37 l0 x31_2).f0),.int .u64 0]) ?_ 1 _ rfl;(with_reducible repeat (first|refine z8 ?_ _|refine zb ?_|refine z7 ?_ _));refine zX (cs:=#[.int .u64 0,.int .u64 0]) ?_ 0 _ rfl;(with_reducible repeat (first|refine z8 ?_ _|refine zb ?_|refine z7 ?_ _));exact BK106.out⟩,⟨by repeat (first|(with_reducible first|exact HB.out|apply zg|apply z6|apply zc|refine zd ?_ GE106.out)|exact HB.out)⟩⟩
     case round =>
      clear H'
      (try clear c1);(try clear p1);(try clear q1);(try clear hx1);(try clear p2);(try clear c4);(try clear c4b0);(try clear c4b1);(try clear c5);(try clear c5b0);(try clear c6);(try clear c8);(try clear c9);(try clear c9b0);(try clear c9b1);(try clear c10);(try clear c10b0);(try clear c10b1);(try clear p10);(try clear q10);(try clear hx10);(try clear c14);(try clear c14b0);(try clear c15);(try clear c15b0);(try clear c16);(try clear c16b0);(try clear hcz18_0);(try clear hcz18_1);(try clear hfz18_0);(try clear hfz18_1);(try clear hx105_0);(try clear hx105_1);(try clear p105);(try clear p2);(try clear q105)
      obtain ⟨x6_3,x37_3,x107000_3,x107001_3,rfl,HA,HK3,HO_6,BK106,HB⟩:=hrel
      cases gk with
      | zero=>exact absurd HA.out (by simp [zD.l1])
      | succ k3 =>
       have H:=HA.out
       clear HA
       simp only [zD.l1] at H
       by_cases c19 : x37_3 < a1
       rotate_left
       · rw [if_neg c19] at H
         have c19b0 : decide (x37_3 < a1) = false:=decide_eq_false c19
         clear c19
         have H':=z4.mk H
         clear H
         go_wp2
         go_roundg k3
         case measure=>have:=HJ2.out;have:=HK2.out;have:=HK3.out;omega
         case rel=>exact ⟨(x6_3),(wrap64 (x31_2 + 1)),zz81,H',⟨by have:=HJ2.out;have:=HK2.out;have:=HK3.out;omega⟩,⟨by (with_reducible repeat (first|apply Kd.zH|apply Kd.zI|apply Kd.zS));exact Kd.z12 HO_6.out (fun _ hk=>trivial)⟩,⟨by repeat (first|(with_reducible first|exact HB.out|apply zg|apply z6|apply zc|refine zd ?_ GE106.out)|exact HB.out)⟩⟩
       rw [if_pos c19] at H
       have c19b0 : decide (x37_3 < a1) = true:=decide_eq_true c19
       clear c19
       replace H:=Option.bind_eq_some_iff.mp H
       obtain ⟨t107,A200,H⟩:=H
       replace H : (if t107 = true then (if 0 ≤ x37_3 then (if x37_3 < (x6_3.length : Int) then ((zT.f k3 x31_2).bind fun bt109=>((z1t.f ((rd_T37 x6_3 x37_3).f0) ((rd_T37 x6_3 x37_3).f1) bt109.1 bt109.2).bind fun bt111=>(zD.l1 k3 a1 (x6_3.set (x37_3 : Int).toNat (⟨bt111.1,bt111.2⟩ : S37)) x31_2 l0 (l0.length : Int) x31_2 a1 (wrap64 (x37_3 + 1)) x107000_3 x107001_3))) else (none)) else (none)) else (zD.l1 k3 a1 x6_3 x31_2 l0 (l0.length : Int) x31_2 a1 (wrap64 (x37_3 + 1)) x107000_3 x107001_3)) = some (r1,r2):=H
       have A20:=z4.mk A200
       clear A200
       by_cases c21 : t107 = true
       rotate_left
       · replace c21:=Bool.eq_false_iff.mpr c21
         subst c21
         have H1 : (zD.l1 k3 a1 x6_3 x31_2 l0 (l0.length : Int) x31_2 a1 (wrap64 (x37_3 + 1)) x107000_3 x107001_3) = some (r1,r2):=by rw [if_neg (show ¬ (false = true) by decide)] at H;exact H
         clear H
         have H:=H1
         clear H1
         have H':=z4.mk H
         clear H
         have hcz34_0 : wr.cell? ⟨gb106,0,none⟩ = some (.int .u64 x107000_3):=(zf BK106.out 0).trans rfl
         have hcz34_1 : wr.cell? ⟨gb106,1,none⟩ = some (.int .u64 x107001_3):=(zf BK106.out 1).trans rfl
         have hfz34_0:=za BK106.out 0
         have hfz34_1:=za BK106.out 1
         go_wp2_with (first|((with_reducible refine zl (f:=95) rfl ?_);refine goesL_ (some 42) rfl rfl Try.func95 zz84 rfl #[.agg #[.int .u64 x107000_3,.int .u64 x107001_3],.int .i64 x37_3] rfl zz44 ?_;(with_reducible refine (z1D.calls k3 x107000_3 x107001_3 x37_3 false _ A20.out).mono ?_);rintro e w35 ⟨rfl,hb⟩;refine ⟨_,rfl,?_⟩;have n0_:=z4.mk (Kd.zx zz68 hb);have n1_:=z4.mk (zh (g:=gb106) (o:=.cells #[.int .u64 x107000_3,.int .u64 x107001_3] 37 (0,0)) zz51 hb);have n2_:=z4.mk (z9 zz43 hb);clear HO_6;clear BK106;clear HB;have HO_6:=n0_;have BK106:=n1_;have HB:=n2_;clear n0_ n1_ n2_;(try clear hb);(try clear hb2);(try clear hk);(try clear hi)))
         go_roundg k3
         case measure=>have:=HJ2.out;have:=HK2.out;have:=HK3.out;omega
         case rel=>exact ⟨(x6_3),(wrap64 (x37_3 + 1)),(x107000_3),(x107001_3),zz81,H',⟨by have:=HJ2.out;have:=HK2.out;have:=HK3.out;omega⟩,⟨by (with_reducible repeat (first|apply Kd.zH|apply Kd.zI|apply Kd.zS));exact HO_6.out⟩,⟨by (with_reducible repeat (first|refine z8 ?_ _|refine zb ?_|refine z7 ?_ _));exact BK106.out⟩,⟨by repeat (first|(with_reducible first|exact HB.out|apply zg|apply z6|apply zc|refine zd ?_ GE106.out)|exact HB.out)⟩⟩
       subst c21
       have H1 : (if 0 ≤ x37_3 then (if x37_3 < (x6_3.length : Int) then ((zT.f k3 x31_2).bind fun bt109=>((z1t.f ((rd_T37 x6_3 x37_3).f0) ((rd_T37 x6_3 x37_3).f1) bt109.1 bt109.2).bind fun bt111=>(zD.l1 k3 a1 (x6_3.set (x37_3 : Int).toNat (⟨bt111.1,bt111.2⟩ : S37)) x31_2 l0 (l0.length : Int) x31_2 a1 (wrap64 (x37_3 + 1)) x107000_3 x107001_3))) else (none)) else (none)) = some (r1,r2):=by rw [if_pos rfl] at H;exact H
       clear H
       have H:=H1
       clear H1
       by_cases c22 : 0 ≤ x37_3
       rotate_left
       · rw [if_neg c22] at H
         exact absurd H zz87
       rw [if_pos c22] at H
       have c22b0 : decide (0 ≤ x37_3) = true:=decide_eq_true c22
       clear c22
       by_cases c23 : x37_3 < (x6_3.length : Int)
       rotate_left
       · rw [if_neg c23] at H
         exact absurd H zz87
       rw [if_pos c23] at H
       have c23b0 : decide (x37_3 < (x6_3.length : Int)) = true:=decide_eq_true c23
       clear c23
       replace H:=Option.bind_eq_some_iff.mp H
       obtain ⟨⟨t109,t110⟩,A240,H⟩:=H
       replace H : ((z1t.f ((rd_T37 x6_3 x37_3).f0) ((rd_T37 x6_3 x37_3).f1) t109 t110).bind fun bt111=>(zD.l1 k3 a1 (x6_3.set (x37_3 : Int).toNat (⟨bt111.1,bt111.2⟩ : S37)) x31_2 l0 (l0.length : Int) x31_2 a1 (wrap64 (x37_3 + 1)) x107000_3 x107001_3)) = some (r1,r2):=H
       have A24:=z4.mk A240
       clear A240
       replace H:=Option.bind_eq_some_iff.mp H
       obtain ⟨⟨t111,t112⟩,A250,H⟩:=H
       replace H : (zD.l1 k3 a1 (x6_3.set (x37_3 : Int).toNat (⟨t111,t112⟩ : S37)) x31_2 l0 (l0.length : Int) x31_2 a1 (wrap64 (x37_3 + 1)) x107000_3 x107001_3) = some (r1,r2):=H
       have A25:=z4.mk A250
       clear A250
       obtain ⟨y113,hy113⟩ : ∃ y_ : List (S37),y_ = (x6_3.set (x37_3 : Int).toNat (⟨t111,t112⟩ : S37)):=⟨_,rfl⟩
       replace H : (zD.l1 k3 a1 y113 x31_2 l0 (l0.length : Int) x31_2 a1 (wrap64 (x37_3 + 1)) x107000_3 x107001_3) = some (r1,r2):=by first|(rw [hy113];with_reducible exact H)|(have H2_:=(Option.bind_some _ _).symm.trans H;rw [hy113];with_reducible exact H2_)|(have H2_:=(Option.bind_some _ _).symm.trans H;with_reducible exact H2_)|with_reducible exact H|(rw [hy113];exact H)|exact H
       have Ny113:=z4.mk hy113
       clear hy113
       have H':=z4.mk H
       clear H
       have hcz27_0 : wr.cell? ⟨gb106,0,none⟩ = some (.int .u64 x107000_3):=(zf BK106.out 0).trans rfl
       have hcz27_1 : wr.cell? ⟨gb106,1,none⟩ = some (.int .u64 x107001_3):=(zf BK106.out 1).trans rfl
       have hfz27_0:=za BK106.out 0
       have hfz27_1:=za BK106.out 1
       try go_wp2_with (first|((with_reducible refine zl (f:=95) rfl ?_);refine goesL_ (some 42) rfl rfl Try.func95 zz84 rfl #[.agg #[.int .u64 x107000_3,.int .u64 x107001_3],.int .i64 x37_3] rfl zz44 ?_;(with_reducible refine (z1D.calls k3 x107000_3 x107001_3 x37_3 true _ A20.out).mono ?_);rintro e w28 ⟨rfl,hb⟩;refine ⟨_,rfl,?_⟩;have n0_:=z4.mk (Kd.zx zz68 hb);have n1_:=z4.mk (zh (g:=gb106) (o:=.cells #[.int .u64 x107000_3,.int .u64 x107001_3] 37 (0,0)) zz51 hb);have n2_:=z4.mk (z9 zz43 hb);clear HO_6;clear BK106;clear HB;have HO_6:=n0_;have BK106:=n1_;have HB:=n2_;clear n0_ n1_ n2_;(try clear hb);(try clear hb2);(try clear hk);(try clear hi)))
       have n0_:=z4.mk (Kd.zS HO_6.out)
       have n1_:=z4.mk (zb BK106.out)
       have n2_:=z4.mk (zc HB.out)
       clear HO_6
       clear BK106
       clear HB
       have HO_6:=n0_
       have BK106:=n1_
       have HB:=n2_
       clear n0_ n1_ n2_
       obtain ⟨Ao30,co30,eo30⟩:=Kd.z1j HO_6.out
       (first|subst eo30|(injection eo30 with f1_ f2_ f3_;have f4_:=f1_.symm;have f5_:=f3_.symm;clear f1_ f2_ f3_;subst f4_;subst f5_))
       have p108 : 0 ≤ (x37_3 : Int):=of_decide_eq_true zz80
       have q108 : x37_3 < (x6_3.length : Int):=of_decide_eq_true zz80
       obtain ⟨ad108,e108,hx108_0,hx108_1⟩:=z1Y (Kd.zv HO_6.out).2.2 x37_3 p108 q108
       cases e108
       replace p108:=eq_true p108
       replace q108:=eq_true q108
       refine start_ (n:=11) (S:=fun w'=>w'.cell? (ad108.add ((x37_3).toNat * 2)) = some (.int .u64 ((rd_T37 x6_3 x37_3).f0)) ∧ w'.cell? ⟨(ad108.add ((x37_3).toNat * 2)).block,(ad108.add ((x37_3).toNat * 2)).off + 1,none⟩ = some (.int .u64 ((rd_T37 x6_3 x37_3).f1))) (ds:=[10]) #[false,false,false,false,false,false,false,false,false,false,false] zz84 rfl rfl ⟨hx108_0,hx108_1⟩ (fun hHeld=>?_);refine z2e zD.tab13 zD.bits13 (fun HT_ HW_=>?_)
       generalize w28.drew = w29 at HO_6 BK106 HB hx108_0 hx108_1 hHeld ⊢
       refine pure_ (i:=0) (N:=some 43) (v:=?_) (a':=?_) #[true,false,false,false,false,false,false,false,false,false,false] rfl rfl (z1v HT_.out zz84) (fun _ _ _ h=>h) (Or.inl ⟨by rfl,?_⟩) ?_ ?_
       rotate_left
       · intro w'
         go_simp
         with_reducible rfl
       rotate_left
       · simp only [Act.put,List.setIfInBounds_toArray,List.set_cons_zero,List.set_cons_succ,zY,z16]
         rfl
       refine pure_ (i:=1) (N:=some 44) (v:=?_) (a':=?_) #[true,true,false,false,false,false,false,false,false,false,false] rfl rfl (z1v HT_.out zz84) (fun _ _ _ h=>h) (Or.inl ⟨by rfl,?_⟩) ?_ ?_
       rotate_left
       · intro w'
         go_simp
         with_reducible rfl
       rotate_left
       · simp only [Act.put,List.setIfInBounds_toArray,List.set_cons_zero,List.set_cons_succ,zY,z16]
         rfl
       refine pure_ (i:=2) (N:=some 45) (v:=?_) (a':=?_) #[true,true,true,false,false,false,false,false,false,false,false] rfl rfl (z1v HT_.out zz84) (fun _ _ _ h=>h) (Or.inl ⟨by rfl,?_⟩) ?_ ?_
       rotate_left
       · intro w'
         go_simp
         with_reducible rfl
       rotate_left
       · simp only [Act.put,List.setIfInBounds_toArray,List.set_cons_zero,List.set_cons_succ,zY,z16]
         rfl
       refine pure_ (i:=3) (N:=some 46) (v:=?_) (a':=?_) #[true,true,true,true,false,false,false,false,false,false,false] rfl rfl (z1v HT_.out zz84) (fun _ _ _ h=>h) (Or.inl ⟨by rfl,?_⟩) ?_ ?_
       rotate_left
       · intro w'
         go_simp
         with_reducible rfl
       rotate_left
       · simp only [Act.put,List.setIfInBounds_toArray,List.set_cons_zero,List.set_cons_succ,zY,z16]
         rfl
       refine pure_ (i:=4) (N:=some 47) (v:=?_) (a':=?_) #[true,true,true,true,true,false,false,false,false,false,false] rfl rfl (z1v HT_.out zz84) (fun _ _ _ h=>h) (Or.inl ⟨by rfl,?_⟩) ?_ ?_
       rotate_left
       · intro w'
         go_simp
         with_reducible rfl
       rotate_left
       · simp only [Act.put,List.setIfInBounds_toArray,List.set_cons_zero,List.set_cons_succ,zY,z16]
         rfl
       refine pure_ (i:=6) (N:=some 49) (v:=?_) (a':=?_) #[true,true,true,true,true,false,true,false,false,false,false] rfl rfl (z1v HT_.out zz84) (fun _ _ _ h=>h) (Or.inl ⟨by rfl,?_⟩) ?_ ?_
       rotate_left
       · intro w'
         go_simp
         with_reducible rfl
       rotate_left
       · simp only [Act.put,List.setIfInBounds_toArray,List.set_cons_zero,List.set_cons_succ,zY,z16]
         rfl
       refine take_ (i:=5) (N:=some 48) (v:=?_) (a':=?_) #[true,true,true,true,true,true,true,false,false,false,false] rfl rfl (z1S HT_.out HW_.out zz84) (fun _ _ _ h=>h) (Or.inl ⟨by rfl,?_⟩) hHeld ?_ ?_
       rotate_left
       · rintro w' ⟨s0,s1⟩
         go_simp
         with_reducible rfl
       rotate_left
       · simp only [Act.put,List.setIfInBounds_toArray,List.set_cons_zero,List.set_cons_succ,zY,z16]
         rfl
       refine one_ (i:=7) (N:=some 50) #[true,true,true,true,true,true,true,true,false,false,false] rfl rfl (z20 HT_.out zz84) zz85 (fun K hK=>?_)
       refine goes_ Try.func96 zz84 rfl #[.int .i64 x31_2] zz88 rfl rfl zz44 ?_
       with_reducible refine (zT.calls k3 x31_2 t109 t110 _ A24.out).mono ?_
       rintro e w31 ⟨rfl,hb⟩
       have HS0_:=(hb.cell (World.block_lt_of_cell? _ _ (hHeld.1))).trans (hHeld.1)
       have HS1_:=(hb.cell (World.block_lt_of_cell? _ _ (hHeld.2))).trans (hHeld.2)
       refine ⟨_,rfl,?_⟩
       have n0_:=z4.mk (Kd.zx zz68 hb)
       have n1_:=z4.mk (zh (g:=gb106) (o:=.cells #[.int .u64 x107000_3,.int .u64 x107001_3] 37 (0,0)) zz51 hb)
       have n2_:=z4.mk (z9 zz43 hb)
       clear HO_6
       clear BK106
       clear HB
       have HO_6:=n0_
       have BK106:=n1_
       have HB:=n2_
       clear n0_ n1_ n2_
       (try clear hb)
       (try clear hb2)
       (try clear hk)
       (try clear hi)
       refine hK.out _ _ ⟨HS0_,HS1_⟩ (fun hHeld=>?_)
       clear hK K
       refine norm_ (a':=?_) ?_ ?_
       rotate_left
       · show Act.put _ (some 50) _ = _
         simp only [Act.put,List.setIfInBounds_toArray,List.set_cons_zero,List.set_cons_succ,zY,z16]
         rfl
       refine one_ (i:=8) (N:=some 51) #[true,true,true,true,true,true,true,true,true,false,false] rfl rfl (z20 HT_.out zz84) zz85 (fun K hK=>?_)
       refine goes_ Try.func60 zz84 rfl #[.agg #[.int .u64 ((rd_T37 x6_3 x37_3).f0),.int .u64 ((rd_T37 x6_3 x37_3).f1)],.agg #[.int .u64 t109,.int .u64 t110]] zz88 rfl rfl zz44 ?_
       with_reducible refine (z1t.calls ((rd_T37 x6_3 x37_3).f0) ((rd_T37 x6_3 x37_3).f1) t109 t110 t111 t112 _ A25.out).mono ?_
       rintro e w32 ⟨rfl,hb⟩
       have HS0_:=(hb.cell (World.block_lt_of_cell? _ _ (hHeld.1))).trans (hHeld.1)
       have HS1_:=(hb.cell (World.block_lt_of_cell? _ _ (hHeld.2))).trans (hHeld.2)
       refine ⟨_,rfl,?_⟩
       have n0_:=z4.mk (Kd.zx zz68 hb)
       have n1_:=z4.mk (zh (g:=gb106) (o:=.cells #[.int .u64 x107000_3,.int .u64 x107001_3] 37 (0,0)) zz51 hb)
       have n2_:=z4.mk (z9 zz43 hb)
       clear HO_6
       clear BK106
       clear HB
       have HO_6:=n0_
       have BK106:=n1_
       have HB:=n2_
       clear n0_ n1_ n2_
       (try clear hb)
       (try clear hb2)
       (try clear hk)
       (try clear hi)
       have p26 : 0 ≤ (x37_3 : Int):=of_decide_eq_true zz80
       have q26 : (x37_3 : Int) < ((x6_3.length : Int) : Int):=of_decide_eq_true zz80
       obtain ⟨go26,co26,eo26,gb26,gl26,cl26,HG26⟩:=Kd.z4F HO_6.out zz86
       (first|cases eo26|(injection eo26 with ea_ en_ ec_;(first|subst ea_|(injection ea_ with ea_;subst ea_));subst ec_;clear en_))
       have GB26:=z4.mk gb26
       have GG26:=z4.mk HG26
       clear gb26 gl26 HG26
       (first|simp only [z26] at hx108_0|skip)
       (first|simp only [z26] at hx108_1|skip)
       obtain ⟨ce26,hcl26,hM26,hcc26,hfr26⟩:=Kd.z2U HO_6.out z37 (x37_3 : Int) p26 q26
       obtain rfl:=z22 hM26
       have hx26_0 : World.cell? _ ⟨go26,(x37_3 : Int).toNat * 2,none⟩ = some (.int .u64 ((rd_T37 x6_3 x37_3).f0)):=hcc26 0 _ rfl
       have hx26_1 : World.cell? _ ⟨go26,(x37_3 : Int).toNat * 2 + 1,none⟩ = some (.int .u64 ((rd_T37 x6_3 x37_3).f1)):=hcc26 1 _ rfl
       have hf26_0 : World.frozen? _ ⟨go26,(x37_3 : Int).toNat * 2,none⟩ = false:=hfr26 0
       have hf26_1 : World.frozen? _ ⟨go26,(x37_3 : Int).toNat * 2 + 1,none⟩ = false:=hfr26 1
       clear hcl26 hcc26 hfr26 hM26
       replace p26:=eq_true p26
       replace q26:=eq_true q26
       obtain ⟨ce33,hcl33,hM33,hcc33,hfr33⟩:=Kd.z2U HO_6.out z37 (x37_3 : Int) (of_decide_eq_true zz80) (by have h_ : (x37_3 : Int) < ((x6_3.length : Int) : Int):=of_decide_eq_true zz80;first|exact h_|(have e_:=(Kd.zv HO_6.out).1;omega)|simpa using h_)
       obtain rfl:=z22 hM33
       have HP33:=(Kd.z6r HO_6.out (x37_3 : Int) (of_decide_eq_true zz80) (by have h_ : (x37_3 : Int) < ((x6_3.length : Int) : Int):=of_decide_eq_true zz80;first|exact h_|(have e_:=(Kd.zv HO_6.out).1;omega)|simpa using h_) (seg:=[.int .u64 t111,.int .u64 t112]) (j:=0) hcl33 hcc33 (show 2 ≤ 2 from by decide) (x':=(⟨t111,t112⟩ : S37)) (z1K _ _ _ (⟨t111,t112⟩ : S37) ) (fun _ hk=>hk)).1
       rw [← Ny113.out] at HP33
       have HQ33:=z4.mk HP33
       clear hcl33 hcc33 hfr33 hM33 HP33
       refine hK.out _ _ ⟨HS0_,HS1_⟩ (fun hHeld=>?_)
       clear hK K
       refine norm_ (a':=?_) ?_ ?_
       rotate_left
       · show Act.put _ (some 51) _ = _
         simp only [Act.put,List.setIfInBounds_toArray,List.set_cons_zero,List.set_cons_succ,zY,z16]
         rfl
       refine pure_ (i:=9) (N:=some 52) (v:=?_) (a':=?_) #[true,true,true,true,true,true,true,true,true,true,false] rfl rfl (z1v HT_.out zz84) (fun _ _ _ h=>h) (Or.inl ⟨by rfl,?_⟩) ?_ ?_
       rotate_left
       · intro w'
         go_simp
         with_reducible rfl
       rotate_left
       · simp only [Act.put,List.setIfInBounds_toArray,List.set_cons_zero,List.set_cons_succ,zY,z16]
         rfl
       refine last_ (i:=10) (N:=none) #[true,true,true,true,true,true,true,true,true,true,true] rfl rfl (z20 HT_.out zz84) zz85 (fun K hK=>?_)
       refine skip_ (w1:=?_) zz88 rfl ?_ ?_
       rotate_left
       · go_simp
         rfl
       refine hK.out _ _ ?_
       clear hK K
       refine done_ (z2B HT_.out zz84) ?_
       try go_wp2
       go_roundg k3
       case measure=>have:=HJ2.out;have:=HK2.out;have:=HK3.out;omega
       case rel=>exact ⟨(y113),(wrap64 (x37_3 + 1)),(x107000_3),(x107001_3),zz81,H',⟨by have:=HJ2.out;have:=HK2.out;have:=HK3.out;omega⟩,⟨by (with_reducible repeat (first|apply Kd.zH|apply Kd.zI|apply Kd.zS));exact HQ33.out⟩,⟨by (with_reducible repeat (first|refine z8 ?_ _|refine zb ?_|refine z7 ?_ _));refine zW ?_ zz78 _;(with_reducible repeat (first|refine z8 ?_ _|refine zb ?_|refine z7 ?_ _));refine zW ?_ zz78 _;(with_reducible repeat (first|refine z8 ?_ _|refine zb ?_|refine z7 ?_ _));exact BK106.out⟩,⟨by repeat (first|(with_reducible first|exact HB.out|apply zg|apply z6|apply zc|refine zd ?_ GB26.out|refine zd ?_ GB26.out|refine zd ?_ GE106.out)|exact HB.out)⟩⟩
end Go.Proofs.Ytklkmflhnljbdaa.P
namespace Go.Proofs.Ytklkmflhnljbdaa.P
open Go.RowKit Go.Proofs.YtklkmflhnljbdaaW.PrintWords Go.Proofs.YtklkmflhnljbdaaW.PrintLast Go.Proofs.YtklkmflhnljbdaaW.PrintMore
attribute [local go_sem] z17 z19 z1m z1n zU zV z18 z1a   -- for this text's walks alone
set_option linter.unusedVariables false
set_option linter.unusedSimpArgs false
def z1q.f (k : Nat) (a0 : Int) (l1 : List (S37)) (l2 : List (S37)) : Option (Int × Int × Int):=(z1o.f k a0 l1 l2).bind fun t102=>(if t102 = 0 then (if 0 ≤ a0 then ((zD.f k l1 (shl .i64 1 a0)).bind fun bt103=>((zm.f k a0 l2).bind fun t107=>((zL.f k a0 t107 bt103.1).bind fun bt110=>(some (bt110.1,bt110.2,0))))) else (none)) else (some (0,0,t102)))
theorem z1q.mono : ∀ a0 a1 a2 k,LeO (z1q.f k a0 a1 a2) (z1q.f (k + 1) a0 a1 a2):=by
 intro a0 a1 a2 k
 unfold z1q.f
 repeat' first
  | (with_reducible exact zm.mono _ _ _)
  | (with_reducible exact z1o.mono _ _ _ _)
  | (with_reducible exact zD.mono _ _ _)
  | (with_reducible exact zL.mono _ _ _ _)
  | (with_reducible exact LeO.refl _)
  | (with_reducible exact LeO.none _)
  | (with_reducible refine LeO.ite ?_ ?_)
  | (with_reducible refine LeO.bind ?_ (fun _=>?_))
  | exact zm.mono _ _ _
  | exact z1o.mono _ _ _ _
  | exact zD.mono _ _ _
  | exact zL.mono _ _ _ _
  | exact LeO.none _
  | refine LeO.ite ?_ ?_
  | refine LeO.bind ?_ (fun _=>?_)
set_option maxHeartbeats 8000000 in
set_option maxRecDepth 100000 in
theorem z1q.calls (k : Nat) (a0 : Int) (A1 : Option Addr) (c1 : Nat) (l1 : List (S37)) (A2 : Option Addr) (c2 : Nat) (l2 : List (S37)) (r1 : Int) (r2 : Int) (r3 : Int) (w : World) (hr1 : Kd.C k37 w A1 l1.length l1) (hc1 : l1.length ≤ c1) (hr2 : Kd.C k37 w A2 l2.length l2) (hc2 : l2.length ≤ c2) (h : z1q.f k a0 l1 l2 = some (r1,r2,r3)) :
 Calls Try.prog 18 #[.int .i64 a0,.slice A1 l1.length c1,.slice A2 l2.length c2] w fun e w'=>e = .returned (.tuple #[.agg #[.int .u64 r1,.int .u64 r2],.int .i64 r3]) ∧ Below w.heap.size w w':=by
 have hu37:=Try.underlying37
 have HR1:=z4.mk hr1
 have HC1:=z4.mk hc1
 clear hr1 hc1
 have HR2:=z4.mk hr2
 have HC2:=z4.mk hc2
 clear hr2 hc2
 have HB:=z4.mk (Below.refl w.heap.size w)
 have H : ((z1o.f k a0 l1 l2).bind fun t102=>(if t102 = 0 then (if 0 ≤ a0 then ((zD.f k l1 (shl .i64 1 a0)).bind fun bt103=>((zm.f k a0 l2).bind fun t107=>((zL.f k a0 t107 bt103.1).bind fun bt110=>(some (bt110.1,bt110.2,0))))) else (none)) else (some (0,0,t102)))) = some (r1,r2,r3):=h
 clear h
 replace H:=Option.bind_eq_some_iff.mp H
 obtain ⟨t102,A40,H⟩:=H
 replace H : (if t102 = 0 then (if 0 ≤ a0 then ((zD.f k l1 (shl .i64 1 a0)).bind fun bt103=>((zm.f k a0 l2).bind fun t107=>((zL.f k a0 t107 bt103.1).bind fun bt110=>(some (bt110.1,bt110.2,0))))) else (none)) else (some (0,0,t102))) = some (r1,r2,r3):=H
 have A4:=z4.mk A40
 clear A40
 by_cases c5 : t102 = 0
 rotate_left
 · rw [if_neg c5] at H
   have c5b0 : (t102 == 0) = false:=beq_eq_false_iff_ne.mpr c5
   have c5b1 : (t102 != 0) = true:=bne_iff_ne.mpr c5
   simp only [Option.some.injEq,Prod.mk.injEq] at H
   obtain ⟨rfl,rfl,rfl⟩:=H
   go_enter Try.func18,Try.ntmps18
   go_wp2_with (first|((with_reducible refine zr (N:=6) rfl ?_);refine zy ?hg (N:=6) ?hd (cs:=#[.int .u64 0,.int .u64 0]) (t:=37) ?hr ?_;(case hd=>rfl);(case hg=>rfl);(case hr=>first|(go_simp;done)|(go_simp;rfl));intro gb101 hg w19 hbox hb;have n0_:=z4.mk (z9 zz45 hb);have n1_:=z4.mk (hbox);have n2_:=z4.mk ((by rw [hg];exact (ze zz45) : w.heap.size ≤ gb101));have n3_:=z4.mk ((by rw [hg];exact (ze zz45) : w.heap.size ≤ gb101));clear HB;have HB:=n0_;have BK101:=n1_;have GW101:=n2_;have GE101:=n3_;clear n0_ n1_ n2_ n3_;clear hb hbox hg)|((with_reducible refine zl (f:=61) rfl ?_);refine goesL_ (some 14) rfl rfl Try.func61 zz84 rfl #[.int .i64 a0,.slice A1 l1.length c1,.slice A2 l2.length c2] rfl zz44 ?_;(with_reducible refine (z1o.calls k a0 _ _ l1 _ _ l2 t102 _ ?side1 ?side2 ?side3 ?side4 A4.out).mono ?_);(case side1=>repeat (first|exact (Kd.z1s HR1.out HB.out)|(with_reducible refine Kd.zQ ?_ _)|(with_reducible refine Kd.zR ?_ _)|(with_reducible refine Kd.z1c ?_)));(case side2=>exact HC1.out);(case side3=>repeat (first|exact (Kd.z1s HR2.out HB.out)|(with_reducible refine Kd.zQ ?_ _)|(with_reducible refine Kd.zR ?_ _)|(with_reducible refine Kd.z1c ?_)));(case side4=>exact HC2.out);rintro e w20 ⟨rfl,hb⟩;refine ⟨_,rfl,?_⟩;have n0_:=z4.mk (zh (g:=gb101) (o:=.cells #[.int .u64 0,.int .u64 0] 37 (0,0)) zz46 hb);have n1_:=z4.mk (z9 zz40 hb);clear BK101;clear HB;have BK101:=n0_;have HB:=n1_;clear n0_ n1_;(try clear hb);(try clear hb2);(try clear hk);(try clear hi);have hcz21_0 : w20.cell? ⟨gb101,0,none⟩ = some (.int .u64 0):=(zf BK101.out 0).trans rfl;have hcz21_1 : w20.cell? ⟨gb101,1,none⟩ = some (.int .u64 0):=(zf BK101.out 1).trans rfl;have hfz21_0:=za BK101.out 0;have hfz21_1:=za BK101.out 1))
   refine bodyPost_ret (z2o rfl _ _ gb101 37 #[.int .u64 0,.int .u64 0] (0,0) _ rfl zz7 Try.underlying37 rfl zz84) rfl ?_
   exact ⟨by first|rfl|(simp [zi,zj] <;> rfl)|(simp [*,zi,zj] <;> rfl),by repeat (first|(with_reducible first|exact HB.out|apply zg|apply z6|apply zc|refine zd ?_ GE101.out)|exact HB.out)⟩
 rw [if_pos c5] at H
 have c5b0 : (t102 == 0) = true:=beq_iff_eq.mpr c5
 have c5b1 : (t102 != 0) = false:=bne_eq_false_iff_eq.mpr c5
 clear c5
 by_cases c6 : 0 ≤ a0
 rotate_left
 · rw [if_neg c6] at H
   exact absurd H zz87
 rw [if_pos c6] at H
 have c6b0:=eq_true c6
 have c6b1 : decide (0 ≤ a0) = true:=decide_eq_true c6
 clear c6
 obtain ⟨ji7,hji7⟩ : ∃ j_ : Int,(shl .i64 1 a0) = j_:=⟨_,rfl⟩
 replace H : ((zD.f k l1 (ji7)).bind fun bt103=>((zm.f k a0 l2).bind fun t107=>((zL.f k a0 t107 bt103.1).bind fun bt110=>(some (bt110.1,bt110.2,0))))) = some (r1,r2,r3):=by first|(rw [hji7] at H;exact H)|(simp only [hji7] at H ⊢;exact H)
 (try rw [hji7] at A4)
 have hji7_ : (IntKind.i64.wrap (1 * 2 ^ min a0.toNat 64)) = ji7:=hji7
 have hji7z : a0 ≤ 64 → (IntKind.i64.wrap (1 * 2 ^ a0.toNat)) = ji7:=z1L hji7
 have hji7u : (IntKind.i64.wrap (2 ^ min a0.toNat 64)) = ji7:=by have h_:=hji7_;rw [Int.one_mul] at h_;exact h_
 have hji7v : a0 ≤ 64 → (IntKind.i64.wrap (2 ^ a0.toNat)) = ji7:=fun hle_=>by have h_:=hji7z hle_;rw [Int.one_mul] at h_;exact h_
 have hji7y : (wrap64 (1 * 2 ^ min a0.toNat 64)) = ji7:=(zY _).symm.trans hji7_
 have hji7x : a0 ≤ 64 → (wrap64 (1 * 2 ^ a0.toNat)) = ji7:=fun h_=>(zY _).symm.trans (hji7z h_)
 replace H:=Option.bind_eq_some_iff.mp H
 obtain ⟨⟨t103,t104⟩,A80,H⟩:=H
 replace H : ((zm.f k a0 l2).bind fun t107=>((zL.f k a0 t107 t103).bind fun bt110=>(some (bt110.1,bt110.2,0)))) = some (r1,r2,r3):=H
 have A8:=z4.mk A80
 clear A80
 replace H:=Option.bind_eq_some_iff.mp H
 obtain ⟨t107,A90,H⟩:=H
 replace H : ((zL.f k a0 t107 t103).bind fun bt110=>(some (bt110.1,bt110.2,0))) = some (r1,r2,r3):=H
 have A9:=z4.mk A90
 clear A90
 replace H:=Option.bind_eq_some_iff.mp H
 obtain ⟨⟨t110,t111⟩,A100,H⟩:=H
 replace H : (some (t110,t111,0)) = some (r1,r2,r3):=H
 have A10:=z4.mk A100
 clear A100
 simp only [Option.some.injEq,Prod.mk.injEq] at H
 obtain ⟨rfl,rfl,rfl⟩:=H
 go_enter Try.func18,Try.ntmps18
 go_wp2_with (first|((with_reducible refine zr (N:=6) rfl ?_);refine zy ?hg (N:=6) ?hd (cs:=#[.int .u64 0,.int .u64 0]) (t:=37) ?hr ?_;(case hd=>rfl);(case hg=>rfl);(case hr=>first|(go_simp;done)|(go_simp;rfl));intro gb101 hg w11 hbox hb;have n0_:=z4.mk (z9 zz45 hb);have n1_:=z4.mk (hbox);have n2_:=z4.mk ((by rw [hg];exact (ze zz45) : w.heap.size ≤ gb101));have n3_:=z4.mk ((by rw [hg];exact (ze zz45) : w.heap.size ≤ gb101));clear HB;have HB:=n0_;have BK101:=n1_;have GW101:=n2_;have GE101:=n3_;clear n0_ n1_ n2_ n3_;clear hb hbox hg)|((with_reducible refine zl (f:=61) rfl ?_);refine goesL_ (some 14) rfl rfl Try.func61 zz84 rfl #[.int .i64 a0,.slice A1 l1.length c1,.slice A2 l2.length c2] rfl zz44 ?_;(with_reducible refine (z1o.calls k a0 _ _ l1 _ _ l2 t102 _ ?side1 ?side2 ?side3 ?side4 A4.out).mono ?_);(case side1=>repeat (first|exact (Kd.z1s HR1.out HB.out)|(with_reducible refine Kd.zQ ?_ _)|(with_reducible refine Kd.zR ?_ _)|(with_reducible refine Kd.z1c ?_)));(case side2=>exact HC1.out);(case side3=>repeat (first|exact (Kd.z1s HR2.out HB.out)|(with_reducible refine Kd.zQ ?_ _)|(with_reducible refine Kd.zR ?_ _)|(with_reducible refine Kd.z1c ?_)));(case side4=>exact HC2.out);rintro e w12 ⟨rfl,hb⟩;refine ⟨_,rfl,?_⟩;have n0_:=z4.mk (zh (g:=gb101) (o:=.cells #[.int .u64 0,.int .u64 0] 37 (0,0)) zz46 hb);have n1_:=z4.mk (z9 zz40 hb);clear BK101;clear HB;have BK101:=n0_;have HB:=n1_;clear n0_ n1_;(try clear hb);(try clear hb2);(try clear hk);(try clear hi))|((with_reducible refine zl (f:=62) rfl ?_);refine goesL_ (some 23) rfl rfl Try.func62 zz84 rfl #[.slice A1 l1.length c1,.int .i64 ji7] rfl zz39 ?_;(with_reducible refine (zD.calls k _ _ l1 ji7 t103 t104 _ ?side1 ?side2 A8.out).mono ?_);(case side1=>repeat (first|exact (Kd.z1s HR1.out HB.out)|(with_reducible refine Kd.zQ ?_ _)|(with_reducible refine Kd.zR ?_ _)|(with_reducible refine Kd.z1c ?_)));(case side2=>exact HC1.out);rintro e w13 ⟨v105,rfl,ho0,hb⟩;refine ⟨_,rfl,?_⟩;have n0_:=z4.mk (Kd.z1e (Kd.z2c ho0 (g:=gb101) (o:=.cells #[.int .u64 0,.int .u64 0] 37 (0,0)) zz46) (ze zz40));have n1_:=z4.mk (zh (g:=gb101) (o:=.cells #[.int .u64 0,.int .u64 0] 37 (0,0)) zz46 hb);have n2_:=z4.mk (z9 zz40 hb);clear BK101;clear HB;have HO106:=n0_;have BK101:=n1_;have HB:=n2_;clear n0_ n1_ n2_;(try clear hb);(try clear hb2);(try clear hk);(try clear hi);(try clear ho0))|((with_reducible refine zl (f:=59) rfl ?_);refine goesL_ (some 29) rfl rfl Try.func59 zz84 rfl #[.int .i64 a0,.slice A2 l2.length c2] rfl zz44 ?_;(with_reducible refine (zm.calls k a0 _ _ l2 t107 _ ?side1 ?side2 A9.out).mono ?_);(case side1=>repeat (first|exact (Kd.z1s HR2.out HB.out)|(with_reducible refine Kd.zQ ?_ _)|(with_reducible refine Kd.zR ?_ _)|(with_reducible refine Kd.z1c ?_)));(case side2=>exact HC2.out);rintro e w14 ⟨v108,rfl,ho0,hb⟩;refine ⟨_,rfl,?_⟩;have n0_:=z4.mk (Kd.z1d zz55 (Kd.z1y ho0) hb);have n1_:=z4.mk (Kd.z1e (Kd.z2c (Kd.z1z ho0 (Kd.R_lt zz55)) (g:=gb101) (o:=.cells #[.int .u64 0,.int .u64 0] 37 (0,0)) zz46) (ze zz40));have n2_:=z4.mk (zh (g:=gb101) (o:=.cells #[.int .u64 0,.int .u64 0] 37 (0,0)) zz46 hb);have n3_:=z4.mk (z9 zz40 hb);clear HO106;clear BK101;clear HB;have HO106:=n0_;have HO109:=n1_;have BK101:=n2_;have HB:=n3_;clear n0_ n1_ n2_ n3_;(try clear hb);(try clear hb2);(try clear hk);(try clear hi);(try clear ho0);obtain ⟨Ao15,co15,eo15⟩:=Kd.z1j HO109.out;subst eo15;obtain ⟨Ao16,co16,eo16⟩:=Kd.z1j HO106.out;subst eo16)|((with_reducible refine zl (f:=52) rfl ?_);refine goesL_ (some 31) rfl rfl Try.func52 zz84 rfl #[.int .i64 a0,.slice Ao15 t107.length co15,.slice Ao16 t103.length co16] rfl zz44 ?_;(with_reducible refine (zL.calls k a0 _ _ t107 _ _ t103 t110 t111 _ ?side1 ?side2 ?side3 ?side4 A10.out).mono ?_);(case side1=>repeat (first|exact (Kd.zv HO109.out).2.2|(with_reducible refine Kd.zQ ?_ _)|(with_reducible refine Kd.zR ?_ _)|(with_reducible refine Kd.z1c ?_)));(case side2=>exact (Kd.zv HO109.out).2.1);(case side3=>repeat (first|exact (Kd.zv HO106.out).2.2|(with_reducible refine Kd.zQ ?_ _)|(with_reducible refine Kd.zR ?_ _)|(with_reducible refine Kd.z1c ?_)));(case side4=>exact (Kd.zv HO106.out).2.1);rintro e w17 ⟨rfl,hb⟩;refine ⟨_,rfl,?_⟩;have n0_:=z4.mk (Kd.zx zz55 hb);have n1_:=z4.mk (Kd.zx (by (with_reducible repeat (first|apply Kd.zH|apply Kd.zI|apply Kd.zS));exact HO109.out) hb);have n2_:=z4.mk (zh (g:=gb101) (o:=.cells #[.int .u64 0,.int .u64 0] 37 (0,0)) zz46 hb);have n3_:=z4.mk (z9 zz40 hb);clear HO106;clear HO109;clear BK101;clear HB;have HO106:=n0_;have HO109:=n1_;have BK101:=n2_;have HB:=n3_;clear n0_ n1_ n2_ n3_;(try clear hb);(try clear hb2);(try clear hk);(try clear hi);have hcz18_0 : w17.cell? ⟨gb101,0,none⟩ = some (.int .u64 0):=(zf BK101.out 0).trans rfl;have hcz18_1 : w17.cell? ⟨gb101,1,none⟩ = some (.int .u64 0):=(zf BK101.out 1).trans rfl;have hfz18_0:=za BK101.out 0;have hfz18_1:=za BK101.out 1))
 refine bodyPost_ret (z2o rfl _ _ gb101 37 #[.int .u64 t110,.int .u64 t111] (0,0) _ rfl (by (with_reducible repeat (first|refine z8 ?_ _|refine zb ?_|refine z7 ?_ _));refine zX (cs:=#[.int .u64 t110,.int .u64 0]) ?_ 1 _ rfl;(with_reducible repeat (first|refine z8 ?_ _|refine zb ?_|refine z7 ?_ _));refine zX (cs:=#[.int .u64 0,.int .u64 0]) ?_ 0 _ rfl;(with_reducible repeat (first|refine z8 ?_ _|refine zb ?_|refine z7 ?_ _));exact BK101.out) Try.underlying37 rfl zz84) rfl ?_
 exact ⟨by first|rfl|(simp [zi,zj] <;> rfl)|(simp only [← hji7];first|rfl|(simp [zi,zj] <;> rfl))|(simp [*,zi,zj] <;> rfl),by repeat (first|(with_reducible first|exact HB.out|apply zg|apply z6|apply zc|refine zd ?_ GE101.out)|exact HB.out)⟩
end Go.Proofs.Ytklkmflhnljbdaa.P

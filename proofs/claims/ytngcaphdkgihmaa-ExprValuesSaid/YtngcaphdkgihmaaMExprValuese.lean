/- Own text: merged by wip/tools/pack.py out of what the law ExprValues reaches. -/
import Derived.Test.YtngcaphdkgihmaaMExprValuesb
namespace Go.Proofs.Ytngcaphdkgihmaa.P
open Go.RowKit Go.Proofs.YtngcaphdkgihmaaW.PrintWords Go.Proofs.YtngcaphdkgihmaaW.PrintLast Go.Proofs.YtngcaphdkgihmaaW.PrintMore
attribute [local go_sem] z14 z16 z1b z1c z10 z11 z15 z17   -- for this text's walks alone
set_option linter.unusedVariables false
set_option linter.unusedSimpArgs false
mutual
def zg.l0 : Nat → List (S114) → Int → List Int → Int → Option (Int)
 | 0,_,_,_,_=>none
 | k + 1,x0,x1,x5,x6=>if x6 ≤ x1 then (if 0 ≤ x6 then (if x6 < (x0.length : Int) then (if ((za x0 x6).f0) = 2 then (zg.j1 k x0 x1 x5 x6 1) else (zg.j1 k x0 x1 x5 x6 0)) else (none)) else (none)) else (if 0 ≤ x1 then (if x1 < (x5.length : Int) then (some (rd x5 x1)) else (none)) else (none))
def zg.j1 : Nat → List (S114) → Int → List Int → Int → Int → Option (Int)
 | 0,_,_,_,_,_=>none
 | k + 1,x0,x1,x5,x6,x7=>if 0 ≤ x6 then (if x6 < (x0.length : Int) then (if ((za x0 x6).f0) = 3 then (if 0 ≤ ((za x0 x6).f1) then (if ((za x0 x6).f1) < (x5.length : Int) then (if 0 ≤ ((za x0 x6).f2) then (if ((za x0 x6).f2) < (x5.length : Int) then (if (rd x5 ((za x0 x6).f2)) > (rd x5 ((za x0 x6).f1)) then (if ((za x0 x6).f0) = 4 then (if x5.length < 17592186044416 then (zg.l0 k x0 x1 (x5 ++ [wrap64 ((rd x5 ((za x0 x6).f1)) + (rd x5 ((za x0 x6).f2)))]) (wrap64 (x6 + 1))) else (none)) else (if x5.length < 17592186044416 then (zg.l0 k x0 x1 (x5 ++ [rd x5 ((za x0 x6).f2)]) (wrap64 (x6 + 1))) else (none))) else (if ((za x0 x6).f0) = 4 then (if x5.length < 17592186044416 then (zg.l0 k x0 x1 (x5 ++ [wrap64 ((rd x5 ((za x0 x6).f1)) + (rd x5 ((za x0 x6).f2)))]) (wrap64 (x6 + 1))) else (none)) else (if x5.length < 17592186044416 then (zg.l0 k x0 x1 (x5 ++ [rd x5 ((za x0 x6).f1)]) (wrap64 (x6 + 1))) else (none)))) else (none)) else (none)) else (none)) else (none)) else (if ((za x0 x6).f0) = 4 then (if 0 ≤ ((za x0 x6).f1) then (if ((za x0 x6).f1) < (x5.length : Int) then (if 0 ≤ ((za x0 x6).f2) then (if ((za x0 x6).f2) < (x5.length : Int) then (if x5.length < 17592186044416 then (zg.l0 k x0 x1 (x5 ++ [wrap64 ((rd x5 ((za x0 x6).f1)) + (rd x5 ((za x0 x6).f2)))]) (wrap64 (x6 + 1))) else (none)) else (none)) else (none)) else (none)) else (none)) else (if x5.length < 17592186044416 then (zg.l0 k x0 x1 (x5 ++ [x7]) (wrap64 (x6 + 1))) else (none)))) else (none)) else (none)
end
def zg.f (k : Nat) (l0 : List (S114)) (a1 : Int) : Option (Int):=zg.l0 k l0 a1 ([] : List Int) 0
theorem zg.z18 : ∀ k,(∀ y0 y1 y2 y3,LeO (zg.l0 k y0 y1 y2 y3) (zg.l0 (k + 1) y0 y1 y2 y3)) ∧ (∀ y0 y1 y2 y3 y4,LeO (zg.j1 k y0 y1 y2 y3 y4) (zg.j1 (k + 1) y0 y1 y2 y3 y4))
 | 0=>⟨fun _ _ _ _ r h=>by simp [zg.l0] at h,fun _ _ _ _ _ r h=>by simp [zg.j1] at h⟩
 | k + 1=>by
  obtain ⟨ih0,ih1⟩:=zg.z18 k
  refine ⟨?_,?_⟩
  · intro y0 y1 y2 y3
    unfold zg.l0
    repeat' first
    | (with_reducible exact ih0 _ _ _ _)
    | (with_reducible exact ih1 _ _ _ _ _)
    | (with_reducible exact LeO.refl _)
    | (with_reducible exact LeO.none _)
    | (with_reducible refine LeO.ite ?_ ?_)
    | (with_reducible refine LeO.bind ?_ (fun _=>?_))
    | exact ih0 _ _ _ _
    | exact ih1 _ _ _ _ _
    | exact LeO.none _
    | refine LeO.ite ?_ ?_
    | refine LeO.bind ?_ (fun _=>?_)
  · intro y0 y1 y2 y3 y4
    unfold zg.j1
    repeat' first
    | (with_reducible exact ih0 _ _ _ _)
    | (with_reducible exact ih1 _ _ _ _ _)
    | (with_reducible exact LeO.refl _)
    | (with_reducible exact LeO.none _)
    | (with_reducible refine LeO.ite ?_ ?_)
    | (with_reducible refine LeO.bind ?_ (fun _=>?_))
    | exact ih0 _ _ _ _
    | exact ih1 _ _ _ _ _
    | exact LeO.none _
    | refine LeO.ite ?_ ?_
    | refine LeO.bind ?_ (fun _=>?_)
theorem zg.mono : ∀ a0 a1 k,LeO (zg.f k a0 a1) (zg.f (k + 1) a0 a1):=by
 intro a0 a1 k
 obtain ⟨ih0,ih1⟩:=zg.z18 k
 unfold zg.f
 repeat' first
  | (with_reducible exact ih0 _ _ _ _)
  | (with_reducible exact ih1 _ _ _ _ _)
  | (with_reducible exact LeO.refl _)
  | (with_reducible exact LeO.none _)
  | (with_reducible refine LeO.ite ?_ ?_)
  | (with_reducible refine LeO.bind ?_ (fun _=>?_))
  | exact ih0 _ _ _ _
  | exact ih1 _ _ _ _ _
  | exact LeO.none _
  | refine LeO.ite ?_ ?_
  | refine LeO.bind ?_ (fun _=>?_)
set_option maxHeartbeats 8000000 in
set_option maxRecDepth 100000 in
theorem zg.calls (k : Nat) (A0 : Option Addr) (c0 : Nat) (l0 : List (S114)) (a1 : Int) (r : Int) (w : World) (hr0 : Kd.C k114 w A0 l0.length l0) (hc0 : l0.length ≤ c0) (h : zg.f k l0 a1 = some r) :
 Calls Try.prog 55 #[.slice A0 l0.length c0,.int .i64 a1] w fun e w'=>e = .returned (.int .i64 r) ∧ Below w.heap.size w w':=by
 have HR0:=z7.mk hr0
 have HC0:=z7.mk hc0
 clear hr0 hc0
 have HB:=z7.mk (Below.refl w.heap.size w)
 have H : (zg.l0 k l0 a1 ([] : List Int) 0) = some r:=h
 clear h
 have H':=z7.mk H
 clear H
 go_enter Try.func55,Try.ntmps55
 go_wp2
 repeat (go_quiet (fail);try go_wp2)
 go_loopg [5,6] k (fun kq v5 v6 w'=>∃ (x5_1 : List Int) (x6_1 : Int),v6 = .int .i64 x6_1 ∧ z7 (zg.l0 kq l0 a1 x5_1 x6_1 = some r) ∧ z7 (kq ≤ k) ∧ z7 (Kd.R (Kd.int .i64) 3 w' w.heap.size (fun _=>True) v5 x5_1) ∧ z7 (Below w.heap.size w w'))
 case atStart=>exact ⟨(([] : List Int)),(0),(by first|rfl|(simp;done)|(simp [*];done)),H',⟨Nat.le_refl _⟩,⟨by first|exact Kd.z2t _ _ _ _ _|exact Kd.z2V _ _ _ _ _|exact Kd.z2Z _ _ _ _ _|exact Kd.z2X _ _ _ _ _|exact Kd.z2Y _ _ _ _ _⟩,⟨by repeat (first|(with_reducible first|exact HB.out|apply z4|apply z0|apply z3)|exact HB.out)⟩⟩
 case round =>
  clear H'
  (try clear p2)
  obtain ⟨x5_1,x6_1,rfl,HA,HK1,HO_5,HB⟩:=hrel
  cases gk with
  | zero=>exact absurd HA.out (by simp [zg.l0])
  | succ k1 =>
   have H:=HA.out
   clear HA
   simp only [zg.l0] at H
   by_cases c3 : x6_1 ≤ a1
   rotate_left
   · rw [if_neg c3] at H
     have c3b0 : decide (x6_1 ≤ a1) = false:=decide_eq_false c3
     clear c3
     by_cases c40 : 0 ≤ a1
     rotate_left
     · rw [if_neg c40] at H
       exact absurd H (by simp)
     rw [if_pos c40] at H
     have c40b0 : decide (0 ≤ a1) = true:=decide_eq_true c40
     clear c40
     by_cases c41 : a1 < (x5_1.length : Int)
     rotate_left
     · rw [if_neg c41] at H
       exact absurd H (by simp)
     rw [if_pos c41] at H
     have c41b0 : decide (a1 < (x5_1.length : Int)) = true:=decide_eq_true c41
     clear c41
     obtain rfl:=Option.some.inj H
     obtain ⟨Ao42,co42,eo42⟩:=Kd.z1o HO_5.out
     subst eo42
     have p101 : 0 ≤ (a1 : Int):=of_decide_eq_true (by first|(with_reducible assumption)|assumption)
     have q101 : a1 < (x5_1.length : Int):=of_decide_eq_true (by first|(with_reducible assumption)|assumption)
     obtain ⟨ad101,e101,hx101_0⟩:=Kd.z1v (Kd.zQ HO_5.out).2.2 a1 p101 q101
     cases e101
     replace p101:=eq_true p101
     replace q101:=eq_true q101
     go_wp2
     repeat (go_quiet (fail);try go_wp2)
     go_ret
     exact ⟨by first|rfl|(simp [zl,zm] <;> rfl)|(simp [*,zl,zm] <;> rfl),by repeat (first|(with_reducible first|exact HB.out|apply z4|apply z0|apply z3)|exact HB.out)⟩
   rw [if_pos c3] at H
   have c3b0 : decide (x6_1 ≤ a1) = true:=decide_eq_true c3
   clear c3
   by_cases c4 : 0 ≤ x6_1
   rotate_left
   · rw [if_neg c4] at H
     exact absurd H (by simp)
   rw [if_pos c4] at H
   have c4b0 : decide (0 ≤ x6_1) = true:=decide_eq_true c4
   clear c4
   by_cases c5 : x6_1 < (l0.length : Int)
   rotate_left
   · rw [if_neg c5] at H
     exact absurd H (by simp)
   rw [if_pos c5] at H
   have c5b0 : decide (x6_1 < (l0.length : Int)) = true:=decide_eq_true c5
   clear c5
   have HC6:=z7.mk H
   clear H
   have p102 : 0 ≤ (x6_1 : Int):=of_decide_eq_true (by first|(with_reducible assumption)|assumption)
   have q102 : x6_1 < (l0.length : Int):=of_decide_eq_true (by first|(with_reducible assumption)|assumption)
   obtain ⟨ad102,e102,hx102_0,hx102_1,hx102_2,hx102_3,hx102_4⟩:=z13 HR0.out x6_1 p102 q102
   cases e102
   replace hx102_0:=(HB.out.cell (World.block_lt_of_cell? w _ hx102_0)).trans hx102_0
   replace hx102_1:=(HB.out.cell (World.block_lt_of_cell? w _ hx102_1)).trans hx102_1
   replace hx102_2:=(HB.out.cell (World.block_lt_of_cell? w _ hx102_2)).trans hx102_2
   replace hx102_3:=(HB.out.cell (World.block_lt_of_cell? w _ hx102_3)).trans hx102_3
   replace hx102_4:=(HB.out.cell (World.block_lt_of_cell? w _ hx102_4)).trans hx102_4
   replace p102:=eq_true p102
   replace q102:=eq_true q102
   go_upto_if 18 with (fail)
   repeat (go_quiet (fail);go_upto_if 18 with (fail))
   go_cut [7] (fun v7 wc=>∃ (kq : Nat) (x7_5 : Int),v7 = .int .i64 x7_5 ∧ z7 (zg.j1 kq l0 a1 x5_1 x6_1 x7_5 = some r) ∧ z7 (kq ≤ k1) ∧ z7 (Kd.R (Kd.int .i64) 3 wc w.heap.size (fun _=>True) u5 x5_1) ∧ z7 (Below w.heap.size w wc))
   case first =>
    have H:=HC6.out
    clear HC6
    by_cases c7 : ((za l0 x6_1).f0) = 2
    rotate_left
    · rw [if_neg c7] at H
      have c7b0 : (((za l0 x6_1).f0) == 2) = false:=beq_eq_false_iff_ne.mpr c7
      have c7b1 : (((za l0 x6_1).f0) != 2) = true:=bne_iff_ne.mpr c7
      (first|rw [c7b0]|(simp only [zD,zF];rw [c7b0])|skip)
      have H':=z7.mk H
      clear H
      go_wp2
      repeat (go_quiet (fail);try go_wp2)
      go_meet
      case rel=>exact ⟨_,(0),(by first|rfl|(simp;done)|(simp [*];done)),H',⟨by have:=HK1.out;first|omega|exact Nat.le_refl _⟩,⟨by (with_reducible repeat (first|apply Kd.zw|apply Kd.zx|apply Kd.zC));exact HO_5.out⟩,⟨by repeat (first|(with_reducible first|exact HB.out|apply z4|apply z0|apply z3)|exact HB.out)⟩⟩
    rw [if_pos c7] at H
    have c7b0 : (((za l0 x6_1).f0) == 2) = true:=beq_iff_eq.mpr c7
    have c7b1 : (((za l0 x6_1).f0) != 2) = false:=bne_eq_false_iff_eq.mpr c7
    clear c7
    (first|rw [c7b0]|(simp only [zD,zF];rw [c7b0])|skip)
    have H':=z7.mk H
    clear H
    go_wp2
    repeat (go_quiet (fail);try go_wp2)
    go_meet
    case rel=>exact ⟨_,(1),(by first|rfl|(simp;done)|(simp [*];done)),H',⟨by have:=HK1.out;first|omega|exact Nat.le_refl _⟩,⟨by (with_reducible repeat (first|apply Kd.zw|apply Kd.zx|apply Kd.zC));exact HO_5.out⟩,⟨by repeat (first|(with_reducible first|exact HB.out|apply z4|apply z0|apply z3)|exact HB.out)⟩⟩
   case rest =>
    clear HC6
    (try clear p1);(try clear q1);(try clear hx1);(try clear p2);(try clear c3);(try clear c3b0);(try clear c4);(try clear c4b0);(try clear c5);(try clear c5b0);(try clear c7);(try clear c7b0);(try clear c7b1);(try clear hx102_0);(try clear hx102_1);(try clear hx102_2);(try clear hx102_3);(try clear hx102_4);(try clear p102);(try clear p2);(try clear q102)
    obtain ⟨kq,x7_5,rfl,HA,HJ5,HO_5,HB⟩:=hcut
    cases kq with
    | zero=>exact absurd HA.out (by simp [zg.j1])
    | succ kj5 =>
     have H:=HA.out
     clear HA
     simp only [zg.j1] at H
     by_cases c8 : 0 ≤ x6_1
     rotate_left
     · rw [if_neg c8] at H
       exact absurd H (by simp)
     rw [if_pos c8] at H
     have c8b0 : decide (0 ≤ x6_1) = true:=decide_eq_true c8
     clear c8
     by_cases c9 : x6_1 < (l0.length : Int)
     rotate_left
     · rw [if_neg c9] at H
       exact absurd H (by simp)
     rw [if_pos c9] at H
     have c9b0 : decide (x6_1 < (l0.length : Int)) = true:=decide_eq_true c9
     clear c9
     by_cases c10 : ((za l0 x6_1).f0) = 3
     rotate_left
     · rw [if_neg c10] at H
       have c10b0 : (((za l0 x6_1).f0) == 3) = false:=beq_eq_false_iff_ne.mpr c10
       have c10b1 : (((za l0 x6_1).f0) != 3) = true:=bne_iff_ne.mpr c10
       by_cases c30 : ((za l0 x6_1).f0) = 4
       rotate_left
       · rw [if_neg c30] at H
         have c30b0 : (((za l0 x6_1).f0) == 4) = false:=beq_eq_false_iff_ne.mpr c30
         have c30b1 : (((za l0 x6_1).f0) != 4) = true:=bne_iff_ne.mpr c30
         by_cases c38 : x5_1.length < 17592186044416
         rotate_left
         · rw [if_neg c38] at H
           exact absurd H (by simp)
         rw [if_pos c38] at H
         have LMc38:=z7.mk c38
         clear c38
         obtain ⟨y140,hy140⟩ : ∃ y_ : List Int,y_ = (x5_1 ++ [x7_5]):=⟨_,rfl⟩
         replace H : (zg.l0 kj5 l0 a1 y140 (wrap64 (x6_1 + 1))) = some r:=by first|(rw [hy140];with_reducible exact H)|(have H2_:=(Option.bind_some _ _).symm.trans H;rw [hy140];with_reducible exact H2_)|(have H2_:=(Option.bind_some _ _).symm.trans H;with_reducible exact H2_)|with_reducible exact H|(rw [hy140];exact H)|exact H
         have Ny140:=z7.mk hy140
         clear hy140
         have H':=z7.mk H
         clear H
         have p103 : 0 ≤ (x6_1 : Int):=of_decide_eq_true (by first|(with_reducible assumption)|assumption)
         have q103 : x6_1 < (l0.length : Int):=of_decide_eq_true (by first|(with_reducible assumption)|assumption)
         obtain ⟨ad103,e103,hx103_0,hx103_1,hx103_2,hx103_3,hx103_4⟩:=z13 HR0.out x6_1 p103 q103
         obtain rfl : ad102 = ad103:=(by injection e103)
         replace hx103_0:=(HB.out.cell (World.block_lt_of_cell? w _ hx103_0)).trans hx103_0
         replace hx103_1:=(HB.out.cell (World.block_lt_of_cell? w _ hx103_1)).trans hx103_1
         replace hx103_2:=(HB.out.cell (World.block_lt_of_cell? w _ hx103_2)).trans hx103_2
         replace hx103_3:=(HB.out.cell (World.block_lt_of_cell? w _ hx103_3)).trans hx103_3
         replace hx103_4:=(HB.out.cell (World.block_lt_of_cell? w _ hx103_4)).trans hx103_4
         replace p103:=eq_true p103
         replace q103:=eq_true q103
         have p132 : 0 ≤ (x6_1 : Int):=of_decide_eq_true (by first|(with_reducible assumption)|assumption)
         have q132 : x6_1 < (l0.length : Int):=of_decide_eq_true (by first|(with_reducible assumption)|assumption)
         obtain ⟨ad132,e132,hx132_0,hx132_1,hx132_2,hx132_3,hx132_4⟩:=z13 HR0.out x6_1 p132 q132
         obtain rfl : ad102 = ad132:=(by injection e132)
         replace hx132_0:=(HB.out.cell (World.block_lt_of_cell? w _ hx132_0)).trans hx132_0
         replace hx132_1:=(HB.out.cell (World.block_lt_of_cell? w _ hx132_1)).trans hx132_1
         replace hx132_2:=(HB.out.cell (World.block_lt_of_cell? w _ hx132_2)).trans hx132_2
         replace hx132_3:=(HB.out.cell (World.block_lt_of_cell? w _ hx132_3)).trans hx132_3
         replace hx132_4:=(HB.out.cell (World.block_lt_of_cell? w _ hx132_4)).trans hx132_4
         replace p132:=eq_true p132
         replace q132:=eq_true q132
         go_wp2_with (first|((with_reducible refine zX (b:=.append) (xs:=#[.tmp 74,.tmp 76]) rfl ?_);at_builtin;refine Kd.z1e (Kd.int .i64) (w0:=w) w.heap.size rfl (.tmp 74) (.tmp 76) 31 3 (.int .i64 0) 8 rfl Try.underlying31 info3 rfl (by decide) (by omega) u5 x5_1 x7_5 [.int .i64 x7_5] (fun _=>True) (fun _=>False) rfl rfl ?aP (fun _ hk=>hk.elim) ?aF ?aO ?aB ?aS ?aL ?_;(case aP=>exact rfl);(case aB=>exact (by repeat (first|(with_reducible first|exact HB.out|apply z4|apply z0|apply z3)|exact HB.out)));(case aF=>exact (fun _ _=>trivial));(case aO=>exact (by (with_reducible repeat (first|apply Kd.zw|apply Kd.zx|apply Kd.zC));exact HO_5.out));(case aS=>exact (zf (by repeat (first|(with_reducible first|exact HB.out|apply z4|apply z0|apply z3)|exact HB.out))));(case aL=>have:=LMc38.out;omega);intro v141 w39 ho hb hg hat;rw [← Ny140.out] at ho;have n0_:=z7.mk (hb);have n1_:=z7.mk (ho);clear HB;clear HO_5;have HB:=n0_;have HO142:=n1_;clear n0_ n1_;clear ho hb hg hat))
         repeat (go_quiet (first|((with_reducible refine zX (b:=.append) (xs:=#[.tmp 74,.tmp 76]) rfl ?_);at_builtin;refine Kd.z1e (Kd.int .i64) (w0:=w) w.heap.size rfl (.tmp 74) (.tmp 76) 31 3 (.int .i64 0) 8 rfl Try.underlying31 info3 rfl (by decide) (by omega) u5 x5_1 x7_5 [.int .i64 x7_5] (fun _=>True) (fun _=>False) rfl rfl ?aP (fun _ hk=>hk.elim) ?aF ?aO ?aB ?aS ?aL ?_;(case aP=>exact rfl);(case aB=>exact (by repeat (first|(with_reducible first|exact HB.out|apply z4|apply z0|apply z3)|exact HB.out)));(case aF=>exact (fun _ _=>trivial));(case aO=>exact (by (with_reducible repeat (first|apply Kd.zw|apply Kd.zx|apply Kd.zC));exact HO_5.out));(case aS=>exact (zf (by repeat (first|(with_reducible first|exact HB.out|apply z4|apply z0|apply z3)|exact HB.out))));(case aL=>have:=LMc38.out;omega);intro v141 w39 ho hb hg hat;rw [← Ny140.out] at ho;have n0_:=z7.mk (hb);have n1_:=z7.mk (ho);clear HB;clear HO_5;have HB:=n0_;have HO142:=n1_;clear n0_ n1_;clear ho hb hg hat));try go_wp2_with (first|((with_reducible refine zX (b:=.append) (xs:=#[.tmp 74,.tmp 76]) rfl ?_);at_builtin;refine Kd.z1e (Kd.int .i64) (w0:=w) w.heap.size rfl (.tmp 74) (.tmp 76) 31 3 (.int .i64 0) 8 rfl Try.underlying31 info3 rfl (by decide) (by omega) u5 x5_1 x7_5 [.int .i64 x7_5] (fun _=>True) (fun _=>False) rfl rfl ?aP (fun _ hk=>hk.elim) ?aF ?aO ?aB ?aS ?aL ?_;(case aP=>exact rfl);(case aB=>exact (by repeat (first|(with_reducible first|exact HB.out|apply z4|apply z0|apply z3)|exact HB.out)));(case aF=>exact (fun _ _=>trivial));(case aO=>exact (by (with_reducible repeat (first|apply Kd.zw|apply Kd.zx|apply Kd.zC));exact HO_5.out));(case aS=>exact (zf (by repeat (first|(with_reducible first|exact HB.out|apply z4|apply z0|apply z3)|exact HB.out))));(case aL=>have:=LMc38.out;omega);intro v141 w39 ho hb hg hat;rw [← Ny140.out] at ho;have n0_:=z7.mk (hb);have n1_:=z7.mk (ho);clear HB;clear HO_5;have HB:=n0_;have HO142:=n1_;clear n0_ n1_;clear ho hb hg hat)))
         go_roundg kj5
         case measure=>have:=HK1.out;have:=HJ5.out;omega
         case rel=>exact ⟨(y140),(wrap64 (x6_1 + 1)),(by first|rfl|(simp;done)|(simp [*];done)),H',⟨by have:=HK1.out;have:=HJ5.out;omega⟩,⟨by (with_reducible repeat (first|apply Kd.zw|apply Kd.zx|apply Kd.zC));exact HO142.out⟩,⟨by repeat (first|(with_reducible first|exact HB.out|apply z4|apply z0|apply z3)|exact HB.out)⟩⟩
       rw [if_pos c30] at H
       have c30b0 : (((za l0 x6_1).f0) == 4) = true:=beq_iff_eq.mpr c30
       have c30b1 : (((za l0 x6_1).f0) != 4) = false:=bne_eq_false_iff_eq.mpr c30
       clear c30
       by_cases c31 : 0 ≤ ((za l0 x6_1).f1)
       rotate_left
       · rw [if_neg c31] at H
         exact absurd H (by simp)
       rw [if_pos c31] at H
       have c31b0 : decide (0 ≤ ((za l0 x6_1).f1)) = true:=decide_eq_true c31
       clear c31
       by_cases c32 : ((za l0 x6_1).f1) < (x5_1.length : Int)
       rotate_left
       · rw [if_neg c32] at H
         exact absurd H (by simp)
       rw [if_pos c32] at H
       have c32b0 : decide (((za l0 x6_1).f1) < (x5_1.length : Int)) = true:=decide_eq_true c32
       clear c32
       by_cases c33 : 0 ≤ ((za l0 x6_1).f2)
       rotate_left
       · rw [if_neg c33] at H
         exact absurd H (by simp)
       rw [if_pos c33] at H
       have c33b0 : decide (0 ≤ ((za l0 x6_1).f2)) = true:=decide_eq_true c33
       clear c33
       by_cases c34 : ((za l0 x6_1).f2) < (x5_1.length : Int)
       rotate_left
       · rw [if_neg c34] at H
         exact absurd H (by simp)
       rw [if_pos c34] at H
       have c34b0 : decide (((za l0 x6_1).f2) < (x5_1.length : Int)) = true:=decide_eq_true c34
       clear c34
       by_cases c35 : x5_1.length < 17592186044416
       rotate_left
       · rw [if_neg c35] at H
         exact absurd H (by simp)
       rw [if_pos c35] at H
       have LMc35:=z7.mk c35
       clear c35
       obtain ⟨y137,hy137⟩ : ∃ y_ : List Int,y_ = (x5_1 ++ [wrap64 ((rd x5_1 ((za l0 x6_1).f1)) + (rd x5_1 ((za l0 x6_1).f2)))]):=⟨_,rfl⟩
       replace H : (zg.l0 kj5 l0 a1 y137 (wrap64 (x6_1 + 1))) = some r:=by first|(rw [hy137];with_reducible exact H)|(have H2_:=(Option.bind_some _ _).symm.trans H;rw [hy137];with_reducible exact H2_)|(have H2_:=(Option.bind_some _ _).symm.trans H;with_reducible exact H2_)|with_reducible exact H|(rw [hy137];exact H)|exact H
       have Ny137:=z7.mk hy137
       clear hy137
       have H':=z7.mk H
       clear H
       have p103 : 0 ≤ (x6_1 : Int):=of_decide_eq_true (by first|(with_reducible assumption)|assumption)
       have q103 : x6_1 < (l0.length : Int):=of_decide_eq_true (by first|(with_reducible assumption)|assumption)
       obtain ⟨ad103,e103,hx103_0,hx103_1,hx103_2,hx103_3,hx103_4⟩:=z13 HR0.out x6_1 p103 q103
       obtain rfl : ad102 = ad103:=(by injection e103)
       replace hx103_0:=(HB.out.cell (World.block_lt_of_cell? w _ hx103_0)).trans hx103_0
       replace hx103_1:=(HB.out.cell (World.block_lt_of_cell? w _ hx103_1)).trans hx103_1
       replace hx103_2:=(HB.out.cell (World.block_lt_of_cell? w _ hx103_2)).trans hx103_2
       replace hx103_3:=(HB.out.cell (World.block_lt_of_cell? w _ hx103_3)).trans hx103_3
       replace hx103_4:=(HB.out.cell (World.block_lt_of_cell? w _ hx103_4)).trans hx103_4
       replace p103:=eq_true p103
       replace q103:=eq_true q103
       have p132 : 0 ≤ (x6_1 : Int):=of_decide_eq_true (by first|(with_reducible assumption)|assumption)
       have q132 : x6_1 < (l0.length : Int):=of_decide_eq_true (by first|(with_reducible assumption)|assumption)
       obtain ⟨ad132,e132,hx132_0,hx132_1,hx132_2,hx132_3,hx132_4⟩:=z13 HR0.out x6_1 p132 q132
       obtain rfl : ad102 = ad132:=(by injection e132)
       replace hx132_0:=(HB.out.cell (World.block_lt_of_cell? w _ hx132_0)).trans hx132_0
       replace hx132_1:=(HB.out.cell (World.block_lt_of_cell? w _ hx132_1)).trans hx132_1
       replace hx132_2:=(HB.out.cell (World.block_lt_of_cell? w _ hx132_2)).trans hx132_2
       replace hx132_3:=(HB.out.cell (World.block_lt_of_cell? w _ hx132_3)).trans hx132_3
       replace hx132_4:=(HB.out.cell (World.block_lt_of_cell? w _ hx132_4)).trans hx132_4
       replace p132:=eq_true p132
       replace q132:=eq_true q132
       have p133 : 0 ≤ (x6_1 : Int):=of_decide_eq_true (by first|(with_reducible assumption)|assumption)
       have q133 : x6_1 < (l0.length : Int):=of_decide_eq_true (by first|(with_reducible assumption)|assumption)
       obtain ⟨ad133,e133,hx133_0,hx133_1,hx133_2,hx133_3,hx133_4⟩:=z13 HR0.out x6_1 p133 q133
       obtain rfl : ad102 = ad133:=(by injection e133)
       replace hx133_0:=(HB.out.cell (World.block_lt_of_cell? w _ hx133_0)).trans hx133_0
       replace hx133_1:=(HB.out.cell (World.block_lt_of_cell? w _ hx133_1)).trans hx133_1
       replace hx133_2:=(HB.out.cell (World.block_lt_of_cell? w _ hx133_2)).trans hx133_2
       replace hx133_3:=(HB.out.cell (World.block_lt_of_cell? w _ hx133_3)).trans hx133_3
       replace hx133_4:=(HB.out.cell (World.block_lt_of_cell? w _ hx133_4)).trans hx133_4
       replace p133:=eq_true p133
       replace q133:=eq_true q133
       obtain ⟨Ao36,co36,eo36⟩:=Kd.z1o HO_5.out
       subst eo36
       have p134 : 0 ≤ (((za l0 x6_1).f1) : Int):=of_decide_eq_true (by first|(with_reducible assumption)|assumption)
       have q134 : ((za l0 x6_1).f1) < (x5_1.length : Int):=of_decide_eq_true (by first|(with_reducible assumption)|assumption)
       obtain ⟨ad134,e134,hx134_0⟩:=Kd.z1v (Kd.zQ HO_5.out).2.2 ((za l0 x6_1).f1) p134 q134
       cases e134
       replace p134:=eq_true p134
       replace q134:=eq_true q134
       have p135 : 0 ≤ (x6_1 : Int):=of_decide_eq_true (by first|(with_reducible assumption)|assumption)
       have q135 : x6_1 < (l0.length : Int):=of_decide_eq_true (by first|(with_reducible assumption)|assumption)
       obtain ⟨ad135,e135,hx135_0,hx135_1,hx135_2,hx135_3,hx135_4⟩:=z13 HR0.out x6_1 p135 q135
       obtain rfl : ad102 = ad135:=(by injection e135)
       replace hx135_0:=(HB.out.cell (World.block_lt_of_cell? w _ hx135_0)).trans hx135_0
       replace hx135_1:=(HB.out.cell (World.block_lt_of_cell? w _ hx135_1)).trans hx135_1
       replace hx135_2:=(HB.out.cell (World.block_lt_of_cell? w _ hx135_2)).trans hx135_2
       replace hx135_3:=(HB.out.cell (World.block_lt_of_cell? w _ hx135_3)).trans hx135_3
       replace hx135_4:=(HB.out.cell (World.block_lt_of_cell? w _ hx135_4)).trans hx135_4
       replace p135:=eq_true p135
       replace q135:=eq_true q135
       have p136 : 0 ≤ (((za l0 x6_1).f2) : Int):=of_decide_eq_true (by first|(with_reducible assumption)|assumption)
       have q136 : ((za l0 x6_1).f2) < (x5_1.length : Int):=of_decide_eq_true (by first|(with_reducible assumption)|assumption)
       obtain ⟨ad136,e136,hx136_0⟩:=Kd.z1v (Kd.zQ HO_5.out).2.2 ((za l0 x6_1).f2) p136 q136
       obtain rfl : ad134 = ad136:=(by injection e136)
       replace p136:=eq_true p136
       replace q136:=eq_true q136
       go_wp2_with (first|((with_reducible refine zX (b:=.append) (xs:=#[.tmp 74,.tmp 76]) rfl ?_);at_builtin;refine Kd.z1e (Kd.int .i64) (w0:=w) w.heap.size rfl (.tmp 74) (.tmp 76) 31 3 (.int .i64 0) 8 rfl Try.underlying31 info3 rfl (by decide) (by omega) (.slice (some ad134) x5_1.length co36) x5_1 (wrap64 ((rd x5_1 ((za l0 x6_1).f1)) + (rd x5_1 ((za l0 x6_1).f2)))) [.int .i64 (wrap64 ((rd x5_1 ((za l0 x6_1).f1)) + (rd x5_1 ((za l0 x6_1).f2))))] (fun _=>True) (fun _=>False) rfl rfl ?aP (fun _ hk=>hk.elim) ?aF ?aO ?aB ?aS ?aL ?_;(case aP=>exact rfl);(case aB=>exact (by repeat (first|(with_reducible first|exact HB.out|apply z4|apply z0|apply z3)|exact HB.out)));(case aF=>exact (fun _ _=>trivial));(case aO=>exact (by (with_reducible repeat (first|apply Kd.zw|apply Kd.zx|apply Kd.zC));exact HO_5.out));(case aS=>exact (zf (by repeat (first|(with_reducible first|exact HB.out|apply z4|apply z0|apply z3)|exact HB.out))));(case aL=>have:=LMc35.out;omega);intro v138 w37 ho hb hg hat;rw [← Ny137.out] at ho;have n0_:=z7.mk (hb);have n1_:=z7.mk (ho);clear HB;clear HO_5;have HB:=n0_;have HO139:=n1_;clear n0_ n1_;clear ho hb hg hat))
       repeat (go_quiet (first|((with_reducible refine zX (b:=.append) (xs:=#[.tmp 74,.tmp 76]) rfl ?_);at_builtin;refine Kd.z1e (Kd.int .i64) (w0:=w) w.heap.size rfl (.tmp 74) (.tmp 76) 31 3 (.int .i64 0) 8 rfl Try.underlying31 info3 rfl (by decide) (by omega) (.slice (some ad134) x5_1.length co36) x5_1 (wrap64 ((rd x5_1 ((za l0 x6_1).f1)) + (rd x5_1 ((za l0 x6_1).f2)))) [.int .i64 (wrap64 ((rd x5_1 ((za l0 x6_1).f1)) + (rd x5_1 ((za l0 x6_1).f2))))] (fun _=>True) (fun _=>False) rfl rfl ?aP (fun _ hk=>hk.elim) ?aF ?aO ?aB ?aS ?aL ?_;(case aP=>exact rfl);(case aB=>exact (by repeat (first|(with_reducible first|exact HB.out|apply z4|apply z0|apply z3)|exact HB.out)));(case aF=>exact (fun _ _=>trivial));(case aO=>exact (by (with_reducible repeat (first|apply Kd.zw|apply Kd.zx|apply Kd.zC));exact HO_5.out));(case aS=>exact (zf (by repeat (first|(with_reducible first|exact HB.out|apply z4|apply z0|apply z3)|exact HB.out))));(case aL=>have:=LMc35.out;omega);intro v138 w37 ho hb hg hat;rw [← Ny137.out] at ho;have n0_:=z7.mk (hb);have n1_:=z7.mk (ho);clear HB;clear HO_5;have HB:=n0_;have HO139:=n1_;clear n0_ n1_;clear ho hb hg hat));try go_wp2_with (first|((with_reducible refine zX (b:=.append) (xs:=#[.tmp 74,.tmp 76]) rfl ?_);at_builtin;refine Kd.z1e (Kd.int .i64) (w0:=w) w.heap.size rfl (.tmp 74) (.tmp 76) 31 3 (.int .i64 0) 8 rfl Try.underlying31 info3 rfl (by decide) (by omega) (.slice (some ad134) x5_1.length co36) x5_1 (wrap64 ((rd x5_1 ((za l0 x6_1).f1)) + (rd x5_1 ((za l0 x6_1).f2)))) [.int .i64 (wrap64 ((rd x5_1 ((za l0 x6_1).f1)) + (rd x5_1 ((za l0 x6_1).f2))))] (fun _=>True) (fun _=>False) rfl rfl ?aP (fun _ hk=>hk.elim) ?aF ?aO ?aB ?aS ?aL ?_;(case aP=>exact rfl);(case aB=>exact (by repeat (first|(with_reducible first|exact HB.out|apply z4|apply z0|apply z3)|exact HB.out)));(case aF=>exact (fun _ _=>trivial));(case aO=>exact (by (with_reducible repeat (first|apply Kd.zw|apply Kd.zx|apply Kd.zC));exact HO_5.out));(case aS=>exact (zf (by repeat (first|(with_reducible first|exact HB.out|apply z4|apply z0|apply z3)|exact HB.out))));(case aL=>have:=LMc35.out;omega);intro v138 w37 ho hb hg hat;rw [← Ny137.out] at ho;have n0_:=z7.mk (hb);have n1_:=z7.mk (ho);clear HB;clear HO_5;have HB:=n0_;have HO139:=n1_;clear n0_ n1_;clear ho hb hg hat)))
       go_roundg kj5
       case measure=>have:=HK1.out;have:=HJ5.out;omega
       case rel=>exact ⟨(y137),(wrap64 (x6_1 + 1)),(by first|rfl|(simp;done)|(simp [*];done)),H',⟨by have:=HK1.out;have:=HJ5.out;omega⟩,⟨by (with_reducible repeat (first|apply Kd.zw|apply Kd.zx|apply Kd.zC));exact HO139.out⟩,⟨by repeat (first|(with_reducible first|exact HB.out|apply z4|apply z0|apply z3)|exact HB.out)⟩⟩
     rw [if_pos c10] at H
     have c10b0 : (((za l0 x6_1).f0) == 3) = true:=beq_iff_eq.mpr c10
     have c10b1 : (((za l0 x6_1).f0) != 3) = false:=bne_eq_false_iff_eq.mpr c10
     clear c10
     by_cases c11 : 0 ≤ ((za l0 x6_1).f1)
     rotate_left
     · rw [if_neg c11] at H
       exact absurd H (by simp)
     rw [if_pos c11] at H
     have c11b0 : decide (0 ≤ ((za l0 x6_1).f1)) = true:=decide_eq_true c11
     clear c11
     by_cases c12 : ((za l0 x6_1).f1) < (x5_1.length : Int)
     rotate_left
     · rw [if_neg c12] at H
       exact absurd H (by simp)
     rw [if_pos c12] at H
     have c12b0 : decide (((za l0 x6_1).f1) < (x5_1.length : Int)) = true:=decide_eq_true c12
     clear c12
     by_cases c13 : 0 ≤ ((za l0 x6_1).f2)
     rotate_left
     · rw [if_neg c13] at H
       exact absurd H (by simp)
     rw [if_pos c13] at H
     have c13b0 : decide (0 ≤ ((za l0 x6_1).f2)) = true:=decide_eq_true c13
     clear c13
     by_cases c14 : ((za l0 x6_1).f2) < (x5_1.length : Int)
     rotate_left
     · rw [if_neg c14] at H
       exact absurd H (by simp)
     rw [if_pos c14] at H
     have c14b0 : decide (((za l0 x6_1).f2) < (x5_1.length : Int)) = true:=decide_eq_true c14
     clear c14
     by_cases c15 : (rd x5_1 ((za l0 x6_1).f2)) > (rd x5_1 ((za l0 x6_1).f1))
     rotate_left
     · rw [if_neg c15] at H
       have c15b0 : decide ((rd x5_1 ((za l0 x6_1).f1)) < (rd x5_1 ((za l0 x6_1).f2))) = false:=decide_eq_false c15
       clear c15
       by_cases c23 : ((za l0 x6_1).f0) = 4
       rotate_left
       · rw [if_neg c23] at H
         have c23b0 : (((za l0 x6_1).f0) == 4) = false:=beq_eq_false_iff_ne.mpr c23
         have c23b1 : (((za l0 x6_1).f0) != 4) = true:=bne_iff_ne.mpr c23
         by_cases c27 : x5_1.length < 17592186044416
         rotate_left
         · rw [if_neg c27] at H
           exact absurd H (by simp)
         rw [if_pos c27] at H
         have LMc27:=z7.mk c27
         clear c27
         obtain ⟨y129,hy129⟩ : ∃ y_ : List Int,y_ = (x5_1 ++ [rd x5_1 ((za l0 x6_1).f1)]):=⟨_,rfl⟩
         replace H : (zg.l0 kj5 l0 a1 y129 (wrap64 (x6_1 + 1))) = some r:=by first|(rw [hy129];with_reducible exact H)|(have H2_:=(Option.bind_some _ _).symm.trans H;rw [hy129];with_reducible exact H2_)|(have H2_:=(Option.bind_some _ _).symm.trans H;with_reducible exact H2_)|with_reducible exact H|(rw [hy129];exact H)|exact H
         have Ny129:=z7.mk hy129
         clear hy129
         have H':=z7.mk H
         clear H
         have p103 : 0 ≤ (x6_1 : Int):=of_decide_eq_true (by first|(with_reducible assumption)|assumption)
         have q103 : x6_1 < (l0.length : Int):=of_decide_eq_true (by first|(with_reducible assumption)|assumption)
         obtain ⟨ad103,e103,hx103_0,hx103_1,hx103_2,hx103_3,hx103_4⟩:=z13 HR0.out x6_1 p103 q103
         obtain rfl : ad102 = ad103:=(by injection e103)
         replace hx103_0:=(HB.out.cell (World.block_lt_of_cell? w _ hx103_0)).trans hx103_0
         replace hx103_1:=(HB.out.cell (World.block_lt_of_cell? w _ hx103_1)).trans hx103_1
         replace hx103_2:=(HB.out.cell (World.block_lt_of_cell? w _ hx103_2)).trans hx103_2
         replace hx103_3:=(HB.out.cell (World.block_lt_of_cell? w _ hx103_3)).trans hx103_3
         replace hx103_4:=(HB.out.cell (World.block_lt_of_cell? w _ hx103_4)).trans hx103_4
         replace p103:=eq_true p103
         replace q103:=eq_true q103
         have p104 : 0 ≤ (x6_1 : Int):=of_decide_eq_true (by first|(with_reducible assumption)|assumption)
         have q104 : x6_1 < (l0.length : Int):=of_decide_eq_true (by first|(with_reducible assumption)|assumption)
         obtain ⟨ad104,e104,hx104_0,hx104_1,hx104_2,hx104_3,hx104_4⟩:=z13 HR0.out x6_1 p104 q104
         obtain rfl : ad102 = ad104:=(by injection e104)
         replace hx104_0:=(HB.out.cell (World.block_lt_of_cell? w _ hx104_0)).trans hx104_0
         replace hx104_1:=(HB.out.cell (World.block_lt_of_cell? w _ hx104_1)).trans hx104_1
         replace hx104_2:=(HB.out.cell (World.block_lt_of_cell? w _ hx104_2)).trans hx104_2
         replace hx104_3:=(HB.out.cell (World.block_lt_of_cell? w _ hx104_3)).trans hx104_3
         replace hx104_4:=(HB.out.cell (World.block_lt_of_cell? w _ hx104_4)).trans hx104_4
         replace p104:=eq_true p104
         replace q104:=eq_true q104
         obtain ⟨Ao28,co28,eo28⟩:=Kd.z1o HO_5.out
         subst eo28
         have p105 : 0 ≤ (((za l0 x6_1).f1) : Int):=of_decide_eq_true (by first|(with_reducible assumption)|assumption)
         have q105 : ((za l0 x6_1).f1) < (x5_1.length : Int):=of_decide_eq_true (by first|(with_reducible assumption)|assumption)
         obtain ⟨ad105,e105,hx105_0⟩:=Kd.z1v (Kd.zQ HO_5.out).2.2 ((za l0 x6_1).f1) p105 q105
         cases e105
         replace p105:=eq_true p105
         replace q105:=eq_true q105
         have p106 : 0 ≤ (x6_1 : Int):=of_decide_eq_true (by first|(with_reducible assumption)|assumption)
         have q106 : x6_1 < (l0.length : Int):=of_decide_eq_true (by first|(with_reducible assumption)|assumption)
         obtain ⟨ad106,e106,hx106_0,hx106_1,hx106_2,hx106_3,hx106_4⟩:=z13 HR0.out x6_1 p106 q106
         obtain rfl : ad102 = ad106:=(by injection e106)
         replace hx106_0:=(HB.out.cell (World.block_lt_of_cell? w _ hx106_0)).trans hx106_0
         replace hx106_1:=(HB.out.cell (World.block_lt_of_cell? w _ hx106_1)).trans hx106_1
         replace hx106_2:=(HB.out.cell (World.block_lt_of_cell? w _ hx106_2)).trans hx106_2
         replace hx106_3:=(HB.out.cell (World.block_lt_of_cell? w _ hx106_3)).trans hx106_3
         replace hx106_4:=(HB.out.cell (World.block_lt_of_cell? w _ hx106_4)).trans hx106_4
         replace p106:=eq_true p106
         replace q106:=eq_true q106
         have p107 : 0 ≤ (((za l0 x6_1).f2) : Int):=of_decide_eq_true (by first|(with_reducible assumption)|assumption)
         have q107 : ((za l0 x6_1).f2) < (x5_1.length : Int):=of_decide_eq_true (by first|(with_reducible assumption)|assumption)
         obtain ⟨ad107,e107,hx107_0⟩:=Kd.z1v (Kd.zQ HO_5.out).2.2 ((za l0 x6_1).f2) p107 q107
         obtain rfl : ad105 = ad107:=(by injection e107)
         replace p107:=eq_true p107
         replace q107:=eq_true q107
         have p121 : 0 ≤ (x6_1 : Int):=of_decide_eq_true (by first|(with_reducible assumption)|assumption)
         have q121 : x6_1 < (l0.length : Int):=of_decide_eq_true (by first|(with_reducible assumption)|assumption)
         obtain ⟨ad121,e121,hx121_0,hx121_1,hx121_2,hx121_3,hx121_4⟩:=z13 HR0.out x6_1 p121 q121
         obtain rfl : ad102 = ad121:=(by injection e121)
         replace hx121_0:=(HB.out.cell (World.block_lt_of_cell? w _ hx121_0)).trans hx121_0
         replace hx121_1:=(HB.out.cell (World.block_lt_of_cell? w _ hx121_1)).trans hx121_1
         replace hx121_2:=(HB.out.cell (World.block_lt_of_cell? w _ hx121_2)).trans hx121_2
         replace hx121_3:=(HB.out.cell (World.block_lt_of_cell? w _ hx121_3)).trans hx121_3
         replace hx121_4:=(HB.out.cell (World.block_lt_of_cell? w _ hx121_4)).trans hx121_4
         replace p121:=eq_true p121
         replace q121:=eq_true q121
         go_wp2_with (first|((with_reducible refine zX (b:=.append) (xs:=#[.tmp 74,.tmp 76]) rfl ?_);at_builtin;refine Kd.z1e (Kd.int .i64) (w0:=w) w.heap.size rfl (.tmp 74) (.tmp 76) 31 3 (.int .i64 0) 8 rfl Try.underlying31 info3 rfl (by decide) (by omega) (.slice (some ad105) x5_1.length co28) x5_1 (rd x5_1 ((za l0 x6_1).f1)) [.int .i64 (rd x5_1 ((za l0 x6_1).f1))] (fun _=>True) (fun _=>False) rfl rfl ?aP (fun _ hk=>hk.elim) ?aF ?aO ?aB ?aS ?aL ?_;(case aP=>exact rfl);(case aB=>exact (by repeat (first|(with_reducible first|exact HB.out|apply z4|apply z0|apply z3)|exact HB.out)));(case aF=>exact (fun _ _=>trivial));(case aO=>exact (by (with_reducible repeat (first|apply Kd.zw|apply Kd.zx|apply Kd.zC));exact HO_5.out));(case aS=>exact (zf (by repeat (first|(with_reducible first|exact HB.out|apply z4|apply z0|apply z3)|exact HB.out))));(case aL=>have:=LMc27.out;omega);intro v130 w29 ho hb hg hat;rw [← Ny129.out] at ho;have n0_:=z7.mk (hb);have n1_:=z7.mk (ho);clear HB;clear HO_5;have HB:=n0_;have HO131:=n1_;clear n0_ n1_;clear ho hb hg hat))
         repeat (go_quiet (first|((with_reducible refine zX (b:=.append) (xs:=#[.tmp 74,.tmp 76]) rfl ?_);at_builtin;refine Kd.z1e (Kd.int .i64) (w0:=w) w.heap.size rfl (.tmp 74) (.tmp 76) 31 3 (.int .i64 0) 8 rfl Try.underlying31 info3 rfl (by decide) (by omega) (.slice (some ad105) x5_1.length co28) x5_1 (rd x5_1 ((za l0 x6_1).f1)) [.int .i64 (rd x5_1 ((za l0 x6_1).f1))] (fun _=>True) (fun _=>False) rfl rfl ?aP (fun _ hk=>hk.elim) ?aF ?aO ?aB ?aS ?aL ?_;(case aP=>exact rfl);(case aB=>exact (by repeat (first|(with_reducible first|exact HB.out|apply z4|apply z0|apply z3)|exact HB.out)));(case aF=>exact (fun _ _=>trivial));(case aO=>exact (by (with_reducible repeat (first|apply Kd.zw|apply Kd.zx|apply Kd.zC));exact HO_5.out));(case aS=>exact (zf (by repeat (first|(with_reducible first|exact HB.out|apply z4|apply z0|apply z3)|exact HB.out))));(case aL=>have:=LMc27.out;omega);intro v130 w29 ho hb hg hat;rw [← Ny129.out] at ho;have n0_:=z7.mk (hb);have n1_:=z7.mk (ho);clear HB;clear HO_5;have HB:=n0_;have HO131:=n1_;clear n0_ n1_;clear ho hb hg hat));try go_wp2_with (first|((with_reducible refine zX (b:=.append) (xs:=#[.tmp 74,.tmp 76]) rfl ?_);at_builtin;refine Kd.z1e (Kd.int .i64) (w0:=w) w.heap.size rfl (.tmp 74) (.tmp 76) 31 3 (.int .i64 0) 8 rfl Try.underlying31 info3 rfl (by decide) (by omega) (.slice (some ad105) x5_1.length co28) x5_1 (rd x5_1 ((za l0 x6_1).f1)) [.int .i64 (rd x5_1 ((za l0 x6_1).f1))] (fun _=>True) (fun _=>False) rfl rfl ?aP (fun _ hk=>hk.elim) ?aF ?aO ?aB ?aS ?aL ?_;(case aP=>exact rfl);(case aB=>exact (by repeat (first|(with_reducible first|exact HB.out|apply z4|apply z0|apply z3)|exact HB.out)));(case aF=>exact (fun _ _=>trivial));(case aO=>exact (by (with_reducible repeat (first|apply Kd.zw|apply Kd.zx|apply Kd.zC));exact HO_5.out));(case aS=>exact (zf (by repeat (first|(with_reducible first|exact HB.out|apply z4|apply z0|apply z3)|exact HB.out))));(case aL=>have:=LMc27.out;omega);intro v130 w29 ho hb hg hat;rw [← Ny129.out] at ho;have n0_:=z7.mk (hb);have n1_:=z7.mk (ho);clear HB;clear HO_5;have HB:=n0_;have HO131:=n1_;clear n0_ n1_;clear ho hb hg hat)))
         go_roundg kj5
         case measure=>have:=HK1.out;have:=HJ5.out;omega
         case rel=>exact ⟨(y129),(wrap64 (x6_1 + 1)),(by first|rfl|(simp;done)|(simp [*];done)),H',⟨by have:=HK1.out;have:=HJ5.out;omega⟩,⟨by (with_reducible repeat (first|apply Kd.zw|apply Kd.zx|apply Kd.zC));exact HO131.out⟩,⟨by repeat (first|(with_reducible first|exact HB.out|apply z4|apply z0|apply z3)|exact HB.out)⟩⟩
       rw [if_pos c23] at H
       have c23b0 : (((za l0 x6_1).f0) == 4) = true:=beq_iff_eq.mpr c23
       have c23b1 : (((za l0 x6_1).f0) != 4) = false:=bne_eq_false_iff_eq.mpr c23
       clear c23
       by_cases c24 : x5_1.length < 17592186044416
       rotate_left
       · rw [if_neg c24] at H
         exact absurd H (by simp)
       rw [if_pos c24] at H
       have LMc24:=z7.mk c24
       clear c24
       obtain ⟨y126,hy126⟩ : ∃ y_ : List Int,y_ = (x5_1 ++ [wrap64 ((rd x5_1 ((za l0 x6_1).f1)) + (rd x5_1 ((za l0 x6_1).f2)))]):=⟨_,rfl⟩
       replace H : (zg.l0 kj5 l0 a1 y126 (wrap64 (x6_1 + 1))) = some r:=by first|(rw [hy126];with_reducible exact H)|(have H2_:=(Option.bind_some _ _).symm.trans H;rw [hy126];with_reducible exact H2_)|(have H2_:=(Option.bind_some _ _).symm.trans H;with_reducible exact H2_)|with_reducible exact H|(rw [hy126];exact H)|exact H
       have Ny126:=z7.mk hy126
       clear hy126
       have H':=z7.mk H
       clear H
       have p103 : 0 ≤ (x6_1 : Int):=of_decide_eq_true (by first|(with_reducible assumption)|assumption)
       have q103 : x6_1 < (l0.length : Int):=of_decide_eq_true (by first|(with_reducible assumption)|assumption)
       obtain ⟨ad103,e103,hx103_0,hx103_1,hx103_2,hx103_3,hx103_4⟩:=z13 HR0.out x6_1 p103 q103
       obtain rfl : ad102 = ad103:=(by injection e103)
       replace hx103_0:=(HB.out.cell (World.block_lt_of_cell? w _ hx103_0)).trans hx103_0
       replace hx103_1:=(HB.out.cell (World.block_lt_of_cell? w _ hx103_1)).trans hx103_1
       replace hx103_2:=(HB.out.cell (World.block_lt_of_cell? w _ hx103_2)).trans hx103_2
       replace hx103_3:=(HB.out.cell (World.block_lt_of_cell? w _ hx103_3)).trans hx103_3
       replace hx103_4:=(HB.out.cell (World.block_lt_of_cell? w _ hx103_4)).trans hx103_4
       replace p103:=eq_true p103
       replace q103:=eq_true q103
       have p104 : 0 ≤ (x6_1 : Int):=of_decide_eq_true (by first|(with_reducible assumption)|assumption)
       have q104 : x6_1 < (l0.length : Int):=of_decide_eq_true (by first|(with_reducible assumption)|assumption)
       obtain ⟨ad104,e104,hx104_0,hx104_1,hx104_2,hx104_3,hx104_4⟩:=z13 HR0.out x6_1 p104 q104
       obtain rfl : ad102 = ad104:=(by injection e104)
       replace hx104_0:=(HB.out.cell (World.block_lt_of_cell? w _ hx104_0)).trans hx104_0
       replace hx104_1:=(HB.out.cell (World.block_lt_of_cell? w _ hx104_1)).trans hx104_1
       replace hx104_2:=(HB.out.cell (World.block_lt_of_cell? w _ hx104_2)).trans hx104_2
       replace hx104_3:=(HB.out.cell (World.block_lt_of_cell? w _ hx104_3)).trans hx104_3
       replace hx104_4:=(HB.out.cell (World.block_lt_of_cell? w _ hx104_4)).trans hx104_4
       replace p104:=eq_true p104
       replace q104:=eq_true q104
       obtain ⟨Ao25,co25,eo25⟩:=Kd.z1o HO_5.out
       subst eo25
       have p105 : 0 ≤ (((za l0 x6_1).f1) : Int):=of_decide_eq_true (by first|(with_reducible assumption)|assumption)
       have q105 : ((za l0 x6_1).f1) < (x5_1.length : Int):=of_decide_eq_true (by first|(with_reducible assumption)|assumption)
       obtain ⟨ad105,e105,hx105_0⟩:=Kd.z1v (Kd.zQ HO_5.out).2.2 ((za l0 x6_1).f1) p105 q105
       cases e105
       replace p105:=eq_true p105
       replace q105:=eq_true q105
       have p106 : 0 ≤ (x6_1 : Int):=of_decide_eq_true (by first|(with_reducible assumption)|assumption)
       have q106 : x6_1 < (l0.length : Int):=of_decide_eq_true (by first|(with_reducible assumption)|assumption)
       obtain ⟨ad106,e106,hx106_0,hx106_1,hx106_2,hx106_3,hx106_4⟩:=z13 HR0.out x6_1 p106 q106
       obtain rfl : ad102 = ad106:=(by injection e106)
       replace hx106_0:=(HB.out.cell (World.block_lt_of_cell? w _ hx106_0)).trans hx106_0
       replace hx106_1:=(HB.out.cell (World.block_lt_of_cell? w _ hx106_1)).trans hx106_1
       replace hx106_2:=(HB.out.cell (World.block_lt_of_cell? w _ hx106_2)).trans hx106_2
       replace hx106_3:=(HB.out.cell (World.block_lt_of_cell? w _ hx106_3)).trans hx106_3
       replace hx106_4:=(HB.out.cell (World.block_lt_of_cell? w _ hx106_4)).trans hx106_4
       replace p106:=eq_true p106
       replace q106:=eq_true q106
       have p107 : 0 ≤ (((za l0 x6_1).f2) : Int):=of_decide_eq_true (by first|(with_reducible assumption)|assumption)
       have q107 : ((za l0 x6_1).f2) < (x5_1.length : Int):=of_decide_eq_true (by first|(with_reducible assumption)|assumption)
       obtain ⟨ad107,e107,hx107_0⟩:=Kd.z1v (Kd.zQ HO_5.out).2.2 ((za l0 x6_1).f2) p107 q107
       obtain rfl : ad105 = ad107:=(by injection e107)
       replace p107:=eq_true p107
       replace q107:=eq_true q107
       have p121 : 0 ≤ (x6_1 : Int):=of_decide_eq_true (by first|(with_reducible assumption)|assumption)
       have q121 : x6_1 < (l0.length : Int):=of_decide_eq_true (by first|(with_reducible assumption)|assumption)
       obtain ⟨ad121,e121,hx121_0,hx121_1,hx121_2,hx121_3,hx121_4⟩:=z13 HR0.out x6_1 p121 q121
       obtain rfl : ad102 = ad121:=(by injection e121)
       replace hx121_0:=(HB.out.cell (World.block_lt_of_cell? w _ hx121_0)).trans hx121_0
       replace hx121_1:=(HB.out.cell (World.block_lt_of_cell? w _ hx121_1)).trans hx121_1
       replace hx121_2:=(HB.out.cell (World.block_lt_of_cell? w _ hx121_2)).trans hx121_2
       replace hx121_3:=(HB.out.cell (World.block_lt_of_cell? w _ hx121_3)).trans hx121_3
       replace hx121_4:=(HB.out.cell (World.block_lt_of_cell? w _ hx121_4)).trans hx121_4
       replace p121:=eq_true p121
       replace q121:=eq_true q121
       have p122 : 0 ≤ (x6_1 : Int):=of_decide_eq_true (by first|(with_reducible assumption)|assumption)
       have q122 : x6_1 < (l0.length : Int):=of_decide_eq_true (by first|(with_reducible assumption)|assumption)
       obtain ⟨ad122,e122,hx122_0,hx122_1,hx122_2,hx122_3,hx122_4⟩:=z13 HR0.out x6_1 p122 q122
       obtain rfl : ad102 = ad122:=(by injection e122)
       replace hx122_0:=(HB.out.cell (World.block_lt_of_cell? w _ hx122_0)).trans hx122_0
       replace hx122_1:=(HB.out.cell (World.block_lt_of_cell? w _ hx122_1)).trans hx122_1
       replace hx122_2:=(HB.out.cell (World.block_lt_of_cell? w _ hx122_2)).trans hx122_2
       replace hx122_3:=(HB.out.cell (World.block_lt_of_cell? w _ hx122_3)).trans hx122_3
       replace hx122_4:=(HB.out.cell (World.block_lt_of_cell? w _ hx122_4)).trans hx122_4
       replace p122:=eq_true p122
       replace q122:=eq_true q122
       have p123 : 0 ≤ (((za l0 x6_1).f1) : Int):=of_decide_eq_true (by first|(with_reducible assumption)|assumption)
       have q123 : ((za l0 x6_1).f1) < (x5_1.length : Int):=of_decide_eq_true (by first|(with_reducible assumption)|assumption)
       obtain ⟨ad123,e123,hx123_0⟩:=Kd.z1v (Kd.zQ HO_5.out).2.2 ((za l0 x6_1).f1) p123 q123
       obtain rfl : ad105 = ad123:=(by injection e123)
       replace p123:=eq_true p123
       replace q123:=eq_true q123
       have p124 : 0 ≤ (x6_1 : Int):=of_decide_eq_true (by first|(with_reducible assumption)|assumption)
       have q124 : x6_1 < (l0.length : Int):=of_decide_eq_true (by first|(with_reducible assumption)|assumption)
       obtain ⟨ad124,e124,hx124_0,hx124_1,hx124_2,hx124_3,hx124_4⟩:=z13 HR0.out x6_1 p124 q124
       obtain rfl : ad102 = ad124:=(by injection e124)
       replace hx124_0:=(HB.out.cell (World.block_lt_of_cell? w _ hx124_0)).trans hx124_0
       replace hx124_1:=(HB.out.cell (World.block_lt_of_cell? w _ hx124_1)).trans hx124_1
       replace hx124_2:=(HB.out.cell (World.block_lt_of_cell? w _ hx124_2)).trans hx124_2
       replace hx124_3:=(HB.out.cell (World.block_lt_of_cell? w _ hx124_3)).trans hx124_3
       replace hx124_4:=(HB.out.cell (World.block_lt_of_cell? w _ hx124_4)).trans hx124_4
       replace p124:=eq_true p124
       replace q124:=eq_true q124
       have p125 : 0 ≤ (((za l0 x6_1).f2) : Int):=of_decide_eq_true (by first|(with_reducible assumption)|assumption)
       have q125 : ((za l0 x6_1).f2) < (x5_1.length : Int):=of_decide_eq_true (by first|(with_reducible assumption)|assumption)
       obtain ⟨ad125,e125,hx125_0⟩:=Kd.z1v (Kd.zQ HO_5.out).2.2 ((za l0 x6_1).f2) p125 q125
       obtain rfl : ad105 = ad125:=(by injection e125)
       replace p125:=eq_true p125
       replace q125:=eq_true q125
       go_wp2_with (first|((with_reducible refine zX (b:=.append) (xs:=#[.tmp 74,.tmp 76]) rfl ?_);at_builtin;refine Kd.z1e (Kd.int .i64) (w0:=w) w.heap.size rfl (.tmp 74) (.tmp 76) 31 3 (.int .i64 0) 8 rfl Try.underlying31 info3 rfl (by decide) (by omega) (.slice (some ad105) x5_1.length co25) x5_1 (wrap64 ((rd x5_1 ((za l0 x6_1).f1)) + (rd x5_1 ((za l0 x6_1).f2)))) [.int .i64 (wrap64 ((rd x5_1 ((za l0 x6_1).f1)) + (rd x5_1 ((za l0 x6_1).f2))))] (fun _=>True) (fun _=>False) rfl rfl ?aP (fun _ hk=>hk.elim) ?aF ?aO ?aB ?aS ?aL ?_;(case aP=>exact rfl);(case aB=>exact (by repeat (first|(with_reducible first|exact HB.out|apply z4|apply z0|apply z3)|exact HB.out)));(case aF=>exact (fun _ _=>trivial));(case aO=>exact (by (with_reducible repeat (first|apply Kd.zw|apply Kd.zx|apply Kd.zC));exact HO_5.out));(case aS=>exact (zf (by repeat (first|(with_reducible first|exact HB.out|apply z4|apply z0|apply z3)|exact HB.out))));(case aL=>have:=LMc24.out;omega);intro v127 w26 ho hb hg hat;rw [← Ny126.out] at ho;have n0_:=z7.mk (hb);have n1_:=z7.mk (ho);clear HB;clear HO_5;have HB:=n0_;have HO128:=n1_;clear n0_ n1_;clear ho hb hg hat))
       repeat (go_quiet (first|((with_reducible refine zX (b:=.append) (xs:=#[.tmp 74,.tmp 76]) rfl ?_);at_builtin;refine Kd.z1e (Kd.int .i64) (w0:=w) w.heap.size rfl (.tmp 74) (.tmp 76) 31 3 (.int .i64 0) 8 rfl Try.underlying31 info3 rfl (by decide) (by omega) (.slice (some ad105) x5_1.length co25) x5_1 (wrap64 ((rd x5_1 ((za l0 x6_1).f1)) + (rd x5_1 ((za l0 x6_1).f2)))) [.int .i64 (wrap64 ((rd x5_1 ((za l0 x6_1).f1)) + (rd x5_1 ((za l0 x6_1).f2))))] (fun _=>True) (fun _=>False) rfl rfl ?aP (fun _ hk=>hk.elim) ?aF ?aO ?aB ?aS ?aL ?_;(case aP=>exact rfl);(case aB=>exact (by repeat (first|(with_reducible first|exact HB.out|apply z4|apply z0|apply z3)|exact HB.out)));(case aF=>exact (fun _ _=>trivial));(case aO=>exact (by (with_reducible repeat (first|apply Kd.zw|apply Kd.zx|apply Kd.zC));exact HO_5.out));(case aS=>exact (zf (by repeat (first|(with_reducible first|exact HB.out|apply z4|apply z0|apply z3)|exact HB.out))));(case aL=>have:=LMc24.out;omega);intro v127 w26 ho hb hg hat;rw [← Ny126.out] at ho;have n0_:=z7.mk (hb);have n1_:=z7.mk (ho);clear HB;clear HO_5;have HB:=n0_;have HO128:=n1_;clear n0_ n1_;clear ho hb hg hat));try go_wp2_with (first|((with_reducible refine zX (b:=.append) (xs:=#[.tmp 74,.tmp 76]) rfl ?_);at_builtin;refine Kd.z1e (Kd.int .i64) (w0:=w) w.heap.size rfl (.tmp 74) (.tmp 76) 31 3 (.int .i64 0) 8 rfl Try.underlying31 info3 rfl (by decide) (by omega) (.slice (some ad105) x5_1.length co25) x5_1 (wrap64 ((rd x5_1 ((za l0 x6_1).f1)) + (rd x5_1 ((za l0 x6_1).f2)))) [.int .i64 (wrap64 ((rd x5_1 ((za l0 x6_1).f1)) + (rd x5_1 ((za l0 x6_1).f2))))] (fun _=>True) (fun _=>False) rfl rfl ?aP (fun _ hk=>hk.elim) ?aF ?aO ?aB ?aS ?aL ?_;(case aP=>exact rfl);(case aB=>exact (by repeat (first|(with_reducible first|exact HB.out|apply z4|apply z0|apply z3)|exact HB.out)));(case aF=>exact (fun _ _=>trivial));(case aO=>exact (by (with_reducible repeat (first|apply Kd.zw|apply Kd.zx|apply Kd.zC));exact HO_5.out));(case aS=>exact (zf (by repeat (first|(with_reducible first|exact HB.out|apply z4|apply z0|apply z3)|exact HB.out))));(case aL=>have:=LMc24.out;omega);intro v127 w26 ho hb hg hat;rw [← Ny126.out] at ho;have n0_:=z7.mk (hb);have n1_:=z7.mk (ho);clear HB;clear HO_5;have HB:=n0_;have HO128:=n1_;clear n0_ n1_;clear ho hb hg hat)))
       go_roundg kj5
       case measure=>have:=HK1.out;have:=HJ5.out;omega
       case rel=>exact ⟨(y126),(wrap64 (x6_1 + 1)),(by first|rfl|(simp;done)|(simp [*];done)),H',⟨by have:=HK1.out;have:=HJ5.out;omega⟩,⟨by (with_reducible repeat (first|apply Kd.zw|apply Kd.zx|apply Kd.zC));exact HO128.out⟩,⟨by repeat (first|(with_reducible first|exact HB.out|apply z4|apply z0|apply z3)|exact HB.out)⟩⟩
     rw [if_pos c15] at H
     have c15b0 : decide ((rd x5_1 ((za l0 x6_1).f1)) < (rd x5_1 ((za l0 x6_1).f2))) = true:=decide_eq_true c15
     clear c15
     by_cases c16 : ((za l0 x6_1).f0) = 4
     rotate_left
     · rw [if_neg c16] at H
       have c16b0 : (((za l0 x6_1).f0) == 4) = false:=beq_eq_false_iff_ne.mpr c16
       have c16b1 : (((za l0 x6_1).f0) != 4) = true:=bne_iff_ne.mpr c16
       by_cases c20 : x5_1.length < 17592186044416
       rotate_left
       · rw [if_neg c20] at H
         exact absurd H (by simp)
       rw [if_pos c20] at H
       have LMc20:=z7.mk c20
       clear c20
       obtain ⟨y118,hy118⟩ : ∃ y_ : List Int,y_ = (x5_1 ++ [rd x5_1 ((za l0 x6_1).f2)]):=⟨_,rfl⟩
       replace H : (zg.l0 kj5 l0 a1 y118 (wrap64 (x6_1 + 1))) = some r:=by first|(rw [hy118];with_reducible exact H)|(have H2_:=(Option.bind_some _ _).symm.trans H;rw [hy118];with_reducible exact H2_)|(have H2_:=(Option.bind_some _ _).symm.trans H;with_reducible exact H2_)|with_reducible exact H|(rw [hy118];exact H)|exact H
       have Ny118:=z7.mk hy118
       clear hy118
       have H':=z7.mk H
       clear H
       have p103 : 0 ≤ (x6_1 : Int):=of_decide_eq_true (by first|(with_reducible assumption)|assumption)
       have q103 : x6_1 < (l0.length : Int):=of_decide_eq_true (by first|(with_reducible assumption)|assumption)
       obtain ⟨ad103,e103,hx103_0,hx103_1,hx103_2,hx103_3,hx103_4⟩:=z13 HR0.out x6_1 p103 q103
       obtain rfl : ad102 = ad103:=(by injection e103)
       replace hx103_0:=(HB.out.cell (World.block_lt_of_cell? w _ hx103_0)).trans hx103_0
       replace hx103_1:=(HB.out.cell (World.block_lt_of_cell? w _ hx103_1)).trans hx103_1
       replace hx103_2:=(HB.out.cell (World.block_lt_of_cell? w _ hx103_2)).trans hx103_2
       replace hx103_3:=(HB.out.cell (World.block_lt_of_cell? w _ hx103_3)).trans hx103_3
       replace hx103_4:=(HB.out.cell (World.block_lt_of_cell? w _ hx103_4)).trans hx103_4
       replace p103:=eq_true p103
       replace q103:=eq_true q103
       have p104 : 0 ≤ (x6_1 : Int):=of_decide_eq_true (by first|(with_reducible assumption)|assumption)
       have q104 : x6_1 < (l0.length : Int):=of_decide_eq_true (by first|(with_reducible assumption)|assumption)
       obtain ⟨ad104,e104,hx104_0,hx104_1,hx104_2,hx104_3,hx104_4⟩:=z13 HR0.out x6_1 p104 q104
       obtain rfl : ad102 = ad104:=(by injection e104)
       replace hx104_0:=(HB.out.cell (World.block_lt_of_cell? w _ hx104_0)).trans hx104_0
       replace hx104_1:=(HB.out.cell (World.block_lt_of_cell? w _ hx104_1)).trans hx104_1
       replace hx104_2:=(HB.out.cell (World.block_lt_of_cell? w _ hx104_2)).trans hx104_2
       replace hx104_3:=(HB.out.cell (World.block_lt_of_cell? w _ hx104_3)).trans hx104_3
       replace hx104_4:=(HB.out.cell (World.block_lt_of_cell? w _ hx104_4)).trans hx104_4
       replace p104:=eq_true p104
       replace q104:=eq_true q104
       obtain ⟨Ao21,co21,eo21⟩:=Kd.z1o HO_5.out
       subst eo21
       have p105 : 0 ≤ (((za l0 x6_1).f1) : Int):=of_decide_eq_true (by first|(with_reducible assumption)|assumption)
       have q105 : ((za l0 x6_1).f1) < (x5_1.length : Int):=of_decide_eq_true (by first|(with_reducible assumption)|assumption)
       obtain ⟨ad105,e105,hx105_0⟩:=Kd.z1v (Kd.zQ HO_5.out).2.2 ((za l0 x6_1).f1) p105 q105
       cases e105
       replace p105:=eq_true p105
       replace q105:=eq_true q105
       have p106 : 0 ≤ (x6_1 : Int):=of_decide_eq_true (by first|(with_reducible assumption)|assumption)
       have q106 : x6_1 < (l0.length : Int):=of_decide_eq_true (by first|(with_reducible assumption)|assumption)
       obtain ⟨ad106,e106,hx106_0,hx106_1,hx106_2,hx106_3,hx106_4⟩:=z13 HR0.out x6_1 p106 q106
       obtain rfl : ad102 = ad106:=(by injection e106)
       replace hx106_0:=(HB.out.cell (World.block_lt_of_cell? w _ hx106_0)).trans hx106_0
       replace hx106_1:=(HB.out.cell (World.block_lt_of_cell? w _ hx106_1)).trans hx106_1
       replace hx106_2:=(HB.out.cell (World.block_lt_of_cell? w _ hx106_2)).trans hx106_2
       replace hx106_3:=(HB.out.cell (World.block_lt_of_cell? w _ hx106_3)).trans hx106_3
       replace hx106_4:=(HB.out.cell (World.block_lt_of_cell? w _ hx106_4)).trans hx106_4
       replace p106:=eq_true p106
       replace q106:=eq_true q106
       have p107 : 0 ≤ (((za l0 x6_1).f2) : Int):=of_decide_eq_true (by first|(with_reducible assumption)|assumption)
       have q107 : ((za l0 x6_1).f2) < (x5_1.length : Int):=of_decide_eq_true (by first|(with_reducible assumption)|assumption)
       obtain ⟨ad107,e107,hx107_0⟩:=Kd.z1v (Kd.zQ HO_5.out).2.2 ((za l0 x6_1).f2) p107 q107
       obtain rfl : ad105 = ad107:=(by injection e107)
       replace p107:=eq_true p107
       replace q107:=eq_true q107
       have p108 : 0 ≤ (x6_1 : Int):=of_decide_eq_true (by first|(with_reducible assumption)|assumption)
       have q108 : x6_1 < (l0.length : Int):=of_decide_eq_true (by first|(with_reducible assumption)|assumption)
       obtain ⟨ad108,e108,hx108_0,hx108_1,hx108_2,hx108_3,hx108_4⟩:=z13 HR0.out x6_1 p108 q108
       obtain rfl : ad102 = ad108:=(by injection e108)
       replace hx108_0:=(HB.out.cell (World.block_lt_of_cell? w _ hx108_0)).trans hx108_0
       replace hx108_1:=(HB.out.cell (World.block_lt_of_cell? w _ hx108_1)).trans hx108_1
       replace hx108_2:=(HB.out.cell (World.block_lt_of_cell? w _ hx108_2)).trans hx108_2
       replace hx108_3:=(HB.out.cell (World.block_lt_of_cell? w _ hx108_3)).trans hx108_3
       replace hx108_4:=(HB.out.cell (World.block_lt_of_cell? w _ hx108_4)).trans hx108_4
       replace p108:=eq_true p108
       replace q108:=eq_true q108
       have p109 : 0 ≤ (((za l0 x6_1).f2) : Int):=of_decide_eq_true (by first|(with_reducible assumption)|assumption)
       have q109 : ((za l0 x6_1).f2) < (x5_1.length : Int):=of_decide_eq_true (by first|(with_reducible assumption)|assumption)
       obtain ⟨ad109,e109,hx109_0⟩:=Kd.z1v (Kd.zQ HO_5.out).2.2 ((za l0 x6_1).f2) p109 q109
       obtain rfl : ad105 = ad109:=(by injection e109)
       replace p109:=eq_true p109
       replace q109:=eq_true q109
       have p110 : 0 ≤ (x6_1 : Int):=of_decide_eq_true (by first|(with_reducible assumption)|assumption)
       have q110 : x6_1 < (l0.length : Int):=of_decide_eq_true (by first|(with_reducible assumption)|assumption)
       obtain ⟨ad110,e110,hx110_0,hx110_1,hx110_2,hx110_3,hx110_4⟩:=z13 HR0.out x6_1 p110 q110
       obtain rfl : ad102 = ad110:=(by injection e110)
       replace hx110_0:=(HB.out.cell (World.block_lt_of_cell? w _ hx110_0)).trans hx110_0
       replace hx110_1:=(HB.out.cell (World.block_lt_of_cell? w _ hx110_1)).trans hx110_1
       replace hx110_2:=(HB.out.cell (World.block_lt_of_cell? w _ hx110_2)).trans hx110_2
       replace hx110_3:=(HB.out.cell (World.block_lt_of_cell? w _ hx110_3)).trans hx110_3
       replace hx110_4:=(HB.out.cell (World.block_lt_of_cell? w _ hx110_4)).trans hx110_4
       replace p110:=eq_true p110
       replace q110:=eq_true q110
       go_wp2_with (first|((with_reducible refine zX (b:=.append) (xs:=#[.tmp 74,.tmp 76]) rfl ?_);at_builtin;refine Kd.z1e (Kd.int .i64) (w0:=w) w.heap.size rfl (.tmp 74) (.tmp 76) 31 3 (.int .i64 0) 8 rfl Try.underlying31 info3 rfl (by decide) (by omega) (.slice (some ad105) x5_1.length co21) x5_1 (rd x5_1 ((za l0 x6_1).f2)) [.int .i64 (rd x5_1 ((za l0 x6_1).f2))] (fun _=>True) (fun _=>False) rfl rfl ?aP (fun _ hk=>hk.elim) ?aF ?aO ?aB ?aS ?aL ?_;(case aP=>exact rfl);(case aB=>exact (by repeat (first|(with_reducible first|exact HB.out|apply z4|apply z0|apply z3)|exact HB.out)));(case aF=>exact (fun _ _=>trivial));(case aO=>exact (by (with_reducible repeat (first|apply Kd.zw|apply Kd.zx|apply Kd.zC));exact HO_5.out));(case aS=>exact (zf (by repeat (first|(with_reducible first|exact HB.out|apply z4|apply z0|apply z3)|exact HB.out))));(case aL=>have:=LMc20.out;omega);intro v119 w22 ho hb hg hat;rw [← Ny118.out] at ho;have n0_:=z7.mk (hb);have n1_:=z7.mk (ho);clear HB;clear HO_5;have HB:=n0_;have HO120:=n1_;clear n0_ n1_;clear ho hb hg hat))
       repeat (go_quiet (first|((with_reducible refine zX (b:=.append) (xs:=#[.tmp 74,.tmp 76]) rfl ?_);at_builtin;refine Kd.z1e (Kd.int .i64) (w0:=w) w.heap.size rfl (.tmp 74) (.tmp 76) 31 3 (.int .i64 0) 8 rfl Try.underlying31 info3 rfl (by decide) (by omega) (.slice (some ad105) x5_1.length co21) x5_1 (rd x5_1 ((za l0 x6_1).f2)) [.int .i64 (rd x5_1 ((za l0 x6_1).f2))] (fun _=>True) (fun _=>False) rfl rfl ?aP (fun _ hk=>hk.elim) ?aF ?aO ?aB ?aS ?aL ?_;(case aP=>exact rfl);(case aB=>exact (by repeat (first|(with_reducible first|exact HB.out|apply z4|apply z0|apply z3)|exact HB.out)));(case aF=>exact (fun _ _=>trivial));(case aO=>exact (by (with_reducible repeat (first|apply Kd.zw|apply Kd.zx|apply Kd.zC));exact HO_5.out));(case aS=>exact (zf (by repeat (first|(with_reducible first|exact HB.out|apply z4|apply z0|apply z3)|exact HB.out))));(case aL=>have:=LMc20.out;omega);intro v119 w22 ho hb hg hat;rw [← Ny118.out] at ho;have n0_:=z7.mk (hb);have n1_:=z7.mk (ho);clear HB;clear HO_5;have HB:=n0_;have HO120:=n1_;clear n0_ n1_;clear ho hb hg hat));try go_wp2_with (first|((with_reducible refine zX (b:=.append) (xs:=#[.tmp 74,.tmp 76]) rfl ?_);at_builtin;refine Kd.z1e (Kd.int .i64) (w0:=w) w.heap.size rfl (.tmp 74) (.tmp 76) 31 3 (.int .i64 0) 8 rfl Try.underlying31 info3 rfl (by decide) (by omega) (.slice (some ad105) x5_1.length co21) x5_1 (rd x5_1 ((za l0 x6_1).f2)) [.int .i64 (rd x5_1 ((za l0 x6_1).f2))] (fun _=>True) (fun _=>False) rfl rfl ?aP (fun _ hk=>hk.elim) ?aF ?aO ?aB ?aS ?aL ?_;(case aP=>exact rfl);(case aB=>exact (by repeat (first|(with_reducible first|exact HB.out|apply z4|apply z0|apply z3)|exact HB.out)));(case aF=>exact (fun _ _=>trivial));(case aO=>exact (by (with_reducible repeat (first|apply Kd.zw|apply Kd.zx|apply Kd.zC));exact HO_5.out));(case aS=>exact (zf (by repeat (first|(with_reducible first|exact HB.out|apply z4|apply z0|apply z3)|exact HB.out))));(case aL=>have:=LMc20.out;omega);intro v119 w22 ho hb hg hat;rw [← Ny118.out] at ho;have n0_:=z7.mk (hb);have n1_:=z7.mk (ho);clear HB;clear HO_5;have HB:=n0_;have HO120:=n1_;clear n0_ n1_;clear ho hb hg hat)))
       go_roundg kj5
       case measure=>have:=HK1.out;have:=HJ5.out;omega
       case rel=>exact ⟨(y118),(wrap64 (x6_1 + 1)),(by first|rfl|(simp;done)|(simp [*];done)),H',⟨by have:=HK1.out;have:=HJ5.out;omega⟩,⟨by (with_reducible repeat (first|apply Kd.zw|apply Kd.zx|apply Kd.zC));exact HO120.out⟩,⟨by repeat (first|(with_reducible first|exact HB.out|apply z4|apply z0|apply z3)|exact HB.out)⟩⟩
     rw [if_pos c16] at H
     have c16b0 : (((za l0 x6_1).f0) == 4) = true:=beq_iff_eq.mpr c16
     have c16b1 : (((za l0 x6_1).f0) != 4) = false:=bne_eq_false_iff_eq.mpr c16
     clear c16
     by_cases c17 : x5_1.length < 17592186044416
     rotate_left
     · rw [if_neg c17] at H
       exact absurd H (by simp)
     rw [if_pos c17] at H
     have LMc17:=z7.mk c17
     clear c17
     obtain ⟨y115,hy115⟩ : ∃ y_ : List Int,y_ = (x5_1 ++ [wrap64 ((rd x5_1 ((za l0 x6_1).f1)) + (rd x5_1 ((za l0 x6_1).f2)))]):=⟨_,rfl⟩
     replace H : (zg.l0 kj5 l0 a1 y115 (wrap64 (x6_1 + 1))) = some r:=by first|(rw [hy115];with_reducible exact H)|(have H2_:=(Option.bind_some _ _).symm.trans H;rw [hy115];with_reducible exact H2_)|(have H2_:=(Option.bind_some _ _).symm.trans H;with_reducible exact H2_)|with_reducible exact H|(rw [hy115];exact H)|exact H
     have Ny115:=z7.mk hy115
     clear hy115
     have H':=z7.mk H
     clear H
     have p103 : 0 ≤ (x6_1 : Int):=of_decide_eq_true (by first|(with_reducible assumption)|assumption)
     have q103 : x6_1 < (l0.length : Int):=of_decide_eq_true (by first|(with_reducible assumption)|assumption)
     obtain ⟨ad103,e103,hx103_0,hx103_1,hx103_2,hx103_3,hx103_4⟩:=z13 HR0.out x6_1 p103 q103
     obtain rfl : ad102 = ad103:=(by injection e103)
     replace hx103_0:=(HB.out.cell (World.block_lt_of_cell? w _ hx103_0)).trans hx103_0
     replace hx103_1:=(HB.out.cell (World.block_lt_of_cell? w _ hx103_1)).trans hx103_1
     replace hx103_2:=(HB.out.cell (World.block_lt_of_cell? w _ hx103_2)).trans hx103_2
     replace hx103_3:=(HB.out.cell (World.block_lt_of_cell? w _ hx103_3)).trans hx103_3
     replace hx103_4:=(HB.out.cell (World.block_lt_of_cell? w _ hx103_4)).trans hx103_4
     replace p103:=eq_true p103
     replace q103:=eq_true q103
     have p104 : 0 ≤ (x6_1 : Int):=of_decide_eq_true (by first|(with_reducible assumption)|assumption)
     have q104 : x6_1 < (l0.length : Int):=of_decide_eq_true (by first|(with_reducible assumption)|assumption)
     obtain ⟨ad104,e104,hx104_0,hx104_1,hx104_2,hx104_3,hx104_4⟩:=z13 HR0.out x6_1 p104 q104
     obtain rfl : ad102 = ad104:=(by injection e104)
     replace hx104_0:=(HB.out.cell (World.block_lt_of_cell? w _ hx104_0)).trans hx104_0
     replace hx104_1:=(HB.out.cell (World.block_lt_of_cell? w _ hx104_1)).trans hx104_1
     replace hx104_2:=(HB.out.cell (World.block_lt_of_cell? w _ hx104_2)).trans hx104_2
     replace hx104_3:=(HB.out.cell (World.block_lt_of_cell? w _ hx104_3)).trans hx104_3
     replace hx104_4:=(HB.out.cell (World.block_lt_of_cell? w _ hx104_4)).trans hx104_4
     replace p104:=eq_true p104
     replace q104:=eq_true q104
     obtain ⟨Ao18,co18,eo18⟩:=Kd.z1o HO_5.out
     subst eo18
     have p105 : 0 ≤ (((za l0 x6_1).f1) : Int):=of_decide_eq_true (by first|(with_reducible assumption)|assumption)
     have q105 : ((za l0 x6_1).f1) < (x5_1.length : Int):=of_decide_eq_true (by first|(with_reducible assumption)|assumption)
     obtain ⟨ad105,e105,hx105_0⟩:=Kd.z1v (Kd.zQ HO_5.out).2.2 ((za l0 x6_1).f1) p105 q105
     cases e105
     replace p105:=eq_true p105
     replace q105:=eq_true q105
     have p106 : 0 ≤ (x6_1 : Int):=of_decide_eq_true (by first|(with_reducible assumption)|assumption)
     have q106 : x6_1 < (l0.length : Int):=of_decide_eq_true (by first|(with_reducible assumption)|assumption)
     obtain ⟨ad106,e106,hx106_0,hx106_1,hx106_2,hx106_3,hx106_4⟩:=z13 HR0.out x6_1 p106 q106
     obtain rfl : ad102 = ad106:=(by injection e106)
     replace hx106_0:=(HB.out.cell (World.block_lt_of_cell? w _ hx106_0)).trans hx106_0
     replace hx106_1:=(HB.out.cell (World.block_lt_of_cell? w _ hx106_1)).trans hx106_1
     replace hx106_2:=(HB.out.cell (World.block_lt_of_cell? w _ hx106_2)).trans hx106_2
     replace hx106_3:=(HB.out.cell (World.block_lt_of_cell? w _ hx106_3)).trans hx106_3
     replace hx106_4:=(HB.out.cell (World.block_lt_of_cell? w _ hx106_4)).trans hx106_4
     replace p106:=eq_true p106
     replace q106:=eq_true q106
     have p107 : 0 ≤ (((za l0 x6_1).f2) : Int):=of_decide_eq_true (by first|(with_reducible assumption)|assumption)
     have q107 : ((za l0 x6_1).f2) < (x5_1.length : Int):=of_decide_eq_true (by first|(with_reducible assumption)|assumption)
     obtain ⟨ad107,e107,hx107_0⟩:=Kd.z1v (Kd.zQ HO_5.out).2.2 ((za l0 x6_1).f2) p107 q107
     obtain rfl : ad105 = ad107:=(by injection e107)
     replace p107:=eq_true p107
     replace q107:=eq_true q107
     have p108 : 0 ≤ (x6_1 : Int):=of_decide_eq_true (by first|(with_reducible assumption)|assumption)
     have q108 : x6_1 < (l0.length : Int):=of_decide_eq_true (by first|(with_reducible assumption)|assumption)
     obtain ⟨ad108,e108,hx108_0,hx108_1,hx108_2,hx108_3,hx108_4⟩:=z13 HR0.out x6_1 p108 q108
     obtain rfl : ad102 = ad108:=(by injection e108)
     replace hx108_0:=(HB.out.cell (World.block_lt_of_cell? w _ hx108_0)).trans hx108_0
     replace hx108_1:=(HB.out.cell (World.block_lt_of_cell? w _ hx108_1)).trans hx108_1
     replace hx108_2:=(HB.out.cell (World.block_lt_of_cell? w _ hx108_2)).trans hx108_2
     replace hx108_3:=(HB.out.cell (World.block_lt_of_cell? w _ hx108_3)).trans hx108_3
     replace hx108_4:=(HB.out.cell (World.block_lt_of_cell? w _ hx108_4)).trans hx108_4
     replace p108:=eq_true p108
     replace q108:=eq_true q108
     have p109 : 0 ≤ (((za l0 x6_1).f2) : Int):=of_decide_eq_true (by first|(with_reducible assumption)|assumption)
     have q109 : ((za l0 x6_1).f2) < (x5_1.length : Int):=of_decide_eq_true (by first|(with_reducible assumption)|assumption)
     obtain ⟨ad109,e109,hx109_0⟩:=Kd.z1v (Kd.zQ HO_5.out).2.2 ((za l0 x6_1).f2) p109 q109
     obtain rfl : ad105 = ad109:=(by injection e109)
     replace p109:=eq_true p109
     replace q109:=eq_true q109
     have p110 : 0 ≤ (x6_1 : Int):=of_decide_eq_true (by first|(with_reducible assumption)|assumption)
     have q110 : x6_1 < (l0.length : Int):=of_decide_eq_true (by first|(with_reducible assumption)|assumption)
     obtain ⟨ad110,e110,hx110_0,hx110_1,hx110_2,hx110_3,hx110_4⟩:=z13 HR0.out x6_1 p110 q110
     obtain rfl : ad102 = ad110:=(by injection e110)
     replace hx110_0:=(HB.out.cell (World.block_lt_of_cell? w _ hx110_0)).trans hx110_0
     replace hx110_1:=(HB.out.cell (World.block_lt_of_cell? w _ hx110_1)).trans hx110_1
     replace hx110_2:=(HB.out.cell (World.block_lt_of_cell? w _ hx110_2)).trans hx110_2
     replace hx110_3:=(HB.out.cell (World.block_lt_of_cell? w _ hx110_3)).trans hx110_3
     replace hx110_4:=(HB.out.cell (World.block_lt_of_cell? w _ hx110_4)).trans hx110_4
     replace p110:=eq_true p110
     replace q110:=eq_true q110
     have p111 : 0 ≤ (x6_1 : Int):=of_decide_eq_true (by first|(with_reducible assumption)|assumption)
     have q111 : x6_1 < (l0.length : Int):=of_decide_eq_true (by first|(with_reducible assumption)|assumption)
     obtain ⟨ad111,e111,hx111_0,hx111_1,hx111_2,hx111_3,hx111_4⟩:=z13 HR0.out x6_1 p111 q111
     obtain rfl : ad102 = ad111:=(by injection e111)
     replace hx111_0:=(HB.out.cell (World.block_lt_of_cell? w _ hx111_0)).trans hx111_0
     replace hx111_1:=(HB.out.cell (World.block_lt_of_cell? w _ hx111_1)).trans hx111_1
     replace hx111_2:=(HB.out.cell (World.block_lt_of_cell? w _ hx111_2)).trans hx111_2
     replace hx111_3:=(HB.out.cell (World.block_lt_of_cell? w _ hx111_3)).trans hx111_3
     replace hx111_4:=(HB.out.cell (World.block_lt_of_cell? w _ hx111_4)).trans hx111_4
     replace p111:=eq_true p111
     replace q111:=eq_true q111
     have p112 : 0 ≤ (((za l0 x6_1).f1) : Int):=of_decide_eq_true (by first|(with_reducible assumption)|assumption)
     have q112 : ((za l0 x6_1).f1) < (x5_1.length : Int):=of_decide_eq_true (by first|(with_reducible assumption)|assumption)
     obtain ⟨ad112,e112,hx112_0⟩:=Kd.z1v (Kd.zQ HO_5.out).2.2 ((za l0 x6_1).f1) p112 q112
     obtain rfl : ad105 = ad112:=(by injection e112)
     replace p112:=eq_true p112
     replace q112:=eq_true q112
     have p113 : 0 ≤ (x6_1 : Int):=of_decide_eq_true (by first|(with_reducible assumption)|assumption)
     have q113 : x6_1 < (l0.length : Int):=of_decide_eq_true (by first|(with_reducible assumption)|assumption)
     obtain ⟨ad113,e113,hx113_0,hx113_1,hx113_2,hx113_3,hx113_4⟩:=z13 HR0.out x6_1 p113 q113
     obtain rfl : ad102 = ad113:=(by injection e113)
     replace hx113_0:=(HB.out.cell (World.block_lt_of_cell? w _ hx113_0)).trans hx113_0
     replace hx113_1:=(HB.out.cell (World.block_lt_of_cell? w _ hx113_1)).trans hx113_1
     replace hx113_2:=(HB.out.cell (World.block_lt_of_cell? w _ hx113_2)).trans hx113_2
     replace hx113_3:=(HB.out.cell (World.block_lt_of_cell? w _ hx113_3)).trans hx113_3
     replace hx113_4:=(HB.out.cell (World.block_lt_of_cell? w _ hx113_4)).trans hx113_4
     replace p113:=eq_true p113
     replace q113:=eq_true q113
     have p114 : 0 ≤ (((za l0 x6_1).f2) : Int):=of_decide_eq_true (by first|(with_reducible assumption)|assumption)
     have q114 : ((za l0 x6_1).f2) < (x5_1.length : Int):=of_decide_eq_true (by first|(with_reducible assumption)|assumption)
     obtain ⟨ad114,e114,hx114_0⟩:=Kd.z1v (Kd.zQ HO_5.out).2.2 ((za l0 x6_1).f2) p114 q114
     obtain rfl : ad105 = ad114:=(by injection e114)
     replace p114:=eq_true p114
     replace q114:=eq_true q114
     go_wp2_with (first|((with_reducible refine zX (b:=.append) (xs:=#[.tmp 74,.tmp 76]) rfl ?_);at_builtin;refine Kd.z1e (Kd.int .i64) (w0:=w) w.heap.size rfl (.tmp 74) (.tmp 76) 31 3 (.int .i64 0) 8 rfl Try.underlying31 info3 rfl (by decide) (by omega) (.slice (some ad105) x5_1.length co18) x5_1 (wrap64 ((rd x5_1 ((za l0 x6_1).f1)) + (rd x5_1 ((za l0 x6_1).f2)))) [.int .i64 (wrap64 ((rd x5_1 ((za l0 x6_1).f1)) + (rd x5_1 ((za l0 x6_1).f2))))] (fun _=>True) (fun _=>False) rfl rfl ?aP (fun _ hk=>hk.elim) ?aF ?aO ?aB ?aS ?aL ?_;(case aP=>exact rfl);(case aB=>exact (by repeat (first|(with_reducible first|exact HB.out|apply z4|apply z0|apply z3)|exact HB.out)));(case aF=>exact (fun _ _=>trivial));(case aO=>exact (by (with_reducible repeat (first|apply Kd.zw|apply Kd.zx|apply Kd.zC));exact HO_5.out));(case aS=>exact (zf (by repeat (first|(with_reducible first|exact HB.out|apply z4|apply z0|apply z3)|exact HB.out))));(case aL=>have:=LMc17.out;omega);intro v116 w19 ho hb hg hat;rw [← Ny115.out] at ho;have n0_:=z7.mk (hb);have n1_:=z7.mk (ho);clear HB;clear HO_5;have HB:=n0_;have HO117:=n1_;clear n0_ n1_;clear ho hb hg hat))
     repeat (go_quiet (first|((with_reducible refine zX (b:=.append) (xs:=#[.tmp 74,.tmp 76]) rfl ?_);at_builtin;refine Kd.z1e (Kd.int .i64) (w0:=w) w.heap.size rfl (.tmp 74) (.tmp 76) 31 3 (.int .i64 0) 8 rfl Try.underlying31 info3 rfl (by decide) (by omega) (.slice (some ad105) x5_1.length co18) x5_1 (wrap64 ((rd x5_1 ((za l0 x6_1).f1)) + (rd x5_1 ((za l0 x6_1).f2)))) [.int .i64 (wrap64 ((rd x5_1 ((za l0 x6_1).f1)) + (rd x5_1 ((za l0 x6_1).f2))))] (fun _=>True) (fun _=>False) rfl rfl ?aP (fun _ hk=>hk.elim) ?aF ?aO ?aB ?aS ?aL ?_;(case aP=>exact rfl);(case aB=>exact (by repeat (first|(with_reducible first|exact HB.out|apply z4|apply z0|apply z3)|exact HB.out)));(case aF=>exact (fun _ _=>trivial));(case aO=>exact (by (with_reducible repeat (first|apply Kd.zw|apply Kd.zx|apply Kd.zC));exact HO_5.out));(case aS=>exact (zf (by repeat (first|(with_reducible first|exact HB.out|apply z4|apply z0|apply z3)|exact HB.out))));(case aL=>have:=LMc17.out;omega);intro v116 w19 ho hb hg hat;rw [← Ny115.out] at ho;have n0_:=z7.mk (hb);have n1_:=z7.mk (ho);clear HB;clear HO_5;have HB:=n0_;have HO117:=n1_;clear n0_ n1_;clear ho hb hg hat));try go_wp2_with (first|((with_reducible refine zX (b:=.append) (xs:=#[.tmp 74,.tmp 76]) rfl ?_);at_builtin;refine Kd.z1e (Kd.int .i64) (w0:=w) w.heap.size rfl (.tmp 74) (.tmp 76) 31 3 (.int .i64 0) 8 rfl Try.underlying31 info3 rfl (by decide) (by omega) (.slice (some ad105) x5_1.length co18) x5_1 (wrap64 ((rd x5_1 ((za l0 x6_1).f1)) + (rd x5_1 ((za l0 x6_1).f2)))) [.int .i64 (wrap64 ((rd x5_1 ((za l0 x6_1).f1)) + (rd x5_1 ((za l0 x6_1).f2))))] (fun _=>True) (fun _=>False) rfl rfl ?aP (fun _ hk=>hk.elim) ?aF ?aO ?aB ?aS ?aL ?_;(case aP=>exact rfl);(case aB=>exact (by repeat (first|(with_reducible first|exact HB.out|apply z4|apply z0|apply z3)|exact HB.out)));(case aF=>exact (fun _ _=>trivial));(case aO=>exact (by (with_reducible repeat (first|apply Kd.zw|apply Kd.zx|apply Kd.zC));exact HO_5.out));(case aS=>exact (zf (by repeat (first|(with_reducible first|exact HB.out|apply z4|apply z0|apply z3)|exact HB.out))));(case aL=>have:=LMc17.out;omega);intro v116 w19 ho hb hg hat;rw [← Ny115.out] at ho;have n0_:=z7.mk (hb);have n1_:=z7.mk (ho);clear HB;clear HO_5;have HB:=n0_;have HO117:=n1_;clear n0_ n1_;clear ho hb hg hat)))
     go_roundg kj5
     case measure=>have:=HK1.out;have:=HJ5.out;omega
     case rel=>exact ⟨(y115),(wrap64 (x6_1 + 1)),(by first|rfl|(simp;done)|(simp [*];done)),H',⟨by have:=HK1.out;have:=HJ5.out;omega⟩,⟨by (with_reducible repeat (first|apply Kd.zw|apply Kd.zx|apply Kd.zC));exact HO117.out⟩,⟨by repeat (first|(with_reducible first|exact HB.out|apply z4|apply z0|apply z3)|exact HB.out)⟩⟩
end Go.Proofs.Ytngcaphdkgihmaa.P
namespace Go.Proofs.Ytngcaphdkgihmaa.P
open Go.RowKit Go.Proofs.YtngcaphdkgihmaaW.PrintWords Go.Proofs.YtngcaphdkgihmaaW.PrintLast Go.Proofs.YtngcaphdkgihmaaW.PrintMore
attribute [local go_sem] z14 z16 z1b z1c z10 z11 z15 z17   -- for this text's walks alone
set_option linter.unusedVariables false
set_option linter.unusedSimpArgs false
attribute [local go_sem high] eqA61
mutual
def zc.j0 : Nat → Int → Int → List (S114) → Bool → Int → Int → Option (Int)
 | 0,_,_,_,_,_,_=>none
 | k + 1,x0,x1,x2,x19,x102000,x102001=>if x19 = true then (some 1) else (if (x2.length : Int) = 0 then (some 3) else (if (x2.length : Int) > 200 then (some 2) else (zc.l0 k x0 x1 x2 0 x102000 x102001)))
def zc.l0 : Nat → Int → Int → List (S114) → Int → Int → Int → Option (Int)
 | 0,_,_,_,_,_,_=>none
 | k + 1,x0,x1,x2,x8,x102000,x102001=>if x8 < (x2.length : Int) then (if 0 ≤ x8 then (if ((za x2 x8).f0) < 1 then (zc.j2 k x0 x1 x2 x8 true x102000 x102001 ((za x2 x8).f0) ((za x2 x8).f1) ((za x2 x8).f2) ((za x2 x8).f3.f0) ((za x2 x8).f3.f1)) else (zc.j2 k x0 x1 x2 x8 (decide (((za x2 x8).f0) > 4)) x102000 x102001 ((za x2 x8).f0) ((za x2 x8).f1) ((za x2 x8).f2) ((za x2 x8).f3.f0) ((za x2 x8).f3.f1))) else (none)) else (some 0)
def zc.j2 : Nat → Int → Int → List (S114) → Int → Bool → Int → Int → Int → Int → Int → Int → Int → Option (Int)
 | 0,_,_,_,_,_,_,_,_,_,_,_,_=>none
 | k + 1,x0,x1,x2,x8,x43,x102000,x102001,x104000,x104001,x104002,x104003,x104004=>if x43 = true then (some 3) else (if x104000 = 1 then (if x104001 = 0 then (if x104002 = 0 then (if x104000 = 2 then (if x104000 > 1 then (zc.j3 k x0 x1 x2 x8 (!(x104003 == x102000) || (!(x104004 == x102001))) x102000 x102001 x104000 x104001 x104002 x104003 x104004) else (zc.j3 k x0 x1 x2 x8 false x102000 x102001 x104000 x104001 x104002 x104003 x104004)) else (if x104000 > 1 then (zc.j3 k x0 x1 x2 x8 (!(x104003 == x102000) || (!(x104004 == x102001))) x102000 x102001 x104000 x104001 x104002 x104003 x104004) else (zc.j3 k x0 x1 x2 x8 false x102000 x102001 x104000 x104001 x104002 x104003 x104004))) else (zc.j3 k x0 x1 x2 x8 true x102000 x102001 x104000 x104001 x104002 x104003 x104004)) else (zc.j3 k x0 x1 x2 x8 true x102000 x102001 x104000 x104001 x104002 x104003 x104004)) else (if x104000 = 2 then (if x104002 = 0 then (if x104000 > 1 then (zc.j3 k x0 x1 x2 x8 (!(x104003 == x102000) || (!(x104004 == x102001))) x102000 x102001 x104000 x104001 x104002 x104003 x104004) else (zc.j3 k x0 x1 x2 x8 false x102000 x102001 x104000 x104001 x104002 x104003 x104004)) else (zc.j3 k x0 x1 x2 x8 true x102000 x102001 x104000 x104001 x104002 x104003 x104004)) else (if x104000 > 1 then (zc.j3 k x0 x1 x2 x8 (!(x104003 == x102000) || (!(x104004 == x102001))) x102000 x102001 x104000 x104001 x104002 x104003 x104004) else (zc.j3 k x0 x1 x2 x8 false x102000 x102001 x104000 x104001 x104002 x104003 x104004))))
def zc.j3 : Nat → Int → Int → List (S114) → Int → Bool → Int → Int → Int → Int → Int → Int → Int → Option (Int)
 | 0,_,_,_,_,_,_,_,_,_,_,_,_=>none
 | k + 1,x0,x1,x2,x8,x77,x102000,x102001,x104000,x104001,x104002,x104003,x104004=>if x77 = true then (some 3) else (if x104000 > 2 then (if x104001 < 0 then (zc.j4 k x0 x1 x2 x8 true x102000 x102001 x104000 x104001 x104002 x104003 x104004) else (if x104001 ≥ x8 then (zc.j4 k x0 x1 x2 x8 true x102000 x102001 x104000 x104001 x104002 x104003 x104004) else (if x104002 < 0 then (zc.j4 k x0 x1 x2 x8 true x102000 x102001 x104000 x104001 x104002 x104003 x104004) else (zc.j4 k x0 x1 x2 x8 (decide (x104002 ≥ x8)) x102000 x102001 x104000 x104001 x104002 x104003 x104004)))) else (zc.j4 k x0 x1 x2 x8 false x102000 x102001 x104000 x104001 x104002 x104003 x104004))
def zc.j4 : Nat → Int → Int → List (S114) → Int → Bool → Int → Int → Int → Int → Int → Int → Int → Option (Int)
 | 0,_,_,_,_,_,_,_,_,_,_,_,_=>none
 | k + 1,x0,x1,x2,x8,x102,x102000,x102001,x104000,x104001,x104002,x104003,x104004=>if x102 = true then (some 3) else (if x104000 = 1 then ((zo.f k x0 x104003 x104004).bind fun t104=>(zc.j5 k x0 x1 x2 x8 (!t104) x102000 x102001 x104000 x104001 x104002 x104003 x104004)) else (zc.j5 k x0 x1 x2 x8 false x102000 x102001 x104000 x104001 x104002 x104003 x104004))
def zc.j5 : Nat → Int → Int → List (S114) → Int → Bool → Int → Int → Int → Int → Int → Int → Int → Option (Int)
 | 0,_,_,_,_,_,_,_,_,_,_,_,_=>none
 | k + 1,x0,x1,x2,x8,x112,x102000,x102001,x104000,x104001,x104002,x104003,x104004=>if x112 = true then (some 5) else (if x104000 = 2 then (if x104001 < 0 then (zc.j6 k x0 x1 x2 x8 true x102000 x102001) else (zc.j6 k x0 x1 x2 x8 (decide (x104001 ≥ x1)) x102000 x102001)) else (zc.j6 k x0 x1 x2 x8 false x102000 x102001))
def zc.j6 : Nat → Int → Int → List (S114) → Int → Bool → Int → Int → Option (Int)
 | 0,_,_,_,_,_,_,_=>none
 | k + 1,x0,x1,x2,x8,x126,x102000,x102001=>if x126 = true then (some 4) else ((zg.f k x2 x8).bind fun t105=>(if t105 > 8 then (some 7) else (zc.l0 k x0 x1 x2 (wrap64 (x8 + 1)) x102000 x102001)))
end
def zc.f (k : Nat) (a0 : Int) (a1 : Int) (l2 : List (S114)) : Option (Int):=if a0 < 0 then (zc.j0 k a0 a1 l2 true 0 0) else (if a0 > 7 then (zc.j0 k a0 a1 l2 true 0 0) else (zc.j0 k a0 a1 l2 (decide (a1 < 0)) 0 0))
theorem zc.z18 : ∀ k,(∀ y0 y1 y2 y3 y4 y5,LeO (zc.j0 k y0 y1 y2 y3 y4 y5) (zc.j0 (k + 1) y0 y1 y2 y3 y4 y5)) ∧ (∀ y0 y1 y2 y3 y4 y5,LeO (zc.l0 k y0 y1 y2 y3 y4 y5) (zc.l0 (k + 1) y0 y1 y2 y3 y4 y5)) ∧ (∀ y0 y1 y2 y3 y4 y5 y6 y7 y8 y9 y10 y11,LeO (zc.j2 k y0 y1 y2 y3 y4 y5 y6 y7 y8 y9 y10 y11) (zc.j2 (k + 1) y0 y1 y2 y3 y4 y5 y6 y7 y8 y9 y10 y11)) ∧ (∀ y0 y1 y2 y3 y4 y5 y6 y7 y8 y9 y10 y11,LeO (zc.j3 k y0 y1 y2 y3 y4 y5 y6 y7 y8 y9 y10 y11) (zc.j3 (k + 1) y0 y1 y2 y3 y4 y5 y6 y7 y8 y9 y10 y11)) ∧ (∀ y0 y1 y2 y3 y4 y5 y6 y7 y8 y9 y10 y11,LeO (zc.j4 k y0 y1 y2 y3 y4 y5 y6 y7 y8 y9 y10 y11) (zc.j4 (k + 1) y0 y1 y2 y3 y4 y5 y6 y7 y8 y9 y10 y11)) ∧ (∀ y0 y1 y2 y3 y4 y5 y6 y7 y8 y9 y10 y11,LeO (zc.j5 k y0 y1 y2 y3 y4 y5 y6 y7 y8 y9 y10 y11) (zc.j5 (k + 1) y0 y1 y2 y3 y4 y5 y6 y7 y8 y9 y10 y11)) ∧ (∀ y0 y1 y2 y3 y4 y5 y6,LeO (zc.j6 k y0 y1 y2 y3 y4 y5 y6) (zc.j6 (k + 1) y0 y1 y2 y3 y4 y5 y6))
 | 0=>⟨fun _ _ _ _ _ _ r h=>by simp [zc.j0] at h,fun _ _ _ _ _ _ r h=>by simp [zc.l0] at h,fun _ _ _ _ _ _ _ _ _ _ _ _ r h=>by simp [zc.j2] at h,fun _ _ _ _ _ _ _ _ _ _ _ _ r h=>by simp [zc.j3] at h,fun _ _ _ _ _ _ _ _ _ _ _ _ r h=>by simp [zc.j4] at h,fun _ _ _ _ _ _ _ _ _ _ _ _ r h=>by simp [zc.j5] at h,fun _ _ _ _ _ _ _ r h=>by simp [zc.j6] at h⟩
 | k + 1=>by
  obtain ⟨ih0,ih1,ih2,ih3,ih4,ih5,ih6⟩:=zc.z18 k
  refine ⟨?_,?_,?_,?_,?_,?_,?_⟩
  · intro y0 y1 y2 y3 y4 y5
    unfold zc.j0
    repeat' first
    | (with_reducible exact ih0 _ _ _ _ _ _)
    | (with_reducible exact ih1 _ _ _ _ _ _)
    | (with_reducible exact ih2 _ _ _ _ _ _ _ _ _ _ _ _)
    | (with_reducible exact ih3 _ _ _ _ _ _ _ _ _ _ _ _)
    | (with_reducible exact ih4 _ _ _ _ _ _ _ _ _ _ _ _)
    | (with_reducible exact ih5 _ _ _ _ _ _ _ _ _ _ _ _)
    | (with_reducible exact ih6 _ _ _ _ _ _ _)
    | (with_reducible exact zo.mono _ _ _ _)
    | (with_reducible exact zg.mono _ _ _)
    | (with_reducible exact LeO.refl _)
    | (with_reducible exact LeO.none _)
    | (with_reducible refine LeO.ite ?_ ?_)
    | (with_reducible refine LeO.bind ?_ (fun _=>?_))
    | exact ih0 _ _ _ _ _ _
    | exact ih1 _ _ _ _ _ _
    | exact ih2 _ _ _ _ _ _ _ _ _ _ _ _
    | exact ih3 _ _ _ _ _ _ _ _ _ _ _ _
    | exact ih4 _ _ _ _ _ _ _ _ _ _ _ _
    | exact ih5 _ _ _ _ _ _ _ _ _ _ _ _
    | exact ih6 _ _ _ _ _ _ _
    | exact zo.mono _ _ _ _
    | exact zg.mono _ _ _
    | exact LeO.none _
    | refine LeO.ite ?_ ?_
    | refine LeO.bind ?_ (fun _=>?_)
  · intro y0 y1 y2 y3 y4 y5
    unfold zc.l0
    repeat' first
    | (with_reducible exact ih0 _ _ _ _ _ _)
    | (with_reducible exact ih1 _ _ _ _ _ _)
    | (with_reducible exact ih2 _ _ _ _ _ _ _ _ _ _ _ _)
    | (with_reducible exact ih3 _ _ _ _ _ _ _ _ _ _ _ _)
    | (with_reducible exact ih4 _ _ _ _ _ _ _ _ _ _ _ _)
    | (with_reducible exact ih5 _ _ _ _ _ _ _ _ _ _ _ _)
    | (with_reducible exact ih6 _ _ _ _ _ _ _)
    | (with_reducible exact zo.mono _ _ _ _)
    | (with_reducible exact zg.mono _ _ _)
    | (with_reducible exact LeO.refl _)
    | (with_reducible exact LeO.none _)
    | (with_reducible refine LeO.ite ?_ ?_)
    | (with_reducible refine LeO.bind ?_ (fun _=>?_))
    | exact ih0 _ _ _ _ _ _
    | exact ih1 _ _ _ _ _ _
    | exact ih2 _ _ _ _ _ _ _ _ _ _ _ _
    | exact ih3 _ _ _ _ _ _ _ _ _ _ _ _
    | exact ih4 _ _ _ _ _ _ _ _ _ _ _ _
    | exact ih5 _ _ _ _ _ _ _ _ _ _ _ _
    | exact ih6 _ _ _ _ _ _ _
    | exact zo.mono _ _ _ _
    | exact zg.mono _ _ _
    | exact LeO.none _
    | refine LeO.ite ?_ ?_
    | refine LeO.bind ?_ (fun _=>?_)
  · intro y0 y1 y2 y3 y4 y5 y6 y7 y8 y9 y10 y11
    unfold zc.j2
    repeat' first
    | (with_reducible exact ih0 _ _ _ _ _ _)
    | (with_reducible exact ih1 _ _ _ _ _ _)
    | (with_reducible exact ih2 _ _ _ _ _ _ _ _ _ _ _ _)
    | (with_reducible exact ih3 _ _ _ _ _ _ _ _ _ _ _ _)
    | (with_reducible exact ih4 _ _ _ _ _ _ _ _ _ _ _ _)
    | (with_reducible exact ih5 _ _ _ _ _ _ _ _ _ _ _ _)
    | (with_reducible exact ih6 _ _ _ _ _ _ _)
    | (with_reducible exact zo.mono _ _ _ _)
    | (with_reducible exact zg.mono _ _ _)
    | (with_reducible exact LeO.refl _)
    | (with_reducible exact LeO.none _)
    | (with_reducible refine LeO.ite ?_ ?_)
    | (with_reducible refine LeO.bind ?_ (fun _=>?_))
    | exact ih0 _ _ _ _ _ _
    | exact ih1 _ _ _ _ _ _
    | exact ih2 _ _ _ _ _ _ _ _ _ _ _ _
    | exact ih3 _ _ _ _ _ _ _ _ _ _ _ _
    | exact ih4 _ _ _ _ _ _ _ _ _ _ _ _
    | exact ih5 _ _ _ _ _ _ _ _ _ _ _ _
    | exact ih6 _ _ _ _ _ _ _
    | exact zo.mono _ _ _ _
    | exact zg.mono _ _ _
    | exact LeO.none _
    | refine LeO.ite ?_ ?_
    | refine LeO.bind ?_ (fun _=>?_)
  · intro y0 y1 y2 y3 y4 y5 y6 y7 y8 y9 y10 y11
    unfold zc.j3
    repeat' first
    | (with_reducible exact ih0 _ _ _ _ _ _)
    | (with_reducible exact ih1 _ _ _ _ _ _)
    | (with_reducible exact ih2 _ _ _ _ _ _ _ _ _ _ _ _)
    | (with_reducible exact ih3 _ _ _ _ _ _ _ _ _ _ _ _)
    | (with_reducible exact ih4 _ _ _ _ _ _ _ _ _ _ _ _)
    | (with_reducible exact ih5 _ _ _ _ _ _ _ _ _ _ _ _)
    | (with_reducible exact ih6 _ _ _ _ _ _ _)
    | (with_reducible exact zo.mono _ _ _ _)
    | (with_reducible exact zg.mono _ _ _)
    | (with_reducible exact LeO.refl _)
    | (with_reducible exact LeO.none _)
    | (with_reducible refine LeO.ite ?_ ?_)
    | (with_reducible refine LeO.bind ?_ (fun _=>?_))
    | exact ih0 _ _ _ _ _ _
    | exact ih1 _ _ _ _ _ _
    | exact ih2 _ _ _ _ _ _ _ _ _ _ _ _
    | exact ih3 _ _ _ _ _ _ _ _ _ _ _ _
    | exact ih4 _ _ _ _ _ _ _ _ _ _ _ _
    | exact ih5 _ _ _ _ _ _ _ _ _ _ _ _
    | exact ih6 _ _ _ _ _ _ _
    | exact zo.mono _ _ _ _
    | exact zg.mono _ _ _
    | exact LeO.none _
    | refine LeO.ite ?_ ?_
    | refine LeO.bind ?_ (fun _=>?_)
  · intro y0 y1 y2 y3 y4 y5 y6 y7 y8 y9 y10 y11
    unfold zc.j4
    repeat' first
    | (with_reducible exact ih0 _ _ _ _ _ _)
    | (with_reducible exact ih1 _ _ _ _ _ _)
    | (with_reducible exact ih2 _ _ _ _ _ _ _ _ _ _ _ _)
    | (with_reducible exact ih3 _ _ _ _ _ _ _ _ _ _ _ _)
    | (with_reducible exact ih4 _ _ _ _ _ _ _ _ _ _ _ _)
    | (with_reducible exact ih5 _ _ _ _ _ _ _ _ _ _ _ _)
    | (with_reducible exact ih6 _ _ _ _ _ _ _)
    | (with_reducible exact zo.mono _ _ _ _)
    | (with_reducible exact zg.mono _ _ _)
    | (with_reducible exact LeO.refl _)
    | (with_reducible exact LeO.none _)
    | (with_reducible refine LeO.ite ?_ ?_)
    | (with_reducible refine LeO.bind ?_ (fun _=>?_))
    | exact ih0 _ _ _ _ _ _
    | exact ih1 _ _ _ _ _ _
    | exact ih2 _ _ _ _ _ _ _ _ _ _ _ _
    | exact ih3 _ _ _ _ _ _ _ _ _ _ _ _
    | exact ih4 _ _ _ _ _ _ _ _ _ _ _ _
    | exact ih5 _ _ _ _ _ _ _ _ _ _ _ _
    | exact ih6 _ _ _ _ _ _ _
    | exact zo.mono _ _ _ _
    | exact zg.mono _ _ _
    | exact LeO.none _
    | refine LeO.ite ?_ ?_
    | refine LeO.bind ?_ (fun _=>?_)
  · intro y0 y1 y2 y3 y4 y5 y6 y7 y8 y9 y10 y11
    unfold zc.j5
    repeat' first
    | (with_reducible exact ih0 _ _ _ _ _ _)
    | (with_reducible exact ih1 _ _ _ _ _ _)
    | (with_reducible exact ih2 _ _ _ _ _ _ _ _ _ _ _ _)
    | (with_reducible exact ih3 _ _ _ _ _ _ _ _ _ _ _ _)
    | (with_reducible exact ih4 _ _ _ _ _ _ _ _ _ _ _ _)
    | (with_reducible exact ih5 _ _ _ _ _ _ _ _ _ _ _ _)
    | (with_reducible exact ih6 _ _ _ _ _ _ _)
    | (with_reducible exact zo.mono _ _ _ _)
    | (with_reducible exact zg.mono _ _ _)
    | (with_reducible exact LeO.refl _)
    | (with_reducible exact LeO.none _)
    | (with_reducible refine LeO.ite ?_ ?_)
    | (with_reducible refine LeO.bind ?_ (fun _=>?_))
    | exact ih0 _ _ _ _ _ _
    | exact ih1 _ _ _ _ _ _
    | exact ih2 _ _ _ _ _ _ _ _ _ _ _ _
    | exact ih3 _ _ _ _ _ _ _ _ _ _ _ _
    | exact ih4 _ _ _ _ _ _ _ _ _ _ _ _
    | exact ih5 _ _ _ _ _ _ _ _ _ _ _ _
    | exact ih6 _ _ _ _ _ _ _
    | exact zo.mono _ _ _ _
    | exact zg.mono _ _ _
    | exact LeO.none _
    | refine LeO.ite ?_ ?_
    | refine LeO.bind ?_ (fun _=>?_)
  · intro y0 y1 y2 y3 y4 y5 y6
    unfold zc.j6
    repeat' first
    | (with_reducible exact ih0 _ _ _ _ _ _)
    | (with_reducible exact ih1 _ _ _ _ _ _)
    | (with_reducible exact ih2 _ _ _ _ _ _ _ _ _ _ _ _)
    | (with_reducible exact ih3 _ _ _ _ _ _ _ _ _ _ _ _)
    | (with_reducible exact ih4 _ _ _ _ _ _ _ _ _ _ _ _)
    | (with_reducible exact ih5 _ _ _ _ _ _ _ _ _ _ _ _)
    | (with_reducible exact ih6 _ _ _ _ _ _ _)
    | (with_reducible exact zo.mono _ _ _ _)
    | (with_reducible exact zg.mono _ _ _)
    | (with_reducible exact LeO.refl _)
    | (with_reducible exact LeO.none _)
    | (with_reducible refine LeO.ite ?_ ?_)
    | (with_reducible refine LeO.bind ?_ (fun _=>?_))
    | exact ih0 _ _ _ _ _ _
    | exact ih1 _ _ _ _ _ _
    | exact ih2 _ _ _ _ _ _ _ _ _ _ _ _
    | exact ih3 _ _ _ _ _ _ _ _ _ _ _ _
    | exact ih4 _ _ _ _ _ _ _ _ _ _ _ _
    | exact ih5 _ _ _ _ _ _ _ _ _ _ _ _
    | exact ih6 _ _ _ _ _ _ _
    | exact zo.mono _ _ _ _
    | exact zg.mono _ _ _
    | exact LeO.none _
    | refine LeO.ite ?_ ?_
    | refine LeO.bind ?_ (fun _=>?_)
theorem zc.mono : ∀ a0 a1 a2 k,LeO (zc.f k a0 a1 a2) (zc.f (k + 1) a0 a1 a2):=by
 intro a0 a1 a2 k
 obtain ⟨ih0,ih1,ih2,ih3,ih4,ih5,ih6⟩:=zc.z18 k
 unfold zc.f
 repeat' first
  | (with_reducible exact ih0 _ _ _ _ _ _)
  | (with_reducible exact ih1 _ _ _ _ _ _)
  | (with_reducible exact ih2 _ _ _ _ _ _ _ _ _ _ _ _)
  | (with_reducible exact ih3 _ _ _ _ _ _ _ _ _ _ _ _)
  | (with_reducible exact ih4 _ _ _ _ _ _ _ _ _ _ _ _)
  | (with_reducible exact ih5 _ _ _ _ _ _ _ _ _ _ _ _)
  | (with_reducible exact ih6 _ _ _ _ _ _ _)
  | (with_reducible exact zo.mono _ _ _ _)
  | (with_reducible exact zg.mono _ _ _)
  | (with_reducible exact LeO.refl _)
  | (with_reducible exact LeO.none _)
  | (with_reducible refine LeO.ite ?_ ?_)
  | (with_reducible refine LeO.bind ?_ (fun _=>?_))
  | exact ih0 _ _ _ _ _ _
  | exact ih1 _ _ _ _ _ _
  | exact ih2 _ _ _ _ _ _ _ _ _ _ _ _
  | exact ih3 _ _ _ _ _ _ _ _ _ _ _ _
  | exact ih4 _ _ _ _ _ _ _ _ _ _ _ _
  | exact ih5 _ _ _ _ _ _ _ _ _ _ _ _
  | exact ih6 _ _ _ _ _ _ _
  | exact zo.mono _ _ _ _
  | exact zg.mono _ _ _
  | exact LeO.none _
  | refine LeO.ite ?_ ?_
  | refine LeO.bind ?_ (fun _=>?_)
set_option maxHeartbeats 8000000 in
set_option maxRecDepth 100000 in
theorem zc.calls (k : Nat) (a0 : Int) (a1 : Int) (A2 : Option Addr) (c2 : Nat) (l2 : List (S114)) (r : Int) (w : World) (hr2 : Kd.C k114 w A2 l2.length l2) (hc2 : l2.length ≤ c2) (h : zc.f k a0 a1 l2 = some r) :
 Calls Try.prog 45 #[.int .i64 a0,.int .i64 a1,.slice A2 l2.length c2] w fun e w'=>e = .returned (.int .i64 r) ∧ Below w.heap.size w w':=by
 have hu61:=Try.underlying61
 have hu114:=Try.underlying114
 have HR2:=z7.mk hr2
 have HC2:=z7.mk hc2
 clear hr2 hc2
 have HB:=z7.mk (Below.refl w.heap.size w)
 have H : (if a0 < 0 then (zc.j0 k a0 a1 l2 true 0 0) else (if a0 > 7 then (zc.j0 k a0 a1 l2 true 0 0) else (zc.j0 k a0 a1 l2 (decide (a1 < 0)) 0 0))) = some r:=h
 clear h
 have HC4:=z7.mk H
 clear H
 go_enter Try.func45,Try.ntmps45
 go_upto_region 2 with (first|((with_reducible refine zM (N:=7) rfl ?_);refine zI ?hg (N:=7) ?hd (cs:=#[.int .u64 0,.int .u64 0]) (t:=61) ?hr ?_;(case hd=>rfl);(case hg=>rfl);(case hr=>first|(go_simp;done)|(go_simp;rfl));intro gb101 hg w5 hbox hb;have n0_:=z7.mk (zi (by repeat (first|(with_reducible first|exact HB.out|apply z4|apply z0|apply z3)|exact HB.out)) hb);have n1_:=z7.mk (hbox);have n2_:=z7.mk ((by rw [hg];exact (zf (by repeat (first|(with_reducible first|exact HB.out|apply z4|apply z0|apply z3)|exact HB.out))) : w.heap.size ≤ gb101));have n3_:=z7.mk ((by rw [hg];exact (zf (by repeat (first|(with_reducible first|exact HB.out|apply z4|apply z0|apply z3)|exact HB.out))) : w.heap.size ≤ gb101));clear HB;have HB:=n0_;have BK101:=n1_;have GW101:=n2_;have GE101:=n3_;clear n0_ n1_ n2_ n3_;clear hb hbox hg))
 (try simp only [Act.put,List.setIfInBounds_toArray,List.set_cons_zero,List.set_cons_succ])
 go_cut [19] (fun v19 wc=>∃ (kq : Nat) (x19_3 : Bool),v19 = .bool x19_3 ∧ z7 (zc.j0 kq a0 a1 l2 x19_3 0 0 = some r) ∧ z7 (kq ≤ k) ∧ z7 (wc.heap[gb101]? = some (.cells #[.int .u64 0,.int .u64 0] 61 (0,0))) ∧ z7 (Below w.heap.size w wc))
 case first =>
  have H:=HC4.out
  clear HC4
  by_cases c6 : a0 < 0
  · rw [if_pos c6] at H
    have c6b0 : decide (a0 < 0) = true:=decide_eq_true c6
    clear c6
    (first|rw [c6b0]|(simp only [zD,zF];rw [c6b0])|skip)
    have H':=z7.mk H
    clear H
    go_wp2
    go_meet
    case rel=>exact ⟨_,(true),(by first|rfl|(simp;done)|(simp [*];done)),H',⟨by first|omega|exact Nat.le_refl _⟩,⟨by (with_reducible repeat (first|refine z2 ?_ _|refine z5 ?_|refine z1 ?_ _));exact BK101.out⟩,⟨by repeat (first|(with_reducible first|exact HB.out|apply z4|apply z0|apply z3|refine z8 ?_ GE101.out)|exact HB.out)⟩⟩
  rw [if_neg c6] at H
  have c6b0 : decide (a0 < 0) = false:=decide_eq_false c6
  clear c6
  (first|rw [c6b0]|(simp only [zD,zF];rw [c6b0])|skip)
  by_cases c7 : a0 > 7
  rotate_left
  · rw [if_neg c7] at H
    have c7b0 : decide (7 < a0) = false:=decide_eq_false c7
    clear c7
    have H':=z7.mk H
    clear H
    go_wp2
    go_meet
    case rel=>exact ⟨_,(decide (a1 < 0)),(by first|rfl|(simp;done)|(simp [*];done)),H',⟨by first|omega|exact Nat.le_refl _⟩,⟨by (with_reducible repeat (first|refine z2 ?_ _|refine z5 ?_|refine z1 ?_ _));exact BK101.out⟩,⟨by repeat (first|(with_reducible first|exact HB.out|apply z4|apply z0|apply z3|refine z8 ?_ GE101.out)|exact HB.out)⟩⟩
  rw [if_pos c7] at H
  have c7b0 : decide (7 < a0) = true:=decide_eq_true c7
  clear c7
  have H':=z7.mk H
  clear H
  go_wp2
  go_meet
  case rel=>exact ⟨_,(true),(by first|rfl|(simp;done)|(simp [*];done)),H',⟨by first|omega|exact Nat.le_refl _⟩,⟨by (with_reducible repeat (first|refine z2 ?_ _|refine z5 ?_|refine z1 ?_ _));exact BK101.out⟩,⟨by repeat (first|(with_reducible first|exact HB.out|apply z4|apply z0|apply z3|refine z8 ?_ GE101.out)|exact HB.out)⟩⟩
 case rest =>
  clear HC4
  (try clear c2);(try clear p2);(try clear c4);(try clear c6);(try clear c6b0);(try clear c7);(try clear c7b0)
  obtain ⟨kq,x19_3,rfl,HA,HJ3,BK101,HB⟩:=hcut
  cases kq with
  | zero=>exact absurd HA.out (by simp [zc.j0])
  | succ kj3 =>
   have H:=HA.out
   clear HA
   simp only [zc.j0] at H
   by_cases c8 : x19_3 = true
   · subst c8
     have H1 : (some 1) = some r:=by rw [if_pos rfl] at H;exact H
     clear H
     have H:=H1
     clear H1
     obtain rfl:=Option.some.inj H
     go_wp2
     go_ret
     exact ⟨by first|rfl|(simp [zl,zm] <;> rfl)|(simp [*,zl,zm] <;> rfl),by repeat (first|(with_reducible first|exact HB.out|apply z4|apply z0|apply z3|refine z8 ?_ GE101.out)|exact HB.out)⟩
   replace c8:=Bool.eq_false_iff.mpr c8
   subst c8
   have H1 : (if (l2.length : Int) = 0 then (some 3) else (if (l2.length : Int) > 200 then (some 2) else (zc.l0 kj3 a0 a1 l2 0 0 0))) = some r:=by rw [if_neg (show ¬ (false = true) by decide)] at H;exact H
   clear H
   have H:=H1
   clear H1
   by_cases c9 : (l2.length : Int) = 0
   · rw [if_pos c9] at H
     have c9b0 : ((l2.length : Int) == 0) = true:=beq_iff_eq.mpr c9
     have c9b1 : ((l2.length : Int) != 0) = false:=bne_eq_false_iff_eq.mpr c9
     clear c9
     obtain rfl:=Option.some.inj H
     go_wp2
     go_ret
     exact ⟨by first|rfl|(simp [zl,zm] <;> rfl)|(simp [*,zl,zm] <;> rfl),by repeat (first|(with_reducible first|exact HB.out|apply z4|apply z0|apply z3|refine z8 ?_ GE101.out)|exact HB.out)⟩
   rw [if_neg c9] at H
   have c9b0 : ((l2.length : Int) == 0) = false:=beq_eq_false_iff_ne.mpr c9
   have c9b1 : ((l2.length : Int) != 0) = true:=bne_iff_ne.mpr c9
   have c9b2 : ¬ (l2 = []):=fun h_=>c9 (by rw [h_];rfl)
   by_cases c10 : (l2.length : Int) > 200
   · rw [if_pos c10] at H
     have c10b0 : decide (200 < (l2.length : Int)) = true:=decide_eq_true c10
     have c10b1 : decide (200 < l2.length) = true:=decide_eq_true (by omega)
     clear c10
     obtain rfl:=Option.some.inj H
     go_wp2
     go_ret
     exact ⟨by first|rfl|(simp [zl,zm] <;> rfl)|(simp [*,zl,zm] <;> rfl),by repeat (first|(with_reducible first|exact HB.out|apply z4|apply z0|apply z3|refine z8 ?_ GE101.out)|exact HB.out)⟩
   rw [if_neg c10] at H
   have c10b0 : decide (200 < (l2.length : Int)) = false:=decide_eq_false c10
   have c10b1 : decide (200 < l2.length) = false:=decide_eq_false (by omega)
   clear c10
   have H':=z7.mk H
   clear H
   go_wp2
   go_loopg [8] kj3 (fun kq v8 w'=>∃ (x8_2 : Int),v8 = .int .i64 x8_2 ∧ z7 (zc.l0 kq a0 a1 l2 x8_2 0 0 = some r) ∧ z7 (kq ≤ kj3) ∧ z7 (w'.heap[gb101]? = some (.cells #[.int .u64 0,.int .u64 0] 61 (0,0))) ∧ z7 (Below w.heap.size w w'))
   case atStart=>exact ⟨(0),(by first|rfl|(simp;done)|(simp [*];done)),H',⟨Nat.le_refl _⟩,⟨by (with_reducible repeat (first|refine z2 ?_ _|refine z5 ?_|refine z1 ?_ _));exact BK101.out⟩,⟨by repeat (first|(with_reducible first|exact HB.out|apply z4|apply z0|apply z3|refine z8 ?_ GE101.out)|exact HB.out)⟩⟩
   case round =>
    clear H'
    (try clear c1);(try clear c2);(try clear p2);(try clear c4);(try clear c6);(try clear c6b0);(try clear c7);(try clear c7b0);(try clear c8);(try clear c9);(try clear c9b0);(try clear c9b1);(try clear c9b2);(try clear c10);(try clear c10b0);(try clear c10b1);(try clear p2)
    obtain ⟨x8_2,rfl,HA,HK2,BK101,HB⟩:=hrel
    cases gk with
    | zero=>exact absurd HA.out (by simp [zc.l0])
    | succ k2 =>
     have H:=HA.out
     clear HA
     simp only [zc.l0] at H
     by_cases c11 : x8_2 < (l2.length : Int)
     rotate_left
     · rw [if_neg c11] at H
       have c11b0 : decide (x8_2 < (l2.length : Int)) = false:=decide_eq_false c11
       clear c11
       obtain rfl:=Option.some.inj H
       go_wp2
       go_ret
       exact ⟨by first|rfl|(simp [zl,zm] <;> rfl)|(simp [*,zl,zm] <;> rfl),by repeat (first|(with_reducible first|exact HB.out|apply z4|apply z0|apply z3|refine z8 ?_ GE101.out)|exact HB.out)⟩
     rw [if_pos c11] at H
     have c11b0 : decide (x8_2 < (l2.length : Int)) = true:=decide_eq_true c11
     clear c11
     by_cases c12 : 0 ≤ x8_2
     rotate_left
     · rw [if_neg c12] at H
       exact absurd H (by simp)
     rw [if_pos c12] at H
     have c12b0 : decide (0 ≤ x8_2) = true:=decide_eq_true c12
     clear c12
     have HC13:=z7.mk H
     clear H
     have p102 : 0 ≤ (x8_2 : Int):=of_decide_eq_true (by first|(with_reducible assumption)|assumption)
     have q102 : x8_2 < (l2.length : Int):=of_decide_eq_true (by first|(with_reducible assumption)|assumption)
     obtain ⟨ad102,e102,hx102_0,hx102_1,hx102_2,hx102_3,hx102_4⟩:=z13 HR2.out x8_2 p102 q102
     cases e102
     replace hx102_0:=(HB.out.cell (World.block_lt_of_cell? w _ hx102_0)).trans hx102_0
     replace hx102_1:=(HB.out.cell (World.block_lt_of_cell? w _ hx102_1)).trans hx102_1
     replace hx102_2:=(HB.out.cell (World.block_lt_of_cell? w _ hx102_2)).trans hx102_2
     replace hx102_3:=(HB.out.cell (World.block_lt_of_cell? w _ hx102_3)).trans hx102_3
     replace hx102_4:=(HB.out.cell (World.block_lt_of_cell? w _ hx102_4)).trans hx102_4
     replace p102:=eq_true p102
     replace q102:=eq_true q102
     go_upto_region 12 with (first|((with_reducible refine zM (N:=9) rfl ?_);refine zI ?hg (N:=9) ?hd (cs:=#[.int .i64 0,.int .i64 0,.int .i64 0,.int .u64 0,.int .u64 0]) (t:=114) ?hr ?_;(case hd=>rfl);(case hg=>rfl);(case hr=>first|(go_simp;done)|(go_simp;rfl));intro gb103 hg w14 hbox hb;have n0_:=z7.mk (zj (g:=gb101) (o:=.cells #[.int .u64 0,.int .u64 0] 61 (0,0)) (by (with_reducible repeat (first|refine z2 ?_ _|refine z5 ?_|refine z1 ?_ _));exact BK101.out) hb);have n1_:=z7.mk (zi (by repeat (first|(with_reducible first|exact HB.out|apply z4|apply z0|apply z3|refine z8 ?_ GE101.out)|exact HB.out)) hb);have n2_:=z7.mk (hbox);have n3_:=z7.mk ((by rw [hg];exact (zf (by repeat (first|(with_reducible first|exact HB.out|apply z4|apply z0|apply z3|refine z8 ?_ GE101.out)|exact HB.out))) : w.heap.size ≤ gb103));have n4_:=z7.mk ((by rw [hg];exact (zf (by repeat (first|(with_reducible first|exact HB.out|apply z4|apply z0|apply z3|refine z8 ?_ GE101.out)|exact HB.out))) : w.heap.size ≤ gb103));have n5_:=z7.mk ((by rw [hg];exact Nat.ne_of_lt (zP (g:=gb101) (o:=.cells #[.int .u64 0,.int .u64 0] 61 (0,0)) (by (with_reducible repeat (first|refine z2 ?_ _|refine z5 ?_|refine z1 ?_ _));exact BK101.out)) : gb101 ≠ gb103));have n6_:=z7.mk ((by rw [hg];exact Nat.ne_of_gt (zP (g:=gb101) (o:=.cells #[.int .u64 0,.int .u64 0] 61 (0,0)) (by (with_reducible repeat (first|refine z2 ?_ _|refine z5 ?_|refine z1 ?_ _));exact BK101.out)) : gb103 ≠ gb101));clear BK101;clear HB;have BK101:=n0_;have HB:=n1_;have BK103:=n2_;have GW103:=n3_;have GE103:=n4_;have NB101_103:=n5_;have NB103_101:=n6_;clear n0_ n1_ n2_ n3_ n4_ n5_ n6_;clear hb hbox hg;have hnb15:=NB103_101.out;have hnc15:=NB101_103.out;have hcz16_0 : w14.cell? ⟨gb103,0,none⟩ = some (.int .i64 0):=(zb BK103.out 0).trans rfl;have hcz16_1 : w14.cell? ⟨gb103,1,none⟩ = some (.int .i64 0):=(zb BK103.out 1).trans rfl;have hcz16_2 : w14.cell? ⟨gb103,2,none⟩ = some (.int .i64 0):=(zb BK103.out 2).trans rfl;have hcz16_3 : w14.cell? ⟨gb103,3,none⟩ = some (.int .u64 0):=(zb BK103.out 3).trans rfl;have hcz16_4 : w14.cell? ⟨gb103,4,none⟩ = some (.int .u64 0):=(zb BK103.out 4).trans rfl;have hfz16_0:=z9 BK103.out 0;have hfz16_1:=z9 BK103.out 1;have hfz16_2:=z9 BK103.out 2;have hfz16_3:=z9 BK103.out 3;have hfz16_4:=z9 BK103.out 4))
     (try simp only [Act.put,List.setIfInBounds_toArray,List.set_cons_zero,List.set_cons_succ])
     go_cut [43] (fun v43 wc=>∃ (kq : Nat) (x43_12 : Bool),v43 = .bool x43_12 ∧ z7 (zc.j2 kq a0 a1 l2 x8_2 x43_12 0 0 ((za l2 x8_2).f0) ((za l2 x8_2).f1) ((za l2 x8_2).f2) ((za l2 x8_2).f3.f0) ((za l2 x8_2).f3.f1) = some r) ∧ z7 (kq ≤ k2) ∧ z7 (wc.heap[gb101]? = some (.cells #[.int .u64 0,.int .u64 0] 61 (0,0))) ∧ z7 (wc.heap[gb103]? = some (.cells #[.int .i64 ((za l2 x8_2).f0),.int .i64 ((za l2 x8_2).f1),.int .i64 ((za l2 x8_2).f2),.int .u64 ((za l2 x8_2).f3.f0),.int .u64 ((za l2 x8_2).f3.f1)] 114 (0,0))) ∧ z7 (Below w.heap.size w wc))
     case first =>
      have H:=HC13.out
      clear HC13
      by_cases c17 : ((za l2 x8_2).f0) < 1
      rotate_left
      · rw [if_neg c17] at H
        have c17b0 : decide (((za l2 x8_2).f0) < 1) = false:=decide_eq_false c17
        clear c17
        (first|rw [c17b0]|(simp only [zD,zF];rw [c17b0])|skip)
        have H':=z7.mk H
        clear H
        have hnb20:=NB103_101.out
        have hnc20:=NB101_103.out
        have hcz21_0 : w14.cell? ⟨gb103,0,none⟩ = some (.int .i64 0):=(zb BK103.out 0).trans rfl
        have hcz21_1 : w14.cell? ⟨gb103,1,none⟩ = some (.int .i64 0):=(zb BK103.out 1).trans rfl
        have hcz21_2 : w14.cell? ⟨gb103,2,none⟩ = some (.int .i64 0):=(zb BK103.out 2).trans rfl
        have hcz21_3 : w14.cell? ⟨gb103,3,none⟩ = some (.int .u64 0):=(zb BK103.out 3).trans rfl
        have hcz21_4 : w14.cell? ⟨gb103,4,none⟩ = some (.int .u64 0):=(zb BK103.out 4).trans rfl
        have hfz21_0:=z9 BK103.out 0
        have hfz21_1:=z9 BK103.out 1
        have hfz21_2:=z9 BK103.out 2
        have hfz21_3:=z9 BK103.out 3
        have hfz21_4:=z9 BK103.out 4
        go_wp2
        go_meet
        case rel=>exact ⟨_,(decide (((za l2 x8_2).f0) > 4)),(by first|rfl|(simp;done)|(simp [*];done)),H',⟨by have:=HJ3.out;have:=HK2.out;first|omega|exact Nat.le_refl _⟩,⟨by (with_reducible repeat (first|refine z2 ?_ _|refine z5 ?_|refine z1 ?_ _));refine zs ?_ NB101_103.out _;(with_reducible repeat (first|refine z2 ?_ _|refine z5 ?_|refine z1 ?_ _));refine zs ?_ NB101_103.out _;(with_reducible repeat (first|refine z2 ?_ _|refine z5 ?_|refine z1 ?_ _));refine zs ?_ NB101_103.out _;(with_reducible repeat (first|refine z2 ?_ _|refine z5 ?_|refine z1 ?_ _));refine zs ?_ NB101_103.out _;(with_reducible repeat (first|refine z2 ?_ _|refine z5 ?_|refine z1 ?_ _));refine zs ?_ NB101_103.out _;(with_reducible repeat (first|refine z2 ?_ _|refine z5 ?_|refine z1 ?_ _));exact BK101.out⟩,⟨by (with_reducible repeat (first|refine z2 ?_ _|refine z5 ?_|refine z1 ?_ _));refine zq (cs:=#[.int .i64 ((za l2 x8_2).f0),.int .i64 ((za l2 x8_2).f1),.int .i64 ((za l2 x8_2).f2),.int .u64 ((za l2 x8_2).f3.f0),.int .u64 0]) ?_ 4 _ rfl;(with_reducible repeat (first|refine z2 ?_ _|refine z5 ?_|refine z1 ?_ _));refine zq (cs:=#[.int .i64 ((za l2 x8_2).f0),.int .i64 ((za l2 x8_2).f1),.int .i64 ((za l2 x8_2).f2),.int .u64 0,.int .u64 0]) ?_ 3 _ rfl;(with_reducible repeat (first|refine z2 ?_ _|refine z5 ?_|refine z1 ?_ _));refine zq (cs:=#[.int .i64 ((za l2 x8_2).f0),.int .i64 ((za l2 x8_2).f1),.int .i64 0,.int .u64 0,.int .u64 0]) ?_ 2 _ rfl;(with_reducible repeat (first|refine z2 ?_ _|refine z5 ?_|refine z1 ?_ _));refine zq (cs:=#[.int .i64 ((za l2 x8_2).f0),.int .i64 0,.int .i64 0,.int .u64 0,.int .u64 0]) ?_ 1 _ rfl;(with_reducible repeat (first|refine z2 ?_ _|refine z5 ?_|refine z1 ?_ _));refine zq (cs:=#[.int .i64 0,.int .i64 0,.int .i64 0,.int .u64 0,.int .u64 0]) ?_ 0 _ rfl;(with_reducible repeat (first|refine z2 ?_ _|refine z5 ?_|refine z1 ?_ _));exact BK103.out⟩,⟨by repeat (first|(with_reducible first|exact HB.out|apply z4|apply z0|apply z3|refine z8 ?_ GE101.out|refine z8 ?_ GE103.out)|exact HB.out)⟩⟩
      rw [if_pos c17] at H
      have c17b0 : decide (((za l2 x8_2).f0) < 1) = true:=decide_eq_true c17
      clear c17
      (first|rw [c17b0]|(simp only [zD,zF];rw [c17b0])|skip)
      have H':=z7.mk H
      clear H
      have hnb18:=NB103_101.out
      have hnc18:=NB101_103.out
      have hcz19_0 : w14.cell? ⟨gb103,0,none⟩ = some (.int .i64 0):=(zb BK103.out 0).trans rfl
      have hcz19_1 : w14.cell? ⟨gb103,1,none⟩ = some (.int .i64 0):=(zb BK103.out 1).trans rfl
      have hcz19_2 : w14.cell? ⟨gb103,2,none⟩ = some (.int .i64 0):=(zb BK103.out 2).trans rfl
      have hcz19_3 : w14.cell? ⟨gb103,3,none⟩ = some (.int .u64 0):=(zb BK103.out 3).trans rfl
      have hcz19_4 : w14.cell? ⟨gb103,4,none⟩ = some (.int .u64 0):=(zb BK103.out 4).trans rfl
      have hfz19_0:=z9 BK103.out 0
      have hfz19_1:=z9 BK103.out 1
      have hfz19_2:=z9 BK103.out 2
      have hfz19_3:=z9 BK103.out 3
      have hfz19_4:=z9 BK103.out 4
      go_wp2
      go_meet
      case rel=>exact ⟨_,(true),(by first|rfl|(simp;done)|(simp [*];done)),H',⟨by have:=HJ3.out;have:=HK2.out;first|omega|exact Nat.le_refl _⟩,⟨by (with_reducible repeat (first|refine z2 ?_ _|refine z5 ?_|refine z1 ?_ _));refine zs ?_ NB101_103.out _;(with_reducible repeat (first|refine z2 ?_ _|refine z5 ?_|refine z1 ?_ _));refine zs ?_ NB101_103.out _;(with_reducible repeat (first|refine z2 ?_ _|refine z5 ?_|refine z1 ?_ _));refine zs ?_ NB101_103.out _;(with_reducible repeat (first|refine z2 ?_ _|refine z5 ?_|refine z1 ?_ _));refine zs ?_ NB101_103.out _;(with_reducible repeat (first|refine z2 ?_ _|refine z5 ?_|refine z1 ?_ _));refine zs ?_ NB101_103.out _;(with_reducible repeat (first|refine z2 ?_ _|refine z5 ?_|refine z1 ?_ _));exact BK101.out⟩,⟨by (with_reducible repeat (first|refine z2 ?_ _|refine z5 ?_|refine z1 ?_ _));refine zq (cs:=#[.int .i64 ((za l2 x8_2).f0),.int .i64 ((za l2 x8_2).f1),.int .i64 ((za l2 x8_2).f2),.int .u64 ((za l2 x8_2).f3.f0),.int .u64 0]) ?_ 4 _ rfl;(with_reducible repeat (first|refine z2 ?_ _|refine z5 ?_|refine z1 ?_ _));refine zq (cs:=#[.int .i64 ((za l2 x8_2).f0),.int .i64 ((za l2 x8_2).f1),.int .i64 ((za l2 x8_2).f2),.int .u64 0,.int .u64 0]) ?_ 3 _ rfl;(with_reducible repeat (first|refine z2 ?_ _|refine z5 ?_|refine z1 ?_ _));refine zq (cs:=#[.int .i64 ((za l2 x8_2).f0),.int .i64 ((za l2 x8_2).f1),.int .i64 0,.int .u64 0,.int .u64 0]) ?_ 2 _ rfl;(with_reducible repeat (first|refine z2 ?_ _|refine z5 ?_|refine z1 ?_ _));refine zq (cs:=#[.int .i64 ((za l2 x8_2).f0),.int .i64 0,.int .i64 0,.int .u64 0,.int .u64 0]) ?_ 1 _ rfl;(with_reducible repeat (first|refine z2 ?_ _|refine z5 ?_|refine z1 ?_ _));refine zq (cs:=#[.int .i64 0,.int .i64 0,.int .i64 0,.int .u64 0,.int .u64 0]) ?_ 0 _ rfl;(with_reducible repeat (first|refine z2 ?_ _|refine z5 ?_|refine z1 ?_ _));exact BK103.out⟩,⟨by repeat (first|(with_reducible first|exact HB.out|apply z4|apply z0|apply z3|refine z8 ?_ GE101.out|refine z8 ?_ GE103.out)|exact HB.out)⟩⟩
     case rest =>
      clear HC13
      (try clear c1);(try clear p1);(try clear q1);(try clear hx1);(try clear c2);(try clear p2);(try clear c4);(try clear c6);(try clear c6b0);(try clear c7);(try clear c7b0);(try clear c8);(try clear c9);(try clear c9b0);(try clear c9b1);(try clear c9b2);(try clear c10);(try clear c10b0);(try clear c10b1);(try clear p10);(try clear q10);(try clear hx10);(try clear c11);(try clear c11b0);(try clear c12);(try clear c12b0);(try clear c15);(try clear c17);(try clear c17b0);(try clear c18);(try clear c20);(try clear hcz16_0);(try clear hcz16_1);(try clear hcz16_2);(try clear hcz16_3);(try clear hcz16_4);(try clear hcz19_0);(try clear hcz19_1);(try clear hcz19_2);(try clear hcz19_3);(try clear hcz19_4);(try clear hcz21_0);(try clear hcz21_1);(try clear hcz21_2);(try clear hcz21_3);(try clear hcz21_4);(try clear hfz16_0);(try clear hfz16_1);(try clear hfz16_2);(try clear hfz16_3);(try clear hfz16_4);(try clear hfz19_0);(try clear hfz19_1);(try clear hfz19_2);(try clear hfz19_3);(try clear hfz19_4);(try clear hfz21_0);(try clear hfz21_1);(try clear hfz21_2);(try clear hfz21_3);(try clear hfz21_4);(try clear hx102_0);(try clear hx102_1);(try clear hx102_2);(try clear hx102_3);(try clear hx102_4);(try clear p102);(try clear p2);(try clear q102)
      obtain ⟨kq,x43_12,rfl,HA,HJ12,BK101,BK103,HB⟩:=hcut
      cases kq with
      | zero=>exact absurd HA.out (by simp [zc.j2])
      | succ kj12 =>
       have H:=HA.out
       clear HA
       simp only [zc.j2] at H
       by_cases c22 : x43_12 = true
       · subst c22
         have H1 : (some 3) = some r:=by rw [if_pos rfl] at H;exact H
         clear H
         have H:=H1
         clear H1
         obtain rfl:=Option.some.inj H
         go_wp2
         go_ret
         exact ⟨by first|rfl|(simp [zl,zm] <;> rfl)|(simp [*,zl,zm] <;> rfl),by repeat (first|(with_reducible first|exact HB.out|apply z4|apply z0|apply z3|refine z8 ?_ GE101.out|refine z8 ?_ GE103.out)|exact HB.out)⟩
       replace c22:=Bool.eq_false_iff.mpr c22
       subst c22
       have H1 : (if ((za l2 x8_2).f0) = 1 then (if ((za l2 x8_2).f1) = 0 then (if ((za l2 x8_2).f2) = 0 then (if ((za l2 x8_2).f0) = 2 then (if ((za l2 x8_2).f0) > 1 then (zc.j3 kj12 a0 a1 l2 x8_2 (!(((za l2 x8_2).f3.f0) == 0) || (!(((za l2 x8_2).f3.f1) == 0))) 0 0 ((za l2 x8_2).f0) ((za l2 x8_2).f1) ((za l2 x8_2).f2) ((za l2 x8_2).f3.f0) ((za l2 x8_2).f3.f1)) else (zc.j3 kj12 a0 a1 l2 x8_2 false 0 0 ((za l2 x8_2).f0) ((za l2 x8_2).f1) ((za l2 x8_2).f2) ((za l2 x8_2).f3.f0) ((za l2 x8_2).f3.f1))) else (if ((za l2 x8_2).f0) > 1 then (zc.j3 kj12 a0 a1 l2 x8_2 (!(((za l2 x8_2).f3.f0) == 0) || (!(((za l2 x8_2).f3.f1) == 0))) 0 0 ((za l2 x8_2).f0) ((za l2 x8_2).f1) ((za l2 x8_2).f2) ((za l2 x8_2).f3.f0) ((za l2 x8_2).f3.f1)) else (zc.j3 kj12 a0 a1 l2 x8_2 false 0 0 ((za l2 x8_2).f0) ((za l2 x8_2).f1) ((za l2 x8_2).f2) ((za l2 x8_2).f3.f0) ((za l2 x8_2).f3.f1)))) else (zc.j3 kj12 a0 a1 l2 x8_2 true 0 0 ((za l2 x8_2).f0) ((za l2 x8_2).f1) ((za l2 x8_2).f2) ((za l2 x8_2).f3.f0) ((za l2 x8_2).f3.f1))) else (zc.j3 kj12 a0 a1 l2 x8_2 true 0 0 ((za l2 x8_2).f0) ((za l2 x8_2).f1) ((za l2 x8_2).f2) ((za l2 x8_2).f3.f0) ((za l2 x8_2).f3.f1))) else (if ((za l2 x8_2).f0) = 2 then (if ((za l2 x8_2).f2) = 0 then (if ((za l2 x8_2).f0) > 1 then (zc.j3 kj12 a0 a1 l2 x8_2 (!(((za l2 x8_2).f3.f0) == 0) || (!(((za l2 x8_2).f3.f1) == 0))) 0 0 ((za l2 x8_2).f0) ((za l2 x8_2).f1) ((za l2 x8_2).f2) ((za l2 x8_2).f3.f0) ((za l2 x8_2).f3.f1)) else (zc.j3 kj12 a0 a1 l2 x8_2 false 0 0 ((za l2 x8_2).f0) ((za l2 x8_2).f1) ((za l2 x8_2).f2) ((za l2 x8_2).f3.f0) ((za l2 x8_2).f3.f1))) else (zc.j3 kj12 a0 a1 l2 x8_2 true 0 0 ((za l2 x8_2).f0) ((za l2 x8_2).f1) ((za l2 x8_2).f2) ((za l2 x8_2).f3.f0) ((za l2 x8_2).f3.f1))) else (if ((za l2 x8_2).f0) > 1 then (zc.j3 kj12 a0 a1 l2 x8_2 (!(((za l2 x8_2).f3.f0) == 0) || (!(((za l2 x8_2).f3.f1) == 0))) 0 0 ((za l2 x8_2).f0) ((za l2 x8_2).f1) ((za l2 x8_2).f2) ((za l2 x8_2).f3.f0) ((za l2 x8_2).f3.f1)) else (zc.j3 kj12 a0 a1 l2 x8_2 false 0 0 ((za l2 x8_2).f0) ((za l2 x8_2).f1) ((za l2 x8_2).f2) ((za l2 x8_2).f3.f0) ((za l2 x8_2).f3.f1))))) = some r:=by rw [if_neg (show ¬ (false = true) by decide)] at H;exact H
       clear H
       have H:=H1
       clear H1
       have HC23:=z7.mk H
       clear H
       go_upto_region 14 with (fail)
       go_cut [77] (fun v77 wc=>∃ (kq : Nat) (x77_22 : Bool),v77 = .bool x77_22 ∧ z7 (zc.j3 kq a0 a1 l2 x8_2 x77_22 0 0 ((za l2 x8_2).f0) ((za l2 x8_2).f1) ((za l2 x8_2).f2) ((za l2 x8_2).f3.f0) ((za l2 x8_2).f3.f1) = some r) ∧ z7 (kq ≤ kj12) ∧ z7 (wc.heap[gb101]? = some (.cells #[.int .u64 0,.int .u64 0] 61 (0,0))) ∧ z7 (wc.heap[gb103]? = some (.cells #[.int .i64 ((za l2 x8_2).f0),.int .i64 ((za l2 x8_2).f1),.int .i64 ((za l2 x8_2).f2),.int .u64 ((za l2 x8_2).f3.f0),.int .u64 ((za l2 x8_2).f3.f1)] 114 (0,0))) ∧ z7 (Below w.heap.size w wc))
       case first =>
        have H:=HC23.out
        clear HC23
        by_cases c24 : ((za l2 x8_2).f0) = 1
        rotate_left
        · rw [if_neg c24] at H
          have c24b0 : (((za l2 x8_2).f0) == 1) = false:=beq_eq_false_iff_ne.mpr c24
          have c24b1 : (((za l2 x8_2).f0) != 1) = true:=bne_iff_ne.mpr c24
          (first|rw [c24b0]|(simp only [zD,zF];rw [c24b0])|skip)
          by_cases c44 : ((za l2 x8_2).f0) = 2
          rotate_left
          · rw [if_neg c44] at H
            have c44b0 : (((za l2 x8_2).f0) == 2) = false:=beq_eq_false_iff_ne.mpr c44
            have c44b1 : (((za l2 x8_2).f0) != 2) = true:=bne_iff_ne.mpr c44
            by_cases c54 : ((za l2 x8_2).f0) > 1
            rotate_left
            · rw [if_neg c54] at H
              have c54b0 : decide (1 < ((za l2 x8_2).f0)) = false:=decide_eq_false c54
              clear c54
              have H':=z7.mk H
              clear H
              have hnb58:=NB103_101.out
              have hnc58:=NB101_103.out
              have hcz59_0 : wc.cell? ⟨gb103,0,none⟩ = some (.int .i64 ((za l2 x8_2).f0)):=(zb BK103.out 0).trans rfl
              have hcz59_1 : wc.cell? ⟨gb103,1,none⟩ = some (.int .i64 ((za l2 x8_2).f1)):=(zb BK103.out 1).trans rfl
              have hcz59_2 : wc.cell? ⟨gb103,2,none⟩ = some (.int .i64 ((za l2 x8_2).f2)):=(zb BK103.out 2).trans rfl
              have hcz59_3 : wc.cell? ⟨gb103,3,none⟩ = some (.int .u64 ((za l2 x8_2).f3.f0)):=(zb BK103.out 3).trans rfl
              have hcz59_4 : wc.cell? ⟨gb103,4,none⟩ = some (.int .u64 ((za l2 x8_2).f3.f1)):=(zb BK103.out 4).trans rfl
              have hfz59_0:=z9 BK103.out 0
              have hfz59_1:=z9 BK103.out 1
              have hfz59_2:=z9 BK103.out 2
              have hfz59_3:=z9 BK103.out 3
              have hfz59_4:=z9 BK103.out 4
              go_wp2
              go_meet
              case rel=>exact ⟨_,(false),(by first|rfl|(simp;done)|(simp [*];done)),H',⟨by have:=HJ3.out;have:=HK2.out;have:=HJ12.out;first|omega|exact Nat.le_refl _⟩,⟨by (with_reducible repeat (first|refine z2 ?_ _|refine z5 ?_|refine z1 ?_ _));exact BK101.out⟩,⟨by (with_reducible repeat (first|refine z2 ?_ _|refine z5 ?_|refine z1 ?_ _));exact BK103.out⟩,⟨by repeat (first|(with_reducible first|exact HB.out|apply z4|apply z0|apply z3|refine z8 ?_ GE101.out|refine z8 ?_ GE103.out)|exact HB.out)⟩⟩
            rw [if_pos c54] at H
            have c54b0 : decide (1 < ((za l2 x8_2).f0)) = true:=decide_eq_true c54
            clear c54
            have H':=z7.mk H
            clear H
            have hnb55:=NB103_101.out
            have hnc55:=NB101_103.out
            have hcz56_0 : wc.cell? ⟨gb103,0,none⟩ = some (.int .i64 ((za l2 x8_2).f0)):=(zb BK103.out 0).trans rfl
            have hcz56_1 : wc.cell? ⟨gb103,1,none⟩ = some (.int .i64 ((za l2 x8_2).f1)):=(zb BK103.out 1).trans rfl
            have hcz56_2 : wc.cell? ⟨gb103,2,none⟩ = some (.int .i64 ((za l2 x8_2).f2)):=(zb BK103.out 2).trans rfl
            have hcz56_3 : wc.cell? ⟨gb103,3,none⟩ = some (.int .u64 ((za l2 x8_2).f3.f0)):=(zb BK103.out 3).trans rfl
            have hcz56_4 : wc.cell? ⟨gb103,4,none⟩ = some (.int .u64 ((za l2 x8_2).f3.f1)):=(zb BK103.out 4).trans rfl
            have hfz56_0:=z9 BK103.out 0
            have hfz56_1:=z9 BK103.out 1
            have hfz56_2:=z9 BK103.out 2
            have hfz56_3:=z9 BK103.out 3
            have hfz56_4:=z9 BK103.out 4
            have hcz57_0 : wc.cell? ⟨gb101,0,none⟩ = some (.int .u64 0):=(zb BK101.out 0).trans rfl
            have hcz57_1 : wc.cell? ⟨gb101,1,none⟩ = some (.int .u64 0):=(zb BK101.out 1).trans rfl
            have hfz57_0:=z9 BK101.out 0
            have hfz57_1:=z9 BK101.out 1
            go_wp2
            go_meet
            case rel=>exact ⟨_,((!(((za l2 x8_2).f3.f0) == 0) || (!(((za l2 x8_2).f3.f1) == 0)))),(by first|rfl|(simp;done)|(simp [*];done)),H',⟨by have:=HJ3.out;have:=HK2.out;have:=HJ12.out;first|omega|exact Nat.le_refl _⟩,⟨by (with_reducible repeat (first|refine z2 ?_ _|refine z5 ?_|refine z1 ?_ _));exact BK101.out⟩,⟨by (with_reducible repeat (first|refine z2 ?_ _|refine z5 ?_|refine z1 ?_ _));exact BK103.out⟩,⟨by repeat (first|(with_reducible first|exact HB.out|apply z4|apply z0|apply z3|refine z8 ?_ GE101.out|refine z8 ?_ GE103.out)|exact HB.out)⟩⟩
          rw [if_pos c44] at H
          have c44b0 : (((za l2 x8_2).f0) == 2) = true:=beq_iff_eq.mpr c44
          have c44b1 : (((za l2 x8_2).f0) != 2) = false:=bne_eq_false_iff_eq.mpr c44
          clear c44
          by_cases c45 : ((za l2 x8_2).f2) = 0
          rotate_left
          · rw [if_neg c45] at H
            have c45b0 : (((za l2 x8_2).f2) == 0) = false:=beq_eq_false_iff_ne.mpr c45
            have c45b1 : (((za l2 x8_2).f2) != 0) = true:=bne_iff_ne.mpr c45
            have H':=z7.mk H
            clear H
            have hnb52:=NB103_101.out
            have hnc52:=NB101_103.out
            have hcz53_0 : wc.cell? ⟨gb103,0,none⟩ = some (.int .i64 ((za l2 x8_2).f0)):=(zb BK103.out 0).trans rfl
            have hcz53_1 : wc.cell? ⟨gb103,1,none⟩ = some (.int .i64 ((za l2 x8_2).f1)):=(zb BK103.out 1).trans rfl
            have hcz53_2 : wc.cell? ⟨gb103,2,none⟩ = some (.int .i64 ((za l2 x8_2).f2)):=(zb BK103.out 2).trans rfl
            have hcz53_3 : wc.cell? ⟨gb103,3,none⟩ = some (.int .u64 ((za l2 x8_2).f3.f0)):=(zb BK103.out 3).trans rfl
            have hcz53_4 : wc.cell? ⟨gb103,4,none⟩ = some (.int .u64 ((za l2 x8_2).f3.f1)):=(zb BK103.out 4).trans rfl
            have hfz53_0:=z9 BK103.out 0
            have hfz53_1:=z9 BK103.out 1
            have hfz53_2:=z9 BK103.out 2
            have hfz53_3:=z9 BK103.out 3
            have hfz53_4:=z9 BK103.out 4
            go_wp2
            go_meet
            case rel=>exact ⟨_,(true),(by first|rfl|(simp;done)|(simp [*];done)),H',⟨by have:=HJ3.out;have:=HK2.out;have:=HJ12.out;first|omega|exact Nat.le_refl _⟩,⟨by (with_reducible repeat (first|refine z2 ?_ _|refine z5 ?_|refine z1 ?_ _));exact BK101.out⟩,⟨by (with_reducible repeat (first|refine z2 ?_ _|refine z5 ?_|refine z1 ?_ _));exact BK103.out⟩,⟨by repeat (first|(with_reducible first|exact HB.out|apply z4|apply z0|apply z3|refine z8 ?_ GE101.out|refine z8 ?_ GE103.out)|exact HB.out)⟩⟩
          rw [if_pos c45] at H
          have c45b0 : (((za l2 x8_2).f2) == 0) = true:=beq_iff_eq.mpr c45
          have c45b1 : (((za l2 x8_2).f2) != 0) = false:=bne_eq_false_iff_eq.mpr c45
          clear c45
          by_cases c46 : ((za l2 x8_2).f0) > 1
          rotate_left
          · rw [if_neg c46] at H
            have c46b0 : decide (1 < ((za l2 x8_2).f0)) = false:=decide_eq_false c46
            clear c46
            have H':=z7.mk H
            clear H
            have hnb50:=NB103_101.out
            have hnc50:=NB101_103.out
            have hcz51_0 : wc.cell? ⟨gb103,0,none⟩ = some (.int .i64 ((za l2 x8_2).f0)):=(zb BK103.out 0).trans rfl
            have hcz51_1 : wc.cell? ⟨gb103,1,none⟩ = some (.int .i64 ((za l2 x8_2).f1)):=(zb BK103.out 1).trans rfl
            have hcz51_2 : wc.cell? ⟨gb103,2,none⟩ = some (.int .i64 ((za l2 x8_2).f2)):=(zb BK103.out 2).trans rfl
            have hcz51_3 : wc.cell? ⟨gb103,3,none⟩ = some (.int .u64 ((za l2 x8_2).f3.f0)):=(zb BK103.out 3).trans rfl
            have hcz51_4 : wc.cell? ⟨gb103,4,none⟩ = some (.int .u64 ((za l2 x8_2).f3.f1)):=(zb BK103.out 4).trans rfl
            have hfz51_0:=z9 BK103.out 0
            have hfz51_1:=z9 BK103.out 1
            have hfz51_2:=z9 BK103.out 2
            have hfz51_3:=z9 BK103.out 3
            have hfz51_4:=z9 BK103.out 4
            go_wp2
            go_meet
            case rel=>exact ⟨_,(false),(by first|rfl|(simp;done)|(simp [*];done)),H',⟨by have:=HJ3.out;have:=HK2.out;have:=HJ12.out;first|omega|exact Nat.le_refl _⟩,⟨by (with_reducible repeat (first|refine z2 ?_ _|refine z5 ?_|refine z1 ?_ _));exact BK101.out⟩,⟨by (with_reducible repeat (first|refine z2 ?_ _|refine z5 ?_|refine z1 ?_ _));exact BK103.out⟩,⟨by repeat (first|(with_reducible first|exact HB.out|apply z4|apply z0|apply z3|refine z8 ?_ GE101.out|refine z8 ?_ GE103.out)|exact HB.out)⟩⟩
          rw [if_pos c46] at H
          have c46b0 : decide (1 < ((za l2 x8_2).f0)) = true:=decide_eq_true c46
          clear c46
          have H':=z7.mk H
          clear H
          have hnb47:=NB103_101.out
          have hnc47:=NB101_103.out
          have hcz48_0 : wc.cell? ⟨gb103,0,none⟩ = some (.int .i64 ((za l2 x8_2).f0)):=(zb BK103.out 0).trans rfl
          have hcz48_1 : wc.cell? ⟨gb103,1,none⟩ = some (.int .i64 ((za l2 x8_2).f1)):=(zb BK103.out 1).trans rfl
          have hcz48_2 : wc.cell? ⟨gb103,2,none⟩ = some (.int .i64 ((za l2 x8_2).f2)):=(zb BK103.out 2).trans rfl
          have hcz48_3 : wc.cell? ⟨gb103,3,none⟩ = some (.int .u64 ((za l2 x8_2).f3.f0)):=(zb BK103.out 3).trans rfl
          have hcz48_4 : wc.cell? ⟨gb103,4,none⟩ = some (.int .u64 ((za l2 x8_2).f3.f1)):=(zb BK103.out 4).trans rfl
          have hfz48_0:=z9 BK103.out 0
          have hfz48_1:=z9 BK103.out 1
          have hfz48_2:=z9 BK103.out 2
          have hfz48_3:=z9 BK103.out 3
          have hfz48_4:=z9 BK103.out 4
          have hcz49_0 : wc.cell? ⟨gb101,0,none⟩ = some (.int .u64 0):=(zb BK101.out 0).trans rfl
          have hcz49_1 : wc.cell? ⟨gb101,1,none⟩ = some (.int .u64 0):=(zb BK101.out 1).trans rfl
          have hfz49_0:=z9 BK101.out 0
          have hfz49_1:=z9 BK101.out 1
          go_wp2
          go_meet
          case rel=>exact ⟨_,((!(((za l2 x8_2).f3.f0) == 0) || (!(((za l2 x8_2).f3.f1) == 0)))),(by first|rfl|(simp;done)|(simp [*];done)),H',⟨by have:=HJ3.out;have:=HK2.out;have:=HJ12.out;first|omega|exact Nat.le_refl _⟩,⟨by (with_reducible repeat (first|refine z2 ?_ _|refine z5 ?_|refine z1 ?_ _));exact BK101.out⟩,⟨by (with_reducible repeat (first|refine z2 ?_ _|refine z5 ?_|refine z1 ?_ _));exact BK103.out⟩,⟨by repeat (first|(with_reducible first|exact HB.out|apply z4|apply z0|apply z3|refine z8 ?_ GE101.out|refine z8 ?_ GE103.out)|exact HB.out)⟩⟩
        rw [if_pos c24] at H
        have c24b0 : (((za l2 x8_2).f0) == 1) = true:=beq_iff_eq.mpr c24
        have c24b1 : (((za l2 x8_2).f0) != 1) = false:=bne_eq_false_iff_eq.mpr c24
        clear c24
        (first|rw [c24b0]|(simp only [zD,zF];rw [c24b0])|skip)
        by_cases c25 : ((za l2 x8_2).f1) = 0
        rotate_left
        · rw [if_neg c25] at H
          have c25b0 : (((za l2 x8_2).f1) == 0) = false:=beq_eq_false_iff_ne.mpr c25
          have c25b1 : (((za l2 x8_2).f1) != 0) = true:=bne_iff_ne.mpr c25
          have H':=z7.mk H
          clear H
          have hnb42:=NB103_101.out
          have hnc42:=NB101_103.out
          have hcz43_0 : wc.cell? ⟨gb103,0,none⟩ = some (.int .i64 ((za l2 x8_2).f0)):=(zb BK103.out 0).trans rfl
          have hcz43_1 : wc.cell? ⟨gb103,1,none⟩ = some (.int .i64 ((za l2 x8_2).f1)):=(zb BK103.out 1).trans rfl
          have hcz43_2 : wc.cell? ⟨gb103,2,none⟩ = some (.int .i64 ((za l2 x8_2).f2)):=(zb BK103.out 2).trans rfl
          have hcz43_3 : wc.cell? ⟨gb103,3,none⟩ = some (.int .u64 ((za l2 x8_2).f3.f0)):=(zb BK103.out 3).trans rfl
          have hcz43_4 : wc.cell? ⟨gb103,4,none⟩ = some (.int .u64 ((za l2 x8_2).f3.f1)):=(zb BK103.out 4).trans rfl
          have hfz43_0:=z9 BK103.out 0
          have hfz43_1:=z9 BK103.out 1
          have hfz43_2:=z9 BK103.out 2
          have hfz43_3:=z9 BK103.out 3
          have hfz43_4:=z9 BK103.out 4
          go_wp2
          go_meet
          case rel=>exact ⟨_,(true),(by first|rfl|(simp;done)|(simp [*];done)),H',⟨by have:=HJ3.out;have:=HK2.out;have:=HJ12.out;first|omega|exact Nat.le_refl _⟩,⟨by (with_reducible repeat (first|refine z2 ?_ _|refine z5 ?_|refine z1 ?_ _));exact BK101.out⟩,⟨by (with_reducible repeat (first|refine z2 ?_ _|refine z5 ?_|refine z1 ?_ _));exact BK103.out⟩,⟨by repeat (first|(with_reducible first|exact HB.out|apply z4|apply z0|apply z3|refine z8 ?_ GE101.out|refine z8 ?_ GE103.out)|exact HB.out)⟩⟩
        rw [if_pos c25] at H
        have c25b0 : (((za l2 x8_2).f1) == 0) = true:=beq_iff_eq.mpr c25
        have c25b1 : (((za l2 x8_2).f1) != 0) = false:=bne_eq_false_iff_eq.mpr c25
        clear c25
        by_cases c26 : ((za l2 x8_2).f2) = 0
        rotate_left
        · rw [if_neg c26] at H
          have c26b0 : (((za l2 x8_2).f2) == 0) = false:=beq_eq_false_iff_ne.mpr c26
          have c26b1 : (((za l2 x8_2).f2) != 0) = true:=bne_iff_ne.mpr c26
          have H':=z7.mk H
          clear H
          have hnb40:=NB103_101.out
          have hnc40:=NB101_103.out
          have hcz41_0 : wc.cell? ⟨gb103,0,none⟩ = some (.int .i64 ((za l2 x8_2).f0)):=(zb BK103.out 0).trans rfl
          have hcz41_1 : wc.cell? ⟨gb103,1,none⟩ = some (.int .i64 ((za l2 x8_2).f1)):=(zb BK103.out 1).trans rfl
          have hcz41_2 : wc.cell? ⟨gb103,2,none⟩ = some (.int .i64 ((za l2 x8_2).f2)):=(zb BK103.out 2).trans rfl
          have hcz41_3 : wc.cell? ⟨gb103,3,none⟩ = some (.int .u64 ((za l2 x8_2).f3.f0)):=(zb BK103.out 3).trans rfl
          have hcz41_4 : wc.cell? ⟨gb103,4,none⟩ = some (.int .u64 ((za l2 x8_2).f3.f1)):=(zb BK103.out 4).trans rfl
          have hfz41_0:=z9 BK103.out 0
          have hfz41_1:=z9 BK103.out 1
          have hfz41_2:=z9 BK103.out 2
          have hfz41_3:=z9 BK103.out 3
          have hfz41_4:=z9 BK103.out 4
          go_wp2
          go_meet
          case rel=>exact ⟨_,(true),(by first|rfl|(simp;done)|(simp [*];done)),H',⟨by have:=HJ3.out;have:=HK2.out;have:=HJ12.out;first|omega|exact Nat.le_refl _⟩,⟨by (with_reducible repeat (first|refine z2 ?_ _|refine z5 ?_|refine z1 ?_ _));exact BK101.out⟩,⟨by (with_reducible repeat (first|refine z2 ?_ _|refine z5 ?_|refine z1 ?_ _));exact BK103.out⟩,⟨by repeat (first|(with_reducible first|exact HB.out|apply z4|apply z0|apply z3|refine z8 ?_ GE101.out|refine z8 ?_ GE103.out)|exact HB.out)⟩⟩
        rw [if_pos c26] at H
        have c26b0 : (((za l2 x8_2).f2) == 0) = true:=beq_iff_eq.mpr c26
        have c26b1 : (((za l2 x8_2).f2) != 0) = false:=bne_eq_false_iff_eq.mpr c26
        clear c26
        by_cases c27 : ((za l2 x8_2).f0) = 2
        rotate_left
        · rw [if_neg c27] at H
          have c27b0 : (((za l2 x8_2).f0) == 2) = false:=beq_eq_false_iff_ne.mpr c27
          have c27b1 : (((za l2 x8_2).f0) != 2) = true:=bne_iff_ne.mpr c27
          by_cases c34 : ((za l2 x8_2).f0) > 1
          rotate_left
          · rw [if_neg c34] at H
            have c34b0 : decide (1 < ((za l2 x8_2).f0)) = false:=decide_eq_false c34
            clear c34
            have H':=z7.mk H
            clear H
            have hnb38:=NB103_101.out
            have hnc38:=NB101_103.out
            have hcz39_0 : wc.cell? ⟨gb103,0,none⟩ = some (.int .i64 ((za l2 x8_2).f0)):=(zb BK103.out 0).trans rfl
            have hcz39_1 : wc.cell? ⟨gb103,1,none⟩ = some (.int .i64 ((za l2 x8_2).f1)):=(zb BK103.out 1).trans rfl
            have hcz39_2 : wc.cell? ⟨gb103,2,none⟩ = some (.int .i64 ((za l2 x8_2).f2)):=(zb BK103.out 2).trans rfl
            have hcz39_3 : wc.cell? ⟨gb103,3,none⟩ = some (.int .u64 ((za l2 x8_2).f3.f0)):=(zb BK103.out 3).trans rfl
            have hcz39_4 : wc.cell? ⟨gb103,4,none⟩ = some (.int .u64 ((za l2 x8_2).f3.f1)):=(zb BK103.out 4).trans rfl
            have hfz39_0:=z9 BK103.out 0
            have hfz39_1:=z9 BK103.out 1
            have hfz39_2:=z9 BK103.out 2
            have hfz39_3:=z9 BK103.out 3
            have hfz39_4:=z9 BK103.out 4
            go_wp2
            go_meet
            case rel=>exact ⟨_,(false),(by first|rfl|(simp;done)|(simp [*];done)),H',⟨by have:=HJ3.out;have:=HK2.out;have:=HJ12.out;first|omega|exact Nat.le_refl _⟩,⟨by (with_reducible repeat (first|refine z2 ?_ _|refine z5 ?_|refine z1 ?_ _));exact BK101.out⟩,⟨by (with_reducible repeat (first|refine z2 ?_ _|refine z5 ?_|refine z1 ?_ _));exact BK103.out⟩,⟨by repeat (first|(with_reducible first|exact HB.out|apply z4|apply z0|apply z3|refine z8 ?_ GE101.out|refine z8 ?_ GE103.out)|exact HB.out)⟩⟩
          rw [if_pos c34] at H
          have c34b0 : decide (1 < ((za l2 x8_2).f0)) = true:=decide_eq_true c34
          clear c34
          have H':=z7.mk H
          clear H
          have hnb35:=NB103_101.out
          have hnc35:=NB101_103.out
          have hcz36_0 : wc.cell? ⟨gb103,0,none⟩ = some (.int .i64 ((za l2 x8_2).f0)):=(zb BK103.out 0).trans rfl
          have hcz36_1 : wc.cell? ⟨gb103,1,none⟩ = some (.int .i64 ((za l2 x8_2).f1)):=(zb BK103.out 1).trans rfl
          have hcz36_2 : wc.cell? ⟨gb103,2,none⟩ = some (.int .i64 ((za l2 x8_2).f2)):=(zb BK103.out 2).trans rfl
          have hcz36_3 : wc.cell? ⟨gb103,3,none⟩ = some (.int .u64 ((za l2 x8_2).f3.f0)):=(zb BK103.out 3).trans rfl
          have hcz36_4 : wc.cell? ⟨gb103,4,none⟩ = some (.int .u64 ((za l2 x8_2).f3.f1)):=(zb BK103.out 4).trans rfl
          have hfz36_0:=z9 BK103.out 0
          have hfz36_1:=z9 BK103.out 1
          have hfz36_2:=z9 BK103.out 2
          have hfz36_3:=z9 BK103.out 3
          have hfz36_4:=z9 BK103.out 4
          have hcz37_0 : wc.cell? ⟨gb101,0,none⟩ = some (.int .u64 0):=(zb BK101.out 0).trans rfl
          have hcz37_1 : wc.cell? ⟨gb101,1,none⟩ = some (.int .u64 0):=(zb BK101.out 1).trans rfl
          have hfz37_0:=z9 BK101.out 0
          have hfz37_1:=z9 BK101.out 1
          go_wp2
          go_meet
          case rel=>exact ⟨_,((!(((za l2 x8_2).f3.f0) == 0) || (!(((za l2 x8_2).f3.f1) == 0)))),(by first|rfl|(simp;done)|(simp [*];done)),H',⟨by have:=HJ3.out;have:=HK2.out;have:=HJ12.out;first|omega|exact Nat.le_refl _⟩,⟨by (with_reducible repeat (first|refine z2 ?_ _|refine z5 ?_|refine z1 ?_ _));exact BK101.out⟩,⟨by (with_reducible repeat (first|refine z2 ?_ _|refine z5 ?_|refine z1 ?_ _));exact BK103.out⟩,⟨by repeat (first|(with_reducible first|exact HB.out|apply z4|apply z0|apply z3|refine z8 ?_ GE101.out|refine z8 ?_ GE103.out)|exact HB.out)⟩⟩
        rw [if_pos c27] at H
        have c27b0 : (((za l2 x8_2).f0) == 2) = true:=beq_iff_eq.mpr c27
        have c27b1 : (((za l2 x8_2).f0) != 2) = false:=bne_eq_false_iff_eq.mpr c27
        clear c27
        by_cases c28 : ((za l2 x8_2).f0) > 1
        rotate_left
        · rw [if_neg c28] at H
          have c28b0 : decide (1 < ((za l2 x8_2).f0)) = false:=decide_eq_false c28
          clear c28
          have H':=z7.mk H
          clear H
          have hnb32:=NB103_101.out
          have hnc32:=NB101_103.out
          have hcz33_0 : wc.cell? ⟨gb103,0,none⟩ = some (.int .i64 ((za l2 x8_2).f0)):=(zb BK103.out 0).trans rfl
          have hcz33_1 : wc.cell? ⟨gb103,1,none⟩ = some (.int .i64 ((za l2 x8_2).f1)):=(zb BK103.out 1).trans rfl
          have hcz33_2 : wc.cell? ⟨gb103,2,none⟩ = some (.int .i64 ((za l2 x8_2).f2)):=(zb BK103.out 2).trans rfl
          have hcz33_3 : wc.cell? ⟨gb103,3,none⟩ = some (.int .u64 ((za l2 x8_2).f3.f0)):=(zb BK103.out 3).trans rfl
          have hcz33_4 : wc.cell? ⟨gb103,4,none⟩ = some (.int .u64 ((za l2 x8_2).f3.f1)):=(zb BK103.out 4).trans rfl
          have hfz33_0:=z9 BK103.out 0
          have hfz33_1:=z9 BK103.out 1
          have hfz33_2:=z9 BK103.out 2
          have hfz33_3:=z9 BK103.out 3
          have hfz33_4:=z9 BK103.out 4
          go_wp2
          go_meet
          case rel=>exact ⟨_,(false),(by first|rfl|(simp;done)|(simp [*];done)),H',⟨by have:=HJ3.out;have:=HK2.out;have:=HJ12.out;first|omega|exact Nat.le_refl _⟩,⟨by (with_reducible repeat (first|refine z2 ?_ _|refine z5 ?_|refine z1 ?_ _));exact BK101.out⟩,⟨by (with_reducible repeat (first|refine z2 ?_ _|refine z5 ?_|refine z1 ?_ _));exact BK103.out⟩,⟨by repeat (first|(with_reducible first|exact HB.out|apply z4|apply z0|apply z3|refine z8 ?_ GE101.out|refine z8 ?_ GE103.out)|exact HB.out)⟩⟩
        rw [if_pos c28] at H
        have c28b0 : decide (1 < ((za l2 x8_2).f0)) = true:=decide_eq_true c28
        clear c28
        have H':=z7.mk H
        clear H
        have hnb29:=NB103_101.out
        have hnc29:=NB101_103.out
        have hcz30_0 : wc.cell? ⟨gb103,0,none⟩ = some (.int .i64 ((za l2 x8_2).f0)):=(zb BK103.out 0).trans rfl
        have hcz30_1 : wc.cell? ⟨gb103,1,none⟩ = some (.int .i64 ((za l2 x8_2).f1)):=(zb BK103.out 1).trans rfl
        have hcz30_2 : wc.cell? ⟨gb103,2,none⟩ = some (.int .i64 ((za l2 x8_2).f2)):=(zb BK103.out 2).trans rfl
        have hcz30_3 : wc.cell? ⟨gb103,3,none⟩ = some (.int .u64 ((za l2 x8_2).f3.f0)):=(zb BK103.out 3).trans rfl
        have hcz30_4 : wc.cell? ⟨gb103,4,none⟩ = some (.int .u64 ((za l2 x8_2).f3.f1)):=(zb BK103.out 4).trans rfl
        have hfz30_0:=z9 BK103.out 0
        have hfz30_1:=z9 BK103.out 1
        have hfz30_2:=z9 BK103.out 2
        have hfz30_3:=z9 BK103.out 3
        have hfz30_4:=z9 BK103.out 4
        have hcz31_0 : wc.cell? ⟨gb101,0,none⟩ = some (.int .u64 0):=(zb BK101.out 0).trans rfl
        have hcz31_1 : wc.cell? ⟨gb101,1,none⟩ = some (.int .u64 0):=(zb BK101.out 1).trans rfl
        have hfz31_0:=z9 BK101.out 0
        have hfz31_1:=z9 BK101.out 1
        go_wp2
        go_meet
        case rel=>exact ⟨_,((!(((za l2 x8_2).f3.f0) == 0) || (!(((za l2 x8_2).f3.f1) == 0)))),(by first|rfl|(simp;done)|(simp [*];done)),H',⟨by have:=HJ3.out;have:=HK2.out;have:=HJ12.out;first|omega|exact Nat.le_refl _⟩,⟨by (with_reducible repeat (first|refine z2 ?_ _|refine z5 ?_|refine z1 ?_ _));exact BK101.out⟩,⟨by (with_reducible repeat (first|refine z2 ?_ _|refine z5 ?_|refine z1 ?_ _));exact BK103.out⟩,⟨by repeat (first|(with_reducible first|exact HB.out|apply z4|apply z0|apply z3|refine z8 ?_ GE101.out|refine z8 ?_ GE103.out)|exact HB.out)⟩⟩
       case rest =>
        clear HC23
        (try clear c1);(try clear p1);(try clear q1);(try clear hx1);(try clear c2);(try clear p2);(try clear c3);(try clear c4);(try clear c5);(try clear c6);(try clear c6b0);(try clear c7);(try clear c7b0);(try clear c8);(try clear c9);(try clear c9b0);(try clear c9b1);(try clear c9b2);(try clear c10);(try clear c10b0);(try clear c10b1);(try clear p10);(try clear q10);(try clear hx10);(try clear c11);(try clear c11b0);(try clear c12);(try clear c12b0);(try clear c15);(try clear c17);(try clear c17b0);(try clear c18);(try clear c20);(try clear c22);(try clear c24);(try clear c24b0);(try clear c24b1);(try clear c25);(try clear c25b0);(try clear c25b1);(try clear c26);(try clear c26b0);(try clear c26b1);(try clear c27);(try clear c27b0);(try clear c27b1);(try clear c28);(try clear c28b0);(try clear c29);(try clear c32);(try clear c34);(try clear c34b0);(try clear c35);(try clear c38);(try clear c40);(try clear c42);(try clear c44);(try clear c44b0);(try clear c44b1);(try clear c45);(try clear c45b0);(try clear c45b1);(try clear c46);(try clear c46b0);(try clear c47);(try clear c50);(try clear c52);(try clear c54);(try clear c54b0);(try clear c55);(try clear c58);(try clear hcz16_0);(try clear hcz16_1);(try clear hcz16_2);(try clear hcz16_3);(try clear hcz16_4);(try clear hcz19_0);(try clear hcz19_1);(try clear hcz19_2);(try clear hcz19_3);(try clear hcz19_4);(try clear hcz21_0);(try clear hcz21_1);(try clear hcz21_2);(try clear hcz21_3);(try clear hcz21_4);(try clear hcz30_0);(try clear hcz30_1);(try clear hcz30_2);(try clear hcz30_3);(try clear hcz30_4);(try clear hcz31_0);(try clear hcz31_1);(try clear hcz33_0);(try clear hcz33_1);(try clear hcz33_2);(try clear hcz33_3);(try clear hcz33_4);(try clear hcz36_0);(try clear hcz36_1);(try clear hcz36_2);(try clear hcz36_3);(try clear hcz36_4);(try clear hcz37_0);(try clear hcz37_1);(try clear hcz39_0);(try clear hcz39_1);(try clear hcz39_2);(try clear hcz39_3);(try clear hcz39_4);(try clear hcz41_0);(try clear hcz41_1);(try clear hcz41_2);(try clear hcz41_3);(try clear hcz41_4);(try clear hcz43_0);(try clear hcz43_1);(try clear hcz43_2);(try clear hcz43_3);(try clear hcz43_4);(try clear hcz48_0);(try clear hcz48_1);(try clear hcz48_2);(try clear hcz48_3);(try clear hcz48_4);(try clear hcz49_0);(try clear hcz49_1);(try clear hcz51_0);(try clear hcz51_1);(try clear hcz51_2);(try clear hcz51_3);(try clear hcz51_4);(try clear hcz53_0);(try clear hcz53_1);(try clear hcz53_2);(try clear hcz53_3);(try clear hcz53_4);(try clear hcz56_0);(try clear hcz56_1);(try clear hcz56_2);(try clear hcz56_3);(try clear hcz56_4);(try clear hcz57_0);(try clear hcz57_1);(try clear hcz59_0);(try clear hcz59_1);(try clear hcz59_2);(try clear hcz59_3);(try clear hcz59_4);(try clear hfz16_0);(try clear hfz16_1);(try clear hfz16_2);(try clear hfz16_3);(try clear hfz16_4);(try clear hfz19_0);(try clear hfz19_1);(try clear hfz19_2);(try clear hfz19_3);(try clear hfz19_4);(try clear hfz21_0);(try clear hfz21_1);(try clear hfz21_2);(try clear hfz21_3);(try clear hfz21_4);(try clear hfz30_0);(try clear hfz30_1);(try clear hfz30_2);(try clear hfz30_3);(try clear hfz30_4);(try clear hfz31_0);(try clear hfz31_1);(try clear hfz33_0);(try clear hfz33_1);(try clear hfz33_2);(try clear hfz33_3);(try clear hfz33_4);(try clear hfz36_0);(try clear hfz36_1);(try clear hfz36_2);(try clear hfz36_3);(try clear hfz36_4);(try clear hfz37_0);(try clear hfz37_1);(try clear hfz39_0);(try clear hfz39_1);(try clear hfz39_2);(try clear hfz39_3);(try clear hfz39_4);(try clear hfz41_0);(try clear hfz41_1);(try clear hfz41_2);(try clear hfz41_3);(try clear hfz41_4);(try clear hfz43_0);(try clear hfz43_1);(try clear hfz43_2);(try clear hfz43_3);(try clear hfz43_4);(try clear hfz48_0);(try clear hfz48_1);(try clear hfz48_2);(try clear hfz48_3);(try clear hfz48_4);(try clear hfz49_0);(try clear hfz49_1);(try clear hfz51_0);(try clear hfz51_1);(try clear hfz51_2);(try clear hfz51_3);(try clear hfz51_4);(try clear hfz53_0);(try clear hfz53_1);(try clear hfz53_2);(try clear hfz53_3);(try clear hfz53_4);(try clear hfz56_0);(try clear hfz56_1);(try clear hfz56_2);(try clear hfz56_3);(try clear hfz56_4);(try clear hfz57_0);(try clear hfz57_1);(try clear hfz59_0);(try clear hfz59_1);(try clear hfz59_2);(try clear hfz59_3);(try clear hfz59_4);(try clear hx102_0);(try clear hx102_1);(try clear hx102_2);(try clear hx102_3);(try clear hx102_4);(try clear p1);(try clear p10);(try clear p102);(try clear p2);(try clear q1);(try clear q10);(try clear q102)
        obtain ⟨kq,x77_22,rfl,HA,HJ22,BK101,BK103,HB⟩:=hcut
        cases kq with
        | zero=>exact absurd HA.out (by simp [zc.j3])
        | succ kj22 =>
         have H:=HA.out
         clear HA
         simp only [zc.j3] at H
         by_cases c60 : x77_22 = true
         · subst c60
           have H1 : (some 3) = some r:=by rw [if_pos rfl] at H;exact H
           clear H
           have H:=H1
           clear H1
           obtain rfl:=Option.some.inj H
           go_wp2
           go_ret
           exact ⟨by first|rfl|(simp [zl,zm] <;> rfl)|(simp [*,zl,zm] <;> rfl),by repeat (first|(with_reducible first|exact HB.out|apply z4|apply z0|apply z3|refine z8 ?_ GE101.out|refine z8 ?_ GE103.out)|exact HB.out)⟩
         replace c60:=Bool.eq_false_iff.mpr c60
         subst c60
         have H1 : (if ((za l2 x8_2).f0) > 2 then (if ((za l2 x8_2).f1) < 0 then (zc.j4 kj22 a0 a1 l2 x8_2 true 0 0 ((za l2 x8_2).f0) ((za l2 x8_2).f1) ((za l2 x8_2).f2) ((za l2 x8_2).f3.f0) ((za l2 x8_2).f3.f1)) else (if ((za l2 x8_2).f1) ≥ x8_2 then (zc.j4 kj22 a0 a1 l2 x8_2 true 0 0 ((za l2 x8_2).f0) ((za l2 x8_2).f1) ((za l2 x8_2).f2) ((za l2 x8_2).f3.f0) ((za l2 x8_2).f3.f1)) else (if ((za l2 x8_2).f2) < 0 then (zc.j4 kj22 a0 a1 l2 x8_2 true 0 0 ((za l2 x8_2).f0) ((za l2 x8_2).f1) ((za l2 x8_2).f2) ((za l2 x8_2).f3.f0) ((za l2 x8_2).f3.f1)) else (zc.j4 kj22 a0 a1 l2 x8_2 (decide (((za l2 x8_2).f2) ≥ x8_2)) 0 0 ((za l2 x8_2).f0) ((za l2 x8_2).f1) ((za l2 x8_2).f2) ((za l2 x8_2).f3.f0) ((za l2 x8_2).f3.f1))))) else (zc.j4 kj22 a0 a1 l2 x8_2 false 0 0 ((za l2 x8_2).f0) ((za l2 x8_2).f1) ((za l2 x8_2).f2) ((za l2 x8_2).f3.f0) ((za l2 x8_2).f3.f1))) = some r:=by rw [if_neg (show ¬ (false = true) by decide)] at H;exact H
         clear H
         have H:=H1
         clear H1
         have HC61:=z7.mk H
         clear H
         go_upto_region 16 with (fail)
         go_cut [102] (fun v102 wc=>∃ (kq : Nat) (x102_60 : Bool),v102 = .bool x102_60 ∧ z7 (zc.j4 kq a0 a1 l2 x8_2 x102_60 0 0 ((za l2 x8_2).f0) ((za l2 x8_2).f1) ((za l2 x8_2).f2) ((za l2 x8_2).f3.f0) ((za l2 x8_2).f3.f1) = some r) ∧ z7 (kq ≤ kj22) ∧ z7 (wc.heap[gb101]? = some (.cells #[.int .u64 0,.int .u64 0] 61 (0,0))) ∧ z7 (wc.heap[gb103]? = some (.cells #[.int .i64 ((za l2 x8_2).f0),.int .i64 ((za l2 x8_2).f1),.int .i64 ((za l2 x8_2).f2),.int .u64 ((za l2 x8_2).f3.f0),.int .u64 ((za l2 x8_2).f3.f1)] 114 (0,0))) ∧ z7 (Below w.heap.size w wc))
         case first =>
          have H:=HC61.out
          clear HC61
          by_cases c62 : ((za l2 x8_2).f0) > 2
          rotate_left
          · rw [if_neg c62] at H
            have c62b0 : decide (2 < ((za l2 x8_2).f0)) = false:=decide_eq_false c62
            clear c62
            (first|rw [c62b0]|(simp only [zD,zF];rw [c62b0])|skip)
            have H':=z7.mk H
            clear H
            have hnb74:=NB103_101.out
            have hnc74:=NB101_103.out
            have hcz75_0 : wc.cell? ⟨gb103,0,none⟩ = some (.int .i64 ((za l2 x8_2).f0)):=(zb BK103.out 0).trans rfl
            have hcz75_1 : wc.cell? ⟨gb103,1,none⟩ = some (.int .i64 ((za l2 x8_2).f1)):=(zb BK103.out 1).trans rfl
            have hcz75_2 : wc.cell? ⟨gb103,2,none⟩ = some (.int .i64 ((za l2 x8_2).f2)):=(zb BK103.out 2).trans rfl
            have hcz75_3 : wc.cell? ⟨gb103,3,none⟩ = some (.int .u64 ((za l2 x8_2).f3.f0)):=(zb BK103.out 3).trans rfl
            have hcz75_4 : wc.cell? ⟨gb103,4,none⟩ = some (.int .u64 ((za l2 x8_2).f3.f1)):=(zb BK103.out 4).trans rfl
            have hfz75_0:=z9 BK103.out 0
            have hfz75_1:=z9 BK103.out 1
            have hfz75_2:=z9 BK103.out 2
            have hfz75_3:=z9 BK103.out 3
            have hfz75_4:=z9 BK103.out 4
            go_wp2
            go_meet
            case rel=>exact ⟨_,(false),(by first|rfl|(simp;done)|(simp [*];done)),H',⟨by have:=HJ3.out;have:=HK2.out;have:=HJ12.out;have:=HJ22.out;first|omega|exact Nat.le_refl _⟩,⟨by (with_reducible repeat (first|refine z2 ?_ _|refine z5 ?_|refine z1 ?_ _));exact BK101.out⟩,⟨by (with_reducible repeat (first|refine z2 ?_ _|refine z5 ?_|refine z1 ?_ _));exact BK103.out⟩,⟨by repeat (first|(with_reducible first|exact HB.out|apply z4|apply z0|apply z3|refine z8 ?_ GE101.out|refine z8 ?_ GE103.out)|exact HB.out)⟩⟩
          rw [if_pos c62] at H
          have c62b0 : decide (2 < ((za l2 x8_2).f0)) = true:=decide_eq_true c62
          clear c62
          (first|rw [c62b0]|(simp only [zD,zF];rw [c62b0])|skip)
          by_cases c63 : ((za l2 x8_2).f1) < 0
          · rw [if_pos c63] at H
            have c63b0 : decide (((za l2 x8_2).f1) < 0) = true:=decide_eq_true c63
            clear c63
            have H':=z7.mk H
            clear H
            have hnb64:=NB103_101.out
            have hnc64:=NB101_103.out
            have hcz65_0 : wc.cell? ⟨gb103,0,none⟩ = some (.int .i64 ((za l2 x8_2).f0)):=(zb BK103.out 0).trans rfl
            have hcz65_1 : wc.cell? ⟨gb103,1,none⟩ = some (.int .i64 ((za l2 x8_2).f1)):=(zb BK103.out 1).trans rfl
            have hcz65_2 : wc.cell? ⟨gb103,2,none⟩ = some (.int .i64 ((za l2 x8_2).f2)):=(zb BK103.out 2).trans rfl
            have hcz65_3 : wc.cell? ⟨gb103,3,none⟩ = some (.int .u64 ((za l2 x8_2).f3.f0)):=(zb BK103.out 3).trans rfl
            have hcz65_4 : wc.cell? ⟨gb103,4,none⟩ = some (.int .u64 ((za l2 x8_2).f3.f1)):=(zb BK103.out 4).trans rfl
            have hfz65_0:=z9 BK103.out 0
            have hfz65_1:=z9 BK103.out 1
            have hfz65_2:=z9 BK103.out 2
            have hfz65_3:=z9 BK103.out 3
            have hfz65_4:=z9 BK103.out 4
            go_wp2
            go_meet
            case rel=>exact ⟨_,(true),(by first|rfl|(simp;done)|(simp [*];done)),H',⟨by have:=HJ3.out;have:=HK2.out;have:=HJ12.out;have:=HJ22.out;first|omega|exact Nat.le_refl _⟩,⟨by (with_reducible repeat (first|refine z2 ?_ _|refine z5 ?_|refine z1 ?_ _));exact BK101.out⟩,⟨by (with_reducible repeat (first|refine z2 ?_ _|refine z5 ?_|refine z1 ?_ _));exact BK103.out⟩,⟨by repeat (first|(with_reducible first|exact HB.out|apply z4|apply z0|apply z3|refine z8 ?_ GE101.out|refine z8 ?_ GE103.out)|exact HB.out)⟩⟩
          rw [if_neg c63] at H
          have c63b0 : decide (((za l2 x8_2).f1) < 0) = false:=decide_eq_false c63
          clear c63
          by_cases c66 : ((za l2 x8_2).f1) ≥ x8_2
          · rw [if_pos c66] at H
            have c66b0 : decide (x8_2 ≤ ((za l2 x8_2).f1)) = true:=decide_eq_true c66
            clear c66
            have H':=z7.mk H
            clear H
            have hnb67:=NB103_101.out
            have hnc67:=NB101_103.out
            have hcz68_0 : wc.cell? ⟨gb103,0,none⟩ = some (.int .i64 ((za l2 x8_2).f0)):=(zb BK103.out 0).trans rfl
            have hcz68_1 : wc.cell? ⟨gb103,1,none⟩ = some (.int .i64 ((za l2 x8_2).f1)):=(zb BK103.out 1).trans rfl
            have hcz68_2 : wc.cell? ⟨gb103,2,none⟩ = some (.int .i64 ((za l2 x8_2).f2)):=(zb BK103.out 2).trans rfl
            have hcz68_3 : wc.cell? ⟨gb103,3,none⟩ = some (.int .u64 ((za l2 x8_2).f3.f0)):=(zb BK103.out 3).trans rfl
            have hcz68_4 : wc.cell? ⟨gb103,4,none⟩ = some (.int .u64 ((za l2 x8_2).f3.f1)):=(zb BK103.out 4).trans rfl
            have hfz68_0:=z9 BK103.out 0
            have hfz68_1:=z9 BK103.out 1
            have hfz68_2:=z9 BK103.out 2
            have hfz68_3:=z9 BK103.out 3
            have hfz68_4:=z9 BK103.out 4
            go_wp2
            go_meet
            case rel=>exact ⟨_,(true),(by first|rfl|(simp;done)|(simp [*];done)),H',⟨by have:=HJ3.out;have:=HK2.out;have:=HJ12.out;have:=HJ22.out;first|omega|exact Nat.le_refl _⟩,⟨by (with_reducible repeat (first|refine z2 ?_ _|refine z5 ?_|refine z1 ?_ _));exact BK101.out⟩,⟨by (with_reducible repeat (first|refine z2 ?_ _|refine z5 ?_|refine z1 ?_ _));exact BK103.out⟩,⟨by repeat (first|(with_reducible first|exact HB.out|apply z4|apply z0|apply z3|refine z8 ?_ GE101.out|refine z8 ?_ GE103.out)|exact HB.out)⟩⟩
          rw [if_neg c66] at H
          have c66b0 : decide (x8_2 ≤ ((za l2 x8_2).f1)) = false:=decide_eq_false c66
          clear c66
          by_cases c69 : ((za l2 x8_2).f2) < 0
          rotate_left
          · rw [if_neg c69] at H
            have c69b0 : decide (((za l2 x8_2).f2) < 0) = false:=decide_eq_false c69
            clear c69
            have H':=z7.mk H
            clear H
            have hnb72:=NB103_101.out
            have hnc72:=NB101_103.out
            have hcz73_0 : wc.cell? ⟨gb103,0,none⟩ = some (.int .i64 ((za l2 x8_2).f0)):=(zb BK103.out 0).trans rfl
            have hcz73_1 : wc.cell? ⟨gb103,1,none⟩ = some (.int .i64 ((za l2 x8_2).f1)):=(zb BK103.out 1).trans rfl
            have hcz73_2 : wc.cell? ⟨gb103,2,none⟩ = some (.int .i64 ((za l2 x8_2).f2)):=(zb BK103.out 2).trans rfl
            have hcz73_3 : wc.cell? ⟨gb103,3,none⟩ = some (.int .u64 ((za l2 x8_2).f3.f0)):=(zb BK103.out 3).trans rfl
            have hcz73_4 : wc.cell? ⟨gb103,4,none⟩ = some (.int .u64 ((za l2 x8_2).f3.f1)):=(zb BK103.out 4).trans rfl
            have hfz73_0:=z9 BK103.out 0
            have hfz73_1:=z9 BK103.out 1
            have hfz73_2:=z9 BK103.out 2
            have hfz73_3:=z9 BK103.out 3
            have hfz73_4:=z9 BK103.out 4
            go_wp2
            go_meet
            case rel=>exact ⟨_,(decide (((za l2 x8_2).f2) ≥ x8_2)),(by first|rfl|(simp;done)|(simp [*];done)),H',⟨by have:=HJ3.out;have:=HK2.out;have:=HJ12.out;have:=HJ22.out;first|omega|exact Nat.le_refl _⟩,⟨by (with_reducible repeat (first|refine z2 ?_ _|refine z5 ?_|refine z1 ?_ _));exact BK101.out⟩,⟨by (with_reducible repeat (first|refine z2 ?_ _|refine z5 ?_|refine z1 ?_ _));exact BK103.out⟩,⟨by repeat (first|(with_reducible first|exact HB.out|apply z4|apply z0|apply z3|refine z8 ?_ GE101.out|refine z8 ?_ GE103.out)|exact HB.out)⟩⟩
          rw [if_pos c69] at H
          have c69b0 : decide (((za l2 x8_2).f2) < 0) = true:=decide_eq_true c69
          clear c69
          have H':=z7.mk H
          clear H
          have hnb70:=NB103_101.out
          have hnc70:=NB101_103.out
          have hcz71_0 : wc.cell? ⟨gb103,0,none⟩ = some (.int .i64 ((za l2 x8_2).f0)):=(zb BK103.out 0).trans rfl
          have hcz71_1 : wc.cell? ⟨gb103,1,none⟩ = some (.int .i64 ((za l2 x8_2).f1)):=(zb BK103.out 1).trans rfl
          have hcz71_2 : wc.cell? ⟨gb103,2,none⟩ = some (.int .i64 ((za l2 x8_2).f2)):=(zb BK103.out 2).trans rfl
          have hcz71_3 : wc.cell? ⟨gb103,3,none⟩ = some (.int .u64 ((za l2 x8_2).f3.f0)):=(zb BK103.out 3).trans rfl
          have hcz71_4 : wc.cell? ⟨gb103,4,none⟩ = some (.int .u64 ((za l2 x8_2).f3.f1)):=(zb BK103.out 4).trans rfl
          have hfz71_0:=z9 BK103.out 0
          have hfz71_1:=z9 BK103.out 1
          have hfz71_2:=z9 BK103.out 2
          have hfz71_3:=z9 BK103.out 3
          have hfz71_4:=z9 BK103.out 4
          go_wp2
          go_meet
          case rel=>exact ⟨_,(true),(by first|rfl|(simp;done)|(simp [*];done)),H',⟨by have:=HJ3.out;have:=HK2.out;have:=HJ12.out;have:=HJ22.out;first|omega|exact Nat.le_refl _⟩,⟨by (with_reducible repeat (first|refine z2 ?_ _|refine z5 ?_|refine z1 ?_ _));exact BK101.out⟩,⟨by (with_reducible repeat (first|refine z2 ?_ _|refine z5 ?_|refine z1 ?_ _));exact BK103.out⟩,⟨by repeat (first|(with_reducible first|exact HB.out|apply z4|apply z0|apply z3|refine z8 ?_ GE101.out|refine z8 ?_ GE103.out)|exact HB.out)⟩⟩
         case rest =>
          clear HC61
          (try clear c1);(try clear p1);(try clear q1);(try clear hx1);(try clear c2);(try clear p2);(try clear c3);(try clear c4);(try clear c5);(try clear c6);(try clear c6b0);(try clear c7);(try clear c7b0);(try clear c8);(try clear c9);(try clear c9b0);(try clear c9b1);(try clear c9b2);(try clear c10);(try clear c10b0);(try clear c10b1);(try clear p10);(try clear q10);(try clear hx10);(try clear c11);(try clear c11b0);(try clear c12);(try clear c12b0);(try clear c15);(try clear c17);(try clear c17b0);(try clear c18);(try clear c20);(try clear c22);(try clear c24);(try clear c24b0);(try clear c24b1);(try clear c25);(try clear c25b0);(try clear c25b1);(try clear c26);(try clear c26b0);(try clear c26b1);(try clear c27);(try clear c27b0);(try clear c27b1);(try clear c28);(try clear c28b0);(try clear c29);(try clear c32);(try clear c34);(try clear c34b0);(try clear c35);(try clear c38);(try clear c40);(try clear c42);(try clear c44);(try clear c44b0);(try clear c44b1);(try clear c45);(try clear c45b0);(try clear c45b1);(try clear c46);(try clear c46b0);(try clear c47);(try clear c50);(try clear c52);(try clear c54);(try clear c54b0);(try clear c55);(try clear c58);(try clear c60);(try clear c62);(try clear c62b0);(try clear c63);(try clear c63b0);(try clear c64);(try clear c66);(try clear c66b0);(try clear c67);(try clear c69);(try clear c69b0);(try clear c70);(try clear c72);(try clear c74);(try clear hcz16_0);(try clear hcz16_1);(try clear hcz16_2);(try clear hcz16_3);(try clear hcz16_4);(try clear hcz19_0);(try clear hcz19_1);(try clear hcz19_2);(try clear hcz19_3);(try clear hcz19_4);(try clear hcz21_0);(try clear hcz21_1);(try clear hcz21_2);(try clear hcz21_3);(try clear hcz21_4);(try clear hcz30_0);(try clear hcz30_1);(try clear hcz30_2);(try clear hcz30_3);(try clear hcz30_4);(try clear hcz31_0);(try clear hcz31_1);(try clear hcz33_0);(try clear hcz33_1);(try clear hcz33_2);(try clear hcz33_3);(try clear hcz33_4);(try clear hcz36_0);(try clear hcz36_1);(try clear hcz36_2);(try clear hcz36_3);(try clear hcz36_4);(try clear hcz37_0);(try clear hcz37_1);(try clear hcz39_0);(try clear hcz39_1);(try clear hcz39_2);(try clear hcz39_3);(try clear hcz39_4);(try clear hcz41_0);(try clear hcz41_1);(try clear hcz41_2);(try clear hcz41_3);(try clear hcz41_4);(try clear hcz43_0);(try clear hcz43_1);(try clear hcz43_2);(try clear hcz43_3);(try clear hcz43_4);(try clear hcz48_0);(try clear hcz48_1);(try clear hcz48_2);(try clear hcz48_3);(try clear hcz48_4);(try clear hcz49_0);(try clear hcz49_1);(try clear hcz51_0);(try clear hcz51_1);(try clear hcz51_2);(try clear hcz51_3);(try clear hcz51_4);(try clear hcz53_0);(try clear hcz53_1);(try clear hcz53_2);(try clear hcz53_3);(try clear hcz53_4);(try clear hcz56_0);(try clear hcz56_1);(try clear hcz56_2);(try clear hcz56_3);(try clear hcz56_4);(try clear hcz57_0);(try clear hcz57_1);(try clear hcz59_0);(try clear hcz59_1);(try clear hcz59_2);(try clear hcz59_3);(try clear hcz59_4);(try clear hcz65_0);(try clear hcz65_1);(try clear hcz65_2);(try clear hcz65_3);(try clear hcz65_4);(try clear hcz68_0);(try clear hcz68_1);(try clear hcz68_2);(try clear hcz68_3);(try clear hcz68_4);(try clear hcz71_0);(try clear hcz71_1);(try clear hcz71_2);(try clear hcz71_3);(try clear hcz71_4);(try clear hcz73_0);(try clear hcz73_1);(try clear hcz73_2);(try clear hcz73_3);(try clear hcz73_4);(try clear hcz75_0);(try clear hcz75_1);(try clear hcz75_2);(try clear hcz75_3);(try clear hcz75_4);(try clear hfz16_0);(try clear hfz16_1);(try clear hfz16_2);(try clear hfz16_3);(try clear hfz16_4);(try clear hfz19_0);(try clear hfz19_1);(try clear hfz19_2);(try clear hfz19_3);(try clear hfz19_4);(try clear hfz21_0);(try clear hfz21_1);(try clear hfz21_2);(try clear hfz21_3);(try clear hfz21_4);(try clear hfz30_0);(try clear hfz30_1);(try clear hfz30_2);(try clear hfz30_3);(try clear hfz30_4);(try clear hfz31_0);(try clear hfz31_1);(try clear hfz33_0);(try clear hfz33_1);(try clear hfz33_2);(try clear hfz33_3);(try clear hfz33_4);(try clear hfz36_0);(try clear hfz36_1);(try clear hfz36_2);(try clear hfz36_3);(try clear hfz36_4);(try clear hfz37_0);(try clear hfz37_1);(try clear hfz39_0);(try clear hfz39_1);(try clear hfz39_2);(try clear hfz39_3);(try clear hfz39_4);(try clear hfz41_0);(try clear hfz41_1);(try clear hfz41_2);(try clear hfz41_3);(try clear hfz41_4);(try clear hfz43_0);(try clear hfz43_1);(try clear hfz43_2);(try clear hfz43_3);(try clear hfz43_4);(try clear hfz48_0);(try clear hfz48_1);(try clear hfz48_2);(try clear hfz48_3);(try clear hfz48_4);(try clear hfz49_0);(try clear hfz49_1);(try clear hfz51_0);(try clear hfz51_1);(try clear hfz51_2);(try clear hfz51_3);(try clear hfz51_4);(try clear hfz53_0);(try clear hfz53_1);(try clear hfz53_2);(try clear hfz53_3);(try clear hfz53_4);(try clear hfz56_0);(try clear hfz56_1);(try clear hfz56_2);(try clear hfz56_3);(try clear hfz56_4);(try clear hfz57_0);(try clear hfz57_1);(try clear hfz59_0);(try clear hfz59_1);(try clear hfz59_2);(try clear hfz59_3);(try clear hfz59_4);(try clear hfz65_0);(try clear hfz65_1);(try clear hfz65_2);(try clear hfz65_3);(try clear hfz65_4);(try clear hfz68_0);(try clear hfz68_1);(try clear hfz68_2);(try clear hfz68_3);(try clear hfz68_4);(try clear hfz71_0);(try clear hfz71_1);(try clear hfz71_2);(try clear hfz71_3);(try clear hfz71_4);(try clear hfz73_0);(try clear hfz73_1);(try clear hfz73_2);(try clear hfz73_3);(try clear hfz73_4);(try clear hfz75_0);(try clear hfz75_1);(try clear hfz75_2);(try clear hfz75_3);(try clear hfz75_4);(try clear hx102_0);(try clear hx102_1);(try clear hx102_2);(try clear hx102_3);(try clear hx102_4);(try clear p1);(try clear p10);(try clear p102);(try clear p2);(try clear q1);(try clear q10);(try clear q102)
          obtain ⟨kq,x102_60,rfl,HA,HJ60,BK101,BK103,HB⟩:=hcut
          cases kq with
          | zero=>exact absurd HA.out (by simp [zc.j4])
          | succ kj60 =>
           have H:=HA.out
           clear HA
           simp only [zc.j4] at H
           by_cases c76 : x102_60 = true
           · subst c76
             have H1 : (some 3) = some r:=by rw [if_pos rfl] at H;exact H
             clear H
             have H:=H1
             clear H1
             obtain rfl:=Option.some.inj H
             go_wp2
             go_ret
             exact ⟨by first|rfl|(simp [zl,zm] <;> rfl)|(simp [*,zl,zm] <;> rfl),by repeat (first|(with_reducible first|exact HB.out|apply z4|apply z0|apply z3|refine z8 ?_ GE101.out|refine z8 ?_ GE103.out)|exact HB.out)⟩
           replace c76:=Bool.eq_false_iff.mpr c76
           subst c76
           have H1 : (if ((za l2 x8_2).f0) = 1 then ((zo.f kj60 a0 ((za l2 x8_2).f3.f0) ((za l2 x8_2).f3.f1)).bind fun t104=>(zc.j5 kj60 a0 a1 l2 x8_2 (!t104) 0 0 ((za l2 x8_2).f0) ((za l2 x8_2).f1) ((za l2 x8_2).f2) ((za l2 x8_2).f3.f0) ((za l2 x8_2).f3.f1))) else (zc.j5 kj60 a0 a1 l2 x8_2 false 0 0 ((za l2 x8_2).f0) ((za l2 x8_2).f1) ((za l2 x8_2).f2) ((za l2 x8_2).f3.f0) ((za l2 x8_2).f3.f1))) = some r:=by rw [if_neg (show ¬ (false = true) by decide)] at H;exact H
           clear H
           have H:=H1
           clear H1
           have HC77:=z7.mk H
           clear H
           go_upto_region 18 with (fail)
           go_cut [112] (fun v112 wc=>∃ (kq : Nat) (x112_76 : Bool),v112 = .bool x112_76 ∧ z7 (zc.j5 kq a0 a1 l2 x8_2 x112_76 0 0 ((za l2 x8_2).f0) ((za l2 x8_2).f1) ((za l2 x8_2).f2) ((za l2 x8_2).f3.f0) ((za l2 x8_2).f3.f1) = some r) ∧ z7 (kq ≤ kj60) ∧ z7 (wc.heap[gb101]? = some (.cells #[.int .u64 0,.int .u64 0] 61 (0,0))) ∧ z7 (wc.heap[gb103]? = some (.cells #[.int .i64 ((za l2 x8_2).f0),.int .i64 ((za l2 x8_2).f1),.int .i64 ((za l2 x8_2).f2),.int .u64 ((za l2 x8_2).f3.f0),.int .u64 ((za l2 x8_2).f3.f1)] 114 (0,0))) ∧ z7 (Below w.heap.size w wc))
           case first =>
            have H:=HC77.out
            clear HC77
            by_cases c78 : ((za l2 x8_2).f0) = 1
            rotate_left
            · rw [if_neg c78] at H
              have c78b0 : (((za l2 x8_2).f0) == 1) = false:=beq_eq_false_iff_ne.mpr c78
              have c78b1 : (((za l2 x8_2).f0) != 1) = true:=bne_iff_ne.mpr c78
              (first|rw [c78b0]|(simp only [zD,zF];rw [c78b0])|skip)
              have H':=z7.mk H
              clear H
              have hnb83:=NB103_101.out
              have hnc83:=NB101_103.out
              have hcz84_0 : wc.cell? ⟨gb103,0,none⟩ = some (.int .i64 ((za l2 x8_2).f0)):=(zb BK103.out 0).trans rfl
              have hcz84_1 : wc.cell? ⟨gb103,1,none⟩ = some (.int .i64 ((za l2 x8_2).f1)):=(zb BK103.out 1).trans rfl
              have hcz84_2 : wc.cell? ⟨gb103,2,none⟩ = some (.int .i64 ((za l2 x8_2).f2)):=(zb BK103.out 2).trans rfl
              have hcz84_3 : wc.cell? ⟨gb103,3,none⟩ = some (.int .u64 ((za l2 x8_2).f3.f0)):=(zb BK103.out 3).trans rfl
              have hcz84_4 : wc.cell? ⟨gb103,4,none⟩ = some (.int .u64 ((za l2 x8_2).f3.f1)):=(zb BK103.out 4).trans rfl
              have hfz84_0:=z9 BK103.out 0
              have hfz84_1:=z9 BK103.out 1
              have hfz84_2:=z9 BK103.out 2
              have hfz84_3:=z9 BK103.out 3
              have hfz84_4:=z9 BK103.out 4
              go_wp2
              go_meet
              case rel=>exact ⟨_,(false),(by first|rfl|(simp;done)|(simp [*];done)),H',⟨by have:=HJ3.out;have:=HK2.out;have:=HJ12.out;have:=HJ22.out;have:=HJ60.out;first|omega|exact Nat.le_refl _⟩,⟨by (with_reducible repeat (first|refine z2 ?_ _|refine z5 ?_|refine z1 ?_ _));exact BK101.out⟩,⟨by (with_reducible repeat (first|refine z2 ?_ _|refine z5 ?_|refine z1 ?_ _));exact BK103.out⟩,⟨by repeat (first|(with_reducible first|exact HB.out|apply z4|apply z0|apply z3|refine z8 ?_ GE101.out|refine z8 ?_ GE103.out)|exact HB.out)⟩⟩
            rw [if_pos c78] at H
            have c78b0 : (((za l2 x8_2).f0) == 1) = true:=beq_iff_eq.mpr c78
            have c78b1 : (((za l2 x8_2).f0) != 1) = false:=bne_eq_false_iff_eq.mpr c78
            clear c78
            (first|rw [c78b0]|(simp only [zD,zF];rw [c78b0])|skip)
            replace H:=Option.bind_eq_some_iff.mp H
            obtain ⟨t104,A790,H⟩:=H
            replace H : (zc.j5 kj60 a0 a1 l2 x8_2 (!t104) 0 0 ((za l2 x8_2).f0) ((za l2 x8_2).f1) ((za l2 x8_2).f2) ((za l2 x8_2).f3.f0) ((za l2 x8_2).f3.f1)) = some r:=H
            have A79:=z7.mk A790
            clear A790
            have H':=z7.mk H
            clear H
            have hnb80:=NB103_101.out
            have hnc80:=NB101_103.out
            have hcz81_0 : wc.cell? ⟨gb103,0,none⟩ = some (.int .i64 ((za l2 x8_2).f0)):=(zb BK103.out 0).trans rfl
            have hcz81_1 : wc.cell? ⟨gb103,1,none⟩ = some (.int .i64 ((za l2 x8_2).f1)):=(zb BK103.out 1).trans rfl
            have hcz81_2 : wc.cell? ⟨gb103,2,none⟩ = some (.int .i64 ((za l2 x8_2).f2)):=(zb BK103.out 2).trans rfl
            have hcz81_3 : wc.cell? ⟨gb103,3,none⟩ = some (.int .u64 ((za l2 x8_2).f3.f0)):=(zb BK103.out 3).trans rfl
            have hcz81_4 : wc.cell? ⟨gb103,4,none⟩ = some (.int .u64 ((za l2 x8_2).f3.f1)):=(zb BK103.out 4).trans rfl
            have hfz81_0:=z9 BK103.out 0
            have hfz81_1:=z9 BK103.out 1
            have hfz81_2:=z9 BK103.out 2
            have hfz81_3:=z9 BK103.out 3
            have hfz81_4:=z9 BK103.out 4
            go_wp2_with (first|(go_at_call 39;(with_reducible refine (zo.calls kj60 a0 ((za l2 x8_2).f3.f0) ((za l2 x8_2).f3.f1) t104 _ A79.out).mono ?_);rintro e w82 ⟨rfl,hb⟩;have n0_:=z7.mk (zj (g:=gb101) (o:=.cells #[.int .u64 0,.int .u64 0] 61 (0,0)) (by (with_reducible repeat (first|refine z2 ?_ _|refine z5 ?_|refine z1 ?_ _));exact BK101.out) hb);have n1_:=z7.mk (zj (g:=gb103) (o:=.cells #[.int .i64 ((za l2 x8_2).f0),.int .i64 ((za l2 x8_2).f1),.int .i64 ((za l2 x8_2).f2),.int .u64 ((za l2 x8_2).f3.f0),.int .u64 ((za l2 x8_2).f3.f1)] 114 (0,0)) (by (with_reducible repeat (first|refine z2 ?_ _|refine z5 ?_|refine z1 ?_ _));exact BK103.out) hb);have n2_:=z7.mk (zi (by repeat (first|(with_reducible first|exact HB.out|apply z4|apply z0|apply z3|refine z8 ?_ GE101.out|refine z8 ?_ GE103.out)|exact HB.out)) hb);clear BK101;clear BK103;clear HB;have BK101:=n0_;have BK103:=n1_;have HB:=n2_;clear n0_ n1_ n2_;(try clear hb);(try clear hb2);(try clear hk);(try clear hi)))
            go_meet
            case rel=>exact ⟨_,(!t104),(by first|rfl|(simp;done)|(simp [*];done)),H',⟨by have:=HJ3.out;have:=HK2.out;have:=HJ12.out;have:=HJ22.out;have:=HJ60.out;first|omega|exact Nat.le_refl _⟩,⟨by (with_reducible repeat (first|refine z2 ?_ _|refine z5 ?_|refine z1 ?_ _));exact BK101.out⟩,⟨by (with_reducible repeat (first|refine z2 ?_ _|refine z5 ?_|refine z1 ?_ _));exact BK103.out⟩,⟨by repeat (first|(with_reducible first|exact HB.out|apply z4|apply z0|apply z3|refine z8 ?_ GE101.out|refine z8 ?_ GE103.out)|exact HB.out)⟩⟩
           case rest =>
            clear HC77
            (try clear c1);(try clear p1);(try clear q1);(try clear hx1);(try clear c2);(try clear p2);(try clear c3);(try clear c4);(try clear c5);(try clear c6);(try clear c6b0);(try clear c7);(try clear c7b0);(try clear c8);(try clear c9);(try clear c9b0);(try clear c9b1);(try clear c9b2);(try clear c10);(try clear c10b0);(try clear c10b1);(try clear p10);(try clear q10);(try clear hx10);(try clear c11);(try clear c11b0);(try clear c12);(try clear c12b0);(try clear c15);(try clear c17);(try clear c17b0);(try clear c18);(try clear c20);(try clear c22);(try clear c24);(try clear c24b0);(try clear c24b1);(try clear c25);(try clear c25b0);(try clear c25b1);(try clear c26);(try clear c26b0);(try clear c26b1);(try clear c27);(try clear c27b0);(try clear c27b1);(try clear c28);(try clear c28b0);(try clear c29);(try clear c32);(try clear c34);(try clear c34b0);(try clear c35);(try clear c38);(try clear c40);(try clear c42);(try clear c44);(try clear c44b0);(try clear c44b1);(try clear c45);(try clear c45b0);(try clear c45b1);(try clear c46);(try clear c46b0);(try clear c47);(try clear c50);(try clear c52);(try clear c54);(try clear c54b0);(try clear c55);(try clear c58);(try clear c60);(try clear c62);(try clear c62b0);(try clear c63);(try clear c63b0);(try clear c64);(try clear c66);(try clear c66b0);(try clear c67);(try clear c69);(try clear c69b0);(try clear c70);(try clear c72);(try clear c74);(try clear c76);(try clear c78);(try clear c78b0);(try clear c78b1);(try clear c80);(try clear c83);(try clear hcz16_0);(try clear hcz16_1);(try clear hcz16_2);(try clear hcz16_3);(try clear hcz16_4);(try clear hcz19_0);(try clear hcz19_1);(try clear hcz19_2);(try clear hcz19_3);(try clear hcz19_4);(try clear hcz21_0);(try clear hcz21_1);(try clear hcz21_2);(try clear hcz21_3);(try clear hcz21_4);(try clear hcz30_0);(try clear hcz30_1);(try clear hcz30_2);(try clear hcz30_3);(try clear hcz30_4);(try clear hcz31_0);(try clear hcz31_1);(try clear hcz33_0);(try clear hcz33_1);(try clear hcz33_2);(try clear hcz33_3);(try clear hcz33_4);(try clear hcz36_0);(try clear hcz36_1);(try clear hcz36_2);(try clear hcz36_3);(try clear hcz36_4);(try clear hcz37_0);(try clear hcz37_1);(try clear hcz39_0);(try clear hcz39_1);(try clear hcz39_2);(try clear hcz39_3);(try clear hcz39_4);(try clear hcz41_0);(try clear hcz41_1);(try clear hcz41_2);(try clear hcz41_3);(try clear hcz41_4);(try clear hcz43_0);(try clear hcz43_1);(try clear hcz43_2);(try clear hcz43_3);(try clear hcz43_4);(try clear hcz48_0);(try clear hcz48_1);(try clear hcz48_2);(try clear hcz48_3);(try clear hcz48_4);(try clear hcz49_0);(try clear hcz49_1);(try clear hcz51_0);(try clear hcz51_1);(try clear hcz51_2);(try clear hcz51_3);(try clear hcz51_4);(try clear hcz53_0);(try clear hcz53_1);(try clear hcz53_2);(try clear hcz53_3);(try clear hcz53_4);(try clear hcz56_0);(try clear hcz56_1);(try clear hcz56_2);(try clear hcz56_3);(try clear hcz56_4);(try clear hcz57_0);(try clear hcz57_1);(try clear hcz59_0);(try clear hcz59_1);(try clear hcz59_2);(try clear hcz59_3);(try clear hcz59_4);(try clear hcz65_0);(try clear hcz65_1);(try clear hcz65_2);(try clear hcz65_3);(try clear hcz65_4);(try clear hcz68_0);(try clear hcz68_1);(try clear hcz68_2);(try clear hcz68_3);(try clear hcz68_4);(try clear hcz71_0);(try clear hcz71_1);(try clear hcz71_2);(try clear hcz71_3);(try clear hcz71_4);(try clear hcz73_0);(try clear hcz73_1);(try clear hcz73_2);(try clear hcz73_3);(try clear hcz73_4);(try clear hcz75_0);(try clear hcz75_1);(try clear hcz75_2);(try clear hcz75_3);(try clear hcz75_4);(try clear hcz81_0);(try clear hcz81_1);(try clear hcz81_2);(try clear hcz81_3);(try clear hcz81_4);(try clear hcz84_0);(try clear hcz84_1);(try clear hcz84_2);(try clear hcz84_3);(try clear hcz84_4);(try clear hfz16_0);(try clear hfz16_1);(try clear hfz16_2);(try clear hfz16_3);(try clear hfz16_4);(try clear hfz19_0);(try clear hfz19_1);(try clear hfz19_2);(try clear hfz19_3);(try clear hfz19_4);(try clear hfz21_0);(try clear hfz21_1);(try clear hfz21_2);(try clear hfz21_3);(try clear hfz21_4);(try clear hfz30_0);(try clear hfz30_1);(try clear hfz30_2);(try clear hfz30_3);(try clear hfz30_4);(try clear hfz31_0);(try clear hfz31_1);(try clear hfz33_0);(try clear hfz33_1);(try clear hfz33_2);(try clear hfz33_3);(try clear hfz33_4);(try clear hfz36_0);(try clear hfz36_1);(try clear hfz36_2);(try clear hfz36_3);(try clear hfz36_4);(try clear hfz37_0);(try clear hfz37_1);(try clear hfz39_0);(try clear hfz39_1);(try clear hfz39_2);(try clear hfz39_3);(try clear hfz39_4);(try clear hfz41_0);(try clear hfz41_1);(try clear hfz41_2);(try clear hfz41_3);(try clear hfz41_4);(try clear hfz43_0);(try clear hfz43_1);(try clear hfz43_2);(try clear hfz43_3);(try clear hfz43_4);(try clear hfz48_0);(try clear hfz48_1);(try clear hfz48_2);(try clear hfz48_3);(try clear hfz48_4);(try clear hfz49_0);(try clear hfz49_1);(try clear hfz51_0);(try clear hfz51_1);(try clear hfz51_2);(try clear hfz51_3);(try clear hfz51_4);(try clear hfz53_0);(try clear hfz53_1);(try clear hfz53_2);(try clear hfz53_3);(try clear hfz53_4);(try clear hfz56_0);(try clear hfz56_1);(try clear hfz56_2);(try clear hfz56_3);(try clear hfz56_4);(try clear hfz57_0);(try clear hfz57_1);(try clear hfz59_0);(try clear hfz59_1);(try clear hfz59_2);(try clear hfz59_3);(try clear hfz59_4);(try clear hfz65_0);(try clear hfz65_1);(try clear hfz65_2);(try clear hfz65_3);(try clear hfz65_4);(try clear hfz68_0);(try clear hfz68_1);(try clear hfz68_2);(try clear hfz68_3);(try clear hfz68_4);(try clear hfz71_0);(try clear hfz71_1);(try clear hfz71_2);(try clear hfz71_3);(try clear hfz71_4);(try clear hfz73_0);(try clear hfz73_1);(try clear hfz73_2);(try clear hfz73_3);(try clear hfz73_4);(try clear hfz75_0);(try clear hfz75_1);(try clear hfz75_2);(try clear hfz75_3);(try clear hfz75_4);(try clear hfz81_0);(try clear hfz81_1);(try clear hfz81_2);(try clear hfz81_3);(try clear hfz81_4);(try clear hfz84_0);(try clear hfz84_1);(try clear hfz84_2);(try clear hfz84_3);(try clear hfz84_4);(try clear hx102_0);(try clear hx102_1);(try clear hx102_2);(try clear hx102_3);(try clear hx102_4);(try clear p1);(try clear p10);(try clear p102);(try clear p2);(try clear q1);(try clear q10);(try clear q102)
            obtain ⟨kq,x112_76,rfl,HA,HJ76,BK101,BK103,HB⟩:=hcut
            cases kq with
            | zero=>exact absurd HA.out (by simp [zc.j5])
            | succ kj76 =>
             have H:=HA.out
             clear HA
             simp only [zc.j5] at H
             by_cases c85 : x112_76 = true
             · subst c85
               have H1 : (some 5) = some r:=by rw [if_pos rfl] at H;exact H
               clear H
               have H:=H1
               clear H1
               obtain rfl:=Option.some.inj H
               go_wp2
               go_ret
               exact ⟨by first|rfl|(simp [zl,zm] <;> rfl)|(simp [*,zl,zm] <;> rfl),by repeat (first|(with_reducible first|exact HB.out|apply z4|apply z0|apply z3|refine z8 ?_ GE101.out|refine z8 ?_ GE103.out)|exact HB.out)⟩
             replace c85:=Bool.eq_false_iff.mpr c85
             subst c85
             have H1 : (if ((za l2 x8_2).f0) = 2 then (if ((za l2 x8_2).f1) < 0 then (zc.j6 kj76 a0 a1 l2 x8_2 true 0 0) else (zc.j6 kj76 a0 a1 l2 x8_2 (decide (((za l2 x8_2).f1) ≥ a1)) 0 0)) else (zc.j6 kj76 a0 a1 l2 x8_2 false 0 0)) = some r:=by rw [if_neg (show ¬ (false = true) by decide)] at H;exact H
             clear H
             have H:=H1
             clear H1
             have HC86:=z7.mk H
             clear H
             go_upto_region 20 with (fail)
             go_cut [126] (fun v126 wc=>∃ (kq : Nat) (x126_85 : Bool),v126 = .bool x126_85 ∧ z7 (zc.j6 kq a0 a1 l2 x8_2 x126_85 0 0 = some r) ∧ z7 (kq ≤ kj76) ∧ z7 (wc.heap[gb101]? = some (.cells #[.int .u64 0,.int .u64 0] 61 (0,0))) ∧ z7 (wc.heap[gb103]? = some (.cells #[.int .i64 ((za l2 x8_2).f0),.int .i64 ((za l2 x8_2).f1),.int .i64 ((za l2 x8_2).f2),.int .u64 ((za l2 x8_2).f3.f0),.int .u64 ((za l2 x8_2).f3.f1)] 114 (0,0))) ∧ z7 (Below w.heap.size w wc))
             case first =>
              have H:=HC86.out
              clear HC86
              by_cases c87 : ((za l2 x8_2).f0) = 2
              rotate_left
              · rw [if_neg c87] at H
                have c87b0 : (((za l2 x8_2).f0) == 2) = false:=beq_eq_false_iff_ne.mpr c87
                have c87b1 : (((za l2 x8_2).f0) != 2) = true:=bne_iff_ne.mpr c87
                (first|rw [c87b0]|(simp only [zD,zF];rw [c87b0])|skip)
                have H':=z7.mk H
                clear H
                have hnb93:=NB103_101.out
                have hnc93:=NB101_103.out
                have hcz94_0 : wc.cell? ⟨gb103,0,none⟩ = some (.int .i64 ((za l2 x8_2).f0)):=(zb BK103.out 0).trans rfl
                have hcz94_1 : wc.cell? ⟨gb103,1,none⟩ = some (.int .i64 ((za l2 x8_2).f1)):=(zb BK103.out 1).trans rfl
                have hcz94_2 : wc.cell? ⟨gb103,2,none⟩ = some (.int .i64 ((za l2 x8_2).f2)):=(zb BK103.out 2).trans rfl
                have hcz94_3 : wc.cell? ⟨gb103,3,none⟩ = some (.int .u64 ((za l2 x8_2).f3.f0)):=(zb BK103.out 3).trans rfl
                have hcz94_4 : wc.cell? ⟨gb103,4,none⟩ = some (.int .u64 ((za l2 x8_2).f3.f1)):=(zb BK103.out 4).trans rfl
                have hfz94_0:=z9 BK103.out 0
                have hfz94_1:=z9 BK103.out 1
                have hfz94_2:=z9 BK103.out 2
                have hfz94_3:=z9 BK103.out 3
                have hfz94_4:=z9 BK103.out 4
                go_wp2
                go_meet
                case rel=>exact ⟨_,(false),(by first|rfl|(simp;done)|(simp [*];done)),H',⟨by have:=HJ3.out;have:=HK2.out;have:=HJ12.out;have:=HJ22.out;have:=HJ60.out;have:=HJ76.out;first|omega|exact Nat.le_refl _⟩,⟨by (with_reducible repeat (first|refine z2 ?_ _|refine z5 ?_|refine z1 ?_ _));exact BK101.out⟩,⟨by (with_reducible repeat (first|refine z2 ?_ _|refine z5 ?_|refine z1 ?_ _));exact BK103.out⟩,⟨by repeat (first|(with_reducible first|exact HB.out|apply z4|apply z0|apply z3|refine z8 ?_ GE101.out|refine z8 ?_ GE103.out)|exact HB.out)⟩⟩
              rw [if_pos c87] at H
              have c87b0 : (((za l2 x8_2).f0) == 2) = true:=beq_iff_eq.mpr c87
              have c87b1 : (((za l2 x8_2).f0) != 2) = false:=bne_eq_false_iff_eq.mpr c87
              clear c87
              (first|rw [c87b0]|(simp only [zD,zF];rw [c87b0])|skip)
              by_cases c88 : ((za l2 x8_2).f1) < 0
              rotate_left
              · rw [if_neg c88] at H
                have c88b0 : decide (((za l2 x8_2).f1) < 0) = false:=decide_eq_false c88
                clear c88
                have H':=z7.mk H
                clear H
                have hnb91:=NB103_101.out
                have hnc91:=NB101_103.out
                have hcz92_0 : wc.cell? ⟨gb103,0,none⟩ = some (.int .i64 ((za l2 x8_2).f0)):=(zb BK103.out 0).trans rfl
                have hcz92_1 : wc.cell? ⟨gb103,1,none⟩ = some (.int .i64 ((za l2 x8_2).f1)):=(zb BK103.out 1).trans rfl
                have hcz92_2 : wc.cell? ⟨gb103,2,none⟩ = some (.int .i64 ((za l2 x8_2).f2)):=(zb BK103.out 2).trans rfl
                have hcz92_3 : wc.cell? ⟨gb103,3,none⟩ = some (.int .u64 ((za l2 x8_2).f3.f0)):=(zb BK103.out 3).trans rfl
                have hcz92_4 : wc.cell? ⟨gb103,4,none⟩ = some (.int .u64 ((za l2 x8_2).f3.f1)):=(zb BK103.out 4).trans rfl
                have hfz92_0:=z9 BK103.out 0
                have hfz92_1:=z9 BK103.out 1
                have hfz92_2:=z9 BK103.out 2
                have hfz92_3:=z9 BK103.out 3
                have hfz92_4:=z9 BK103.out 4
                go_wp2
                go_meet
                case rel=>exact ⟨_,(decide (((za l2 x8_2).f1) ≥ a1)),(by first|rfl|(simp;done)|(simp [*];done)),H',⟨by have:=HJ3.out;have:=HK2.out;have:=HJ12.out;have:=HJ22.out;have:=HJ60.out;have:=HJ76.out;first|omega|exact Nat.le_refl _⟩,⟨by (with_reducible repeat (first|refine z2 ?_ _|refine z5 ?_|refine z1 ?_ _));exact BK101.out⟩,⟨by (with_reducible repeat (first|refine z2 ?_ _|refine z5 ?_|refine z1 ?_ _));exact BK103.out⟩,⟨by repeat (first|(with_reducible first|exact HB.out|apply z4|apply z0|apply z3|refine z8 ?_ GE101.out|refine z8 ?_ GE103.out)|exact HB.out)⟩⟩
              rw [if_pos c88] at H
              have c88b0 : decide (((za l2 x8_2).f1) < 0) = true:=decide_eq_true c88
              clear c88
              have H':=z7.mk H
              clear H
              have hnb89:=NB103_101.out
              have hnc89:=NB101_103.out
              have hcz90_0 : wc.cell? ⟨gb103,0,none⟩ = some (.int .i64 ((za l2 x8_2).f0)):=(zb BK103.out 0).trans rfl
              have hcz90_1 : wc.cell? ⟨gb103,1,none⟩ = some (.int .i64 ((za l2 x8_2).f1)):=(zb BK103.out 1).trans rfl
              have hcz90_2 : wc.cell? ⟨gb103,2,none⟩ = some (.int .i64 ((za l2 x8_2).f2)):=(zb BK103.out 2).trans rfl
              have hcz90_3 : wc.cell? ⟨gb103,3,none⟩ = some (.int .u64 ((za l2 x8_2).f3.f0)):=(zb BK103.out 3).trans rfl
              have hcz90_4 : wc.cell? ⟨gb103,4,none⟩ = some (.int .u64 ((za l2 x8_2).f3.f1)):=(zb BK103.out 4).trans rfl
              have hfz90_0:=z9 BK103.out 0
              have hfz90_1:=z9 BK103.out 1
              have hfz90_2:=z9 BK103.out 2
              have hfz90_3:=z9 BK103.out 3
              have hfz90_4:=z9 BK103.out 4
              go_wp2
              go_meet
              case rel=>exact ⟨_,(true),(by first|rfl|(simp;done)|(simp [*];done)),H',⟨by have:=HJ3.out;have:=HK2.out;have:=HJ12.out;have:=HJ22.out;have:=HJ60.out;have:=HJ76.out;first|omega|exact Nat.le_refl _⟩,⟨by (with_reducible repeat (first|refine z2 ?_ _|refine z5 ?_|refine z1 ?_ _));exact BK101.out⟩,⟨by (with_reducible repeat (first|refine z2 ?_ _|refine z5 ?_|refine z1 ?_ _));exact BK103.out⟩,⟨by repeat (first|(with_reducible first|exact HB.out|apply z4|apply z0|apply z3|refine z8 ?_ GE101.out|refine z8 ?_ GE103.out)|exact HB.out)⟩⟩
             case rest =>
              clear HC86
              (try clear c1);(try clear p1);(try clear q1);(try clear hx1);(try clear c2);(try clear p2);(try clear c3);(try clear c4);(try clear c5);(try clear c6);(try clear c6b0);(try clear c7);(try clear c7b0);(try clear c8);(try clear c9);(try clear c9b0);(try clear c9b1);(try clear c9b2);(try clear c10);(try clear c10b0);(try clear c10b1);(try clear p10);(try clear q10);(try clear hx10);(try clear c11);(try clear c11b0);(try clear c12);(try clear c12b0);(try clear c15);(try clear c17);(try clear c17b0);(try clear c18);(try clear c20);(try clear c22);(try clear c24);(try clear c24b0);(try clear c24b1);(try clear c25);(try clear c25b0);(try clear c25b1);(try clear c26);(try clear c26b0);(try clear c26b1);(try clear c27);(try clear c27b0);(try clear c27b1);(try clear c28);(try clear c28b0);(try clear c29);(try clear c32);(try clear c34);(try clear c34b0);(try clear c35);(try clear c38);(try clear c40);(try clear c42);(try clear c44);(try clear c44b0);(try clear c44b1);(try clear c45);(try clear c45b0);(try clear c45b1);(try clear c46);(try clear c46b0);(try clear c47);(try clear c50);(try clear c52);(try clear c54);(try clear c54b0);(try clear c55);(try clear c58);(try clear c60);(try clear c62);(try clear c62b0);(try clear c63);(try clear c63b0);(try clear c64);(try clear c66);(try clear c66b0);(try clear c67);(try clear c69);(try clear c69b0);(try clear c70);(try clear c72);(try clear c74);(try clear c76);(try clear c78);(try clear c78b0);(try clear c78b1);(try clear c80);(try clear c83);(try clear c85);(try clear c87);(try clear c87b0);(try clear c87b1);(try clear c88);(try clear c88b0);(try clear c89);(try clear c91);(try clear c93);(try clear hcz16_0);(try clear hcz16_1);(try clear hcz16_2);(try clear hcz16_3);(try clear hcz16_4);(try clear hcz19_0);(try clear hcz19_1);(try clear hcz19_2);(try clear hcz19_3);(try clear hcz19_4);(try clear hcz21_0);(try clear hcz21_1);(try clear hcz21_2);(try clear hcz21_3);(try clear hcz21_4);(try clear hcz30_0);(try clear hcz30_1);(try clear hcz30_2);(try clear hcz30_3);(try clear hcz30_4);(try clear hcz31_0);(try clear hcz31_1);(try clear hcz33_0);(try clear hcz33_1);(try clear hcz33_2);(try clear hcz33_3);(try clear hcz33_4);(try clear hcz36_0);(try clear hcz36_1);(try clear hcz36_2);(try clear hcz36_3);(try clear hcz36_4);(try clear hcz37_0);(try clear hcz37_1);(try clear hcz39_0);(try clear hcz39_1);(try clear hcz39_2);(try clear hcz39_3);(try clear hcz39_4);(try clear hcz41_0);(try clear hcz41_1);(try clear hcz41_2);(try clear hcz41_3);(try clear hcz41_4);(try clear hcz43_0);(try clear hcz43_1);(try clear hcz43_2);(try clear hcz43_3);(try clear hcz43_4);(try clear hcz48_0);(try clear hcz48_1);(try clear hcz48_2);(try clear hcz48_3);(try clear hcz48_4);(try clear hcz49_0);(try clear hcz49_1);(try clear hcz51_0);(try clear hcz51_1);(try clear hcz51_2);(try clear hcz51_3);(try clear hcz51_4);(try clear hcz53_0);(try clear hcz53_1);(try clear hcz53_2);(try clear hcz53_3);(try clear hcz53_4);(try clear hcz56_0);(try clear hcz56_1);(try clear hcz56_2);(try clear hcz56_3);(try clear hcz56_4);(try clear hcz57_0);(try clear hcz57_1);(try clear hcz59_0);(try clear hcz59_1);(try clear hcz59_2);(try clear hcz59_3);(try clear hcz59_4);(try clear hcz65_0);(try clear hcz65_1);(try clear hcz65_2);(try clear hcz65_3);(try clear hcz65_4);(try clear hcz68_0);(try clear hcz68_1);(try clear hcz68_2);(try clear hcz68_3);(try clear hcz68_4);(try clear hcz71_0);(try clear hcz71_1);(try clear hcz71_2);(try clear hcz71_3);(try clear hcz71_4);(try clear hcz73_0);(try clear hcz73_1);(try clear hcz73_2);(try clear hcz73_3);(try clear hcz73_4);(try clear hcz75_0);(try clear hcz75_1);(try clear hcz75_2);(try clear hcz75_3);(try clear hcz75_4);(try clear hcz81_0);(try clear hcz81_1);(try clear hcz81_2);(try clear hcz81_3);(try clear hcz81_4);(try clear hcz84_0);(try clear hcz84_1);(try clear hcz84_2);(try clear hcz84_3);(try clear hcz84_4);(try clear hcz90_0);(try clear hcz90_1);(try clear hcz90_2);(try clear hcz90_3);(try clear hcz90_4);(try clear hcz92_0);(try clear hcz92_1);(try clear hcz92_2);(try clear hcz92_3);(try clear hcz92_4);(try clear hcz94_0);(try clear hcz94_1);(try clear hcz94_2);(try clear hcz94_3);(try clear hcz94_4);(try clear hfz16_0);(try clear hfz16_1);(try clear hfz16_2);(try clear hfz16_3);(try clear hfz16_4);(try clear hfz19_0);(try clear hfz19_1);(try clear hfz19_2);(try clear hfz19_3);(try clear hfz19_4);(try clear hfz21_0);(try clear hfz21_1);(try clear hfz21_2);(try clear hfz21_3);(try clear hfz21_4);(try clear hfz30_0);(try clear hfz30_1);(try clear hfz30_2);(try clear hfz30_3);(try clear hfz30_4);(try clear hfz31_0);(try clear hfz31_1);(try clear hfz33_0);(try clear hfz33_1);(try clear hfz33_2);(try clear hfz33_3);(try clear hfz33_4);(try clear hfz36_0);(try clear hfz36_1);(try clear hfz36_2);(try clear hfz36_3);(try clear hfz36_4);(try clear hfz37_0);(try clear hfz37_1);(try clear hfz39_0);(try clear hfz39_1);(try clear hfz39_2);(try clear hfz39_3);(try clear hfz39_4);(try clear hfz41_0);(try clear hfz41_1);(try clear hfz41_2);(try clear hfz41_3);(try clear hfz41_4);(try clear hfz43_0);(try clear hfz43_1);(try clear hfz43_2);(try clear hfz43_3);(try clear hfz43_4);(try clear hfz48_0);(try clear hfz48_1);(try clear hfz48_2);(try clear hfz48_3);(try clear hfz48_4);(try clear hfz49_0);(try clear hfz49_1);(try clear hfz51_0);(try clear hfz51_1);(try clear hfz51_2);(try clear hfz51_3);(try clear hfz51_4);(try clear hfz53_0);(try clear hfz53_1);(try clear hfz53_2);(try clear hfz53_3);(try clear hfz53_4);(try clear hfz56_0);(try clear hfz56_1);(try clear hfz56_2);(try clear hfz56_3);(try clear hfz56_4);(try clear hfz57_0);(try clear hfz57_1);(try clear hfz59_0);(try clear hfz59_1);(try clear hfz59_2);(try clear hfz59_3);(try clear hfz59_4);(try clear hfz65_0);(try clear hfz65_1);(try clear hfz65_2);(try clear hfz65_3);(try clear hfz65_4);(try clear hfz68_0);(try clear hfz68_1);(try clear hfz68_2);(try clear hfz68_3);(try clear hfz68_4);(try clear hfz71_0);(try clear hfz71_1);(try clear hfz71_2);(try clear hfz71_3);(try clear hfz71_4);(try clear hfz73_0);(try clear hfz73_1);(try clear hfz73_2);(try clear hfz73_3);(try clear hfz73_4);(try clear hfz75_0);(try clear hfz75_1);(try clear hfz75_2);(try clear hfz75_3);(try clear hfz75_4);(try clear hfz81_0);(try clear hfz81_1);(try clear hfz81_2);(try clear hfz81_3);(try clear hfz81_4);(try clear hfz84_0);(try clear hfz84_1);(try clear hfz84_2);(try clear hfz84_3);(try clear hfz84_4);(try clear hfz90_0);(try clear hfz90_1);(try clear hfz90_2);(try clear hfz90_3);(try clear hfz90_4);(try clear hfz92_0);(try clear hfz92_1);(try clear hfz92_2);(try clear hfz92_3);(try clear hfz92_4);(try clear hfz94_0);(try clear hfz94_1);(try clear hfz94_2);(try clear hfz94_3);(try clear hfz94_4);(try clear hx102_0);(try clear hx102_1);(try clear hx102_2);(try clear hx102_3);(try clear hx102_4);(try clear p1);(try clear p10);(try clear p102);(try clear p2);(try clear q1);(try clear q10);(try clear q102)
              obtain ⟨kq,x126_85,rfl,HA,HJ85,BK101,BK103,HB⟩:=hcut
              cases kq with
              | zero=>exact absurd HA.out (by simp [zc.j6])
              | succ kj85 =>
               have H:=HA.out
               clear HA
               simp only [zc.j6] at H
               by_cases c95 : x126_85 = true
               · subst c95
                 have H1 : (some 4) = some r:=by rw [if_pos rfl] at H;exact H
                 clear H
                 have H:=H1
                 clear H1
                 obtain rfl:=Option.some.inj H
                 go_wp2
                 go_ret
                 exact ⟨by first|rfl|(simp [zl,zm] <;> rfl)|(simp [*,zl,zm] <;> rfl),by repeat (first|(with_reducible first|exact HB.out|apply z4|apply z0|apply z3|refine z8 ?_ GE101.out|refine z8 ?_ GE103.out)|exact HB.out)⟩
               replace c95:=Bool.eq_false_iff.mpr c95
               subst c95
               have H1 : ((zg.f kj85 l2 x8_2).bind fun t105=>(if t105 > 8 then (some 7) else (zc.l0 kj85 a0 a1 l2 (wrap64 (x8_2 + 1)) 0 0))) = some r:=by rw [if_neg (show ¬ (false = true) by decide)] at H;exact H
               clear H
               have H:=H1
               clear H1
               replace H:=Option.bind_eq_some_iff.mp H
               obtain ⟨t105,A960,H⟩:=H
               replace H : (if t105 > 8 then (some 7) else (zc.l0 kj85 a0 a1 l2 (wrap64 (x8_2 + 1)) 0 0)) = some r:=H
               have A96:=z7.mk A960
               clear A960
               by_cases c97 : t105 > 8
               · rw [if_pos c97] at H
                 have c97b0 : decide (8 < t105) = true:=decide_eq_true c97
                 clear c97
                 obtain rfl:=Option.some.inj H
                 go_wp2_with (first|((with_reducible refine zG (f:=55) rfl ?_);refine goesL_ (some 129) rfl rfl Try.func55 (by kernel_rfl) rfl #[.slice (some ad102) l2.length c2,.int .i64 x8_2] rfl (by (try simp only [List.map_toArray,List.map_cons,List.map_nil]);first|done|rfl|(simp only [List.length_drop,List.length_take];rfl)) ?_;(with_reducible refine (zg.calls kj85 _ _ l2 x8_2 t105 _ ?side1 ?side2 A96.out).mono ?_);(case side1=>repeat (first|exact (Kd.z1Q HR2.out HB.out)|(with_reducible refine Kd.z1q ?_ _)|(with_reducible refine Kd.z1r ?_ _)|(with_reducible refine Kd.z1B ?_)));(case side2=>exact HC2.out);rintro e w98 ⟨rfl,hb⟩;refine ⟨_,rfl,?_⟩;have n0_:=z7.mk (zj (g:=gb101) (o:=.cells #[.int .u64 0,.int .u64 0] 61 (0,0)) (by (with_reducible repeat (first|refine z2 ?_ _|refine z5 ?_|refine z1 ?_ _));exact BK101.out) hb);have n1_:=z7.mk (zj (g:=gb103) (o:=.cells #[.int .i64 ((za l2 x8_2).f0),.int .i64 ((za l2 x8_2).f1),.int .i64 ((za l2 x8_2).f2),.int .u64 ((za l2 x8_2).f3.f0),.int .u64 ((za l2 x8_2).f3.f1)] 114 (0,0)) (by (with_reducible repeat (first|refine z2 ?_ _|refine z5 ?_|refine z1 ?_ _));exact BK103.out) hb);have n2_:=z7.mk (zi (by repeat (first|(with_reducible first|exact HB.out|apply z4|apply z0|apply z3|refine z8 ?_ GE101.out|refine z8 ?_ GE103.out)|exact HB.out)) hb);clear BK101;clear BK103;clear HB;have BK101:=n0_;have BK103:=n1_;have HB:=n2_;clear n0_ n1_ n2_;(try clear hb);(try clear hb2);(try clear hk);(try clear hi)))
                 go_ret
                 exact ⟨by first|rfl|(simp [zl,zm] <;> rfl)|(simp [*,zl,zm] <;> rfl),by repeat (first|(with_reducible first|exact HB.out|apply z4|apply z0|apply z3|refine z8 ?_ GE101.out|refine z8 ?_ GE103.out)|exact HB.out)⟩
               rw [if_neg c97] at H
               have c97b0 : decide (8 < t105) = false:=decide_eq_false c97
               clear c97
               have H':=z7.mk H
               clear H
               go_wp2_with (first|((with_reducible refine zG (f:=55) rfl ?_);refine goesL_ (some 129) rfl rfl Try.func55 (by kernel_rfl) rfl #[.slice (some ad102) l2.length c2,.int .i64 x8_2] rfl (by (try simp only [List.map_toArray,List.map_cons,List.map_nil]);first|done|rfl|(simp only [List.length_drop,List.length_take];rfl)) ?_;(with_reducible refine (zg.calls kj85 _ _ l2 x8_2 t105 _ ?side1 ?side2 A96.out).mono ?_);(case side1=>repeat (first|exact (Kd.z1Q HR2.out HB.out)|(with_reducible refine Kd.z1q ?_ _)|(with_reducible refine Kd.z1r ?_ _)|(with_reducible refine Kd.z1B ?_)));(case side2=>exact HC2.out);rintro e w99 ⟨rfl,hb⟩;refine ⟨_,rfl,?_⟩;have n0_:=z7.mk (zj (g:=gb101) (o:=.cells #[.int .u64 0,.int .u64 0] 61 (0,0)) (by (with_reducible repeat (first|refine z2 ?_ _|refine z5 ?_|refine z1 ?_ _));exact BK101.out) hb);have n1_:=z7.mk (zj (g:=gb103) (o:=.cells #[.int .i64 ((za l2 x8_2).f0),.int .i64 ((za l2 x8_2).f1),.int .i64 ((za l2 x8_2).f2),.int .u64 ((za l2 x8_2).f3.f0),.int .u64 ((za l2 x8_2).f3.f1)] 114 (0,0)) (by (with_reducible repeat (first|refine z2 ?_ _|refine z5 ?_|refine z1 ?_ _));exact BK103.out) hb);have n2_:=z7.mk (zi (by repeat (first|(with_reducible first|exact HB.out|apply z4|apply z0|apply z3|refine z8 ?_ GE101.out|refine z8 ?_ GE103.out)|exact HB.out)) hb);clear BK101;clear BK103;clear HB;have BK101:=n0_;have BK103:=n1_;have HB:=n2_;clear n0_ n1_ n2_;(try clear hb);(try clear hb2);(try clear hk);(try clear hi)))
               go_roundg kj85
               case measure=>have:=HJ3.out;have:=HK2.out;have:=HJ12.out;have:=HJ22.out;have:=HJ60.out;have:=HJ76.out;have:=HJ85.out;omega
               case rel=>exact ⟨(wrap64 (x8_2 + 1)),(by first|rfl|(simp;done)|(simp [*];done)),H',⟨by have:=HJ3.out;have:=HK2.out;have:=HJ12.out;have:=HJ22.out;have:=HJ60.out;have:=HJ76.out;have:=HJ85.out;omega⟩,⟨by (with_reducible repeat (first|refine z2 ?_ _|refine z5 ?_|refine z1 ?_ _));exact BK101.out⟩,⟨by repeat (first|(with_reducible first|exact HB.out|apply z4|apply z0|apply z3|refine z8 ?_ GE101.out|refine z8 ?_ GE103.out)|exact HB.out)⟩⟩
end Go.Proofs.Ytngcaphdkgihmaa.P
namespace Go.Proofs.Ytngcaphdkgihmaa.P
open Go.RowKit Go.Proofs.YtngcaphdkgihmaaW.PrintWords Go.Proofs.YtngcaphdkgihmaaW.PrintLast Go.Proofs.YtngcaphdkgihmaaW.PrintMore
attribute [local go_sem] z14 z16 z1b z1c z10 z11 z15 z17   -- for this text's walks alone
set_option linter.unusedVariables false
set_option linter.unusedSimpArgs false
def z1m.f (a0_0 : Int) (a0_1 : Int) (a1_0 : Int) (a1_1 : Int) : Option (Int × Int):=some (Go.bits .xor .u64 a0_0 a1_0,Go.bits .xor .u64 a0_1 a1_1)
set_option maxHeartbeats 8000000 in
set_option maxRecDepth 100000 in
theorem z1m.calls (a0_0 : Int) (a0_1 : Int) (a1_0 : Int) (a1_1 : Int) (r1 : Int) (r2 : Int) (w : World) (h : z1m.f a0_0 a0_1 a1_0 a1_1 = some (r1,r2)) :
 Calls Try.prog 74 #[.agg #[.int .u64 a0_0,.int .u64 a0_1],.agg #[.int .u64 a1_0,.int .u64 a1_1]] w fun e w'=>e = .returned (.agg #[.int .u64 r1,.int .u64 r2]) ∧ Below w.heap.size w w':=by
 have hu61:=Try.underlying61
 have HB:=z7.mk (Below.refl w.heap.size w)
 have H : (some (Go.bits .xor .u64 a0_0 a1_0,Go.bits .xor .u64 a0_1 a1_1)) = some (r1,r2):=h
 clear h
 simp only [Option.some.injEq,Prod.mk.injEq] at H
 obtain ⟨rfl,rfl⟩:=H
 go_enter Try.func74,Try.ntmps74
 go_wp2_with (first|((with_reducible refine zM (N:=2) rfl ?_);refine zI ?hg (N:=2) ?hd (cs:=#[.int .u64 a0_0,.int .u64 a0_1]) (t:=61) ?hr ?_;(case hd=>rfl);(case hg=>rfl);(case hr=>first|(go_simp;done)|(go_simp;rfl));intro gb101 hg w3 hbox hb;have n0_:=z7.mk (zi (by repeat (first|(with_reducible first|exact HB.out|apply z4|apply z0|apply z3)|exact HB.out)) hb);have n1_:=z7.mk (hbox);have n2_:=z7.mk ((by rw [hg];exact (zf (by repeat (first|(with_reducible first|exact HB.out|apply z4|apply z0|apply z3)|exact HB.out))) : w.heap.size ≤ gb101));have n3_:=z7.mk ((by rw [hg];exact (zf (by repeat (first|(with_reducible first|exact HB.out|apply z4|apply z0|apply z3)|exact HB.out))) : w.heap.size ≤ gb101));clear HB;have HB:=n0_;have BK101:=n1_;have GW101:=n2_;have GE101:=n3_;clear n0_ n1_ n2_ n3_;clear hb hbox hg)|((with_reducible refine zM (N:=3) rfl ?_);refine zI ?hg (N:=3) ?hd (cs:=#[.int .u64 a1_0,.int .u64 a1_1]) (t:=61) ?hr ?_;(case hd=>rfl);(case hg=>rfl);(case hr=>first|(go_simp;done)|(go_simp;rfl));intro gb102 hg w4 hbox hb;have n0_:=z7.mk (zj (g:=gb101) (o:=.cells #[.int .u64 a0_0,.int .u64 a0_1] 61 (0,0)) (by (with_reducible repeat (first|refine z2 ?_ _|refine z5 ?_|refine z1 ?_ _));exact BK101.out) hb);have n1_:=z7.mk (zi (by repeat (first|(with_reducible first|exact HB.out|apply z4|apply z0|apply z3|refine z8 ?_ GE101.out)|exact HB.out)) hb);have n2_:=z7.mk (hbox);have n3_:=z7.mk ((by rw [hg];exact (zf (by repeat (first|(with_reducible first|exact HB.out|apply z4|apply z0|apply z3|refine z8 ?_ GE101.out)|exact HB.out))) : w.heap.size ≤ gb102));have n4_:=z7.mk ((by rw [hg];exact (zf (by repeat (first|(with_reducible first|exact HB.out|apply z4|apply z0|apply z3|refine z8 ?_ GE101.out)|exact HB.out))) : w.heap.size ≤ gb102));have n5_:=z7.mk ((by rw [hg];exact Nat.ne_of_lt (zP (g:=gb101) (o:=.cells #[.int .u64 a0_0,.int .u64 a0_1] 61 (0,0)) (by (with_reducible repeat (first|refine z2 ?_ _|refine z5 ?_|refine z1 ?_ _));exact BK101.out)) : gb101 ≠ gb102));have n6_:=z7.mk ((by rw [hg];exact Nat.ne_of_gt (zP (g:=gb101) (o:=.cells #[.int .u64 a0_0,.int .u64 a0_1] 61 (0,0)) (by (with_reducible repeat (first|refine z2 ?_ _|refine z5 ?_|refine z1 ?_ _));exact BK101.out)) : gb102 ≠ gb101));clear BK101;clear HB;have BK101:=n0_;have HB:=n1_;have BK102:=n2_;have GW102:=n3_;have GE102:=n4_;have NB101_102:=n5_;have NB102_101:=n6_;clear n0_ n1_ n2_ n3_ n4_ n5_ n6_;clear hb hbox hg)|((with_reducible refine zM (N:=4) rfl ?_);refine zI ?hg (N:=4) ?hd (cs:=#[.int .u64 0,.int .u64 0]) (t:=61) ?hr ?_;(case hd=>rfl);(case hg=>rfl);(case hr=>first|(go_simp;done)|(go_simp;rfl));intro gb103 hg w5 hbox hb;have n0_:=z7.mk (zj (g:=gb101) (o:=.cells #[.int .u64 a0_0,.int .u64 a0_1] 61 (0,0)) (by (with_reducible repeat (first|refine z2 ?_ _|refine z5 ?_|refine z1 ?_ _));exact BK101.out) hb);have n1_:=z7.mk (zj (g:=gb102) (o:=.cells #[.int .u64 a1_0,.int .u64 a1_1] 61 (0,0)) (by (with_reducible repeat (first|refine z2 ?_ _|refine z5 ?_|refine z1 ?_ _));exact BK102.out) hb);have n2_:=z7.mk (zi (by repeat (first|(with_reducible first|exact HB.out|apply z4|apply z0|apply z3|refine z8 ?_ GE101.out|refine z8 ?_ GE102.out)|exact HB.out)) hb);have n3_:=z7.mk (hbox);have n4_:=z7.mk ((by rw [hg];exact (zf (by repeat (first|(with_reducible first|exact HB.out|apply z4|apply z0|apply z3|refine z8 ?_ GE101.out|refine z8 ?_ GE102.out)|exact HB.out))) : w.heap.size ≤ gb103));have n5_:=z7.mk ((by rw [hg];exact (zf (by repeat (first|(with_reducible first|exact HB.out|apply z4|apply z0|apply z3|refine z8 ?_ GE101.out|refine z8 ?_ GE102.out)|exact HB.out))) : w.heap.size ≤ gb103));have n6_:=z7.mk ((by rw [hg];exact Nat.ne_of_lt (zP (g:=gb101) (o:=.cells #[.int .u64 a0_0,.int .u64 a0_1] 61 (0,0)) (by (with_reducible repeat (first|refine z2 ?_ _|refine z5 ?_|refine z1 ?_ _));exact BK101.out)) : gb101 ≠ gb103));have n7_:=z7.mk ((by rw [hg];exact Nat.ne_of_gt (zP (g:=gb101) (o:=.cells #[.int .u64 a0_0,.int .u64 a0_1] 61 (0,0)) (by (with_reducible repeat (first|refine z2 ?_ _|refine z5 ?_|refine z1 ?_ _));exact BK101.out)) : gb103 ≠ gb101));have n8_:=z7.mk ((by rw [hg];exact Nat.ne_of_lt (zP (g:=gb102) (o:=.cells #[.int .u64 a1_0,.int .u64 a1_1] 61 (0,0)) (by (with_reducible repeat (first|refine z2 ?_ _|refine z5 ?_|refine z1 ?_ _));exact BK102.out)) : gb102 ≠ gb103));have n9_:=z7.mk ((by rw [hg];exact Nat.ne_of_gt (zP (g:=gb102) (o:=.cells #[.int .u64 a1_0,.int .u64 a1_1] 61 (0,0)) (by (with_reducible repeat (first|refine z2 ?_ _|refine z5 ?_|refine z1 ?_ _));exact BK102.out)) : gb103 ≠ gb102));clear BK101;clear BK102;clear HB;have BK101:=n0_;have BK102:=n1_;have HB:=n2_;have BK103:=n3_;have GW103:=n4_;have GE103:=n5_;have NB101_103:=n6_;have NB103_101:=n7_;have NB102_103:=n8_;have NB103_102:=n9_;clear n0_ n1_ n2_ n3_ n4_ n5_ n6_ n7_ n8_ n9_;clear hb hbox hg;have hnb6:=NB101_102.out;have hnc6:=NB102_101.out;have hnb7:=NB101_103.out;have hnc7:=NB103_101.out;have hcz8_0 : w5.cell? ⟨gb101,0,none⟩ = some (.int .u64 a0_0):=(zb BK101.out 0).trans rfl;have hcz8_1 : w5.cell? ⟨gb101,1,none⟩ = some (.int .u64 a0_1):=(zb BK101.out 1).trans rfl;have hfz8_0:=z9 BK101.out 0;have hfz8_1:=z9 BK101.out 1;have hnb9:=NB102_103.out;have hnc9:=NB103_102.out;have hcz10_0 : w5.cell? ⟨gb102,0,none⟩ = some (.int .u64 a1_0):=(zb BK102.out 0).trans rfl;have hcz10_1 : w5.cell? ⟨gb102,1,none⟩ = some (.int .u64 a1_1):=(zb BK102.out 1).trans rfl;have hfz10_0:=z9 BK102.out 0;have hfz10_1:=z9 BK102.out 1;have hcz11_0 : w5.cell? ⟨gb103,0,none⟩ = some (.int .u64 0):=(zb BK103.out 0).trans rfl;have hcz11_1 : w5.cell? ⟨gb103,1,none⟩ = some (.int .u64 0):=(zb BK103.out 1).trans rfl;have hfz11_0:=z9 BK103.out 0;have hfz11_1:=z9 BK103.out 1))
 refine bodyPost_ret (results_cell_row rfl _ _ gb103 61 #[.int .u64 (Go.bits .xor .u64 a0_0 a1_0),.int .u64 (Go.bits .xor .u64 a0_1 a1_1)] (0,0) _ rfl (by (with_reducible repeat (first|refine z2 ?_ _|refine z5 ?_|refine z1 ?_ _));refine zq (cs:=#[.int .u64 (Go.bits .xor .u64 a0_0 a1_0),.int .u64 0]) ?_ 1 _ rfl;(with_reducible repeat (first|refine z2 ?_ _|refine z5 ?_|refine z1 ?_ _));refine zq (cs:=#[.int .u64 0,.int .u64 0]) ?_ 0 _ rfl;(with_reducible repeat (first|refine z2 ?_ _|refine z5 ?_|refine z1 ?_ _));exact BK103.out) Try.underlying61 rfl (by kernel_rfl)) rfl ?_
 exact ⟨by first|rfl|(simp [zl,zm] <;> rfl)|(simp [*,zl,zm] <;> rfl),by repeat (first|(with_reducible first|exact HB.out|apply z4|apply z0|apply z3|refine z8 ?_ GE101.out|refine z8 ?_ GE102.out|refine z8 ?_ GE103.out)|exact HB.out)⟩
end Go.Proofs.Ytngcaphdkgihmaa.P
namespace Go.Proofs.Ytngcaphdkgihmaa.P
open Go.RowKit Go.Proofs.YtngcaphdkgihmaaW.PrintWords Go.Proofs.YtngcaphdkgihmaaW.PrintLast Go.Proofs.YtngcaphdkgihmaaW.PrintMore
attribute [local go_sem] z14 z16 z1b z1c z10 z11 z15 z17   -- for this text's walks alone
set_option linter.unusedVariables false
set_option linter.unusedSimpArgs false
def zL.j0 : Nat → Int → Bool → Option (Int × Int)
 | 0,_,_=>none
 | k + 1,x0,x8=>if x8 = true then (some (0,0)) else (if x0 > 63 then (if 0 ≤ (IntKind.u64.wrap (wrap64 (x0 - 64))) then (some (shl .u64 1 (IntKind.u64.wrap (wrap64 (x0 - 64))),0)) else (none)) else (if 0 ≤ (IntKind.u64.wrap (x0)) then (some (0,shl .u64 1 (IntKind.u64.wrap (x0)))) else (none)))
def zL.f (k : Nat) (a0 : Int) : Option (Int × Int):=if a0 < 0 then (zL.j0 k a0 true) else (zL.j0 k a0 (decide (a0 > 127)))
theorem zL.z18 : ∀ k,(∀ y0 y1,LeO (zL.j0 k y0 y1) (zL.j0 (k + 1) y0 y1))
 | 0=>fun _ _ r h=>by simp [zL.j0] at h
 | k + 1=>by
  have ih0:=zL.z18 k
  · intro y0 y1
    unfold zL.j0
    repeat' first
    | (with_reducible exact ih0 _ _)
    | (with_reducible exact LeO.refl _)
    | (with_reducible exact LeO.none _)
    | (with_reducible refine LeO.ite ?_ ?_)
    | (with_reducible refine LeO.bind ?_ (fun _=>?_))
    | exact ih0 _ _
    | exact LeO.none _
    | refine LeO.ite ?_ ?_
    | refine LeO.bind ?_ (fun _=>?_)
theorem zL.mono : ∀ a0 k,LeO (zL.f k a0) (zL.f (k + 1) a0):=by
 intro a0 k
 have ih0:=zL.z18 k
 unfold zL.f
 repeat' first
  | (with_reducible exact ih0 _ _)
  | (with_reducible exact LeO.refl _)
  | (with_reducible exact LeO.none _)
  | (with_reducible refine LeO.ite ?_ ?_)
  | (with_reducible refine LeO.bind ?_ (fun _=>?_))
  | exact ih0 _ _
  | exact LeO.none _
  | refine LeO.ite ?_ ?_
  | refine LeO.bind ?_ (fun _=>?_)
set_option maxHeartbeats 8000000 in
set_option maxRecDepth 100000 in
theorem zL.calls (k : Nat) (a0 : Int) (r1 : Int) (r2 : Int) (w : World) (h : zL.f k a0 = some (r1,r2)) :
 Calls Try.prog 75 #[.int .i64 a0] w fun e w'=>e = .returned (.agg #[.int .u64 r1,.int .u64 r2]) ∧ Below w.heap.size w w':=by
 have hu61:=Try.underlying61
 have HB:=z7.mk (Below.refl w.heap.size w)
 have H : (if a0 < 0 then (zL.j0 k a0 true) else (zL.j0 k a0 (decide (a0 > 127)))) = some (r1,r2):=h
 clear h
 have HC2:=z7.mk H
 clear H
 go_enter Try.func75,Try.ntmps75
 go_upto_region 1 with (first|((with_reducible refine zM (N:=2) rfl ?_);refine zI ?hg (N:=2) ?hd (cs:=#[.int .u64 0,.int .u64 0]) (t:=61) ?hr ?_;(case hd=>rfl);(case hg=>rfl);(case hr=>first|(go_simp;done)|(go_simp;rfl));intro gb101 hg w3 hbox hb;have n0_:=z7.mk (zi (by repeat (first|(with_reducible first|exact HB.out|apply z4|apply z0|apply z3)|exact HB.out)) hb);have n1_:=z7.mk (hbox);have n2_:=z7.mk ((by rw [hg];exact (zf (by repeat (first|(with_reducible first|exact HB.out|apply z4|apply z0|apply z3)|exact HB.out))) : w.heap.size ≤ gb101));have n3_:=z7.mk ((by rw [hg];exact (zf (by repeat (first|(with_reducible first|exact HB.out|apply z4|apply z0|apply z3)|exact HB.out))) : w.heap.size ≤ gb101));clear HB;have HB:=n0_;have BK101:=n1_;have GW101:=n2_;have GE101:=n3_;clear n0_ n1_ n2_ n3_;clear hb hbox hg))
 (try simp only [Act.put,List.setIfInBounds_toArray,List.set_cons_zero,List.set_cons_succ])
 go_cut [8] (fun v8 wc=>∃ (kq : Nat) (x8_1 : Bool),v8 = .bool x8_1 ∧ z7 (zL.j0 kq a0 x8_1 = some (r1,r2)) ∧ z7 (kq ≤ k) ∧ z7 (wc.heap[gb101]? = some (.cells #[.int .u64 0,.int .u64 0] 61 (0,0))) ∧ z7 (Below w.heap.size w wc))
 case first =>
  have H:=HC2.out
  clear HC2
  by_cases c4 : a0 < 0
  rotate_left
  · rw [if_neg c4] at H
    have c4b0 : decide (a0 < 0) = false:=decide_eq_false c4
    clear c4
    (first|rw [c4b0]|(simp only [zD,zF];rw [c4b0])|skip)
    have H':=z7.mk H
    clear H
    go_wp2
    go_meet
    case rel=>exact ⟨_,(decide (a0 > 127)),(by first|rfl|(simp;done)|(simp [*];done)),H',⟨by first|omega|exact Nat.le_refl _⟩,⟨by (with_reducible repeat (first|refine z2 ?_ _|refine z5 ?_|refine z1 ?_ _));exact BK101.out⟩,⟨by repeat (first|(with_reducible first|exact HB.out|apply z4|apply z0|apply z3|refine z8 ?_ GE101.out)|exact HB.out)⟩⟩
  rw [if_pos c4] at H
  have c4b0 : decide (a0 < 0) = true:=decide_eq_true c4
  clear c4
  (first|rw [c4b0]|(simp only [zD,zF];rw [c4b0])|skip)
  have H':=z7.mk H
  clear H
  go_wp2
  go_meet
  case rel=>exact ⟨_,(true),(by first|rfl|(simp;done)|(simp [*];done)),H',⟨by first|omega|exact Nat.le_refl _⟩,⟨by (with_reducible repeat (first|refine z2 ?_ _|refine z5 ?_|refine z1 ?_ _));exact BK101.out⟩,⟨by repeat (first|(with_reducible first|exact HB.out|apply z4|apply z0|apply z3|refine z8 ?_ GE101.out)|exact HB.out)⟩⟩
 case rest =>
  clear HC2
  (try clear p2);(try clear c4);(try clear c4b0)
  obtain ⟨kq,x8_1,rfl,HA,HJ1,BK101,HB⟩:=hcut
  cases kq with
  | zero=>exact absurd HA.out (by simp [zL.j0])
  | succ kj1 =>
   have H:=HA.out
   clear HA
   simp only [zL.j0] at H
   by_cases c5 : x8_1 = true
   · subst c5
     have H1 : (some (0,0)) = some (r1,r2):=by rw [if_pos rfl] at H;exact H
     clear H
     have H:=H1
     clear H1
     simp only [Option.some.injEq,Prod.mk.injEq] at H
     obtain ⟨rfl,rfl⟩:=H
     have hcz6_0 : wc.cell? ⟨gb101,0,none⟩ = some (.int .u64 0):=(zb BK101.out 0).trans rfl
     have hcz6_1 : wc.cell? ⟨gb101,1,none⟩ = some (.int .u64 0):=(zb BK101.out 1).trans rfl
     have hfz6_0:=z9 BK101.out 0
     have hfz6_1:=z9 BK101.out 1
     go_wp2
     refine bodyPost_ret (results_cell_row rfl _ _ gb101 61 #[.int .u64 0,.int .u64 0] (0,0) _ rfl (by (with_reducible repeat (first|refine z2 ?_ _|refine z5 ?_|refine z1 ?_ _));refine zq (cs:=#[.int .u64 0,.int .u64 0]) ?_ 1 _ rfl;(with_reducible repeat (first|refine z2 ?_ _|refine z5 ?_|refine z1 ?_ _));refine zq (cs:=#[.int .u64 0,.int .u64 0]) ?_ 0 _ rfl;(with_reducible repeat (first|refine z2 ?_ _|refine z5 ?_|refine z1 ?_ _));exact BK101.out) Try.underlying61 rfl (by kernel_rfl)) rfl ?_
     exact ⟨by first|rfl|(simp [zl,zm] <;> rfl)|(simp [*,zl,zm] <;> rfl),by repeat (first|(with_reducible first|exact HB.out|apply z4|apply z0|apply z3|refine z8 ?_ GE101.out)|exact HB.out)⟩
   replace c5:=Bool.eq_false_iff.mpr c5
   subst c5
   have H1 : (if a0 > 63 then (if 0 ≤ (IntKind.u64.wrap (wrap64 (a0 - 64))) then (some (shl .u64 1 (IntKind.u64.wrap (wrap64 (a0 - 64))),0)) else (none)) else (if 0 ≤ (IntKind.u64.wrap (a0)) then (some (0,shl .u64 1 (IntKind.u64.wrap (a0)))) else (none))) = some (r1,r2):=by rw [if_neg (show ¬ (false = true) by decide)] at H;exact H
   clear H
   have H:=H1
   clear H1
   by_cases c7 : a0 > 63
   · rw [if_pos c7] at H
     have c7b0 : decide (63 < a0) = true:=decide_eq_true c7
     clear c7
     obtain ⟨ji8,hji8⟩ : ∃ j_ : Int,(IntKind.u64.wrap (wrap64 (a0 - 64))) = j_:=⟨_,rfl⟩
     replace H : (if 0 ≤ (ji8) then (some (shl .u64 1 (ji8),0)) else (none)) = some (r1,r2):=by first|(rw [hji8] at H;exact H)|(simp only [hji8] at H ⊢;exact H)
     by_cases c9 : 0 ≤ (ji8)
     rotate_left
     · rw [if_neg c9] at H
       exact absurd H (by simp)
     rw [if_pos c9] at H
     have c9b0:=eq_true c9
     have c9b1 : decide (0 ≤ (ji8)) = true:=decide_eq_true c9
     clear c9
     obtain ⟨ji10,hji10⟩ : ∃ j_ : Int,(shl .u64 1 (ji8)) = j_:=⟨_,rfl⟩
     replace H : (some (ji10,0)) = some (r1,r2):=by first|(rw [hji10] at H;exact H)|(simp only [hji10] at H ⊢;exact H)
     have hji10_ : (IntKind.u64.wrap (1 * 2 ^ min (ji8).toNat 64)) = ji10:=hji10
     have hji10z : (ji8) ≤ 64 → (IntKind.u64.wrap (1 * 2 ^ (ji8).toNat)) = ji10:=z1F hji10
     have hji10n0 : 0 ≤ ji10:=by rw [← hji10];exact Int.emod_nonneg _ (by decide)
     have hji10n1 : decide (0 ≤ ji10) = true:=decide_eq_true hji10n0
     replace hji10n0:=eq_true hji10n0
     have hji10u : (IntKind.u64.wrap (2 ^ min (ji8).toNat 64)) = ji10:=by have h_:=hji10_;rw [Int.one_mul] at h_;exact h_
     have hji10v : (ji8) ≤ 64 → (IntKind.u64.wrap (2 ^ (ji8).toNat)) = ji10:=fun hle_=>by have h_:=hji10z hle_;rw [Int.one_mul] at h_;exact h_
     simp only [Option.some.injEq,Prod.mk.injEq] at H
     obtain ⟨rfl,rfl⟩:=H
     have hcz11_0 : wc.cell? ⟨gb101,0,none⟩ = some (.int .u64 0):=(zb BK101.out 0).trans rfl
     have hcz11_1 : wc.cell? ⟨gb101,1,none⟩ = some (.int .u64 0):=(zb BK101.out 1).trans rfl
     have hfz11_0:=z9 BK101.out 0
     have hfz11_1:=z9 BK101.out 1
     go_wp2
     refine bodyPost_ret (results_cell_row rfl _ _ gb101 61 #[.int .u64 ji10,.int .u64 0] (0,0) _ rfl (by (with_reducible repeat (first|refine z2 ?_ _|refine z5 ?_|refine z1 ?_ _));refine zq (cs:=#[.int .u64 ji10,.int .u64 0]) ?_ 1 _ rfl;(with_reducible repeat (first|refine z2 ?_ _|refine z5 ?_|refine z1 ?_ _));refine zq (cs:=#[.int .u64 0,.int .u64 0]) ?_ 0 _ rfl;(with_reducible repeat (first|refine z2 ?_ _|refine z5 ?_|refine z1 ?_ _));exact BK101.out) Try.underlying61 rfl (by kernel_rfl)) rfl ?_
     exact ⟨by first|rfl|(simp [zl,zm] <;> rfl)|(simp only [← hji8,← hji10];first|rfl|(simp [zl,zm] <;> rfl))|(simp [*,zl,zm] <;> rfl),by repeat (first|(with_reducible first|exact HB.out|apply z4|apply z0|apply z3|refine z8 ?_ GE101.out)|exact HB.out)⟩
   rw [if_neg c7] at H
   have c7b0 : decide (63 < a0) = false:=decide_eq_false c7
   clear c7
   obtain ⟨ji12,hji12⟩ : ∃ j_ : Int,(IntKind.u64.wrap (a0)) = j_:=⟨_,rfl⟩
   replace H : (if 0 ≤ (ji12) then (some (0,shl .u64 1 (ji12))) else (none)) = some (r1,r2):=by first|(rw [hji12] at H;exact H)|(simp only [hji12] at H ⊢;exact H)
   by_cases c13 : 0 ≤ (ji12)
   rotate_left
   · rw [if_neg c13] at H
     exact absurd H (by simp)
   rw [if_pos c13] at H
   have c13b0:=eq_true c13
   have c13b1 : decide (0 ≤ (ji12)) = true:=decide_eq_true c13
   clear c13
   obtain ⟨ji14,hji14⟩ : ∃ j_ : Int,(shl .u64 1 (ji12)) = j_:=⟨_,rfl⟩
   replace H : (some (0,ji14)) = some (r1,r2):=by first|(rw [hji14] at H;exact H)|(simp only [hji14] at H ⊢;exact H)
   have hji14_ : (IntKind.u64.wrap (1 * 2 ^ min (ji12).toNat 64)) = ji14:=hji14
   have hji14z : (ji12) ≤ 64 → (IntKind.u64.wrap (1 * 2 ^ (ji12).toNat)) = ji14:=z1F hji14
   have hji14n0 : 0 ≤ ji14:=by rw [← hji14];exact Int.emod_nonneg _ (by decide)
   have hji14n1 : decide (0 ≤ ji14) = true:=decide_eq_true hji14n0
   replace hji14n0:=eq_true hji14n0
   have hji14u : (IntKind.u64.wrap (2 ^ min (ji12).toNat 64)) = ji14:=by have h_:=hji14_;rw [Int.one_mul] at h_;exact h_
   have hji14v : (ji12) ≤ 64 → (IntKind.u64.wrap (2 ^ (ji12).toNat)) = ji14:=fun hle_=>by have h_:=hji14z hle_;rw [Int.one_mul] at h_;exact h_
   simp only [Option.some.injEq,Prod.mk.injEq] at H
   obtain ⟨rfl,rfl⟩:=H
   have hcz15_0 : wc.cell? ⟨gb101,0,none⟩ = some (.int .u64 0):=(zb BK101.out 0).trans rfl
   have hcz15_1 : wc.cell? ⟨gb101,1,none⟩ = some (.int .u64 0):=(zb BK101.out 1).trans rfl
   have hfz15_0:=z9 BK101.out 0
   have hfz15_1:=z9 BK101.out 1
   go_wp2
   refine bodyPost_ret (results_cell_row rfl _ _ gb101 61 #[.int .u64 0,.int .u64 ji14] (0,0) _ rfl (by (with_reducible repeat (first|refine z2 ?_ _|refine z5 ?_|refine z1 ?_ _));refine zq (cs:=#[.int .u64 0,.int .u64 0]) ?_ 1 _ rfl;(with_reducible repeat (first|refine z2 ?_ _|refine z5 ?_|refine z1 ?_ _));refine zq (cs:=#[.int .u64 0,.int .u64 0]) ?_ 0 _ rfl;(with_reducible repeat (first|refine z2 ?_ _|refine z5 ?_|refine z1 ?_ _));exact BK101.out) Try.underlying61 rfl (by kernel_rfl)) rfl ?_
   exact ⟨by first|rfl|(simp [zl,zm] <;> rfl)|(simp only [← hji12,← hji14];first|rfl|(simp [zl,zm] <;> rfl))|(simp [*,zl,zm] <;> rfl),by repeat (first|(with_reducible first|exact HB.out|apply z4|apply z0|apply z3|refine z8 ?_ GE101.out)|exact HB.out)⟩
end Go.Proofs.Ytngcaphdkgihmaa.P
namespace Go.Proofs.Ytngcaphdkgihmaa.P
open Go.RowKit Go.Proofs.YtngcaphdkgihmaaW.PrintWords Go.Proofs.YtngcaphdkgihmaaW.PrintLast Go.Proofs.YtngcaphdkgihmaaW.PrintMore
attribute [local go_sem] z14 z16 z1b z1c z10 z11 z15 z17   -- for this text's walks alone
set_option linter.unusedVariables false
set_option linter.unusedSimpArgs false
def z12.f (k : Nat) (a0_0 : Int) (a0_1 : Int) (a1 : Int) : Option (Bool):=(zL.f k a1).bind fun bt102=>(some ((Go.bits .or .u64 (Go.bits .and .u64 a0_1 bt102.2) (Go.bits .and .u64 a0_0 bt102.1)) != 0))
theorem z12.mono : ∀ a0 a1 a2 k,LeO (z12.f k a0 a1 a2) (z12.f (k + 1) a0 a1 a2):=by
 intro a0 a1 a2 k
 unfold z12.f
 repeat' first
  | (with_reducible exact zL.mono _ _)
  | (with_reducible exact LeO.refl _)
  | (with_reducible exact LeO.none _)
  | (with_reducible refine LeO.ite ?_ ?_)
  | (with_reducible refine LeO.bind ?_ (fun _=>?_))
  | exact zL.mono _ _
  | exact LeO.none _
  | refine LeO.ite ?_ ?_
  | refine LeO.bind ?_ (fun _=>?_)
set_option maxHeartbeats 8000000 in
set_option maxRecDepth 100000 in
theorem z12.calls (k : Nat) (a0_0 : Int) (a0_1 : Int) (a1 : Int) (r : Bool) (w : World) (h : z12.f k a0_0 a0_1 a1 = some r) :
 Calls Try.prog 73 #[.agg #[.int .u64 a0_0,.int .u64 a0_1],.int .i64 a1] w fun e w'=>e = .returned (.bool r) ∧ Below w.heap.size w w':=by
 have hu61:=Try.underlying61
 have HB:=z7.mk (Below.refl w.heap.size w)
 have H : ((zL.f k a1).bind fun bt102=>(some ((Go.bits .or .u64 (Go.bits .and .u64 a0_1 bt102.2) (Go.bits .and .u64 a0_0 bt102.1)) != 0))) = some r:=h
 clear h
 replace H:=Option.bind_eq_some_iff.mp H
 obtain ⟨⟨t102,t103⟩,A30,H⟩:=H
 replace H : (some ((Go.bits .or .u64 (Go.bits .and .u64 a0_1 t103) (Go.bits .and .u64 a0_0 t102)) != 0)) = some r:=H
 have A3:=z7.mk A30
 clear A30
 obtain rfl:=Option.some.inj H
 go_enter Try.func73,Try.ntmps73
 go_wp2_with (first|((with_reducible refine zM (N:=2) rfl ?_);refine zI ?hg (N:=2) ?hd (cs:=#[.int .u64 a0_0,.int .u64 a0_1]) (t:=61) ?hr ?_;(case hd=>rfl);(case hg=>rfl);(case hr=>first|(go_simp;done)|(go_simp;rfl));intro gb101 hg w4 hbox hb;have n0_:=z7.mk (zi (by repeat (first|(with_reducible first|exact HB.out|apply z4|apply z0|apply z3)|exact HB.out)) hb);have n1_:=z7.mk (hbox);have n2_:=z7.mk ((by rw [hg];exact (zf (by repeat (first|(with_reducible first|exact HB.out|apply z4|apply z0|apply z3)|exact HB.out))) : w.heap.size ≤ gb101));have n3_:=z7.mk ((by rw [hg];exact (zf (by repeat (first|(with_reducible first|exact HB.out|apply z4|apply z0|apply z3)|exact HB.out))) : w.heap.size ≤ gb101));clear HB;have HB:=n0_;have BK101:=n1_;have GW101:=n2_;have GE101:=n3_;clear n0_ n1_ n2_ n3_;clear hb hbox hg)|((with_reducible refine zG (f:=75) rfl ?_);refine goesL_ (some 7) rfl rfl Try.func75 (by kernel_rfl) rfl #[.int .i64 a1] rfl (by (try simp only [List.map_toArray,List.map_cons,List.map_nil]);first|done|rfl|(simp only [List.length_drop,List.length_take];rfl)) ?_;(with_reducible refine (zL.calls k a1 t102 t103 _ A3.out).mono ?_);rintro e w5 ⟨rfl,hb⟩;refine ⟨_,rfl,?_⟩;have n0_:=z7.mk (zj (g:=gb101) (o:=.cells #[.int .u64 a0_0,.int .u64 a0_1] 61 (0,0)) (by (with_reducible repeat (first|refine z2 ?_ _|refine z5 ?_|refine z1 ?_ _));exact BK101.out) hb);have n1_:=z7.mk (zi (by repeat (first|(with_reducible first|exact HB.out|apply z4|apply z0|apply z3|refine z8 ?_ GE101.out)|exact HB.out)) hb);clear BK101;clear HB;have BK101:=n0_;have HB:=n1_;clear n0_ n1_;(try clear hb);(try clear hb2);(try clear hk);(try clear hi))|((with_reducible refine zM (N:=5) rfl ?_);refine zI ?hg (N:=5) ?hd (cs:=#[.int .u64 0,.int .u64 0]) (t:=61) ?hr ?_;(case hd=>rfl);(case hg=>rfl);(case hr=>first|(go_simp;done)|(go_simp;rfl));intro gb104 hg w6 hbox hb;have n0_:=z7.mk (zj (g:=gb101) (o:=.cells #[.int .u64 a0_0,.int .u64 a0_1] 61 (0,0)) (by (with_reducible repeat (first|refine z2 ?_ _|refine z5 ?_|refine z1 ?_ _));exact BK101.out) hb);have n1_:=z7.mk (zi (by repeat (first|(with_reducible first|exact HB.out|apply z4|apply z0|apply z3|refine z8 ?_ GE101.out)|exact HB.out)) hb);have n2_:=z7.mk (hbox);have n3_:=z7.mk ((by rw [hg];exact (zf (by repeat (first|(with_reducible first|exact HB.out|apply z4|apply z0|apply z3|refine z8 ?_ GE101.out)|exact HB.out))) : w.heap.size ≤ gb104));have n4_:=z7.mk ((by rw [hg];exact (zf (by repeat (first|(with_reducible first|exact HB.out|apply z4|apply z0|apply z3|refine z8 ?_ GE101.out)|exact HB.out))) : w.heap.size ≤ gb104));have n5_:=z7.mk ((by rw [hg];exact Nat.ne_of_lt (zP (g:=gb101) (o:=.cells #[.int .u64 a0_0,.int .u64 a0_1] 61 (0,0)) (by (with_reducible repeat (first|refine z2 ?_ _|refine z5 ?_|refine z1 ?_ _));exact BK101.out)) : gb101 ≠ gb104));have n6_:=z7.mk ((by rw [hg];exact Nat.ne_of_gt (zP (g:=gb101) (o:=.cells #[.int .u64 a0_0,.int .u64 a0_1] 61 (0,0)) (by (with_reducible repeat (first|refine z2 ?_ _|refine z5 ?_|refine z1 ?_ _));exact BK101.out)) : gb104 ≠ gb101));clear BK101;clear HB;have BK101:=n0_;have HB:=n1_;have BK104:=n2_;have GW104:=n3_;have GE104:=n4_;have NB101_104:=n5_;have NB104_101:=n6_;clear n0_ n1_ n2_ n3_ n4_ n5_ n6_;clear hb hbox hg;have hnb7:=NB104_101.out;have hnc7:=NB101_104.out;have hcz8_0 : w6.cell? ⟨gb104,0,none⟩ = some (.int .u64 0):=(zb BK104.out 0).trans rfl;have hcz8_1 : w6.cell? ⟨gb104,1,none⟩ = some (.int .u64 0):=(zb BK104.out 1).trans rfl;have hfz8_0:=z9 BK104.out 0;have hfz8_1:=z9 BK104.out 1;have hcz9_0 : w6.cell? ⟨gb101,0,none⟩ = some (.int .u64 a0_0):=(zb BK101.out 0).trans rfl;have hcz9_1 : w6.cell? ⟨gb101,1,none⟩ = some (.int .u64 a0_1):=(zb BK101.out 1).trans rfl;have hfz9_0:=z9 BK101.out 0;have hfz9_1:=z9 BK101.out 1))
 go_ret
 exact ⟨by first|rfl|(simp [zl,zm] <;> rfl)|(simp [*,zl,zm] <;> rfl),by repeat (first|(with_reducible first|exact HB.out|apply z4|apply z0|apply z3|refine z8 ?_ GE101.out|refine z8 ?_ GE104.out)|exact HB.out)⟩
end Go.Proofs.Ytngcaphdkgihmaa.P
namespace Go.Proofs.Ytngcaphdkgihmaa.P
open Go.RowKit Go.Proofs.YtngcaphdkgihmaaW.PrintWords Go.Proofs.YtngcaphdkgihmaaW.PrintLast Go.Proofs.YtngcaphdkgihmaaW.PrintMore
attribute [local go_sem] z14 z16 z1b z1c z10 z11 z15 z17   -- for this text's walks alone
set_option linter.unusedVariables false
set_option linter.unusedSimpArgs false
def zZ.f (a0 : Int) : Option (Int):=(some (([6148914691236517205,3689348814741910323,1085102592571150095,71777214294589695,281470681808895,4294967295] : List Int) : List Int)).bind fun y101=>(if 0 ≤ a0 then (if a0 < (y101.length : Int) then (some (rd y101 a0)) else (none)) else (none))
set_option maxHeartbeats 8000000 in
set_option maxRecDepth 100000 in
theorem zZ.calls (a0 : Int) (r : Int) (w : World) (h : zZ.f a0 = some r) :
 Calls Try.prog 108 #[.int .i64 a0] w fun e w'=>e = .returned (.int .u64 r) ∧ Below w.heap.size w w':=by
 have HB:=z7.mk (Below.refl w.heap.size w)
 have H : ((some (([6148914691236517205,3689348814741910323,1085102592571150095,71777214294589695,281470681808895,4294967295] : List Int) : List Int)).bind fun y101=>(if 0 ≤ a0 then (if a0 < (y101.length : Int) then (some (rd y101 a0)) else (none)) else (none))) = some r:=h
 clear h
 obtain ⟨y101,hy101⟩ : ∃ y_ : List Int,y_ = (([6148914691236517205,3689348814741910323,1085102592571150095,71777214294589695,281470681808895,4294967295] : List Int)):=⟨_,rfl⟩
 replace H : (if 0 ≤ a0 then (if a0 < (y101.length : Int) then (some (rd y101 a0)) else (none)) else (none)) = some r:=by first|(rw [hy101];with_reducible exact H)|(have H2_:=(Option.bind_some _ _).symm.trans H;rw [hy101];with_reducible exact H2_)|(have H2_:=(Option.bind_some _ _).symm.trans H;with_reducible exact H2_)|with_reducible exact H|(rw [hy101];exact H)|exact H
 have Ny101:=z7.mk hy101
 clear hy101
 by_cases c2 : 0 ≤ a0
 rotate_left
 · rw [if_neg c2] at H
   exact absurd H (by simp)
 rw [if_pos c2] at H
 have c2b0 : decide (0 ≤ a0) = true:=decide_eq_true c2
 clear c2
 by_cases c3 : a0 < (y101.length : Int)
 rotate_left
 · rw [if_neg c3] at H
   exact absurd H (by simp)
 rw [if_pos c3] at H
 have c3b0 : decide (a0 < (y101.length : Int)) = true:=decide_eq_true c3
 clear c3
 obtain rfl:=Option.some.inj H
 go_enter Try.func108,Try.ntmps108
 go_wp2_with (first|((with_reducible refine zM (N:=4) rfl ?_);refine Kd.z4z (Kd.int .u64) _ 49 ?hg (N:=4) ?hd (xs:=([6148914691236517205,3689348814741910323,1085102592571150095,71777214294589695,281470681808895,4294967295] : List Int)) (inner:=[.int .u64 6148914691236517205,.int .u64 3689348814741910323,.int .u64 1085102592571150095,.int .u64 71777214294589695,.int .u64 281470681808895,.int .u64 4294967295]) (ok:=fun _=>True) (okp:=fun _=>True) ?hr ?hp (fun _ hk=>hk) trivial (Below.refl _ _) (Nat.le_refl _) (by simp) ?_;(case hd=>rfl);(case hg=>rfl);(case hr=>first|(go_simp;done)|(go_simp;rfl));(case hp=>exact (Reps.one (show Kd.M (Kd.int .u64) _ _ _ 6148914691236517205 [.int .u64 6148914691236517205] from rfl) (Reps.one (show Kd.M (Kd.int .u64) _ _ _ 3689348814741910323 [.int .u64 3689348814741910323] from rfl) (Reps.one (show Kd.M (Kd.int .u64) _ _ _ 1085102592571150095 [.int .u64 1085102592571150095] from rfl) (Reps.one (show Kd.M (Kd.int .u64) _ _ _ 71777214294589695 [.int .u64 71777214294589695] from rfl) (Reps.one (show Kd.M (Kd.int .u64) _ _ _ 281470681808895 [.int .u64 281470681808895] from rfl) (Reps.one (show Kd.M (Kd.int .u64) _ _ _ 4294967295 [.int .u64 4294967295] from rfl) (Reps.none _ _))))))));intro v102 w4 ho5 hb hg_ hnew_;clear hg_ hnew_;(first|rw [← Ny101.out] at ho5|(simp only [Int.reduceToNat] at ho5;rw [← Ny101.out] at ho5));have n0_:=z7.mk (Kd.z1y ho5 (zf (by repeat (first|(with_reducible first|exact HB.out|apply z4|apply z0|apply z3)|exact HB.out))));have n1_:=z7.mk (zi (by repeat (first|(with_reducible first|exact HB.out|apply z4|apply z0|apply z3)|exact HB.out)) hb);clear HB;have HO103:=n0_;have HB:=n1_;clear n0_ n1_;clear hb ho5;obtain ⟨Ao6,co6,eo6⟩:=Kd.z1o HO103.out;subst eo6;have p104 : 0 ≤ (a0 : Int):=of_decide_eq_true (by first|(with_reducible assumption)|assumption);have q104 : a0 < (y101.length : Int):=of_decide_eq_true (by first|(with_reducible assumption)|assumption);obtain ⟨ad104,e104,hx104_0⟩:=Kd.z1v (Kd.zQ HO103.out).2.2 a0 p104 q104;cases e104;replace p104:=eq_true p104;replace q104:=eq_true q104))
 go_ret
 exact ⟨by first|rfl|(simp [zl,zm] <;> rfl)|(simp [*,zl,zm] <;> rfl),by repeat (first|(with_reducible first|exact HB.out|apply z4|apply z0|apply z3)|exact HB.out)⟩
end Go.Proofs.Ytngcaphdkgihmaa.P
namespace Go.Proofs.Ytngcaphdkgihmaa.P
open Go.RowKit Go.Proofs.YtngcaphdkgihmaaW.PrintWords Go.Proofs.YtngcaphdkgihmaaW.PrintLast Go.Proofs.YtngcaphdkgihmaaW.PrintMore
attribute [local go_sem] z14 z16 z1b z1c z10 z11 z15 z17   -- for this text's walks alone
set_option linter.unusedVariables false
set_option linter.unusedSimpArgs false
def zr.f : Nat → Int → Int → Option (Int)
 | 0,_,_=>none
 | k + 1,a0,a1=>if a0 < 0 then (some a1) else (if 0 ≤ (IntKind.u64.wrap (a0)) then ((zZ.f a0).bind fun t101=>((zZ.f a0).bind fun t102=>((zr.f k (wrap64 (a0 - 1)) (Go.bits .and .u64 (shr .u64 a1 (shl .u64 1 (IntKind.u64.wrap (a0)))) t101)).bind fun t103=>(some (Go.bits .or .u64 (shl .u64 (Go.bits .xor .u64 (Go.bits .and .u64 a1 t102) t103) (shl .u64 1 (IntKind.u64.wrap (a0)))) (Go.bits .and .u64 (shr .u64 a1 (shl .u64 1 (IntKind.u64.wrap (a0)))) t101)))))) else (none))
theorem zr.z18 : ∀ k,(∀ y0 y1,LeO (zr.f k y0 y1) (zr.f (k + 1) y0 y1))
 | 0=>fun _ _ r h=>by simp [zr.f] at h
 | k + 1=>by
  have ih0:=zr.z18 k
  · intro y0 y1
    unfold zr.f
    repeat' first
    | (with_reducible exact ih0 _ _)
    | (with_reducible exact LeO.refl _)
    | (with_reducible exact LeO.none _)
    | (with_reducible refine LeO.ite ?_ ?_)
    | (with_reducible refine LeO.bind ?_ (fun _=>?_))
    | exact ih0 _ _
    | exact LeO.none _
    | refine LeO.ite ?_ ?_
    | refine LeO.bind ?_ (fun _=>?_)
theorem zr.mono : ∀ a0 a1 k,LeO (zr.f k a0 a1) (zr.f (k + 1) a0 a1):=by
 intro a0 a1 k
 have ih0:=zr.z18 k
 exact ih0 a0 a1
set_option maxHeartbeats 8000000 in
set_option maxRecDepth 100000 in
theorem zr.calls (k : Nat) : ∀ (a0 : Int) (a1 : Int) (r : Int) (w : World) (h : zr.f k a0 a1 = some r),
 Calls Try.prog 103 #[.int .i64 a0,.int .u64 a1] w fun e w'=>e = .returned (.int .u64 r) ∧ Below w.heap.size w w':=by
 induction k using Nat.strongRecOn with
 | _ k ih =>
 intro a0 a1 r w h
 cases k with
 | zero=>exact absurd h (by simp [zr.f])
 | succ k =>
 simp only [zr.f] at h
 have HB:=z7.mk (Below.refl w.heap.size w)
 have H : (if a0 < 0 then (some a1) else (if 0 ≤ (IntKind.u64.wrap (a0)) then ((zZ.f a0).bind fun t101=>((zZ.f a0).bind fun t102=>((zr.f k (wrap64 (a0 - 1)) (Go.bits .and .u64 (shr .u64 a1 (shl .u64 1 (IntKind.u64.wrap (a0)))) t101)).bind fun t103=>(some (Go.bits .or .u64 (shl .u64 (Go.bits .xor .u64 (Go.bits .and .u64 a1 t102) t103) (shl .u64 1 (IntKind.u64.wrap (a0)))) (Go.bits .and .u64 (shr .u64 a1 (shl .u64 1 (IntKind.u64.wrap (a0)))) t101)))))) else (none))) = some r:=h
 clear h
 by_cases c3 : a0 < 0
 · rw [if_pos c3] at H
   have c3b0 : decide (a0 < 0) = true:=decide_eq_true c3
   clear c3
   obtain rfl:=Option.some.inj H
   go_enter Try.func103,Try.ntmps103
   go_wp2
   go_ret
   exact ⟨by first|rfl|(simp [zl,zm] <;> rfl)|(simp [*,zl,zm] <;> rfl),by repeat (first|(with_reducible first|exact HB.out|apply z4|apply z0|apply z3)|exact HB.out)⟩
 rw [if_neg c3] at H
 have c3b0 : decide (a0 < 0) = false:=decide_eq_false c3
 clear c3
 obtain ⟨ji4,hji4⟩ : ∃ j_ : Int,(IntKind.u64.wrap (a0)) = j_:=⟨_,rfl⟩
 replace H : (if 0 ≤ (ji4) then ((zZ.f a0).bind fun t101=>((zZ.f a0).bind fun t102=>((zr.f k (wrap64 (a0 - 1)) (Go.bits .and .u64 (shr .u64 a1 (shl .u64 1 (ji4))) t101)).bind fun t103=>(some (Go.bits .or .u64 (shl .u64 (Go.bits .xor .u64 (Go.bits .and .u64 a1 t102) t103) (shl .u64 1 (ji4))) (Go.bits .and .u64 (shr .u64 a1 (shl .u64 1 (ji4))) t101)))))) else (none)) = some r:=by first|(rw [hji4] at H;exact H)|(simp only [hji4] at H ⊢;exact H)
 by_cases c5 : 0 ≤ (ji4)
 rotate_left
 · rw [if_neg c5] at H
   exact absurd H (by simp)
 rw [if_pos c5] at H
 have c5b0:=eq_true c5
 have c5b1 : decide (0 ≤ (ji4)) = true:=decide_eq_true c5
 clear c5
 obtain ⟨ji6,hji6⟩ : ∃ j_ : Int,(shl .u64 1 (ji4)) = j_:=⟨_,rfl⟩
 replace H : ((zZ.f a0).bind fun t101=>((zZ.f a0).bind fun t102=>((zr.f k (wrap64 (a0 - 1)) (Go.bits .and .u64 (shr .u64 a1 (ji6)) t101)).bind fun t103=>(some (Go.bits .or .u64 (shl .u64 (Go.bits .xor .u64 (Go.bits .and .u64 a1 t102) t103) (ji6)) (Go.bits .and .u64 (shr .u64 a1 (ji6)) t101)))))) = some r:=by first|(rw [hji6] at H;exact H)|(simp only [hji6] at H ⊢;exact H)
 have hji6_ : (IntKind.u64.wrap (1 * 2 ^ min (ji4).toNat 64)) = ji6:=hji6
 have hji6z : (ji4) ≤ 64 → (IntKind.u64.wrap (1 * 2 ^ (ji4).toNat)) = ji6:=z1F hji6
 have hji6n0 : 0 ≤ ji6:=by rw [← hji6];exact Int.emod_nonneg _ (by decide)
 have hji6n1 : decide (0 ≤ ji6) = true:=decide_eq_true hji6n0
 replace hji6n0:=eq_true hji6n0
 have hji6u : (IntKind.u64.wrap (2 ^ min (ji4).toNat 64)) = ji6:=by have h_:=hji6_;rw [Int.one_mul] at h_;exact h_
 have hji6v : (ji4) ≤ 64 → (IntKind.u64.wrap (2 ^ (ji4).toNat)) = ji6:=fun hle_=>by have h_:=hji6z hle_;rw [Int.one_mul] at h_;exact h_
 obtain ⟨ji7,hji7⟩ : ∃ j_ : Int,(shr .u64 a1 (ji6)) = j_:=⟨_,rfl⟩
 replace H : ((zZ.f a0).bind fun t101=>((zZ.f a0).bind fun t102=>((zr.f k (wrap64 (a0 - 1)) (Go.bits .and .u64 (ji7) t101)).bind fun t103=>(some (Go.bits .or .u64 (shl .u64 (Go.bits .xor .u64 (Go.bits .and .u64 a1 t102) t103) (ji6)) (Go.bits .and .u64 (ji7) t101)))))) = some r:=by first|(rw [hji7] at H;exact H)|(simp only [hji7] at H ⊢;exact H)
 have hji7_ : (a1 / 2 ^ min (ji6).toNat 64) = ji7:=hji7
 have hji7z : (ji6) ≤ 64 → (a1 / 2 ^ (ji6).toNat) = ji7:=z25 hji7
 replace H:=Option.bind_eq_some_iff.mp H
 obtain ⟨t101,A80,H⟩:=H
 replace H : ((zZ.f a0).bind fun t102=>((zr.f k (wrap64 (a0 - 1)) (Go.bits .and .u64 (ji7) t101)).bind fun t103=>(some (Go.bits .or .u64 (shl .u64 (Go.bits .xor .u64 (Go.bits .and .u64 a1 t102) t103) (ji6)) (Go.bits .and .u64 (ji7) t101))))) = some r:=H
 have A8:=z7.mk A80
 clear A80
 replace H:=Option.bind_eq_some_iff.mp H
 obtain ⟨t102,A90,H⟩:=H
 replace H : ((zr.f k (wrap64 (a0 - 1)) (Go.bits .and .u64 (ji7) t101)).bind fun t103=>(some (Go.bits .or .u64 (shl .u64 (Go.bits .xor .u64 (Go.bits .and .u64 a1 t102) t103) (ji6)) (Go.bits .and .u64 (ji7) t101)))) = some r:=H
 have A9:=z7.mk A90
 clear A90
 replace H:=Option.bind_eq_some_iff.mp H
 obtain ⟨t103,A100,H⟩:=H
 replace H : (some (Go.bits .or .u64 (shl .u64 (Go.bits .xor .u64 (Go.bits .and .u64 a1 t102) t103) (ji6)) (Go.bits .and .u64 (ji7) t101))) = some r:=H
 have A10:=z7.mk A100
 clear A100
 obtain ⟨ji11,hji11⟩ : ∃ j_ : Int,(shl .u64 (Go.bits .xor .u64 (Go.bits .and .u64 a1 t102) t103) (ji6)) = j_:=⟨_,rfl⟩
 replace H : (some (Go.bits .or .u64 (ji11) (Go.bits .and .u64 (ji7) t101))) = some r:=by first|(rw [hji11] at H;exact H)|(simp only [hji11] at H ⊢;exact H)
 (try rw [hji11] at A8)
 (try rw [hji11] at A9)
 (try rw [hji11] at A10)
 have hji11_ : (IntKind.u64.wrap ((Go.bits .xor .u64 (Go.bits .and .u64 a1 t102) t103) * 2 ^ min (ji6).toNat 64)) = ji11:=hji11
 have hji11z : (ji6) ≤ 64 → (IntKind.u64.wrap ((Go.bits .xor .u64 (Go.bits .and .u64 a1 t102) t103) * 2 ^ (ji6).toNat)) = ji11:=z1F hji11
 have hji11n0 : 0 ≤ ji11:=by rw [← hji11];exact Int.emod_nonneg _ (by decide)
 have hji11n1 : decide (0 ≤ ji11) = true:=decide_eq_true hji11n0
 replace hji11n0:=eq_true hji11n0
 obtain rfl:=Option.some.inj H
 go_enter Try.func103,Try.ntmps103
 go_wp2_with (first|((with_reducible refine zG (f:=108) rfl ?_);refine goesL_ (some 18) rfl rfl Try.func108 (by kernel_rfl) rfl #[.int .i64 a0] rfl (by (try simp only [List.map_toArray,List.map_cons,List.map_nil]);first|done|rfl|(simp only [List.length_drop,List.length_take];rfl)) ?_;(with_reducible refine (zZ.calls a0 t101 _ A8.out).mono ?_);rintro e w12 ⟨rfl,hb⟩;refine ⟨_,rfl,?_⟩;have n0_:=z7.mk (zi (by repeat (first|(with_reducible first|exact HB.out|apply z4|apply z0|apply z3)|exact HB.out)) hb);clear HB;have HB:=n0_;clear n0_;(try clear hb);(try clear hb2);(try clear hk);(try clear hi))|((with_reducible refine zG (f:=108) rfl ?_);refine goesL_ (some 22) rfl rfl Try.func108 (by kernel_rfl) rfl #[.int .i64 a0] rfl (by (try simp only [List.map_toArray,List.map_cons,List.map_nil]);first|done|rfl|(simp only [List.length_drop,List.length_take];rfl)) ?_;(with_reducible refine (zZ.calls a0 t102 _ A9.out).mono ?_);rintro e w13 ⟨rfl,hb⟩;refine ⟨_,rfl,?_⟩;have n0_:=z7.mk (zi (by repeat (first|(with_reducible first|exact HB.out|apply z4|apply z0|apply z3)|exact HB.out)) hb);clear HB;have HB:=n0_;clear n0_;(try clear hb);(try clear hb2);(try clear hk);(try clear hi))|((with_reducible refine zG (f:=103) rfl ?_);refine goesL_ (some 28) rfl rfl Try.func103 (by kernel_rfl) rfl #[.int .i64 (wrap64 (a0 - 1)),.int .u64 (Go.bits .and .u64 (ji7) t101)] rfl (by (try simp only [List.map_toArray,List.map_cons,List.map_nil]);first|done|(simp only [hji7];rfl)|rfl|(simp only [List.length_drop,List.length_take];rfl)) ?_;(with_reducible refine (ih k (by omega) (wrap64 (a0 - 1)) (Go.bits .and .u64 (ji7) t101) t103 _ A10.out).mono ?_);rintro e w14 ⟨rfl,hb⟩;refine ⟨_,rfl,?_⟩;have n0_:=z7.mk (zi (by repeat (first|(with_reducible first|exact HB.out|apply z4|apply z0|apply z3)|exact HB.out)) hb);clear HB;have HB:=n0_;clear n0_;(try clear hb);(try clear hb2);(try clear hk);(try clear hi)))
 go_ret
 exact ⟨by first|rfl|(simp [zl,zm] <;> rfl)|(simp only [← hji4,← hji6,← hji7,← hji11];first|rfl|(simp [zl,zm] <;> rfl))|(simp [*,zl,zm] <;> rfl),by repeat (first|(with_reducible first|exact HB.out|apply z4|apply z0|apply z3)|exact HB.out)⟩
end Go.Proofs.Ytngcaphdkgihmaa.P

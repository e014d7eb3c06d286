/- Own text: merged by wip/tools/pack.py out of what the law ExprChecks reaches. -/
import Derived.Test.YtngcaphdkgihmaaMExprChecksb
import Derived.Test.YtngcaphdkgihmaaMExprChecksc
import Derived.Test.YtngcaphdkgihmaaMExprChecksd
import Derived.Test.YtngcaphdkgihmaaMExprCheckse
import Derived.Test.YtngcaphdkgihmaaMExprChecksf
namespace Go.Proofs.Ytngcaphdkgihmaa.P
open Go.RowKit Go.Proofs.YtngcaphdkgihmaaW.PrintWords Go.Proofs.YtngcaphdkgihmaaW.PrintLast Go.Proofs.YtngcaphdkgihmaaW.PrintMore
attribute [local go_sem] z17 z19 z1e z1f z12 z13 z18 z1a   -- for this text's walks alone
set_option linter.unusedVariables false
set_option linter.unusedSimpArgs false
mutual
def zi.l0 : Nat → List (S114) → Int → List (S61) → List (S61) → Int → Option (Int × Int)
 | 0,_,_,_,_,_=>none
 | k + 1,x0,x1,x2,x7,x8=>if x8 ≤ x1 then (if 0 ≤ x8 then (if x8 < (x0.length : Int) then (if ((za x0 x8).f0) = 2 then (if 0 ≤ ((za x0 x8).f1) then (if ((za x0 x8).f1) < (x2.length : Int) then (zi.j1 k x0 x1 x2 x7 x8 ((zS x2 ((za x0 x8).f1)).f0) ((zS x2 ((za x0 x8).f1)).f1)) else (none)) else (none)) else (zi.j1 k x0 x1 x2 x7 x8 ((za x0 x8).f3.f0) ((za x0 x8).f3.f1))) else (none)) else (none)) else (if 0 ≤ x1 then (if x1 < (x7.length : Int) then (some ((zS x7 x1).f0,(zS x7 x1).f1)) else (none)) else (none))
def zi.j1 : Nat → List (S114) → Int → List (S61) → List (S61) → Int → Int → Int → Option (Int × Int)
 | 0,_,_,_,_,_,_,_=>none
 | k + 1,x0,x1,x2,x7,x8,x105000,x105001=>if 0 ≤ x8 then (if x8 < (x0.length : Int) then (if ((za x0 x8).f0) = 3 then (if 0 ≤ ((za x0 x8).f1) then (if ((za x0 x8).f1) < (x7.length : Int) then (if 0 ≤ ((za x0 x8).f2) then (if ((za x0 x8).f2) < (x7.length : Int) then ((z1m.f ((zS x7 ((za x0 x8).f1)).f0) ((zS x7 ((za x0 x8).f1)).f1) ((zS x7 ((za x0 x8).f2)).f0) ((zS x7 ((za x0 x8).f2)).f1)).bind fun bt113=>(if ((za x0 x8).f0) = 4 then ((zh.f k ((zS x7 ((za x0 x8).f1)).f0) ((zS x7 ((za x0 x8).f1)).f1) ((zS x7 ((za x0 x8).f2)).f0) ((zS x7 ((za x0 x8).f2)).f1)).bind fun bt120=>(if x7.length < 8796093022208 then (zi.l0 k x0 x1 x2 (x7 ++ [(⟨bt120.1,bt120.2⟩ : S61)]) (wrap64 (x8 + 1))) else (none))) else (if x7.length < 8796093022208 then (zi.l0 k x0 x1 x2 (x7 ++ [(⟨bt113.1,bt113.2⟩ : S61)]) (wrap64 (x8 + 1))) else (none)))) else (none)) else (none)) else (none)) else (none)) else (if ((za x0 x8).f0) = 4 then (if 0 ≤ ((za x0 x8).f1) then (if ((za x0 x8).f1) < (x7.length : Int) then (if 0 ≤ ((za x0 x8).f2) then (if ((za x0 x8).f2) < (x7.length : Int) then ((zh.f k ((zS x7 ((za x0 x8).f1)).f0) ((zS x7 ((za x0 x8).f1)).f1) ((zS x7 ((za x0 x8).f2)).f0) ((zS x7 ((za x0 x8).f2)).f1)).bind fun bt133=>(if x7.length < 8796093022208 then (zi.l0 k x0 x1 x2 (x7 ++ [(⟨bt133.1,bt133.2⟩ : S61)]) (wrap64 (x8 + 1))) else (none))) else (none)) else (none)) else (none)) else (none)) else (if x7.length < 8796093022208 then (zi.l0 k x0 x1 x2 (x7 ++ [(⟨x105000,x105001⟩ : S61)]) (wrap64 (x8 + 1))) else (none)))) else (none)) else (none)
end
def zi.f (k : Nat) (l0 : List (S114)) (a1 : Int) (l2 : List (S61)) : Option (Int × Int):=zi.l0 k l0 a1 l2 ([] : List (S61)) 0
theorem zi.z1b : ∀ k,(∀ y0 y1 y2 y3 y4,LeO (zi.l0 k y0 y1 y2 y3 y4) (zi.l0 (k + 1) y0 y1 y2 y3 y4)) ∧ (∀ y0 y1 y2 y3 y4 y5 y6,LeO (zi.j1 k y0 y1 y2 y3 y4 y5 y6) (zi.j1 (k + 1) y0 y1 y2 y3 y4 y5 y6))
 | 0=>⟨fun _ _ _ _ _ r h=>by simp [zi.l0] at h,fun _ _ _ _ _ _ _ r h=>by simp [zi.j1] at h⟩
 | k + 1=>by
  obtain ⟨ih0,ih1⟩:=zi.z1b k
  refine ⟨?_,?_⟩
  · intro y0 y1 y2 y3 y4
    unfold zi.l0
    repeat' first
    | (with_reducible exact ih0 _ _ _ _ _)
    | (with_reducible exact ih1 _ _ _ _ _ _ _)
    | (with_reducible exact zh.mono _ _ _ _ _)
    | (with_reducible exact LeO.refl _)
    | (with_reducible exact LeO.none _)
    | (with_reducible refine LeO.ite ?_ ?_)
    | (with_reducible refine LeO.bind ?_ (fun _=>?_))
    | exact ih0 _ _ _ _ _
    | exact ih1 _ _ _ _ _ _ _
    | exact zh.mono _ _ _ _ _
    | exact LeO.none _
    | refine LeO.ite ?_ ?_
    | refine LeO.bind ?_ (fun _=>?_)
  · intro y0 y1 y2 y3 y4 y5 y6
    unfold zi.j1
    repeat' first
    | (with_reducible exact ih0 _ _ _ _ _)
    | (with_reducible exact ih1 _ _ _ _ _ _ _)
    | (with_reducible exact zh.mono _ _ _ _ _)
    | (with_reducible exact LeO.refl _)
    | (with_reducible exact LeO.none _)
    | (with_reducible refine LeO.ite ?_ ?_)
    | (with_reducible refine LeO.bind ?_ (fun _=>?_))
    | exact ih0 _ _ _ _ _
    | exact ih1 _ _ _ _ _ _ _
    | exact zh.mono _ _ _ _ _
    | exact LeO.none _
    | refine LeO.ite ?_ ?_
    | refine LeO.bind ?_ (fun _=>?_)
theorem zi.mono : ∀ a0 a1 a2 k,LeO (zi.f k a0 a1 a2) (zi.f (k + 1) a0 a1 a2):=by
 intro a0 a1 a2 k
 obtain ⟨ih0,ih1⟩:=zi.z1b k
 unfold zi.f
 repeat' first
  | (with_reducible exact ih0 _ _ _ _ _)
  | (with_reducible exact ih1 _ _ _ _ _ _ _)
  | (with_reducible exact zh.mono _ _ _ _ _)
  | (with_reducible exact LeO.refl _)
  | (with_reducible exact LeO.none _)
  | (with_reducible refine LeO.ite ?_ ?_)
  | (with_reducible refine LeO.bind ?_ (fun _=>?_))
  | exact ih0 _ _ _ _ _
  | exact ih1 _ _ _ _ _ _ _
  | exact zh.mono _ _ _ _ _
  | exact LeO.none _
  | refine LeO.ite ?_ ?_
  | refine LeO.bind ?_ (fun _=>?_)
def zi.T9 : Bool × List (List Nat × List Nat):=(true,[([],[]),([],[]),([],[]),([1,2],[1,2]),([3],[3]),([4],[4]),([0,5],[0,5]),([6],[6]),([],[]),([],[]),([],[]),([9,10],[9,10]),([11],[11]),([12],[12]),([8,13],[8,13]),([14],[14]),([7,15],[7,15]),([16,16,0,1,2,3,4,5,6,7,8,9,10,11,12,13,14,15,16],[16])])
def zi.B9 : List Nat:=[0,0,0,6,14,30,63,127,0,0,0,1536,3584,7680,16128,32512,65535,131071]
theorem zi.tab9 : rtab .any (opsOf Try.f47 9) = zi.T9:=by kernel_rfl
theorem zi.bits9 : waitsOk zi.T9.2 zi.B9 = true:=by kernel_rfl
def zi.T11 : Bool × List (List Nat × List Nat):=(true,[([],[]),([],[]),([],[]),([1,2],[1,2]),([3],[3]),([4],[4]),([0,5],[0,5]),([6],[6]),([],[]),([],[]),([],[]),([9,10],[9,10]),([11],[11]),([12],[12]),([8,13],[8,13]),([14],[14]),([7,15],[7,15]),([16,16,0,1,2,3,4,5,6,7,8,9,10,11,12,13,14,15,16],[16])])
def zi.B11 : List Nat:=[0,0,0,6,14,30,63,127,0,0,0,1536,3584,7680,16128,32512,65535,131071]
theorem zi.tab11 : rtab .any (opsOf Try.f47 11) = zi.T11:=by kernel_rfl
theorem zi.bits11 : waitsOk zi.T11.2 zi.B11 = true:=by kernel_rfl
set_option maxHeartbeats 8000000 in
set_option maxRecDepth 100000 in
theorem zi.calls (k : Nat) (A0 : Option Addr) (c0 : Nat) (l0 : List (S114)) (a1 : Int) (A2 : Option Addr) (c2 : Nat) (l2 : List (S61)) (r1 : Int) (r2 : Int) (w : World) (hr0 : Kd.C k114 w A0 l0.length l0) (hc0 : l0.length ≤ c0) (hr2 : Kd.C k61 w A2 l2.length l2) (hc2 : l2.length ≤ c2) (h : zi.f k l0 a1 l2 = some (r1,r2)) :
 Calls Try.prog 47 #[.slice A0 l0.length c0,.int .i64 a1,.slice A2 l2.length c2] w fun e w'=>e = .returned (.agg #[.int .u64 r1,.int .u64 r2]) ∧ Below w.heap.size w w':=by
 have hu61:=Try.underlying61
 have HR0:=z7.mk hr0
 have HC0:=z7.mk hc0
 clear hr0 hc0
 have HR2:=z7.mk hr2
 have HC2:=z7.mk hc2
 clear hr2 hc2
 have HB:=z7.mk (Below.refl w.heap.size w)
 have H : (zi.l0 k l0 a1 l2 ([] : List (S61)) 0) = some (r1,r2):=h
 clear h
 have H':=z7.mk H
 clear H
 go_enter Try.func47,Try.ntmps47
 go_wp2_with (first|((with_reducible refine zG (N:=6) rfl ?_);refine zE ?hg (N:=6) ?hd (cs:=#[.int .u64 0,.int .u64 0]) (t:=61) ?hr ?_;(case hd=>rfl);(case hg=>rfl);(case hr=>first|(go_simp;done)|(go_simp;rfl));intro gb101 hg w4 hbox hb;have n0_:=z7.mk (zg (by repeat (first|(with_reducible first|exact HB.out|apply z4|apply z0|apply z3)|exact HB.out)) hb);have n1_:=z7.mk (hbox);have n2_:=z7.mk ((by rw [hg];exact (zf (by repeat (first|(with_reducible first|exact HB.out|apply z4|apply z0|apply z3)|exact HB.out))) : w.heap.size ≤ gb101));have n3_:=z7.mk ((by rw [hg];exact (zf (by repeat (first|(with_reducible first|exact HB.out|apply z4|apply z0|apply z3)|exact HB.out))) : w.heap.size ≤ gb101));clear HB;have HB:=n0_;have BK101:=n1_;have GW101:=n2_;have GE101:=n3_;clear n0_ n1_ n2_ n3_;clear hb hbox hg))
 go_loopg [7,8] k (fun kq v7 v8 w'=>∃ (x7_1 : List (S61)) (x8_1 : Int),v8 = .int .i64 x8_1 ∧ z7 (zi.l0 kq l0 a1 l2 x7_1 x8_1 = some (r1,r2)) ∧ z7 (kq ≤ k) ∧ z7 (Kd.R k61 61 w' w.heap.size (fun k_=>k_ ≠ gb101) v7 x7_1) ∧ z7 (w'.heap[gb101]? = some (.cells #[.int .u64 0,.int .u64 0] 61 (0,0))) ∧ z7 (Below w.heap.size w w'))
 case atStart=>exact ⟨(([] : List (S61))),(0),(by first|rfl|(simp;done)|(simp [*];done)),H',⟨Nat.le_refl _⟩,⟨by first|exact Kd.z2r _ _ _ _ _|exact Kd.z2W _ _ _ _ _|exact Kd.z30 _ _ _ _ _|exact Kd.z2Y _ _ _ _ _|exact Kd.z2Z _ _ _ _ _⟩,⟨by (with_reducible repeat (first|refine z2 ?_ _|refine z5 ?_|refine z1 ?_ _));exact BK101.out⟩,⟨by repeat (first|(with_reducible first|exact HB.out|apply z4|apply z0|apply z3|refine z9 ?_ GE101.out)|exact HB.out)⟩⟩
 case round =>
  clear H'
  (try clear c2);(try clear p2);(try clear c4)
  obtain ⟨x7_1,x8_1,rfl,HA,HK1,HO_7,BK101,HB⟩:=hrel
  cases gk with
  | zero=>exact absurd HA.out (by simp [zi.l0])
  | succ k1 =>
   have H:=HA.out
   clear HA
   simp only [zi.l0] at H
   by_cases c5 : x8_1 ≤ a1
   rotate_left
   · rw [if_neg c5] at H
     have c5b0 : decide (x8_1 ≤ a1) = false:=decide_eq_false c5
     clear c5
     by_cases c69 : 0 ≤ a1
     rotate_left
     · rw [if_neg c69] at H
       exact absurd H (by simp)
     rw [if_pos c69] at H
     have c69b0 : decide (0 ≤ a1) = true:=decide_eq_true c69
     clear c69
     by_cases c70 : a1 < (x7_1.length : Int)
     rotate_left
     · rw [if_neg c70] at H
       exact absurd H (by simp)
     rw [if_pos c70] at H
     have c70b0 : decide (a1 < (x7_1.length : Int)) = true:=decide_eq_true c70
     clear c70
     simp only [Option.some.injEq,Prod.mk.injEq] at H
     obtain ⟨rfl,rfl⟩:=H
     obtain ⟨Ao71,co71,eo71⟩:=Kd.z1q HO_7.out
     subst eo71
     have p102 : 0 ≤ (a1 : Int):=of_decide_eq_true (by first|(with_reducible assumption)|assumption)
     have q102 : a1 < (x7_1.length : Int):=of_decide_eq_true (by first|(with_reducible assumption)|assumption)
     obtain ⟨ad102,e102,hx102_0,hx102_1⟩:=z1W (Kd.zO HO_7.out).2.2 a1 p102 q102
     cases e102
     replace p102:=eq_true p102
     replace q102:=eq_true q102
     have hcz72_0 : wr.cell? ⟨gb101,0,none⟩ = some (.int .u64 0):=(zb BK101.out 0).trans rfl
     have hcz72_1 : wr.cell? ⟨gb101,1,none⟩ = some (.int .u64 0):=(zb BK101.out 1).trans rfl
     have hfz72_0:=z8 BK101.out 0
     have hfz72_1:=z8 BK101.out 1
     go_wp2
     refine bodyPost_ret (results_cell_row rfl _ _ gb101 61 #[.int .u64 ((zS x7_1 a1).f0),.int .u64 ((zS x7_1 a1).f1)] (0,0) _ rfl (by (with_reducible repeat (first|refine z2 ?_ _|refine z5 ?_|refine z1 ?_ _));refine zq (cs:=#[.int .u64 ((zS x7_1 a1).f0),.int .u64 0]) ?_ 1 _ rfl;(with_reducible repeat (first|refine z2 ?_ _|refine z5 ?_|refine z1 ?_ _));refine zq (cs:=#[.int .u64 0,.int .u64 0]) ?_ 0 _ rfl;(with_reducible repeat (first|refine z2 ?_ _|refine z5 ?_|refine z1 ?_ _));exact BK101.out) Try.underlying61 rfl (by kernel_rfl)) rfl ?_
     exact ⟨by first|rfl|(simp [zl,zm] <;> rfl)|(simp [*,zl,zm] <;> rfl),by repeat (first|(with_reducible first|exact HB.out|apply z4|apply z0|apply z3|refine z9 ?_ GE101.out)|exact HB.out)⟩
   rw [if_pos c5] at H
   have c5b0 : decide (x8_1 ≤ a1) = true:=decide_eq_true c5
   clear c5
   by_cases c6 : 0 ≤ x8_1
   rotate_left
   · rw [if_neg c6] at H
     exact absurd H (by simp)
   rw [if_pos c6] at H
   have c6b0 : decide (0 ≤ x8_1) = true:=decide_eq_true c6
   clear c6
   by_cases c7 : x8_1 < (l0.length : Int)
   rotate_left
   · rw [if_neg c7] at H
     exact absurd H (by simp)
   rw [if_pos c7] at H
   have c7b0 : decide (x8_1 < (l0.length : Int)) = true:=decide_eq_true c7
   clear c7
   have HC8:=z7.mk H
   clear H
   have p103 : 0 ≤ (x8_1 : Int):=of_decide_eq_true (by first|(with_reducible assumption)|assumption)
   have q103 : x8_1 < (l0.length : Int):=of_decide_eq_true (by first|(with_reducible assumption)|assumption)
   obtain ⟨ad103,e103,hx103_0,hx103_1,hx103_2,hx103_3,hx103_4⟩:=z16 HR0.out x8_1 p103 q103
   cases e103
   replace hx103_0:=(HB.out.cell (World.block_lt_of_cell? w _ hx103_0)).trans hx103_0
   replace hx103_1:=(HB.out.cell (World.block_lt_of_cell? w _ hx103_1)).trans hx103_1
   replace hx103_2:=(HB.out.cell (World.block_lt_of_cell? w _ hx103_2)).trans hx103_2
   replace hx103_3:=(HB.out.cell (World.block_lt_of_cell? w _ hx103_3)).trans hx103_3
   replace hx103_4:=(HB.out.cell (World.block_lt_of_cell? w _ hx103_4)).trans hx103_4
   replace p103:=eq_true p103
   replace q103:=eq_true q103
   go_upto_if 25 with (first|((with_reducible refine zG (N:=9) rfl ?_);refine zE ?hg (N:=9) ?hd (cs:=#[.int .u64 0,.int .u64 0]) (t:=61) ?hr ?_;(case hd=>rfl);(case hg=>rfl);(case hr=>first|(go_simp;done)|(go_simp;rfl));intro gb104 hg w9 hbox hb;have n0_:=z7.mk (Kd.zY (Kd.z1S (by (with_reducible repeat (first|apply Kd.zx|apply Kd.zy|apply Kd.zD));exact HO_7.out) gb104 (Nat.le_of_eq hg.symm)) hb);have n1_:=z7.mk (zk (g:=gb101) (o:=.cells #[.int .u64 0,.int .u64 0] 61 (0,0)) (by (with_reducible repeat (first|refine z2 ?_ _|refine z5 ?_|refine z1 ?_ _));exact BK101.out) hb);have n2_:=z7.mk (zg (by repeat (first|(with_reducible first|exact HB.out|apply z4|apply z0|apply z3|refine z9 ?_ GE101.out)|exact HB.out)) hb);have n3_:=z7.mk (hbox);have n4_:=z7.mk ((by rw [hg];exact (zf (by repeat (first|(with_reducible first|exact HB.out|apply z4|apply z0|apply z3|refine z9 ?_ GE101.out)|exact HB.out))) : w.heap.size ≤ gb104));have n5_:=z7.mk ((by rw [hg];exact (zf (by repeat (first|(with_reducible first|exact HB.out|apply z4|apply z0|apply z3|refine z9 ?_ GE101.out)|exact HB.out))) : w.heap.size ≤ gb104));have n6_:=z7.mk ((by rw [hg];exact Nat.ne_of_lt (zP (g:=gb101) (o:=.cells #[.int .u64 0,.int .u64 0] 61 (0,0)) (by (with_reducible repeat (first|refine z2 ?_ _|refine z5 ?_|refine z1 ?_ _));exact BK101.out)) : gb101 ≠ gb104));have n7_:=z7.mk ((by rw [hg];exact Nat.ne_of_gt (zP (g:=gb101) (o:=.cells #[.int .u64 0,.int .u64 0] 61 (0,0)) (by (with_reducible repeat (first|refine z2 ?_ _|refine z5 ?_|refine z1 ?_ _));exact BK101.out)) : gb104 ≠ gb101));clear HO_7;clear BK101;clear HB;have HO_7:=n0_;have BK101:=n1_;have HB:=n2_;have BK104:=n3_;have GW104:=n4_;have GE104:=n5_;have NB101_104:=n6_;have NB104_101:=n7_;clear n0_ n1_ n2_ n3_ n4_ n5_ n6_ n7_;clear hb hbox hg;have hnb10:=NB104_101.out;have hnc10:=NB101_104.out;have hcz11_0 : w9.cell? ⟨gb104,0,none⟩ = some (.int .u64 0):=(zb BK104.out 0).trans rfl;have hcz11_1 : w9.cell? ⟨gb104,1,none⟩ = some (.int .u64 0):=(zb BK104.out 1).trans rfl;have hfz11_0:=z8 BK104.out 0;have hfz11_1:=z8 BK104.out 1;have p105 : 0 ≤ (x8_1 : Int):=of_decide_eq_true (by first|(with_reducible assumption)|assumption);have q105 : x8_1 < (l0.length : Int):=of_decide_eq_true (by first|(with_reducible assumption)|assumption);obtain ⟨ad105,e105,hx105_0,hx105_1,hx105_2,hx105_3,hx105_4⟩:=z16 HR0.out x8_1 p105 q105;obtain rfl : ad103 = ad105:=(by injection e105);have hn105_0 : ad103.block ≠ gb104:=Nat.ne_of_lt (Nat.lt_of_lt_of_le (by have:=World.block_lt_of_cell? _ _ hx105_0;first|rwa [z6] at this|exact this) GW104.out);have hn105_1 : ad103.block ≠ gb104:=Nat.ne_of_lt (Nat.lt_of_lt_of_le (by have:=World.block_lt_of_cell? _ _ hx105_0;first|rwa [z6] at this|exact this) GW104.out);replace hx105_0:=(HB.out.cell (World.block_lt_of_cell? w _ hx105_0)).trans hx105_0;replace hx105_1:=(HB.out.cell (World.block_lt_of_cell? w _ hx105_1)).trans hx105_1;replace hx105_2:=(HB.out.cell (World.block_lt_of_cell? w _ hx105_2)).trans hx105_2;replace hx105_3:=(HB.out.cell (World.block_lt_of_cell? w _ hx105_3)).trans hx105_3;replace hx105_4:=(HB.out.cell (World.block_lt_of_cell? w _ hx105_4)).trans hx105_4;replace hx105_0:=(zn (p:=⟨gb104,0,none⟩) (by first|(rw [z6];exact hn105_0)|(show (Addr.add _ _).block ≠ _;rw [z6];exact hn105_0)|exact hn105_0) (.int .u64 ((za l0 x8_1).f3.f0))).trans hx105_0;replace hx105_1:=(zn (p:=⟨gb104,0,none⟩) (by first|(rw [z6];exact hn105_0)|(show (Addr.add _ _).block ≠ _;rw [z6];exact hn105_0)|exact hn105_0) (.int .u64 ((za l0 x8_1).f3.f0))).trans hx105_1;replace hx105_2:=(zn (p:=⟨gb104,0,none⟩) (by first|(rw [z6];exact hn105_0)|(show (Addr.add _ _).block ≠ _;rw [z6];exact hn105_0)|exact hn105_0) (.int .u64 ((za l0 x8_1).f3.f0))).trans hx105_2;replace hx105_3:=(zn (p:=⟨gb104,0,none⟩) (by first|(rw [z6];exact hn105_0)|(show (Addr.add _ _).block ≠ _;rw [z6];exact hn105_0)|exact hn105_0) (.int .u64 ((za l0 x8_1).f3.f0))).trans hx105_3;replace hx105_4:=(zn (p:=⟨gb104,0,none⟩) (by first|(rw [z6];exact hn105_0)|(show (Addr.add _ _).block ≠ _;rw [z6];exact hn105_0)|exact hn105_0) (.int .u64 ((za l0 x8_1).f3.f0))).trans hx105_4;replace hx105_0:=(zn (p:=⟨gb104,1,none⟩) (by first|(rw [z6];exact hn105_1)|(show (Addr.add _ _).block ≠ _;rw [z6];exact hn105_1)|exact hn105_1) (.int .u64 ((za l0 x8_1).f3.f1))).trans hx105_0;replace hx105_1:=(zn (p:=⟨gb104,1,none⟩) (by first|(rw [z6];exact hn105_1)|(show (Addr.add _ _).block ≠ _;rw [z6];exact hn105_1)|exact hn105_1) (.int .u64 ((za l0 x8_1).f3.f1))).trans hx105_1;replace hx105_2:=(zn (p:=⟨gb104,1,none⟩) (by first|(rw [z6];exact hn105_1)|(show (Addr.add _ _).block ≠ _;rw [z6];exact hn105_1)|exact hn105_1) (.int .u64 ((za l0 x8_1).f3.f1))).trans hx105_2;replace hx105_3:=(zn (p:=⟨gb104,1,none⟩) (by first|(rw [z6];exact hn105_1)|(show (Addr.add _ _).block ≠ _;rw [z6];exact hn105_1)|exact hn105_1) (.int .u64 ((za l0 x8_1).f3.f1))).trans hx105_3;replace hx105_4:=(zn (p:=⟨gb104,1,none⟩) (by first|(rw [z6];exact hn105_1)|(show (Addr.add _ _).block ≠ _;rw [z6];exact hn105_1)|exact hn105_1) (.int .u64 ((za l0 x8_1).f3.f1))).trans hx105_4;clear hn105_0;clear hn105_1;replace p105:=eq_true p105;replace q105:=eq_true q105))
   (try simp only [Act.put,List.setIfInBounds_toArray,List.set_cons_zero,List.set_cons_succ])
   go_cut [] (fun wc=>∃ (kq : Nat) (x105000_7 : Int) (x105001_7 : Int),z7 (zi.j1 kq l0 a1 l2 x7_1 x8_1 x105000_7 x105001_7 = some (r1,r2)) ∧ z7 (kq ≤ k1) ∧ z7 (Kd.R k61 61 wc w.heap.size (fun k_=>k_ ≠ gb101 ∧ k_ ≠ gb104) u7 x7_1) ∧ z7 (wc.heap[gb101]? = some (.cells #[.int .u64 0,.int .u64 0] 61 (0,0))) ∧ z7 (wc.heap[gb104]? = some (.cells #[.int .u64 x105000_7,.int .u64 x105001_7] 61 (0,0))) ∧ z7 (Below w.heap.size w wc))
   case first =>
    have H:=HC8.out
    clear HC8
    by_cases c12 : ((za l0 x8_1).f0) = 2
    rotate_left
    · rw [if_neg c12] at H
      have c12b0 : (((za l0 x8_1).f0) == 2) = false:=beq_eq_false_iff_ne.mpr c12
      have c12b1 : (((za l0 x8_1).f0) != 2) = true:=bne_iff_ne.mpr c12
      (first|rw [c12b0]|(simp only [zH,zL];rw [c12b0])|skip)
      have H':=z7.mk H
      clear H
      go_wp2
      go_meet
      case rel=>exact ⟨_,((za l0 x8_1).f3.f0),((za l0 x8_1).f3.f1),H',⟨by have:=HK1.out;first|omega|exact Nat.le_refl _⟩,⟨by (with_reducible repeat (first|apply Kd.zx|apply Kd.zy|apply Kd.zD));exact Kd.z1d (Kd.z1g (p:=⟨gb104,1,none⟩) (Kd.z1g (p:=⟨gb104,0,none⟩) (Kd.z1d HO_7.out (fun k_ hk=>(⟨hk,hk.2⟩ : _ ∧ k_ ≠ gb104))) (fun _ hk=>hk.2) (.int .u64 ((za l0 x8_1).f3.f0))) (fun _ hk=>hk.2) (.int .u64 ((za l0 x8_1).f3.f1))) (fun _ hk=>⟨hk.1.1,hk.1.2⟩)⟩,⟨by (with_reducible repeat (first|refine z2 ?_ _|refine z5 ?_|refine z1 ?_ _));refine zs ?_ NB101_104.out _;(with_reducible repeat (first|refine z2 ?_ _|refine z5 ?_|refine z1 ?_ _));refine zs ?_ NB101_104.out _;(with_reducible repeat (first|refine z2 ?_ _|refine z5 ?_|refine z1 ?_ _));exact BK101.out⟩,⟨by (with_reducible repeat (first|refine z2 ?_ _|refine z5 ?_|refine z1 ?_ _));refine zq (cs:=#[.int .u64 ((za l0 x8_1).f3.f0),.int .u64 0]) ?_ 1 _ rfl;(with_reducible repeat (first|refine z2 ?_ _|refine z5 ?_|refine z1 ?_ _));refine zq (cs:=#[.int .u64 0,.int .u64 0]) ?_ 0 _ rfl;(with_reducible repeat (first|refine z2 ?_ _|refine z5 ?_|refine z1 ?_ _));exact BK104.out⟩,⟨by repeat (first|(with_reducible first|exact HB.out|apply z4|apply z0|apply z3|refine z9 ?_ GE101.out|refine z9 ?_ GE104.out)|exact HB.out)⟩⟩
    rw [if_pos c12] at H
    have c12b0 : (((za l0 x8_1).f0) == 2) = true:=beq_iff_eq.mpr c12
    have c12b1 : (((za l0 x8_1).f0) != 2) = false:=bne_eq_false_iff_eq.mpr c12
    clear c12
    (first|rw [c12b0]|(simp only [zH,zL];rw [c12b0])|skip)
    by_cases c13 : 0 ≤ ((za l0 x8_1).f1)
    rotate_left
    · rw [if_neg c13] at H
      exact absurd H (by simp)
    rw [if_pos c13] at H
    have c13b0 : decide (0 ≤ ((za l0 x8_1).f1)) = true:=decide_eq_true c13
    clear c13
    by_cases c14 : ((za l0 x8_1).f1) < (l2.length : Int)
    rotate_left
    · rw [if_neg c14] at H
      exact absurd H (by simp)
    rw [if_pos c14] at H
    have c14b0 : decide (((za l0 x8_1).f1) < (l2.length : Int)) = true:=decide_eq_true c14
    clear c14
    have H':=z7.mk H
    clear H
    have p106 : 0 ≤ (x8_1 : Int):=of_decide_eq_true (by first|(with_reducible assumption)|assumption)
    have q106 : x8_1 < (l0.length : Int):=of_decide_eq_true (by first|(with_reducible assumption)|assumption)
    obtain ⟨ad106,e106,hx106_0,hx106_1,hx106_2,hx106_3,hx106_4⟩:=z16 HR0.out x8_1 p106 q106
    obtain rfl : ad103 = ad106:=(by injection e106)
    have hn106_0 : ad103.block ≠ gb104:=Nat.ne_of_lt (Nat.lt_of_lt_of_le (by have:=World.block_lt_of_cell? _ _ hx106_0;first|rwa [z6] at this|exact this) GW104.out)
    have hn106_1 : ad103.block ≠ gb104:=Nat.ne_of_lt (Nat.lt_of_lt_of_le (by have:=World.block_lt_of_cell? _ _ hx106_0;first|rwa [z6] at this|exact this) GW104.out)
    replace hx106_0:=(HB.out.cell (World.block_lt_of_cell? w _ hx106_0)).trans hx106_0
    replace hx106_1:=(HB.out.cell (World.block_lt_of_cell? w _ hx106_1)).trans hx106_1
    replace hx106_2:=(HB.out.cell (World.block_lt_of_cell? w _ hx106_2)).trans hx106_2
    replace hx106_3:=(HB.out.cell (World.block_lt_of_cell? w _ hx106_3)).trans hx106_3
    replace hx106_4:=(HB.out.cell (World.block_lt_of_cell? w _ hx106_4)).trans hx106_4
    replace hx106_0:=(zn (p:=⟨gb104,0,none⟩) (by first|(rw [z6];exact hn106_0)|(show (Addr.add _ _).block ≠ _;rw [z6];exact hn106_0)|exact hn106_0) (.int .u64 ((za l0 x8_1).f3.f0))).trans hx106_0
    replace hx106_1:=(zn (p:=⟨gb104,0,none⟩) (by first|(rw [z6];exact hn106_0)|(show (Addr.add _ _).block ≠ _;rw [z6];exact hn106_0)|exact hn106_0) (.int .u64 ((za l0 x8_1).f3.f0))).trans hx106_1
    replace hx106_2:=(zn (p:=⟨gb104,0,none⟩) (by first|(rw [z6];exact hn106_0)|(show (Addr.add _ _).block ≠ _;rw [z6];exact hn106_0)|exact hn106_0) (.int .u64 ((za l0 x8_1).f3.f0))).trans hx106_2
    replace hx106_3:=(zn (p:=⟨gb104,0,none⟩) (by first|(rw [z6];exact hn106_0)|(show (Addr.add _ _).block ≠ _;rw [z6];exact hn106_0)|exact hn106_0) (.int .u64 ((za l0 x8_1).f3.f0))).trans hx106_3
    replace hx106_4:=(zn (p:=⟨gb104,0,none⟩) (by first|(rw [z6];exact hn106_0)|(show (Addr.add _ _).block ≠ _;rw [z6];exact hn106_0)|exact hn106_0) (.int .u64 ((za l0 x8_1).f3.f0))).trans hx106_4
    replace hx106_0:=(zn (p:=⟨gb104,1,none⟩) (by first|(rw [z6];exact hn106_1)|(show (Addr.add _ _).block ≠ _;rw [z6];exact hn106_1)|exact hn106_1) (.int .u64 ((za l0 x8_1).f3.f1))).trans hx106_0
    replace hx106_1:=(zn (p:=⟨gb104,1,none⟩) (by first|(rw [z6];exact hn106_1)|(show (Addr.add _ _).block ≠ _;rw [z6];exact hn106_1)|exact hn106_1) (.int .u64 ((za l0 x8_1).f3.f1))).trans hx106_1
    replace hx106_2:=(zn (p:=⟨gb104,1,none⟩) (by first|(rw [z6];exact hn106_1)|(show (Addr.add _ _).block ≠ _;rw [z6];exact hn106_1)|exact hn106_1) (.int .u64 ((za l0 x8_1).f3.f1))).trans hx106_2
    replace hx106_3:=(zn (p:=⟨gb104,1,none⟩) (by first|(rw [z6];exact hn106_1)|(show (Addr.add _ _).block ≠ _;rw [z6];exact hn106_1)|exact hn106_1) (.int .u64 ((za l0 x8_1).f3.f1))).trans hx106_3
    replace hx106_4:=(zn (p:=⟨gb104,1,none⟩) (by first|(rw [z6];exact hn106_1)|(show (Addr.add _ _).block ≠ _;rw [z6];exact hn106_1)|exact hn106_1) (.int .u64 ((za l0 x8_1).f3.f1))).trans hx106_4
    clear hn106_0
    clear hn106_1
    replace p106:=eq_true p106
    replace q106:=eq_true q106
    have p107 : 0 ≤ (((za l0 x8_1).f1) : Int):=of_decide_eq_true (by first|(with_reducible assumption)|assumption)
    have q107 : ((za l0 x8_1).f1) < (l2.length : Int):=of_decide_eq_true (by first|(with_reducible assumption)|assumption)
    obtain ⟨ad107,e107,hx107_0,hx107_1⟩:=z1W HR2.out ((za l0 x8_1).f1) p107 q107
    cases e107
    have hn107_0 : ad107.block ≠ gb104:=Nat.ne_of_lt (Nat.lt_of_lt_of_le (by have:=World.block_lt_of_cell? _ _ hx107_0;first|rwa [z6] at this|exact this) GW104.out)
    have hn107_1 : ad107.block ≠ gb104:=Nat.ne_of_lt (Nat.lt_of_lt_of_le (by have:=World.block_lt_of_cell? _ _ hx107_0;first|rwa [z6] at this|exact this) GW104.out)
    replace hx107_0:=(HB.out.cell (World.block_lt_of_cell? w _ hx107_0)).trans hx107_0
    replace hx107_1:=(HB.out.cell (World.block_lt_of_cell? w _ hx107_1)).trans hx107_1
    replace hx107_0:=(zn (p:=⟨gb104,0,none⟩) (by first|(rw [z6];exact hn107_0)|(show (Addr.add _ _).block ≠ _;rw [z6];exact hn107_0)|exact hn107_0) (.int .u64 ((za l0 x8_1).f3.f0))).trans hx107_0
    replace hx107_1:=(zn (p:=⟨gb104,0,none⟩) (by first|(rw [z6];exact hn107_0)|(show (Addr.add _ _).block ≠ _;rw [z6];exact hn107_0)|exact hn107_0) (.int .u64 ((za l0 x8_1).f3.f0))).trans hx107_1
    replace hx107_0:=(zn (p:=⟨gb104,1,none⟩) (by first|(rw [z6];exact hn107_1)|(show (Addr.add _ _).block ≠ _;rw [z6];exact hn107_1)|exact hn107_1) (.int .u64 ((za l0 x8_1).f3.f1))).trans hx107_0
    replace hx107_1:=(zn (p:=⟨gb104,1,none⟩) (by first|(rw [z6];exact hn107_1)|(show (Addr.add _ _).block ≠ _;rw [z6];exact hn107_1)|exact hn107_1) (.int .u64 ((za l0 x8_1).f3.f1))).trans hx107_1
    clear hn107_0
    clear hn107_1
    replace p107:=eq_true p107
    replace q107:=eq_true q107
    have hnb15:=NB104_101.out
    have hnc15:=NB101_104.out
    have hcz16_0 : w9.cell? ⟨gb104,0,none⟩ = some (.int .u64 0):=(zb BK104.out 0).trans rfl
    have hcz16_1 : w9.cell? ⟨gb104,1,none⟩ = some (.int .u64 0):=(zb BK104.out 1).trans rfl
    have hfz16_0:=z8 BK104.out 0
    have hfz16_1:=z8 BK104.out 1
    go_wp2
    go_meet
    case rel=>exact ⟨_,((zS l2 ((za l0 x8_1).f1)).f0),((zS l2 ((za l0 x8_1).f1)).f1),H',⟨by have:=HK1.out;first|omega|exact Nat.le_refl _⟩,⟨by (with_reducible repeat (first|apply Kd.zx|apply Kd.zy|apply Kd.zD));exact Kd.z1d (Kd.z1g (p:=⟨gb104,1,none⟩) (Kd.z1g (p:=⟨gb104,0,none⟩) (Kd.z1g (p:=⟨gb104,1,none⟩) (Kd.z1g (p:=⟨gb104,0,none⟩) (Kd.z1d HO_7.out (fun k_ hk=>(⟨hk,hk.2⟩ : _ ∧ k_ ≠ gb104))) (fun _ hk=>hk.2) (.int .u64 ((za l0 x8_1).f3.f0))) (fun _ hk=>hk.2) (.int .u64 ((za l0 x8_1).f3.f1))) (fun _ hk=>hk.2) (.int .u64 ((zS l2 ((za l0 x8_1).f1)).f0))) (fun _ hk=>hk.2) (.int .u64 ((zS l2 ((za l0 x8_1).f1)).f1))) (fun _ hk=>⟨hk.1.1,hk.1.2⟩)⟩,⟨by (with_reducible repeat (first|refine z2 ?_ _|refine z5 ?_|refine z1 ?_ _));refine zs ?_ NB101_104.out _;(with_reducible repeat (first|refine z2 ?_ _|refine z5 ?_|refine z1 ?_ _));refine zs ?_ NB101_104.out _;(with_reducible repeat (first|refine z2 ?_ _|refine z5 ?_|refine z1 ?_ _));refine zs ?_ NB101_104.out _;(with_reducible repeat (first|refine z2 ?_ _|refine z5 ?_|refine z1 ?_ _));refine zs ?_ NB101_104.out _;(with_reducible repeat (first|refine z2 ?_ _|refine z5 ?_|refine z1 ?_ _));exact BK101.out⟩,⟨by (with_reducible repeat (first|refine z2 ?_ _|refine z5 ?_|refine z1 ?_ _));refine zq (cs:=#[.int .u64 ((zS l2 ((za l0 x8_1).f1)).f0),.int .u64 ((za l0 x8_1).f3.f1)]) ?_ 1 _ rfl;(with_reducible repeat (first|refine z2 ?_ _|refine z5 ?_|refine z1 ?_ _));refine zq (cs:=#[.int .u64 ((za l0 x8_1).f3.f0),.int .u64 ((za l0 x8_1).f3.f1)]) ?_ 0 _ rfl;(with_reducible repeat (first|refine z2 ?_ _|refine z5 ?_|refine z1 ?_ _));refine zq (cs:=#[.int .u64 ((za l0 x8_1).f3.f0),.int .u64 0]) ?_ 1 _ rfl;(with_reducible repeat (first|refine z2 ?_ _|refine z5 ?_|refine z1 ?_ _));refine zq (cs:=#[.int .u64 0,.int .u64 0]) ?_ 0 _ rfl;(with_reducible repeat (first|refine z2 ?_ _|refine z5 ?_|refine z1 ?_ _));exact BK104.out⟩,⟨by repeat (first|(with_reducible first|exact HB.out|apply z4|apply z0|apply z3|refine z9 ?_ GE101.out|refine z9 ?_ GE104.out)|exact HB.out)⟩⟩
   case rest =>
    clear HC8
    (try clear c1);(try clear p1);(try clear q1);(try clear hx1);(try clear c2);(try clear p2);(try clear c4);(try clear c5);(try clear c5b0);(try clear c6);(try clear c6b0);(try clear c7);(try clear c7b0);(try clear c10);(try clear p10);(try clear q10);(try clear hx10);(try clear c12);(try clear c12b0);(try clear c12b1);(try clear c13);(try clear c13b0);(try clear c14);(try clear c14b0);(try clear c15);(try clear hcz11_0);(try clear hcz11_1);(try clear hcz16_0);(try clear hcz16_1);(try clear hfz11_0);(try clear hfz11_1);(try clear hfz16_0);(try clear hfz16_1);(try clear hx103_0);(try clear hx103_1);(try clear hx103_2);(try clear hx103_3);(try clear hx103_4);(try clear hx105_0);(try clear hx105_1);(try clear hx105_2);(try clear hx105_3);(try clear hx105_4);(try clear hx106_0);(try clear hx106_1);(try clear hx106_2);(try clear hx106_3);(try clear hx106_4);(try clear hx107_0);(try clear hx107_1);(try clear p103);(try clear p105);(try clear p106);(try clear p107);(try clear p2);(try clear q103);(try clear q105);(try clear q106);(try clear q107)
    obtain ⟨kq,x105000_7,x105001_7,HA,HJ7,HO_7,BK101,BK104,HB⟩:=hcut
    cases kq with
    | zero=>exact absurd HA.out (by simp [zi.j1])
    | succ kj7 =>
     have H:=HA.out
     clear HA
     simp only [zi.j1] at H
     by_cases c17 : 0 ≤ x8_1
     rotate_left
     · rw [if_neg c17] at H
       exact absurd H (by simp)
     rw [if_pos c17] at H
     have c17b0 : decide (0 ≤ x8_1) = true:=decide_eq_true c17
     clear c17
     by_cases c18 : x8_1 < (l0.length : Int)
     rotate_left
     · rw [if_neg c18] at H
       exact absurd H (by simp)
     rw [if_pos c18] at H
     have c18b0 : decide (x8_1 < (l0.length : Int)) = true:=decide_eq_true c18
     clear c18
     by_cases c19 : ((za l0 x8_1).f0) = 3
     rotate_left
     · rw [if_neg c19] at H
       have c19b0 : (((za l0 x8_1).f0) == 3) = false:=beq_eq_false_iff_ne.mpr c19
       have c19b1 : (((za l0 x8_1).f0) != 3) = true:=bne_iff_ne.mpr c19
       by_cases c50 : ((za l0 x8_1).f0) = 4
       rotate_left
       · rw [if_neg c50] at H
         have c50b0 : (((za l0 x8_1).f0) == 4) = false:=beq_eq_false_iff_ne.mpr c50
         have c50b1 : (((za l0 x8_1).f0) != 4) = true:=bne_iff_ne.mpr c50
         by_cases c65 : x7_1.length < 8796093022208
         rotate_left
         · rw [if_neg c65] at H
           exact absurd H (by simp)
         rw [if_pos c65] at H
         have LMc65:=z7.mk c65
         clear c65
         obtain ⟨y138,hy138⟩ : ∃ y_ : List (S61),y_ = (x7_1 ++ [(⟨x105000_7,x105001_7⟩ : S61)]):=⟨_,rfl⟩
         replace H : (zi.l0 kj7 l0 a1 l2 y138 (wrap64 (x8_1 + 1))) = some (r1,r2):=by first|(rw [hy138];with_reducible exact H)|(have H2_:=(Option.bind_some _ _).symm.trans H;rw [hy138];with_reducible exact H2_)|(have H2_:=(Option.bind_some _ _).symm.trans H;with_reducible exact H2_)|with_reducible exact H|(rw [hy138];exact H)|exact H
         have Ny138:=z7.mk hy138
         clear hy138
         have H':=z7.mk H
         clear H
         have p108 : 0 ≤ (x8_1 : Int):=of_decide_eq_true (by first|(with_reducible assumption)|assumption)
         have q108 : x8_1 < (l0.length : Int):=of_decide_eq_true (by first|(with_reducible assumption)|assumption)
         obtain ⟨ad108,e108,hx108_0,hx108_1,hx108_2,hx108_3,hx108_4⟩:=z16 HR0.out x8_1 p108 q108
         obtain rfl : ad103 = ad108:=(by injection e108)
         replace hx108_0:=(HB.out.cell (World.block_lt_of_cell? w _ hx108_0)).trans hx108_0
         replace hx108_1:=(HB.out.cell (World.block_lt_of_cell? w _ hx108_1)).trans hx108_1
         replace hx108_2:=(HB.out.cell (World.block_lt_of_cell? w _ hx108_2)).trans hx108_2
         replace hx108_3:=(HB.out.cell (World.block_lt_of_cell? w _ hx108_3)).trans hx108_3
         replace hx108_4:=(HB.out.cell (World.block_lt_of_cell? w _ hx108_4)).trans hx108_4
         replace p108:=eq_true p108
         replace q108:=eq_true q108
         have p128 : 0 ≤ (x8_1 : Int):=of_decide_eq_true (by first|(with_reducible assumption)|assumption)
         have q128 : x8_1 < (l0.length : Int):=of_decide_eq_true (by first|(with_reducible assumption)|assumption)
         obtain ⟨ad128,e128,hx128_0,hx128_1,hx128_2,hx128_3,hx128_4⟩:=z16 HR0.out x8_1 p128 q128
         obtain rfl : ad103 = ad128:=(by injection e128)
         replace hx128_0:=(HB.out.cell (World.block_lt_of_cell? w _ hx128_0)).trans hx128_0
         replace hx128_1:=(HB.out.cell (World.block_lt_of_cell? w _ hx128_1)).trans hx128_1
         replace hx128_2:=(HB.out.cell (World.block_lt_of_cell? w _ hx128_2)).trans hx128_2
         replace hx128_3:=(HB.out.cell (World.block_lt_of_cell? w _ hx128_3)).trans hx128_3
         replace hx128_4:=(HB.out.cell (World.block_lt_of_cell? w _ hx128_4)).trans hx128_4
         replace p128:=eq_true p128
         replace q128:=eq_true q128
         have hnb66:=NB104_101.out
         have hnc66:=NB101_104.out
         have hcz67_0 : wc.cell? ⟨gb104,0,none⟩ = some (.int .u64 x105000_7):=(zb BK104.out 0).trans rfl
         have hcz67_1 : wc.cell? ⟨gb104,1,none⟩ = some (.int .u64 x105001_7):=(zb BK104.out 1).trans rfl
         have hfz67_0:=z8 BK104.out 0
         have hfz67_1:=z8 BK104.out 1
         go_wp2_with (first|((with_reducible refine zW (b:=.append) (xs:=#[.tmp 80,.tmp 82]) rfl ?_);at_builtin;refine Kd.z1h k61 (w0:=w) w.heap.size rfl (.tmp 80) (.tmp 82) 43 61 (.agg #[(.int .u64 0),(.int .u64 0)]) 16 rfl Try.underlying43 info61 rfl (by decide) (by omega) u7 x7_1 (⟨x105000_7,x105001_7⟩ : S61) [.int .u64 x105000_7,.int .u64 x105001_7] (fun k_=>k_ ≠ gb101 ∧ k_ ≠ gb104) (fun _=>False) rfl rfl ?aP (fun _ hk=>hk.elim) ?aF ?aO ?aB ?aS ?aL ?_;(case aP=>exact z2F _ _ _ (⟨x105000_7,x105001_7⟩ : S61));(case aB=>exact (by repeat (first|(with_reducible first|exact HB.out|apply z4|apply z0|apply z3|refine z9 ?_ GE101.out|refine z9 ?_ GE104.out)|exact HB.out)));(case aF=>exact (fun k_ hk=>⟨Kd.freshB (g:=gb101) (o:=.cells #[.int .u64 0,.int .u64 0] 61 (0,0)) (by (with_reducible repeat (first|refine z2 ?_ _|refine z5 ?_|refine z1 ?_ _));exact BK101.out) k_ hk,Kd.freshB (g:=gb104) (o:=.cells #[.int .u64 x105000_7,.int .u64 x105001_7] 61 (0,0)) (by (with_reducible repeat (first|refine z2 ?_ _|refine z5 ?_|refine z1 ?_ _));exact BK104.out) k_ hk⟩));(case aO=>exact (by (with_reducible repeat (first|apply Kd.zx|apply Kd.zy|apply Kd.zD));exact HO_7.out));(case aS=>exact (zf (by repeat (first|(with_reducible first|exact HB.out|apply z4|apply z0|apply z3|refine z9 ?_ GE101.out|refine z9 ?_ GE104.out)|exact HB.out))));(case aL=>have:=LMc65.out;omega);intro v139 w68 ho hb hg hat;rw [← Ny138.out] at ho;have n0_:=z7.mk (z1i (g:=gb101) (o:=.cells #[.int .u64 0,.int .u64 0] 61 (0,0)) (by (with_reducible repeat (first|refine z2 ?_ _|refine z5 ?_|refine z1 ?_ _));exact BK101.out) hg (Kd.zt HO_7.out (fun _ hk=>hk.1)));have n1_:=z7.mk (z1i (g:=gb104) (o:=.cells #[.int .u64 x105000_7,.int .u64 x105001_7] 61 (0,0)) (by (with_reducible repeat (first|refine z2 ?_ _|refine z5 ?_|refine z1 ?_ _));exact BK104.out) hg (Kd.zt HO_7.out (fun _ hk=>hk.2)));have n2_:=z7.mk (hb);have n3_:=z7.mk (ho);clear BK101;clear BK104;clear HB;clear HO_7;have BK101:=n0_;have BK104:=n1_;have HB:=n2_;have HO140:=n3_;clear n0_ n1_ n2_ n3_;clear ho hb hg hat))
         go_roundg kj7
         case measure=>have:=HK1.out;have:=HJ7.out;omega
         case rel=>exact ⟨(y138),(wrap64 (x8_1 + 1)),(by first|rfl|(simp;done)|(simp [*];done)),H',⟨by have:=HK1.out;have:=HJ7.out;omega⟩,⟨by (with_reducible repeat (first|apply Kd.zx|apply Kd.zy|apply Kd.zD));exact Kd.z1d HO140.out (fun _ hk=>hk.1)⟩,⟨by (with_reducible repeat (first|refine z2 ?_ _|refine z5 ?_|refine z1 ?_ _));exact BK101.out⟩,⟨by repeat (first|(with_reducible first|exact HB.out|apply z4|apply z0|apply z3|refine z9 ?_ GE101.out|refine z9 ?_ GE104.out)|exact HB.out)⟩⟩
       rw [if_pos c50] at H
       have c50b0 : (((za l0 x8_1).f0) == 4) = true:=beq_iff_eq.mpr c50
       have c50b1 : (((za l0 x8_1).f0) != 4) = false:=bne_eq_false_iff_eq.mpr c50
       clear c50
       by_cases c51 : 0 ≤ ((za l0 x8_1).f1)
       rotate_left
       · rw [if_neg c51] at H
         exact absurd H (by simp)
       rw [if_pos c51] at H
       have c51b0 : decide (0 ≤ ((za l0 x8_1).f1)) = true:=decide_eq_true c51
       clear c51
       by_cases c52 : ((za l0 x8_1).f1) < (x7_1.length : Int)
       rotate_left
       · rw [if_neg c52] at H
         exact absurd H (by simp)
       rw [if_pos c52] at H
       have c52b0 : decide (((za l0 x8_1).f1) < (x7_1.length : Int)) = true:=decide_eq_true c52
       clear c52
       by_cases c53 : 0 ≤ ((za l0 x8_1).f2)
       rotate_left
       · rw [if_neg c53] at H
         exact absurd H (by simp)
       rw [if_pos c53] at H
       have c53b0 : decide (0 ≤ ((za l0 x8_1).f2)) = true:=decide_eq_true c53
       clear c53
       by_cases c54 : ((za l0 x8_1).f2) < (x7_1.length : Int)
       rotate_left
       · rw [if_neg c54] at H
         exact absurd H (by simp)
       rw [if_pos c54] at H
       have c54b0 : decide (((za l0 x8_1).f2) < (x7_1.length : Int)) = true:=decide_eq_true c54
       clear c54
       replace H:=Option.bind_eq_some_iff.mp H
       obtain ⟨⟨t133,t134⟩,A550,H⟩:=H
       replace H : (if x7_1.length < 8796093022208 then (zi.l0 kj7 l0 a1 l2 (x7_1 ++ [(⟨t133,t134⟩ : S61)]) (wrap64 (x8_1 + 1))) else (none)) = some (r1,r2):=H
       have A55:=z7.mk A550
       clear A550
       by_cases c56 : x7_1.length < 8796093022208
       rotate_left
       · rw [if_neg c56] at H
         exact absurd H (by simp)
       rw [if_pos c56] at H
       have LMc56:=z7.mk c56
       clear c56
       obtain ⟨y135,hy135⟩ : ∃ y_ : List (S61),y_ = (x7_1 ++ [(⟨t133,t134⟩ : S61)]):=⟨_,rfl⟩
       replace H : (zi.l0 kj7 l0 a1 l2 y135 (wrap64 (x8_1 + 1))) = some (r1,r2):=by first|(rw [hy135];with_reducible exact H)|(have H2_:=(Option.bind_some _ _).symm.trans H;rw [hy135];with_reducible exact H2_)|(have H2_:=(Option.bind_some _ _).symm.trans H;with_reducible exact H2_)|with_reducible exact H|(rw [hy135];exact H)|exact H
       have Ny135:=z7.mk hy135
       clear hy135
       have H':=z7.mk H
       clear H
       have p108 : 0 ≤ (x8_1 : Int):=of_decide_eq_true (by first|(with_reducible assumption)|assumption)
       have q108 : x8_1 < (l0.length : Int):=of_decide_eq_true (by first|(with_reducible assumption)|assumption)
       obtain ⟨ad108,e108,hx108_0,hx108_1,hx108_2,hx108_3,hx108_4⟩:=z16 HR0.out x8_1 p108 q108
       obtain rfl : ad103 = ad108:=(by injection e108)
       replace hx108_0:=(HB.out.cell (World.block_lt_of_cell? w _ hx108_0)).trans hx108_0
       replace hx108_1:=(HB.out.cell (World.block_lt_of_cell? w _ hx108_1)).trans hx108_1
       replace hx108_2:=(HB.out.cell (World.block_lt_of_cell? w _ hx108_2)).trans hx108_2
       replace hx108_3:=(HB.out.cell (World.block_lt_of_cell? w _ hx108_3)).trans hx108_3
       replace hx108_4:=(HB.out.cell (World.block_lt_of_cell? w _ hx108_4)).trans hx108_4
       replace p108:=eq_true p108
       replace q108:=eq_true q108
       have p128 : 0 ≤ (x8_1 : Int):=of_decide_eq_true (by first|(with_reducible assumption)|assumption)
       have q128 : x8_1 < (l0.length : Int):=of_decide_eq_true (by first|(with_reducible assumption)|assumption)
       obtain ⟨ad128,e128,hx128_0,hx128_1,hx128_2,hx128_3,hx128_4⟩:=z16 HR0.out x8_1 p128 q128
       obtain rfl : ad103 = ad128:=(by injection e128)
       replace hx128_0:=(HB.out.cell (World.block_lt_of_cell? w _ hx128_0)).trans hx128_0
       replace hx128_1:=(HB.out.cell (World.block_lt_of_cell? w _ hx128_1)).trans hx128_1
       replace hx128_2:=(HB.out.cell (World.block_lt_of_cell? w _ hx128_2)).trans hx128_2
       replace hx128_3:=(HB.out.cell (World.block_lt_of_cell? w _ hx128_3)).trans hx128_3
       replace hx128_4:=(HB.out.cell (World.block_lt_of_cell? w _ hx128_4)).trans hx128_4
       replace p128:=eq_true p128
       replace q128:=eq_true q128
       try go_wp2
       have n0_:=z7.mk (Kd.zD HO_7.out)
       have n1_:=z7.mk (z5 BK101.out)
       have n2_:=z7.mk (z5 BK104.out)
       have n3_:=z7.mk (z3 HB.out)
       clear HO_7
       clear BK101
       clear BK104
       clear HB
       have HO_7:=n0_
       have BK101:=n1_
       have BK104:=n2_
       have HB:=n3_
       clear n0_ n1_ n2_ n3_
       have p129 : 0 ≤ (x8_1 : Int):=of_decide_eq_true (by first|(with_reducible assumption)|assumption)
       have q129 : x8_1 < (l0.length : Int):=of_decide_eq_true (by first|(with_reducible assumption)|assumption)
       obtain ⟨ad129,e129,hx129_0,hx129_1,hx129_2,hx129_3,hx129_4⟩:=z16 HR0.out x8_1 p129 q129
       have hw129_4:=hx129_4
       have hw129_3:=hx129_3
       have hw129_2:=hx129_2
       have hw129_1:=hx129_1
       have hw129_0:=hx129_0
       obtain rfl : ad103 = ad129:=(by injection e129)
       replace hx129_0:=(HB.out.cell (World.block_lt_of_cell? w _ hx129_0)).trans hx129_0
       replace hx129_1:=(HB.out.cell (World.block_lt_of_cell? w _ hx129_1)).trans hx129_1
       replace hx129_2:=(HB.out.cell (World.block_lt_of_cell? w _ hx129_2)).trans hx129_2
       replace hx129_3:=(HB.out.cell (World.block_lt_of_cell? w _ hx129_3)).trans hx129_3
       replace hx129_4:=(HB.out.cell (World.block_lt_of_cell? w _ hx129_4)).trans hx129_4
       replace p129:=eq_true p129
       replace q129:=eq_true q129
       obtain ⟨Ao58,co58,eo58⟩:=Kd.z1q HO_7.out
       (first|subst eo58|(injection eo58 with f1_ f2_ f3_;have f4_:=f1_.symm;have f5_:=f3_.symm;clear f1_ f2_ f3_;subst f4_;subst f5_))
       have p130 : 0 ≤ (((za l0 x8_1).f1) : Int):=of_decide_eq_true (by first|(with_reducible assumption)|assumption)
       have q130 : ((za l0 x8_1).f1) < (x7_1.length : Int):=of_decide_eq_true (by first|(with_reducible assumption)|assumption)
       obtain ⟨ad130,e130,hx130_0,hx130_1⟩:=z1W (Kd.zO HO_7.out).2.2 ((za l0 x8_1).f1) p130 q130
       cases e130
       replace p130:=eq_true p130
       replace q130:=eq_true q130
       have p131 : 0 ≤ (x8_1 : Int):=of_decide_eq_true (by first|(with_reducible assumption)|assumption)
       have q131 : x8_1 < (l0.length : Int):=of_decide_eq_true (by first|(with_reducible assumption)|assumption)
       obtain ⟨ad131,e131,hx131_0,hx131_1,hx131_2,hx131_3,hx131_4⟩:=z16 HR0.out x8_1 p131 q131
       have hw131_4:=hx131_4
       have hw131_3:=hx131_3
       have hw131_2:=hx131_2
       have hw131_1:=hx131_1
       have hw131_0:=hx131_0
       obtain rfl : ad103 = ad131:=(by injection e131)
       replace hx131_0:=(HB.out.cell (World.block_lt_of_cell? w _ hx131_0)).trans hx131_0
       replace hx131_1:=(HB.out.cell (World.block_lt_of_cell? w _ hx131_1)).trans hx131_1
       replace hx131_2:=(HB.out.cell (World.block_lt_of_cell? w _ hx131_2)).trans hx131_2
       replace hx131_3:=(HB.out.cell (World.block_lt_of_cell? w _ hx131_3)).trans hx131_3
       replace hx131_4:=(HB.out.cell (World.block_lt_of_cell? w _ hx131_4)).trans hx131_4
       replace p131:=eq_true p131
       replace q131:=eq_true q131
       have p132 : 0 ≤ (((za l0 x8_1).f2) : Int):=of_decide_eq_true (by first|(with_reducible assumption)|assumption)
       have q132 : ((za l0 x8_1).f2) < (x7_1.length : Int):=of_decide_eq_true (by first|(with_reducible assumption)|assumption)
       obtain ⟨ad132,e132,hx132_0,hx132_1⟩:=z1W (Kd.zO HO_7.out).2.2 ((za l0 x8_1).f2) p132 q132
       obtain rfl : ad130 = ad132:=(by injection e132)
       replace p132:=eq_true p132
       replace q132:=eq_true q132
       refine start_ (n:=18) (S:=fun w'=>w'.cell? (ad103.add ((x8_1).toNat * 5)) = some (.int .i64 ((za l0 x8_1).f0)) ∧ w'.cell? ⟨(ad103.add ((x8_1).toNat * 5)).block,(ad103.add ((x8_1).toNat * 5)).off + 1,none⟩ = some (.int .i64 ((za l0 x8_1).f1)) ∧ w'.cell? ⟨(ad103.add ((x8_1).toNat * 5)).block,(ad103.add ((x8_1).toNat * 5)).off + 2,none⟩ = some (.int .i64 ((za l0 x8_1).f2)) ∧ w'.cell? ⟨(ad103.add ((x8_1).toNat * 5)).block,(ad103.add ((x8_1).toNat * 5)).off + 3,none⟩ = some (.int .u64 ((za l0 x8_1).f3.f0)) ∧ w'.cell? ⟨(ad103.add ((x8_1).toNat * 5)).block,(ad103.add ((x8_1).toNat * 5)).off + 4,none⟩ = some (.int .u64 ((za l0 x8_1).f3.f1)) ∧ w'.cell? (ad130.add ((((za l0 x8_1).f1)).toNat * 2)) = some (.int .u64 ((zS x7_1 ((za l0 x8_1).f1)).f0)) ∧ w'.cell? ⟨(ad130.add ((((za l0 x8_1).f1)).toNat * 2)).block,(ad130.add ((((za l0 x8_1).f1)).toNat * 2)).off + 1,none⟩ = some (.int .u64 ((zS x7_1 ((za l0 x8_1).f1)).f1)) ∧ w'.cell? (ad103.add ((x8_1).toNat * 5)) = some (.int .i64 ((za l0 x8_1).f0)) ∧ w'.cell? ⟨(ad103.add ((x8_1).toNat * 5)).block,(ad103.add ((x8_1).toNat * 5)).off + 1,none⟩ = some (.int .i64 ((za l0 x8_1).f1)) ∧ w'.cell? ⟨(ad103.add ((x8_1).toNat * 5)).block,(ad103.add ((x8_1).toNat * 5)).off + 2,none⟩ = some (.int .i64 ((za l0 x8_1).f2)) ∧ w'.cell? ⟨(ad103.add ((x8_1).toNat * 5)).block,(ad103.add ((x8_1).toNat * 5)).off + 3,none⟩ = some (.int .u64 ((za l0 x8_1).f3.f0)) ∧ w'.cell? ⟨(ad103.add ((x8_1).toNat * 5)).block,(ad103.add ((x8_1).toNat * 5)).off + 4,none⟩ = some (.int .u64 ((za l0 x8_1).f3.f1)) ∧ w'.cell? (ad130.add ((((za l0 x8_1).f2)).toNat * 2)) = some (.int .u64 ((zS x7_1 ((za l0 x8_1).f2)).f0)) ∧ w'.cell? ⟨(ad130.add ((((za l0 x8_1).f2)).toNat * 2)).block,(ad130.add ((((za l0 x8_1).f2)).toNat * 2)).off + 1,none⟩ = some (.int .u64 ((zS x7_1 ((za l0 x8_1).f2)).f1))) (ds:=[]) #[false,false,false,false,false,false,false,false,false,false,false,false,false,false,false,false,false,false] (by kernel_rfl) rfl rfl ⟨((HB.out.cell (World.block_lt_of_cell? w _ hw129_0)).trans hw129_0),((HB.out.cell (World.block_lt_of_cell? w _ hw129_1)).trans hw129_1),((HB.out.cell (World.block_lt_of_cell? w _ hw129_2)).trans hw129_2),((HB.out.cell (World.block_lt_of_cell? w _ hw129_3)).trans hw129_3),((HB.out.cell (World.block_lt_of_cell? w _ hw129_4)).trans hw129_4),hx130_0,hx130_1,((HB.out.cell (World.block_lt_of_cell? w _ hw131_0)).trans hw131_0),((HB.out.cell (World.block_lt_of_cell? w _ hw131_1)).trans hw131_1),((HB.out.cell (World.block_lt_of_cell? w _ hw131_2)).trans hw131_2),((HB.out.cell (World.block_lt_of_cell? w _ hw131_3)).trans hw131_3),((HB.out.cell (World.block_lt_of_cell? w _ hw131_4)).trans hw131_4),hx132_0,hx132_1⟩ (fun hHeld=>?_);refine z1K zi.tab11 zi.bits11 (fun HT_ HW_=>?_)
       generalize wc.drew = w57 at HO_7 BK101 BK104 HB hx129_0 hx129_1 hx129_2 hx129_3 hx129_4 hx130_0 hx130_1 hx131_0 hx131_1 hx131_2 hx131_3 hx131_4 hx132_0 hx132_1 hHeld ⊢
       refine pure_ (i:=0) (N:=some 63) (v:=?_) (a':=?_) #[true,false,false,false,false,false,false,false,false,false,false,false,false,false,false,false,false,false] rfl rfl (zU HT_.out (by kernel_rfl)) (fun _ _ _ h=>h) (Or.inl ⟨by rfl,?_⟩) ?_ ?_
       rotate_left
       · intro w'
         go_simp
         with_reducible rfl
       rotate_left
       · simp only [Act.put,List.setIfInBounds_toArray,List.set_cons_zero,List.set_cons_succ,zH,zL]
         rfl
       refine pure_ (i:=1) (N:=some 64) (v:=?_) (a':=?_) #[true,true,false,false,false,false,false,false,false,false,false,false,false,false,false,false,false,false] rfl rfl (zU HT_.out (by kernel_rfl)) (fun _ _ _ h=>h) (Or.inl ⟨by rfl,?_⟩) ?_ ?_
       rotate_left
       · intro w'
         go_simp
         with_reducible rfl
       rotate_left
       · simp only [Act.put,List.setIfInBounds_toArray,List.set_cons_zero,List.set_cons_succ,zH,zL]
         rfl
       refine pure_ (i:=2) (N:=some 65) (v:=?_) (a':=?_) #[true,true,true,false,false,false,false,false,false,false,false,false,false,false,false,false,false,false] rfl rfl (zU HT_.out (by kernel_rfl)) (fun _ _ _ h=>h) (Or.inl ⟨by rfl,?_⟩) ?_ ?_
       rotate_left
       · intro w'
         go_simp
         with_reducible rfl
       rotate_left
       · simp only [Act.put,List.setIfInBounds_toArray,List.set_cons_zero,List.set_cons_succ,zH,zL]
         rfl
       refine pure_ (i:=3) (N:=some 66) (v:=?_) (a':=?_) #[true,true,true,true,false,false,false,false,false,false,false,false,false,false,false,false,false,false] rfl rfl (zU HT_.out (by kernel_rfl)) (fun _ _ _ h=>h) (Or.inl ⟨by rfl,?_⟩) ?_ ?_
       rotate_left
       · intro w'
         go_simp
         with_reducible rfl
       rotate_left
       · simp only [Act.put,List.setIfInBounds_toArray,List.set_cons_zero,List.set_cons_succ,zH,zL]
         rfl
       refine pure_ (i:=4) (N:=some 67) (v:=?_) (a':=?_) #[true,true,true,true,true,false,false,false,false,false,false,false,false,false,false,false,false,false] rfl rfl (zU HT_.out (by kernel_rfl)) (fun _ _ _ h=>h) (Or.inl ⟨by rfl,?_⟩) ?_ ?_
       rotate_left
       · intro w'
         go_simp
         with_reducible rfl
       rotate_left
       · simp only [Act.put,List.setIfInBounds_toArray,List.set_cons_zero,List.set_cons_succ,zH,zL]
         rfl
       refine pure_ (i:=8) (N:=some 71) (v:=?_) (a':=?_) #[true,true,true,true,true,false,false,false,true,false,false,false,false,false,false,false,false,false] rfl rfl (zU HT_.out (by kernel_rfl)) (fun _ _ _ h=>h) (Or.inl ⟨by rfl,?_⟩) ?_ ?_
       rotate_left
       · intro w'
         go_simp
         with_reducible rfl
       rotate_left
       · simp only [Act.put,List.setIfInBounds_toArray,List.set_cons_zero,List.set_cons_succ,zH,zL]
         rfl
       refine pure_ (i:=9) (N:=some 72) (v:=?_) (a':=?_) #[true,true,true,true,true,false,false,false,true,true,false,false,false,false,false,false,false,false] rfl rfl (zU HT_.out (by kernel_rfl)) (fun _ _ _ h=>h) (Or.inl ⟨by rfl,?_⟩) ?_ ?_
       rotate_left
       · intro w'
         go_simp
         with_reducible rfl
       rotate_left
       · simp only [Act.put,List.setIfInBounds_toArray,List.set_cons_zero,List.set_cons_succ,zH,zL]
         rfl
       refine pure_ (i:=10) (N:=some 73) (v:=?_) (a':=?_) #[true,true,true,true,true,false,false,false,true,true,true,false,false,false,false,false,false,false] rfl rfl (zU HT_.out (by kernel_rfl)) (fun _ _ _ h=>h) (Or.inl ⟨by rfl,?_⟩) ?_ ?_
       rotate_left
       · intro w'
         go_simp
         with_reducible rfl
       rotate_left
       · simp only [Act.put,List.setIfInBounds_toArray,List.set_cons_zero,List.set_cons_succ,zH,zL]
         rfl
       refine pure_ (i:=11) (N:=some 74) (v:=?_) (a':=?_) #[true,true,true,true,true,false,false,false,true,true,true,true,false,false,false,false,false,false] rfl rfl (zU HT_.out (by kernel_rfl)) (fun _ _ _ h=>h) (Or.inl ⟨by rfl,?_⟩) ?_ ?_
       rotate_left
       · intro w'
         go_simp
         with_reducible rfl
       rotate_left
       · simp only [Act.put,List.setIfInBounds_toArray,List.set_cons_zero,List.set_cons_succ,zH,zL]
         rfl
       refine pure_ (i:=12) (N:=some 75) (v:=?_) (a':=?_) #[true,true,true,true,true,false,false,false,true,true,true,true,true,false,false,false,false,false] rfl rfl (zU HT_.out (by kernel_rfl)) (fun _ _ _ h=>h) (Or.inl ⟨by rfl,?_⟩) ?_ ?_
       rotate_left
       · intro w'
         go_simp
         with_reducible rfl
       rotate_left
       · simp only [Act.put,List.setIfInBounds_toArray,List.set_cons_zero,List.set_cons_succ,zH,zL]
         rfl
       refine take_ (i:=5) (N:=some 68) (v:=?_) (a':=?_) #[true,true,true,true,true,true,false,false,true,true,true,true,true,false,false,false,false,false] rfl rfl (z1c HT_.out HW_.out (by kernel_rfl)) (fun _ _ _ h=>h) (Or.inl ⟨by rfl,?_⟩) hHeld ?_ ?_
       rotate_left
       · rintro w' ⟨s0,s1,s2,s3,s4,s5,s6,s7,s8,s9,s10,s11,s12,s13⟩
         go_simp
         with_reducible rfl
       rotate_left
       · simp only [Act.put,List.setIfInBounds_toArray,List.set_cons_zero,List.set_cons_succ,zH,zL]
         rfl
       refine pure_ (i:=6) (N:=some 69) (v:=?_) (a':=?_) #[true,true,true,true,true,true,true,false,true,true,true,true,true,false,false,false,false,false] rfl rfl (zU HT_.out (by kernel_rfl)) (fun _ _ _ h=>h) (Or.inl ⟨by rfl,?_⟩) ?_ ?_
       rotate_left
       · intro w'
         go_simp
         with_reducible rfl
       rotate_left
       · simp only [Act.put,List.setIfInBounds_toArray,List.set_cons_zero,List.set_cons_succ,zH,zL]
         rfl
       refine take_ (i:=7) (N:=some 70) (v:=?_) (a':=?_) #[true,true,true,true,true,true,true,true,true,true,true,true,true,false,false,false,false,false] rfl rfl (z1c HT_.out HW_.out (by kernel_rfl)) (fun _ _ _ h=>h) (Or.inl ⟨by rfl,?_⟩) hHeld ?_ ?_
       rotate_left
       · rintro w' ⟨s0,s1,s2,s3,s4,s5,s6,s7,s8,s9,s10,s11,s12,s13⟩
         go_simp
         with_reducible rfl
       rotate_left
       · simp only [Act.put,List.setIfInBounds_toArray,List.set_cons_zero,List.set_cons_succ,zH,zL]
         rfl
       refine take_ (i:=13) (N:=some 76) (v:=?_) (a':=?_) #[true,true,true,true,true,true,true,true,true,true,true,true,true,true,false,false,false,false] rfl rfl (z1c HT_.out HW_.out (by kernel_rfl)) (fun _ _ _ h=>h) (Or.inl ⟨by rfl,?_⟩) hHeld ?_ ?_
       rotate_left
       · rintro w' ⟨s0,s1,s2,s3,s4,s5,s6,s7,s8,s9,s10,s11,s12,s13⟩
         go_simp
         with_reducible rfl
       rotate_left
       · simp only [Act.put,List.setIfInBounds_toArray,List.set_cons_zero,List.set_cons_succ,zH,zL]
         rfl
       refine pure_ (i:=14) (N:=some 77) (v:=?_) (a':=?_) #[true,true,true,true,true,true,true,true,true,true,true,true,true,true,true,false,false,false] rfl rfl (zU HT_.out (by kernel_rfl)) (fun _ _ _ h=>h) (Or.inl ⟨by rfl,?_⟩) ?_ ?_
       rotate_left
       · intro w'
         go_simp
         with_reducible rfl
       rotate_left
       · simp only [Act.put,List.setIfInBounds_toArray,List.set_cons_zero,List.set_cons_succ,zH,zL]
         rfl
       refine take_ (i:=15) (N:=some 78) (v:=?_) (a':=?_) #[true,true,true,true,true,true,true,true,true,true,true,true,true,true,true,true,false,false] rfl rfl (z1c HT_.out HW_.out (by kernel_rfl)) (fun _ _ _ h=>h) (Or.inl ⟨by rfl,?_⟩) hHeld ?_ ?_
       rotate_left
       · rintro w' ⟨s0,s1,s2,s3,s4,s5,s6,s7,s8,s9,s10,s11,s12,s13⟩
         go_simp
         with_reducible rfl
       rotate_left
       · simp only [Act.put,List.setIfInBounds_toArray,List.set_cons_zero,List.set_cons_succ,zH,zL]
         rfl
       refine one_ (i:=16) (N:=some 79) #[true,true,true,true,true,true,true,true,true,true,true,true,true,true,true,true,true,false] rfl rfl (z1I HT_.out (by kernel_rfl)) (by decide) (fun K hK=>?_)
       refine goes_ Try.func79 (by kernel_rfl) rfl #[.agg #[.int .u64 ((zS x7_1 ((za l0 x8_1).f1)).f0),.int .u64 ((zS x7_1 ((za l0 x8_1).f1)).f1)],.agg #[.int .u64 ((zS x7_1 ((za l0 x8_1).f2)).f0),.int .u64 ((zS x7_1 ((za l0 x8_1).f2)).f1)]] (by rfl) rfl rfl (by (try simp only [List.map_toArray,List.map_cons,List.map_nil]);first|done|rfl|(simp only [List.length_drop,List.length_take];rfl)) ?_
       with_reducible refine (zh.calls kj7 ((zS x7_1 ((za l0 x8_1).f1)).f0) ((zS x7_1 ((za l0 x8_1).f1)).f1) ((zS x7_1 ((za l0 x8_1).f2)).f0) ((zS x7_1 ((za l0 x8_1).f2)).f1) t133 t134 _ A55.out).mono ?_
       rintro e w59 ⟨rfl,hb⟩
       have HS5_:=(hb.cell (World.block_lt_of_cell? _ _ (hHeld.2.2.2.2.2.1))).trans (hHeld.2.2.2.2.2.1)
       have HS6_:=(hb.cell (World.block_lt_of_cell? _ _ (hHeld.2.2.2.2.2.2.1))).trans (hHeld.2.2.2.2.2.2.1)
       have HS12_:=(hb.cell (World.block_lt_of_cell? _ _ (hHeld.2.2.2.2.2.2.2.2.2.2.2.2.1))).trans (hHeld.2.2.2.2.2.2.2.2.2.2.2.2.1)
       have HS13_:=(hb.cell (World.block_lt_of_cell? _ _ (hHeld.2.2.2.2.2.2.2.2.2.2.2.2.2))).trans (hHeld.2.2.2.2.2.2.2.2.2.2.2.2.2)
       refine ⟨_,rfl,?_⟩
       have n0_:=z7.mk (Kd.zY (by (with_reducible repeat (first|apply Kd.zx|apply Kd.zy|apply Kd.zD));exact HO_7.out) hb)
       have n1_:=z7.mk (zk (g:=gb101) (o:=.cells #[.int .u64 0,.int .u64 0] 61 (0,0)) (by (with_reducible repeat (first|refine z2 ?_ _|refine z5 ?_|refine z1 ?_ _));exact BK101.out) hb)
       have n2_:=z7.mk (zk (g:=gb104) (o:=.cells #[.int .u64 x105000_7,.int .u64 x105001_7] 61 (0,0)) (by (with_reducible repeat (first|refine z2 ?_ _|refine z5 ?_|refine z1 ?_ _));exact BK104.out) hb)
       have n3_:=z7.mk (zg (by repeat (first|(with_reducible first|exact HB.out|apply z4|apply z0|apply z3|refine z9 ?_ GE101.out|refine z9 ?_ GE104.out)|exact HB.out)) hb)
       clear HO_7
       clear BK101
       clear BK104
       clear HB
       have HO_7:=n0_
       have BK101:=n1_
       have BK104:=n2_
       have HB:=n3_
       clear n0_ n1_ n2_ n3_
       (try clear hb)
       (try clear hb2)
       (try clear hk)
       (try clear hi)
       refine hK.out _ _ ⟨((HB.out.cell (World.block_lt_of_cell? w _ hw129_0)).trans hw129_0),((HB.out.cell (World.block_lt_of_cell? w _ hw129_1)).trans hw129_1),((HB.out.cell (World.block_lt_of_cell? w _ hw129_2)).trans hw129_2),((HB.out.cell (World.block_lt_of_cell? w _ hw129_3)).trans hw129_3),((HB.out.cell (World.block_lt_of_cell? w _ hw129_4)).trans hw129_4),HS5_,HS6_,((HB.out.cell (World.block_lt_of_cell? w _ hw131_0)).trans hw131_0),((HB.out.cell (World.block_lt_of_cell? w _ hw131_1)).trans hw131_1),((HB.out.cell (World.block_lt_of_cell? w _ hw131_2)).trans hw131_2),((HB.out.cell (World.block_lt_of_cell? w _ hw131_3)).trans hw131_3),((HB.out.cell (World.block_lt_of_cell? w _ hw131_4)).trans hw131_4),HS12_,HS13_⟩ (fun hHeld=>?_)
       clear hK K
       refine norm_ (a':=?_) ?_ ?_
       rotate_left
       · show Act.put _ (some 79) _ = _
         simp only [Act.put,List.setIfInBounds_toArray,List.set_cons_zero,List.set_cons_succ,zH,zL]
         rfl
       refine one_ (i:=17) (N:=none) #[true,true,true,true,true,true,true,true,true,true,true,true,true,true,true,true,true,true] rfl rfl (z1I HT_.out (by kernel_rfl)) (by decide) (fun K hK=>?_)
       have hs60 : w59.cell? ⟨gb104,0,none⟩ = some (.int .u64 x105000_7):=(zb BK104.out 0).trans rfl
       have hfs60:=z8 BK104.out 0
       have hns60_0:=NB101_104.out
       have hms60_0:=NB104_101.out
       have hs61 : w59.cell? ⟨gb104,1,none⟩ = some (.int .u64 x105001_7):=(zb BK104.out 1).trans rfl
       have hfs61:=z8 BK104.out 1
       have hns61_0:=NB101_104.out
       have hms61_0:=NB104_101.out
       refine skip_ (w1:=?_) (by rfl) rfl ?_ ?_
       rotate_left
       · go_simp
         rfl
       refine hK.out _ _ ⟨((zn (p:=⟨gb104,_,none⟩) (by first|exact Nat.ne_of_lt (Nat.lt_of_lt_of_le (by have:=World.block_lt_of_cell? _ _ hw129_0;first|rwa [z6] at this|exact this) GW104.out)|(rw [z6];exact Nat.ne_of_lt (Nat.lt_of_lt_of_le (by have:=World.block_lt_of_cell? _ _ hw129_0;first|rwa [z6] at this|exact this) GW104.out))|(show (Addr.add _ _).block ≠ _;rw [z6];exact Nat.ne_of_lt (Nat.lt_of_lt_of_le (by have:=World.block_lt_of_cell? _ _ hw129_0;first|rwa [z6] at this|exact this) GW104.out))|(dsimp only;exact Nat.ne_of_lt (Nat.lt_of_lt_of_le (by have:=World.block_lt_of_cell? _ _ hw129_0;first|rwa [z6] at this|exact this) GW104.out))) _).trans (((zn (p:=⟨gb104,_,none⟩) (by first|exact Nat.ne_of_lt (Nat.lt_of_lt_of_le (by have:=World.block_lt_of_cell? _ _ hw129_0;first|rwa [z6] at this|exact this) GW104.out)|(rw [z6];exact Nat.ne_of_lt (Nat.lt_of_lt_of_le (by have:=World.block_lt_of_cell? _ _ hw129_0;first|rwa [z6] at this|exact this) GW104.out))|(show (Addr.add _ _).block ≠ _;rw [z6];exact Nat.ne_of_lt (Nat.lt_of_lt_of_le (by have:=World.block_lt_of_cell? _ _ hw129_0;first|rwa [z6] at this|exact this) GW104.out))|(dsimp only;exact Nat.ne_of_lt (Nat.lt_of_lt_of_le (by have:=World.block_lt_of_cell? _ _ hw129_0;first|rwa [z6] at this|exact this) GW104.out))) _).trans (hHeld.1)))),((zn (p:=⟨gb104,_,none⟩) (by first|exact Nat.ne_of_lt (Nat.lt_of_lt_of_le (by have:=World.block_lt_of_cell? _ _ hw129_1;first|rwa [z6] at this|exact this) GW104.out)|(rw [z6];exact Nat.ne_of_lt (Nat.lt_of_lt_of_le (by have:=World.block_lt_of_cell? _ _ hw129_1;first|rwa [z6] at this|exact this) GW104.out))|(show (Addr.add _ _).block ≠ _;rw [z6];exact Nat.ne_of_lt (Nat.lt_of_lt_of_le (by have:=World.block_lt_of_cell? _ _ hw129_1;first|rwa [z6] at this|exact this) GW104.out))|(dsimp only;exact Nat.ne_of_lt (Nat.lt_of_lt_of_le (by have:=World.block_lt_of_cell? _ _ hw129_1;first|rwa [z6] at this|exact this) GW104.out))) _).trans (((zn (p:=⟨gb104,_,none⟩) (by first|exact Nat.ne_of_lt (Nat.lt_of_lt_of_le (by have:=World.block_lt_of_cell? _ _ hw129_1;first|rwa [z6] at this|exact this) GW104.out)|(rw [z6];exact Nat.ne_of_lt (Nat.lt_of_lt_of_le (by have:=World.block_lt_of_cell? _ _ hw129_1;first|rwa [z6] at this|exact this) GW104.out))|(show (Addr.add _ _).block ≠ _;rw [z6];exact Nat.ne_of_lt (Nat.lt_of_lt_of_le (by have:=World.block_lt_of_cell? _ _ hw129_1;first|rwa [z6] at this|exact this) GW104.out))|(dsimp only;exact Nat.ne_of_lt (Nat.lt_of_lt_of_le (by have:=World.block_lt_of_cell? _ _ hw129_1;first|rwa [z6] at this|exact this) GW104.out))) _).trans (hHeld.2.1)))),((zn (p:=⟨gb104,_,none⟩) (by first|exact Nat.ne_of_lt (Nat.lt_of_lt_of_le (by have:=World.block_lt_of_cell? _ _ hw129_2;first|rwa [z6] at this|exact this) GW104.out)|(rw [z6];exact Nat.ne_of_lt (Nat.lt_of_lt_of_le (by have:=World.block_lt_of_cell? _ _ hw129_2;first|rwa [z6] at this|exact this) GW104.out))|(show (Addr.add _ _).block ≠ _;rw [z6];exact Nat.ne_of_lt (Nat.lt_of_lt_of_le (by have:=World.block_lt_of_cell? _ _ hw129_2;first|rwa [z6] at this|exact this) GW104.out))|(dsimp only;exact Nat.ne_of_lt (Nat.lt_of_lt_of_le (by have:=World.block_lt_of_cell? _ _ hw129_2;first|rwa [z6] at this|exact this) GW104.out))) _).trans (((zn (p:=⟨gb104,_,none⟩) (by first|exact Nat.ne_of_lt (Nat.lt_of_lt_of_le (by have:=World.block_lt_of_cell? _ _ hw129_2;first|rwa [z6] at this|exact this) GW104.out)|(rw [z6];exact Nat.ne_of_lt (Nat.lt_of_lt_of_le (by have:=World.block_lt_of_cell? _ _ hw129_2;first|rwa [z6] at this|exact this) GW104.out))|(show (Addr.add _ _).block ≠ _;rw [z6];exact Nat.ne_of_lt (Nat.lt_of_lt_of_le (by have:=World.block_lt_of_cell? _ _ hw129_2;first|rwa [z6] at this|exact this) GW104.out))|(dsimp only;exact Nat.ne_of_lt (Nat.lt_of_lt_of_le (by have:=World.block_lt_of_cell? _ _ hw129_2;first|rwa [z6] at this|exact this) GW104.out))) _).trans (hHeld.2.2.1)))),((zn (p:=⟨gb104,_,none⟩) (by first|exact Nat.ne_of_lt (Nat.lt_of_lt_of_le (by have:=World.block_lt_of_cell? _ _ hw129_3;first|rwa [z6] at this|exact this) GW104.out)|(rw [z6];exact Nat.ne_of_lt (Nat.lt_of_lt_of_le (by have:=World.block_lt_of_cell? _ _ hw129_3;first|rwa [z6] at this|exact this) GW104.out))|(show (Addr.add _ _).block ≠ _;rw [z6];exact Nat.ne_of_lt (Nat.lt_of_lt_of_le (by have:=World.block_lt_of_cell? _ _ hw129_3;first|rwa [z6] at this|exact this) GW104.out))|(dsimp only;exact Nat.ne_of_lt (Nat.lt_of_lt_of_le (by have:=World.block_lt_of_cell? _ _ hw129_3;first|rwa [z6] at this|exact this) GW104.out))) _).trans (((zn (p:=⟨gb104,_,none⟩) (by first|exact Nat.ne_of_lt (Nat.lt_of_lt_of_le (by have:=World.block_lt_of_cell? _ _ hw129_3;first|rwa [z6] at this|exact this) GW104.out)|(rw [z6];exact Nat.ne_of_lt (Nat.lt_of_lt_of_le (by have:=World.block_lt_of_cell? _ _ hw129_3;first|rwa [z6] at this|exact this) GW104.out))|(show (Addr.add _ _).block ≠ _;rw [z6];exact Nat.ne_of_lt (Nat.lt_of_lt_of_le (by have:=World.block_lt_of_cell? _ _ hw129_3;first|rwa [z6] at this|exact this) GW104.out))|(dsimp only;exact Nat.ne_of_lt (Nat.lt_of_lt_of_le (by have:=World.block_lt_of_cell? _ _ hw129_3;first|rwa [z6] at this|exact this) GW104.out))) _).trans (hHeld.2.2.2.1)))),((zn (p:=⟨gb104,_,none⟩) (by first|exact Nat.ne_of_lt (Nat.lt_of_lt_of_le (by have:=World.block_lt_of_cell? _ _ hw129_4;first|rwa [z6] at this|exact this) GW104.out)|(rw [z6];exact Nat.ne_of_lt (Nat.lt_of_lt_of_le (by have:=World.block_lt_of_cell? _ _ hw129_4;first|rwa [z6] at this|exact this) GW104.out))|(show (Addr.add _ _).block ≠ _;rw [z6];exact Nat.ne_of_lt (Nat.lt_of_lt_of_le (by have:=World.block_lt_of_cell? _ _ hw129_4;first|rwa [z6] at this|exact this) GW104.out))|(dsimp only;exact Nat.ne_of_lt (Nat.lt_of_lt_of_le (by have:=World.block_lt_of_cell? _ _ hw129_4;first|rwa [z6] at this|exact this) GW104.out))) _).trans (((zn (p:=⟨gb104,_,none⟩) (by first|exact Nat.ne_of_lt (Nat.lt_of_lt_of_le (by have:=World.block_lt_of_cell? _ _ hw129_4;first|rwa [z6] at this|exact this) GW104.out)|(rw [z6];exact Nat.ne_of_lt (Nat.lt_of_lt_of_le (by have:=World.block_lt_of_cell? _ _ hw129_4;first|rwa [z6] at this|exact this) GW104.out))|(show (Addr.add _ _).block ≠ _;rw [z6];exact Nat.ne_of_lt (Nat.lt_of_lt_of_le (by have:=World.block_lt_of_cell? _ _ hw129_4;first|rwa [z6] at this|exact this) GW104.out))|(dsimp only;exact Nat.ne_of_lt (Nat.lt_of_lt_of_le (by have:=World.block_lt_of_cell? _ _ hw129_4;first|rwa [z6] at this|exact this) GW104.out))) _).trans (hHeld.2.2.2.2.1)))),((zn (p:=⟨gb104,_,none⟩) (by first|exact Kd.zp (Kd.zt HO_7.out (fun _ hk=>hk.2))|(rw [z6];exact Kd.zp (Kd.zt HO_7.out (fun _ hk=>hk.2)))|(show (Addr.add _ _).block ≠ _;rw [z6];exact Kd.zp (Kd.zt HO_7.out (fun _ hk=>hk.2)))|(dsimp only;exact Kd.zp (Kd.zt HO_7.out (fun _ hk=>hk.2)))) _).trans (((zn (p:=⟨gb104,_,none⟩) (by first|exact Kd.zp (Kd.zt HO_7.out (fun _ hk=>hk.2))|(rw [z6];exact Kd.zp (Kd.zt HO_7.out (fun _ hk=>hk.2)))|(show (Addr.add _ _).block ≠ _;rw [z6];exact Kd.zp (Kd.zt HO_7.out (fun _ hk=>hk.2)))|(dsimp only;exact Kd.zp (Kd.zt HO_7.out (fun _ hk=>hk.2)))) _).trans (hHeld.2.2.2.2.2.1)))),((zn (p:=⟨gb104,_,none⟩) (by first|exact Kd.zp (Kd.zt HO_7.out (fun _ hk=>hk.2))|(rw [z6];exact Kd.zp (Kd.zt HO_7.out (fun _ hk=>hk.2)))|(show (Addr.add _ _).block ≠ _;rw [z6];exact Kd.zp (Kd.zt HO_7.out (fun _ hk=>hk.2)))|(dsimp only;exact Kd.zp (Kd.zt HO_7.out (fun _ hk=>hk.2)))) _).trans (((zn (p:=⟨gb104,_,none⟩) (by first|exact Kd.zp (Kd.zt HO_7.out (fun _ hk=>hk.2))|(rw [z6];exact Kd.zp (Kd.zt HO_7.out (fun _ hk=>hk.2)))|(show (Addr.add _ _).block ≠ _;rw [z6];exact Kd.zp (Kd.zt HO_7.out (fun _ hk=>hk.2)))|(dsimp only;exact Kd.zp (Kd.zt HO_7.out (fun _ hk=>hk.2)))) _).trans (hHeld.2.2.2.2.2.2.1)))),((zn (p:=⟨gb104,_,none⟩) (by first|exact Nat.ne_of_lt (Nat.lt_of_lt_of_le (by have:=World.block_lt_of_cell? _ _ hw131_0;first|rwa [z6] at this|exact this) GW104.out)|(rw [z6];exact Nat.ne_of_lt (Nat.lt_of_lt_of_le (by have:=World.block_lt_of_cell? _ _ hw131_0;first|rwa [z6] at this|exact this) GW104.out))|(show (Addr.add _ _).block ≠ _;rw [z6];exact Nat.ne_of_lt (Nat.lt_of_lt_of_le (by have:=World.block_lt_of_cell? _ _ hw131_0;first|rwa [z6] at this|exact this) GW104.out))|(dsimp only;exact Nat.ne_of_lt (Nat.lt_of_lt_of_le (by have:=World.block_lt_of_cell? _ _ hw131_0;first|rwa [z6] at this|exact this) GW104.out))) _).trans (((zn (p:=⟨gb104,_,none⟩) (by first|exact Nat.ne_of_lt (Nat.lt_of_lt_of_le (by have:=World.block_lt_of_cell? _ _ hw131_0;first|rwa [z6] at this|exact this) GW104.out)|(rw [z6];exact Nat.ne_of_lt (Nat.lt_of_lt_of_le (by have:=World.block_lt_of_cell? _ _ hw131_0;first|rwa [z6] at this|exact this) GW104.out))|(show (Addr.add _ _).block ≠ _;rw [z6];exact Nat.ne_of_lt (Nat.lt_of_lt_of_le (by have:=World.block_lt_of_cell? _ _ hw131_0;first|rwa [z6] at this|exact this) GW104.out))|(dsimp only;exact Nat.ne_of_lt (Nat.lt_of_lt_of_le (by have:=World.block_lt_of_cell? _ _ hw131_0;first|rwa [z6] at this|exact this) GW104.out))) _).trans (hHeld.2.2.2.2.2.2.2.1)))),((zn (p:=⟨gb104,_,none⟩) (by first|exact Nat.ne_of_lt (Nat.lt_of_lt_of_le (by have:=World.block_lt_of_cell? _ _ hw131_1;first|rwa [z6] at this|exact this) GW104.out)|(rw [z6];exact Nat.ne_of_lt (Nat.lt_of_lt_of_le (by have:=World.block_lt_of_cell? _ _ hw131_1;first|rwa [z6] at this|exact this) GW104.out))|(show (Addr.add _ _).block ≠ _;rw [z6];exact Nat.ne_of_lt (Nat.lt_of_lt_of_le (by have:=World.block_lt_of_cell? _ _ hw131_1;first|rwa [z6] at this|exact this) GW104.out))|(dsimp only;exact Nat.ne_of_lt (Nat.lt_of_lt_of_le (by have:=World.block_lt_of_cell? _ _ hw131_1;first|rwa [z6] at this|exact this) GW104.out))) _).trans (((zn (p:=⟨gb104,_,none⟩) (by first|exact Nat.ne_of_lt (Nat.lt_of_lt_of_le (by have:=World.block_lt_of_cell? _ _ hw131_1;first|rwa [z6] at this|exact this) GW104.out)|(rw [z6];exact Nat.ne_of_lt (Nat.lt_of_lt_of_le (by have:=World.block_lt_of_cell? _ _ hw131_1;first|rwa [z6] at this|exact this) GW104.out))|(show (Addr.add _ _).block ≠ _;rw [z6];exact Nat.ne_of_lt (Nat.lt_of_lt_of_le (by have:=World.block_lt_of_cell? _ _ hw131_1;first|rwa [z6] at this|exact this) GW104.out))|(dsimp only;exact Nat.ne_of_lt (Nat.lt_of_lt_of_le (by have:=World.block_lt_of_cell? _ _ hw131_1;first|rwa [z6] at this|exact this) GW104.out))) _).trans (hHeld.2.2.2.2.2.2.2.2.1)))),((zn (p:=⟨gb104,_,none⟩) (by first|exact Nat.ne_of_lt (Nat.lt_of_lt_of_le (by have:=World.block_lt_of_cell? _ _ hw131_2;first|rwa [z6] at this|exact this) GW104.out)|(rw [z6];exact Nat.ne_of_lt (Nat.lt_of_lt_of_le (by have:=World.block_lt_of_cell? _ _ hw131_2;first|rwa [z6] at this|exact this) GW104.out))|(show (Addr.add _ _).block ≠ _;rw [z6];exact Nat.ne_of_lt (Nat.lt_of_lt_of_le (by have:=World.block_lt_of_cell? _ _ hw131_2;first|rwa [z6] at this|exact this) GW104.out))|(dsimp only;exact Nat.ne_of_lt (Nat.lt_of_lt_of_le (by have:=World.block_lt_of_cell? _ _ hw131_2;first|rwa [z6] at this|exact this) GW104.out))) _).trans (((zn (p:=⟨gb104,_,none⟩) (by first|exact Nat.ne_of_lt (Nat.lt_of_lt_of_le (by have:=World.block_lt_of_cell? _ _ hw131_2;first|rwa [z6] at this|exact this) GW104.out)|(rw [z6];exact Nat.ne_of_lt (Nat.lt_of_lt_of_le (by have:=World.block_lt_of_cell? _ _ hw131_2;first|rwa [z6] at this|exact this) GW104.out))|(show (Addr.add _ _).block ≠ _;rw [z6];exact Nat.ne_of_lt (Nat.lt_of_lt_of_le (by have:=World.block_lt_of_cell? _ _ hw131_2;first|rwa [z6] at this|exact this) GW104.out))|(dsimp only;exact Nat.ne_of_lt (Nat.lt_of_lt_of_le (by have:=World.block_lt_of_cell? _ _ hw131_2;first|rwa [z6] at this|exact this) GW104.out))) _).trans (hHeld.2.2.2.2.2.2.2.2.2.1)))),((zn (p:=⟨gb104,_,none⟩) (by first|exact Nat.ne_of_lt (Nat.lt_of_lt_of_le (by have:=World.block_lt_of_cell? _ _ hw131_3;first|rwa [z6] at this|exact this) GW104.out)|(rw [z6];exact Nat.ne_of_lt (Nat.lt_of_lt_of_le (by have:=World.block_lt_of_cell? _ _ hw131_3;first|rwa [z6] at this|exact this) GW104.out))|(show (Addr.add _ _).block ≠ _;rw [z6];exact Nat.ne_of_lt (Nat.lt_of_lt_of_le (by have:=World.block_lt_of_cell? _ _ hw131_3;first|rwa [z6] at this|exact this) GW104.out))|(dsimp only;exact Nat.ne_of_lt (Nat.lt_of_lt_of_le (by have:=World.block_lt_of_cell? _ _ hw131_3;first|rwa [z6] at this|exact this) GW104.out))) _).trans (((zn (p:=⟨gb104,_,none⟩) (by first|exact Nat.ne_of_lt (Nat.lt_of_lt_of_le (by have:=World.block_lt_of_cell? _ _ hw131_3;first|rwa [z6] at this|exact this) GW104.out)|(rw [z6];exact Nat.ne_of_lt (Nat.lt_of_lt_of_le (by have:=World.block_lt_of_cell? _ _ hw131_3;first|rwa [z6] at this|exact this) GW104.out))|(show (Addr.add _ _).block ≠ _;rw [z6];exact Nat.ne_of_lt (Nat.lt_of_lt_of_le (by have:=World.block_lt_of_cell? _ _ hw131_3;first|rwa [z6] at this|exact this) GW104.out))|(dsimp only;exact Nat.ne_of_lt (Nat.lt_of_lt_of_le (by have:=World.block_lt_of_cell? _ _ hw131_3;first|rwa [z6] at this|exact this) GW104.out))) _).trans (hHeld.2.2.2.2.2.2.2.2.2.2.1)))),((zn (p:=⟨gb104,_,none⟩) (by first|exact Nat.ne_of_lt (Nat.lt_of_lt_of_le (by have:=World.block_lt_of_cell? _ _ hw131_4;first|rwa [z6] at this|exact this) GW104.out)|(rw [z6];exact Nat.ne_of_lt (Nat.lt_of_lt_of_le (by have:=World.block_lt_of_cell? _ _ hw131_4;first|rwa [z6] at this|exact this) GW104.out))|(show (Addr.add _ _).block ≠ _;rw [z6];exact Nat.ne_of_lt (Nat.lt_of_lt_of_le (by have:=World.block_lt_of_cell? _ _ hw131_4;first|rwa [z6] at this|exact this) GW104.out))|(dsimp only;exact Nat.ne_of_lt (Nat.lt_of_lt_of_le (by have:=World.block_lt_of_cell? _ _ hw131_4;first|rwa [z6] at this|exact this) GW104.out))) _).trans (((zn (p:=⟨gb104,_,none⟩) (by first|exact Nat.ne_of_lt (Nat.lt_of_lt_of_le (by have:=World.block_lt_of_cell? _ _ hw131_4;first|rwa [z6] at this|exact this) GW104.out)|(rw [z6];exact Nat.ne_of_lt (Nat.lt_of_lt_of_le (by have:=World.block_lt_of_cell? _ _ hw131_4;first|rwa [z6] at this|exact this) GW104.out))|(show (Addr.add _ _).block ≠ _;rw [z6];exact Nat.ne_of_lt (Nat.lt_of_lt_of_le (by have:=World.block_lt_of_cell? _ _ hw131_4;first|rwa [z6] at this|exact this) GW104.out))|(dsimp only;exact Nat.ne_of_lt (Nat.lt_of_lt_of_le (by have:=World.block_lt_of_cell? _ _ hw131_4;first|rwa [z6] at this|exact this) GW104.out))) _).trans (hHeld.2.2.2.2.2.2.2.2.2.2.2.1)))),((zn (p:=⟨gb104,_,none⟩) (by first|exact Kd.zp (Kd.zt HO_7.out (fun _ hk=>hk.2))|(rw [z6];exact Kd.zp (Kd.zt HO_7.out (fun _ hk=>hk.2)))|(show (Addr.add _ _).block ≠ _;rw [z6];exact Kd.zp (Kd.zt HO_7.out (fun _ hk=>hk.2)))|(dsimp only;exact Kd.zp (Kd.zt HO_7.out (fun _ hk=>hk.2)))) _).trans (((zn (p:=⟨gb104,_,none⟩) (by first|exact Kd.zp (Kd.zt HO_7.out (fun _ hk=>hk.2))|(rw [z6];exact Kd.zp (Kd.zt HO_7.out (fun _ hk=>hk.2)))|(show (Addr.add _ _).block ≠ _;rw [z6];exact Kd.zp (Kd.zt HO_7.out (fun _ hk=>hk.2)))|(dsimp only;exact Kd.zp (Kd.zt HO_7.out (fun _ hk=>hk.2)))) _).trans (hHeld.2.2.2.2.2.2.2.2.2.2.2.2.1)))),((zn (p:=⟨gb104,_,none⟩) (by first|exact Kd.zp (Kd.zt HO_7.out (fun _ hk=>hk.2))|(rw [z6];exact Kd.zp (Kd.zt HO_7.out (fun _ hk=>hk.2)))|(show (Addr.add _ _).block ≠ _;rw [z6];exact Kd.zp (Kd.zt HO_7.out (fun _ hk=>hk.2)))|(dsimp only;exact Kd.zp (Kd.zt HO_7.out (fun _ hk=>hk.2)))) _).trans (((zn (p:=⟨gb104,_,none⟩) (by first|exact Kd.zp (Kd.zt HO_7.out (fun _ hk=>hk.2))|(rw [z6];exact Kd.zp (Kd.zt HO_7.out (fun _ hk=>hk.2)))|(show (Addr.add _ _).block ≠ _;rw [z6];exact Kd.zp (Kd.zt HO_7.out (fun _ hk=>hk.2)))|(dsimp only;exact Kd.zp (Kd.zt HO_7.out (fun _ hk=>hk.2)))) _).trans (hHeld.2.2.2.2.2.2.2.2.2.2.2.2.2))))⟩ (fun hHeld=>?_)
       clear hK K
       refine done_ (z27 HT_.out (by kernel_rfl)) ?_
       have hnb62:=NB104_101.out
       have hnc62:=NB101_104.out
       have hcz63_0 : w59.cell? ⟨gb104,0,none⟩ = some (.int .u64 x105000_7):=(zb BK104.out 0).trans rfl
       have hcz63_1 : w59.cell? ⟨gb104,1,none⟩ = some (.int .u64 x105001_7):=(zb BK104.out 1).trans rfl
       have hfz63_0:=z8 BK104.out 0
       have hfz63_1:=z8 BK104.out 1
       try go_wp2_with (first|((with_reducible refine zW (b:=.append) (xs:=#[.tmp 80,.tmp 82]) rfl ?_);at_builtin;refine Kd.z1h k61 (w0:=w) w.heap.size rfl (.tmp 80) (.tmp 82) 43 61 (.agg #[(.int .u64 0),(.int .u64 0)]) 16 rfl Try.underlying43 info61 rfl (by decide) (by omega) (.slice (some ad130) x7_1.length co58) x7_1 (⟨t133,t134⟩ : S61) [.int .u64 t133,.int .u64 t134] (fun k_=>k_ ≠ gb101 ∧ k_ ≠ gb104) (fun _=>False) rfl (by first|(go_simp;done)|(go_simp;rfl)) ?aP (fun _ hk=>hk.elim) ?aF ?aO ?aB ?aS ?aL ?_;(case aP=>exact z2F _ _ _ (⟨t133,t134⟩ : S61));(case aB=>exact (by repeat (first|(with_reducible first|exact HB.out|apply z4|apply z0|apply z3|refine z9 ?_ GE101.out|refine z9 ?_ GE104.out)|exact HB.out)));(case aF=>exact (fun k_ hk=>⟨Kd.freshB (g:=gb101) (o:=.cells #[.int .u64 0,.int .u64 0] 61 (0,0)) (by (with_reducible repeat (first|refine z2 ?_ _|refine z5 ?_|refine z1 ?_ _));refine zs ?_ NB101_104.out _;(with_reducible repeat (first|refine z2 ?_ _|refine z5 ?_|refine z1 ?_ _));refine zs ?_ NB101_104.out _;(with_reducible repeat (first|refine z2 ?_ _|refine z5 ?_|refine z1 ?_ _));exact BK101.out) k_ hk,Kd.freshB (g:=gb104) (o:=.cells #[.int .u64 t133,.int .u64 t134] 61 (0,0)) (by (with_reducible repeat (first|refine z2 ?_ _|refine z5 ?_|refine z1 ?_ _));refine zq (cs:=#[.int .u64 t133,.int .u64 x105001_7]) ?_ 1 _ rfl;(with_reducible repeat (first|refine z2 ?_ _|refine z5 ?_|refine z1 ?_ _));refine zq (cs:=#[.int .u64 x105000_7,.int .u64 x105001_7]) ?_ 0 _ rfl;(with_reducible repeat (first|refine z2 ?_ _|refine z5 ?_|refine z1 ?_ _));exact BK104.out) k_ hk⟩));(case aO=>exact (by (with_reducible repeat (first|apply Kd.zx|apply Kd.zy|apply Kd.zD));exact Kd.z1d (Kd.z1g (p:=⟨gb104,1,none⟩) (Kd.z1g (p:=⟨gb104,0,none⟩) (Kd.z1d HO_7.out (fun k_ hk=>(⟨hk,hk.2⟩ : _ ∧ k_ ≠ gb104))) (fun _ hk=>hk.2) (.int .u64 t133)) (fun _ hk=>hk.2) (.int .u64 t134)) (fun _ hk=>⟨hk.1.1,hk.1.2⟩)));(case aS=>exact (zf (by repeat (first|(with_reducible first|exact HB.out|apply z4|apply z0|apply z3|refine z9 ?_ GE101.out|refine z9 ?_ GE104.out)|exact HB.out))));(case aL=>have:=LMc56.out;omega);intro v136 w64 ho hb hg hat;rw [← Ny135.out] at ho;have n0_:=z7.mk (z1i (g:=gb101) (o:=.cells #[.int .u64 0,.int .u64 0] 61 (0,0)) (by (with_reducible repeat (first|refine z2 ?_ _|refine z5 ?_|refine z1 ?_ _));refine zs ?_ NB101_104.out _;(with_reducible repeat (first|refine z2 ?_ _|refine z5 ?_|refine z1 ?_ _));refine zs ?_ NB101_104.out _;(with_reducible repeat (first|refine z2 ?_ _|refine z5 ?_|refine z1 ?_ _));exact BK101.out) hg (Kd.zt HO_7.out (fun _ hk=>hk.1)));have n1_:=z7.mk (z1i (g:=gb104) (o:=.cells #[.int .u64 t133,.int .u64 t134] 61 (0,0)) (by (with_reducible repeat (first|refine z2 ?_ _|refine z5 ?_|refine z1 ?_ _));refine zq (cs:=#[.int .u64 t133,.int .u64 x105001_7]) ?_ 1 _ rfl;(with_reducible repeat (first|refine z2 ?_ _|refine z5 ?_|refine z1 ?_ _));refine zq (cs:=#[.int .u64 x105000_7,.int .u64 x105001_7]) ?_ 0 _ rfl;(with_reducible repeat (first|refine z2 ?_ _|refine z5 ?_|refine z1 ?_ _));exact BK104.out) hg (Kd.zt HO_7.out (fun _ hk=>hk.2)));have n2_:=z7.mk (hb);have n3_:=z7.mk (ho);clear BK101;clear BK104;clear HB;clear HO_7;have BK101:=n0_;have BK104:=n1_;have HB:=n2_;have HO137:=n3_;clear n0_ n1_ n2_ n3_;clear ho hb hg hat))
       go_roundg kj7
       case measure=>have:=HK1.out;have:=HJ7.out;omega
       case rel=>exact ⟨(y135),(wrap64 (x8_1 + 1)),(by first|rfl|(simp;done)|(simp [*];done)),H',⟨by have:=HK1.out;have:=HJ7.out;omega⟩,⟨by (with_reducible repeat (first|apply Kd.zx|apply Kd.zy|apply Kd.zD));exact Kd.z1d HO137.out (fun _ hk=>hk.1)⟩,⟨by (with_reducible repeat (first|refine z2 ?_ _|refine z5 ?_|refine z1 ?_ _));exact BK101.out⟩,⟨by repeat (first|(with_reducible first|exact HB.out|apply z4|apply z0|apply z3|refine z9 ?_ GE101.out|refine z9 ?_ GE104.out)|exact HB.out)⟩⟩
     rw [if_pos c19] at H
     have c19b0 : (((za l0 x8_1).f0) == 3) = true:=beq_iff_eq.mpr c19
     have c19b1 : (((za l0 x8_1).f0) != 3) = false:=bne_eq_false_iff_eq.mpr c19
     clear c19
     by_cases c20 : 0 ≤ ((za l0 x8_1).f1)
     rotate_left
     · rw [if_neg c20] at H
       exact absurd H (by simp)
     rw [if_pos c20] at H
     have c20b0 : decide (0 ≤ ((za l0 x8_1).f1)) = true:=decide_eq_true c20
     clear c20
     by_cases c21 : ((za l0 x8_1).f1) < (x7_1.length : Int)
     rotate_left
     · rw [if_neg c21] at H
       exact absurd H (by simp)
     rw [if_pos c21] at H
     have c21b0 : decide (((za l0 x8_1).f1) < (x7_1.length : Int)) = true:=decide_eq_true c21
     clear c21
     by_cases c22 : 0 ≤ ((za l0 x8_1).f2)
     rotate_left
     · rw [if_neg c22] at H
       exact absurd H (by simp)
     rw [if_pos c22] at H
     have c22b0 : decide (0 ≤ ((za l0 x8_1).f2)) = true:=decide_eq_true c22
     clear c22
     by_cases c23 : ((za l0 x8_1).f2) < (x7_1.length : Int)
     rotate_left
     · rw [if_neg c23] at H
       exact absurd H (by simp)
     rw [if_pos c23] at H
     have c23b0 : decide (((za l0 x8_1).f2) < (x7_1.length : Int)) = true:=decide_eq_true c23
     clear c23
     replace H:=Option.bind_eq_some_iff.mp H
     obtain ⟨⟨t113,t114⟩,A240,H⟩:=H
     replace H : (if ((za l0 x8_1).f0) = 4 then ((zh.f kj7 ((zS x7_1 ((za l0 x8_1).f1)).f0) ((zS x7_1 ((za l0 x8_1).f1)).f1) ((zS x7_1 ((za l0 x8_1).f2)).f0) ((zS x7_1 ((za l0 x8_1).f2)).f1)).bind fun bt120=>(if x7_1.length < 8796093022208 then (zi.l0 kj7 l0 a1 l2 (x7_1 ++ [(⟨bt120.1,bt120.2⟩ : S61)]) (wrap64 (x8_1 + 1))) else (none))) else (if x7_1.length < 8796093022208 then (zi.l0 kj7 l0 a1 l2 (x7_1 ++ [(⟨t113,t114⟩ : S61)]) (wrap64 (x8_1 + 1))) else (none))) = some (r1,r2):=H
     have A24:=z7.mk A240
     clear A240
     by_cases c25 : ((za l0 x8_1).f0) = 4
     rotate_left
     · rw [if_neg c25] at H
       have c25b0 : (((za l0 x8_1).f0) == 4) = false:=beq_eq_false_iff_ne.mpr c25
       have c25b1 : (((za l0 x8_1).f0) != 4) = true:=bne_iff_ne.mpr c25
       by_cases c41 : x7_1.length < 8796093022208
       rotate_left
       · rw [if_neg c41] at H
         exact absurd H (by simp)
       rw [if_pos c41] at H
       have LMc41:=z7.mk c41
       clear c41
       obtain ⟨y125,hy125⟩ : ∃ y_ : List (S61),y_ = (x7_1 ++ [(⟨t113,t114⟩ : S61)]):=⟨_,rfl⟩
       replace H : (zi.l0 kj7 l0 a1 l2 y125 (wrap64 (x8_1 + 1))) = some (r1,r2):=by first|(rw [hy125];with_reducible exact H)|(have H2_:=(Option.bind_some _ _).symm.trans H;rw [hy125];with_reducible exact H2_)|(have H2_:=(Option.bind_some _ _).symm.trans H;with_reducible exact H2_)|with_reducible exact H|(rw [hy125];exact H)|exact H
       have Ny125:=z7.mk hy125
       clear hy125
       have H':=z7.mk H
       clear H
       have p108 : 0 ≤ (x8_1 : Int):=of_decide_eq_true (by first|(with_reducible assumption)|assumption)
       have q108 : x8_1 < (l0.length : Int):=of_decide_eq_true (by first|(with_reducible assumption)|assumption)
       obtain ⟨ad108,e108,hx108_0,hx108_1,hx108_2,hx108_3,hx108_4⟩:=z16 HR0.out x8_1 p108 q108
       obtain rfl : ad103 = ad108:=(by injection e108)
       replace hx108_0:=(HB.out.cell (World.block_lt_of_cell? w _ hx108_0)).trans hx108_0
       replace hx108_1:=(HB.out.cell (World.block_lt_of_cell? w _ hx108_1)).trans hx108_1
       replace hx108_2:=(HB.out.cell (World.block_lt_of_cell? w _ hx108_2)).trans hx108_2
       replace hx108_3:=(HB.out.cell (World.block_lt_of_cell? w _ hx108_3)).trans hx108_3
       replace hx108_4:=(HB.out.cell (World.block_lt_of_cell? w _ hx108_4)).trans hx108_4
       replace p108:=eq_true p108
       replace q108:=eq_true q108
       try go_wp2
       have n0_:=z7.mk (Kd.zD HO_7.out)
       have n1_:=z7.mk (z5 BK101.out)
       have n2_:=z7.mk (z5 BK104.out)
       have n3_:=z7.mk (z3 HB.out)
       clear HO_7
       clear BK101
       clear BK104
       clear HB
       have HO_7:=n0_
       have BK101:=n1_
       have BK104:=n2_
       have HB:=n3_
       clear n0_ n1_ n2_ n3_
       have p109 : 0 ≤ (x8_1 : Int):=of_decide_eq_true (by first|(with_reducible assumption)|assumption)
       have q109 : x8_1 < (l0.length : Int):=of_decide_eq_true (by first|(with_reducible assumption)|assumption)
       obtain ⟨ad109,e109,hx109_0,hx109_1,hx109_2,hx109_3,hx109_4⟩:=z16 HR0.out x8_1 p109 q109
       have hw109_4:=hx109_4
       have hw109_3:=hx109_3
       have hw109_2:=hx109_2
       have hw109_1:=hx109_1
       have hw109_0:=hx109_0
       obtain rfl : ad103 = ad109:=(by injection e109)
       replace hx109_0:=(HB.out.cell (World.block_lt_of_cell? w _ hx109_0)).trans hx109_0
       replace hx109_1:=(HB.out.cell (World.block_lt_of_cell? w _ hx109_1)).trans hx109_1
       replace hx109_2:=(HB.out.cell (World.block_lt_of_cell? w _ hx109_2)).trans hx109_2
       replace hx109_3:=(HB.out.cell (World.block_lt_of_cell? w _ hx109_3)).trans hx109_3
       replace hx109_4:=(HB.out.cell (World.block_lt_of_cell? w _ hx109_4)).trans hx109_4
       replace p109:=eq_true p109
       replace q109:=eq_true q109
       obtain ⟨Ao43,co43,eo43⟩:=Kd.z1q HO_7.out
       (first|subst eo43|(injection eo43 with f1_ f2_ f3_;have f4_:=f1_.symm;have f5_:=f3_.symm;clear f1_ f2_ f3_;subst f4_;subst f5_))
       have p110 : 0 ≤ (((za l0 x8_1).f1) : Int):=of_decide_eq_true (by first|(with_reducible assumption)|assumption)
       have q110 : ((za l0 x8_1).f1) < (x7_1.length : Int):=of_decide_eq_true (by first|(with_reducible assumption)|assumption)
       obtain ⟨ad110,e110,hx110_0,hx110_1⟩:=z1W (Kd.zO HO_7.out).2.2 ((za l0 x8_1).f1) p110 q110
       cases e110
       replace p110:=eq_true p110
       replace q110:=eq_true q110
       have p111 : 0 ≤ (x8_1 : Int):=of_decide_eq_true (by first|(with_reducible assumption)|assumption)
       have q111 : x8_1 < (l0.length : Int):=of_decide_eq_true (by first|(with_reducible assumption)|assumption)
       obtain ⟨ad111,e111,hx111_0,hx111_1,hx111_2,hx111_3,hx111_4⟩:=z16 HR0.out x8_1 p111 q111
       have hw111_4:=hx111_4
       have hw111_3:=hx111_3
       have hw111_2:=hx111_2
       have hw111_1:=hx111_1
       have hw111_0:=hx111_0
       obtain rfl : ad103 = ad111:=(by injection e111)
       replace hx111_0:=(HB.out.cell (World.block_lt_of_cell? w _ hx111_0)).trans hx111_0
       replace hx111_1:=(HB.out.cell (World.block_lt_of_cell? w _ hx111_1)).trans hx111_1
       replace hx111_2:=(HB.out.cell (World.block_lt_of_cell? w _ hx111_2)).trans hx111_2
       replace hx111_3:=(HB.out.cell (World.block_lt_of_cell? w _ hx111_3)).trans hx111_3
       replace hx111_4:=(HB.out.cell (World.block_lt_of_cell? w _ hx111_4)).trans hx111_4
       replace p111:=eq_true p111
       replace q111:=eq_true q111
       have p112 : 0 ≤ (((za l0 x8_1).f2) : Int):=of_decide_eq_true (by first|(with_reducible assumption)|assumption)
       have q112 : ((za l0 x8_1).f2) < (x7_1.length : Int):=of_decide_eq_true (by first|(with_reducible assumption)|assumption)
       obtain ⟨ad112,e112,hx112_0,hx112_1⟩:=z1W (Kd.zO HO_7.out).2.2 ((za l0 x8_1).f2) p112 q112
       obtain rfl : ad110 = ad112:=(by injection e112)
       replace p112:=eq_true p112
       replace q112:=eq_true q112
       refine start_ (n:=18) (S:=fun w'=>w'.cell? (ad103.add ((x8_1).toNat * 5)) = some (.int .i64 ((za l0 x8_1).f0)) ∧ w'.cell? ⟨(ad103.add ((x8_1).toNat * 5)).block,(ad103.add ((x8_1).toNat * 5)).off + 1,none⟩ = some (.int .i64 ((za l0 x8_1).f1)) ∧ w'.cell? ⟨(ad103.add ((x8_1).toNat * 5)).block,(ad103.add ((x8_1).toNat * 5)).off + 2,none⟩ = some (.int .i64 ((za l0 x8_1).f2)) ∧ w'.cell? ⟨(ad103.add ((x8_1).toNat * 5)).block,(ad103.add ((x8_1).toNat * 5)).off + 3,none⟩ = some (.int .u64 ((za l0 x8_1).f3.f0)) ∧ w'.cell? ⟨(ad103.add ((x8_1).toNat * 5)).block,(ad103.add ((x8_1).toNat * 5)).off + 4,none⟩ = some (.int .u64 ((za l0 x8_1).f3.f1)) ∧ w'.cell? (ad110.add ((((za l0 x8_1).f1)).toNat * 2)) = some (.int .u64 ((zS x7_1 ((za l0 x8_1).f1)).f0)) ∧ w'.cell? ⟨(ad110.add ((((za l0 x8_1).f1)).toNat * 2)).block,(ad110.add ((((za l0 x8_1).f1)).toNat * 2)).off + 1,none⟩ = some (.int .u64 ((zS x7_1 ((za l0 x8_1).f1)).f1)) ∧ w'.cell? (ad103.add ((x8_1).toNat * 5)) = some (.int .i64 ((za l0 x8_1).f0)) ∧ w'.cell? ⟨(ad103.add ((x8_1).toNat * 5)).block,(ad103.add ((x8_1).toNat * 5)).off + 1,none⟩ = some (.int .i64 ((za l0 x8_1).f1)) ∧ w'.cell? ⟨(ad103.add ((x8_1).toNat * 5)).block,(ad103.add ((x8_1).toNat * 5)).off + 2,none⟩ = some (.int .i64 ((za l0 x8_1).f2)) ∧ w'.cell? ⟨(ad103.add ((x8_1).toNat * 5)).block,(ad103.add ((x8_1).toNat * 5)).off + 3,none⟩ = some (.int .u64 ((za l0 x8_1).f3.f0)) ∧ w'.cell? ⟨(ad103.add ((x8_1).toNat * 5)).block,(ad103.add ((x8_1).toNat * 5)).off + 4,none⟩ = some (.int .u64 ((za l0 x8_1).f3.f1)) ∧ w'.cell? (ad110.add ((((za l0 x8_1).f2)).toNat * 2)) = some (.int .u64 ((zS x7_1 ((za l0 x8_1).f2)).f0)) ∧ w'.cell? ⟨(ad110.add ((((za l0 x8_1).f2)).toNat * 2)).block,(ad110.add ((((za l0 x8_1).f2)).toNat * 2)).off + 1,none⟩ = some (.int .u64 ((zS x7_1 ((za l0 x8_1).f2)).f1))) (ds:=[]) #[false,false,false,false,false,false,false,false,false,false,false,false,false,false,false,false,false,false] (by kernel_rfl) rfl rfl ⟨((HB.out.cell (World.block_lt_of_cell? w _ hw109_0)).trans hw109_0),((HB.out.cell (World.block_lt_of_cell? w _ hw109_1)).trans hw109_1),((HB.out.cell (World.block_lt_of_cell? w _ hw109_2)).trans hw109_2),((HB.out.cell (World.block_lt_of_cell? w _ hw109_3)).trans hw109_3),((HB.out.cell (World.block_lt_of_cell? w _ hw109_4)).trans hw109_4),hx110_0,hx110_1,((HB.out.cell (World.block_lt_of_cell? w _ hw111_0)).trans hw111_0),((HB.out.cell (World.block_lt_of_cell? w _ hw111_1)).trans hw111_1),((HB.out.cell (World.block_lt_of_cell? w _ hw111_2)).trans hw111_2),((HB.out.cell (World.block_lt_of_cell? w _ hw111_3)).trans hw111_3),((HB.out.cell (World.block_lt_of_cell? w _ hw111_4)).trans hw111_4),hx112_0,hx112_1⟩ (fun hHeld=>?_);refine z1K zi.tab9 zi.bits9 (fun HT_ HW_=>?_)
       generalize wc.drew = w42 at HO_7 BK101 BK104 HB hx109_0 hx109_1 hx109_2 hx109_3 hx109_4 hx110_0 hx110_1 hx111_0 hx111_1 hx111_2 hx111_3 hx111_4 hx112_0 hx112_1 hHeld ⊢
       refine pure_ (i:=0) (N:=some 40) (v:=?_) (a':=?_) #[true,false,false,false,false,false,false,false,false,false,false,false,false,false,false,false,false,false] rfl rfl (zU HT_.out (by kernel_rfl)) (fun _ _ _ h=>h) (Or.inl ⟨by rfl,?_⟩) ?_ ?_
       rotate_left
       · intro w'
         go_simp
         with_reducible rfl
       rotate_left
       · simp only [Act.put,List.setIfInBounds_toArray,List.set_cons_zero,List.set_cons_succ,zH,zL]
         rfl
       refine pure_ (i:=1) (N:=some 41) (v:=?_) (a':=?_) #[true,true,false,false,false,false,false,false,false,false,false,false,false,false,false,false,false,false] rfl rfl (zU HT_.out (by kernel_rfl)) (fun _ _ _ h=>h) (Or.inl ⟨by rfl,?_⟩) ?_ ?_
       rotate_left
       · intro w'
         go_simp
         with_reducible rfl
       rotate_left
       · simp only [Act.put,List.setIfInBounds_toArray,List.set_cons_zero,List.set_cons_succ,zH,zL]
         rfl
       refine pure_ (i:=2) (N:=some 42) (v:=?_) (a':=?_) #[true,true,true,false,false,false,false,false,false,false,false,false,false,false,false,false,false,false] rfl rfl (zU HT_.out (by kernel_rfl)) (fun _ _ _ h=>h) (Or.inl ⟨by rfl,?_⟩) ?_ ?_
       rotate_left
       · intro w'
         go_simp
         with_reducible rfl
       rotate_left
       · simp only [Act.put,List.setIfInBounds_toArray,List.set_cons_zero,List.set_cons_succ,zH,zL]
         rfl
       refine pure_ (i:=3) (N:=some 43) (v:=?_) (a':=?_) #[true,true,true,true,false,false,false,false,false,false,false,false,false,false,false,false,false,false] rfl rfl (zU HT_.out (by kernel_rfl)) (fun _ _ _ h=>h) (Or.inl ⟨by rfl,?_⟩) ?_ ?_
       rotate_left
       · intro w'
         go_simp
         with_reducible rfl
       rotate_left
       · simp only [Act.put,List.setIfInBounds_toArray,List.set_cons_zero,List.set_cons_succ,zH,zL]
         rfl
       refine pure_ (i:=4) (N:=some 44) (v:=?_) (a':=?_) #[true,true,true,true,true,false,false,false,false,false,false,false,false,false,false,false,false,false] rfl rfl (zU HT_.out (by kernel_rfl)) (fun _ _ _ h=>h) (Or.inl ⟨by rfl,?_⟩) ?_ ?_
       rotate_left
       · intro w'
         go_simp
         with_reducible rfl
       rotate_left
       · simp only [Act.put,List.setIfInBounds_toArray,List.set_cons_zero,List.set_cons_succ,zH,zL]
         rfl
       refine pure_ (i:=8) (N:=some 48) (v:=?_) (a':=?_) #[true,true,true,true,true,false,false,false,true,false,false,false,false,false,false,false,false,false] rfl rfl (zU HT_.out (by kernel_rfl)) (fun _ _ _ h=>h) (Or.inl ⟨by rfl,?_⟩) ?_ ?_
       rotate_left
       · intro w'
         go_simp
         with_reducible rfl
       rotate_left
       · simp only [Act.put,List.setIfInBounds_toArray,List.set_cons_zero,List.set_cons_succ,zH,zL]
         rfl
       refine pure_ (i:=9) (N:=some 49) (v:=?_) (a':=?_) #[true,true,true,true,true,false,false,false,true,true,false,false,false,false,false,false,false,false] rfl rfl (zU HT_.out (by kernel_rfl)) (fun _ _ _ h=>h) (Or.inl ⟨by rfl,?_⟩) ?_ ?_
       rotate_left
       · intro w'
         go_simp
         with_reducible rfl
       rotate_left
       · simp only [Act.put,List.setIfInBounds_toArray,List.set_cons_zero,List.set_cons_succ,zH,zL]
         rfl
       refine pure_ (i:=10) (N:=some 50) (v:=?_) (a':=?_) #[true,true,true,true,true,false,false,false,true,true,true,false,false,false,false,false,false,false] rfl rfl (zU HT_.out (by kernel_rfl)) (fun _ _ _ h=>h) (Or.inl ⟨by rfl,?_⟩) ?_ ?_
       rotate_left
       · intro w'
         go_simp
         with_reducible rfl
       rotate_left
       · simp only [Act.put,List.setIfInBounds_toArray,List.set_cons_zero,List.set_cons_succ,zH,zL]
         rfl
       refine pure_ (i:=11) (N:=some 51) (v:=?_) (a':=?_) #[true,true,true,true,true,false,false,false,true,true,true,true,false,false,false,false,false,false] rfl rfl (zU HT_.out (by kernel_rfl)) (fun _ _ _ h=>h) (Or.inl ⟨by rfl,?_⟩) ?_ ?_
       rotate_left
       · intro w'
         go_simp
         with_reducible rfl
       rotate_left
       · simp only [Act.put,List.setIfInBounds_toArray,List.set_cons_zero,List.set_cons_succ,zH,zL]
         rfl
       refine pure_ (i:=12) (N:=some 52) (v:=?_) (a':=?_) #[true,true,true,true,true,false,false,false,true,true,true,true,true,false,false,false,false,false] rfl rfl (zU HT_.out (by kernel_rfl)) (fun _ _ _ h=>h) (Or.inl ⟨by rfl,?_⟩) ?_ ?_
       rotate_left
       · intro w'
         go_simp
         with_reducible rfl
       rotate_left
       · simp only [Act.put,List.setIfInBounds_toArray,List.set_cons_zero,List.set_cons_succ,zH,zL]
         rfl
       refine take_ (i:=5) (N:=some 45) (v:=?_) (a':=?_) #[true,true,true,true,true,true,false,false,true,true,true,true,true,false,false,false,false,false] rfl rfl (z1c HT_.out HW_.out (by kernel_rfl)) (fun _ _ _ h=>h) (Or.inl ⟨by rfl,?_⟩) hHeld ?_ ?_
       rotate_left
       · rintro w' ⟨s0,s1,s2,s3,s4,s5,s6,s7,s8,s9,s10,s11,s12,s13⟩
         go_simp
         with_reducible rfl
       rotate_left
       · simp only [Act.put,List.setIfInBounds_toArray,List.set_cons_zero,List.set_cons_succ,zH,zL]
         rfl
       refine pure_ (i:=6) (N:=some 46) (v:=?_) (a':=?_) #[true,true,true,true,true,true,true,false,true,true,true,true,true,false,false,false,false,false] rfl rfl (zU HT_.out (by kernel_rfl)) (fun _ _ _ h=>h) (Or.inl ⟨by rfl,?_⟩) ?_ ?_
       rotate_left
       · intro w'
         go_simp
         with_reducible rfl
       rotate_left
       · simp only [Act.put,List.setIfInBounds_toArray,List.set_cons_zero,List.set_cons_succ,zH,zL]
         rfl
       refine take_ (i:=7) (N:=some 47) (v:=?_) (a':=?_) #[true,true,true,true,true,true,true,true,true,true,true,true,true,false,false,false,false,false] rfl rfl (z1c HT_.out HW_.out (by kernel_rfl)) (fun _ _ _ h=>h) (Or.inl ⟨by rfl,?_⟩) hHeld ?_ ?_
       rotate_left
       · rintro w' ⟨s0,s1,s2,s3,s4,s5,s6,s7,s8,s9,s10,s11,s12,s13⟩
         go_simp
         with_reducible rfl
       rotate_left
       · simp only [Act.put,List.setIfInBounds_toArray,List.set_cons_zero,List.set_cons_succ,zH,zL]
         rfl
       refine take_ (i:=13) (N:=some 53) (v:=?_) (a':=?_) #[true,true,true,true,true,true,true,true,true,true,true,true,true,true,false,false,false,false] rfl rfl (z1c HT_.out HW_.out (by kernel_rfl)) (fun _ _ _ h=>h) (Or.inl ⟨by rfl,?_⟩) hHeld ?_ ?_
       rotate_left
       · rintro w' ⟨s0,s1,s2,s3,s4,s5,s6,s7,s8,s9,s10,s11,s12,s13⟩
         go_simp
         with_reducible rfl
       rotate_left
       · simp only [Act.put,List.setIfInBounds_toArray,List.set_cons_zero,List.set_cons_succ,zH,zL]
         rfl
       refine pure_ (i:=14) (N:=some 54) (v:=?_) (a':=?_) #[true,true,true,true,true,true,true,true,true,true,true,true,true,true,true,false,false,false] rfl rfl (zU HT_.out (by kernel_rfl)) (fun _ _ _ h=>h) (Or.inl ⟨by rfl,?_⟩) ?_ ?_
       rotate_left
       · intro w'
         go_simp
         with_reducible rfl
       rotate_left
       · simp only [Act.put,List.setIfInBounds_toArray,List.set_cons_zero,List.set_cons_succ,zH,zL]
         rfl
       refine take_ (i:=15) (N:=some 55) (v:=?_) (a':=?_) #[true,true,true,true,true,true,true,true,true,true,true,true,true,true,true,true,false,false] rfl rfl (z1c HT_.out HW_.out (by kernel_rfl)) (fun _ _ _ h=>h) (Or.inl ⟨by rfl,?_⟩) hHeld ?_ ?_
       rotate_left
       · rintro w' ⟨s0,s1,s2,s3,s4,s5,s6,s7,s8,s9,s10,s11,s12,s13⟩
         go_simp
         with_reducible rfl
       rotate_left
       · simp only [Act.put,List.setIfInBounds_toArray,List.set_cons_zero,List.set_cons_succ,zH,zL]
         rfl
       refine one_ (i:=16) (N:=some 56) #[true,true,true,true,true,true,true,true,true,true,true,true,true,true,true,true,true,false] rfl rfl (z1I HT_.out (by kernel_rfl)) (by decide) (fun K hK=>?_)
       refine goes_ Try.func74 (by kernel_rfl) rfl #[.agg #[.int .u64 ((zS x7_1 ((za l0 x8_1).f1)).f0),.int .u64 ((zS x7_1 ((za l0 x8_1).f1)).f1)],.agg #[.int .u64 ((zS x7_1 ((za l0 x8_1).f2)).f0),.int .u64 ((zS x7_1 ((za l0 x8_1).f2)).f1)]] (by rfl) rfl rfl (by (try simp only [List.map_toArray,List.map_cons,List.map_nil]);first|done|rfl|(simp only [List.length_drop,List.length_take];rfl)) ?_
       with_reducible refine (z1m.calls ((zS x7_1 ((za l0 x8_1).f1)).f0) ((zS x7_1 ((za l0 x8_1).f1)).f1) ((zS x7_1 ((za l0 x8_1).f2)).f0) ((zS x7_1 ((za l0 x8_1).f2)).f1) t113 t114 _ A24.out).mono ?_
       rintro e w44 ⟨rfl,hb⟩
       have HS5_:=(hb.cell (World.block_lt_of_cell? _ _ (hHeld.2.2.2.2.2.1))).trans (hHeld.2.2.2.2.2.1)
       have HS6_:=(hb.cell (World.block_lt_of_cell? _ _ (hHeld.2.2.2.2.2.2.1))).trans (hHeld.2.2.2.2.2.2.1)
       have HS12_:=(hb.cell (World.block_lt_of_cell? _ _ (hHeld.2.2.2.2.2.2.2.2.2.2.2.2.1))).trans (hHeld.2.2.2.2.2.2.2.2.2.2.2.2.1)
       have HS13_:=(hb.cell (World.block_lt_of_cell? _ _ (hHeld.2.2.2.2.2.2.2.2.2.2.2.2.2))).trans (hHeld.2.2.2.2.2.2.2.2.2.2.2.2.2)
       refine ⟨_,rfl,?_⟩
       have n0_:=z7.mk (Kd.zY (by (with_reducible repeat (first|apply Kd.zx|apply Kd.zy|apply Kd.zD));exact HO_7.out) hb)
       have n1_:=z7.mk (zk (g:=gb101) (o:=.cells #[.int .u64 0,.int .u64 0] 61 (0,0)) (by (with_reducible repeat (first|refine z2 ?_ _|refine z5 ?_|refine z1 ?_ _));exact BK101.out) hb)
       have n2_:=z7.mk (zk (g:=gb104) (o:=.cells #[.int .u64 x105000_7,.int .u64 x105001_7] 61 (0,0)) (by (with_reducible repeat (first|refine z2 ?_ _|refine z5 ?_|refine z1 ?_ _));exact BK104.out) hb)
       have n3_:=z7.mk (zg (by repeat (first|(with_reducible first|exact HB.out|apply z4|apply z0|apply z3|refine z9 ?_ GE101.out|refine z9 ?_ GE104.out)|exact HB.out)) hb)
       clear HO_7
       clear BK101
       clear BK104
       clear HB
       have HO_7:=n0_
       have BK101:=n1_
       have BK104:=n2_
       have HB:=n3_
       clear n0_ n1_ n2_ n3_
       (try clear hb)
       (try clear hb2)
       (try clear hk)
       (try clear hi)
       refine hK.out _ _ ⟨((HB.out.cell (World.block_lt_of_cell? w _ hw109_0)).trans hw109_0),((HB.out.cell (World.block_lt_of_cell? w _ hw109_1)).trans hw109_1),((HB.out.cell (World.block_lt_of_cell? w _ hw109_2)).trans hw109_2),((HB.out.cell (World.block_lt_of_cell? w _ hw109_3)).trans hw109_3),((HB.out.cell (World.block_lt_of_cell? w _ hw109_4)).trans hw109_4),HS5_,HS6_,((HB.out.cell (World.block_lt_of_cell? w _ hw111_0)).trans hw111_0),((HB.out.cell (World.block_lt_of_cell? w _ hw111_1)).trans hw111_1),((HB.out.cell (World.block_lt_of_cell? w _ hw111_2)).trans hw111_2),((HB.out.cell (World.block_lt_of_cell? w _ hw111_3)).trans hw111_3),((HB.out.cell (World.block_lt_of_cell? w _ hw111_4)).trans hw111_4),HS12_,HS13_⟩ (fun hHeld=>?_)
       clear hK K
       refine norm_ (a':=?_) ?_ ?_
       rotate_left
       · show Act.put _ (some 56) _ = _
         simp only [Act.put,List.setIfInBounds_toArray,List.set_cons_zero,List.set_cons_succ,zH,zL]
         rfl
       refine one_ (i:=17) (N:=none) #[true,true,true,true,true,true,true,true,true,true,true,true,true,true,true,true,true,true] rfl rfl (z1I HT_.out (by kernel_rfl)) (by decide) (fun K hK=>?_)
       have hs45 : w44.cell? ⟨gb104,0,none⟩ = some (.int .u64 x105000_7):=(zb BK104.out 0).trans rfl
       have hfs45:=z8 BK104.out 0
       have hns45_0:=NB101_104.out
       have hms45_0:=NB104_101.out
       have hs46 : w44.cell? ⟨gb104,1,none⟩ = some (.int .u64 x105001_7):=(zb BK104.out 1).trans rfl
       have hfs46:=z8 BK104.out 1
       have hns46_0:=NB101_104.out
       have hms46_0:=NB104_101.out
       refine skip_ (w1:=?_) (by rfl) rfl ?_ ?_
       rotate_left
       · go_simp
         rfl
       refine hK.out _ _ ⟨((zn (p:=⟨gb104,_,none⟩) (by first|exact Nat.ne_of_lt (Nat.lt_of_lt_of_le (by have:=World.block_lt_of_cell? _ _ hw109_0;first|rwa [z6] at this|exact this) GW104.out)|(rw [z6];exact Nat.ne_of_lt (Nat.lt_of_lt_of_le (by have:=World.block_lt_of_cell? _ _ hw109_0;first|rwa [z6] at this|exact this) GW104.out))|(show (Addr.add _ _).block ≠ _;rw [z6];exact Nat.ne_of_lt (Nat.lt_of_lt_of_le (by have:=World.block_lt_of_cell? _ _ hw109_0;first|rwa [z6] at this|exact this) GW104.out))|(dsimp only;exact Nat.ne_of_lt (Nat.lt_of_lt_of_le (by have:=World.block_lt_of_cell? _ _ hw109_0;first|rwa [z6] at this|exact this) GW104.out))) _).trans (((zn (p:=⟨gb104,_,none⟩) (by first|exact Nat.ne_of_lt (Nat.lt_of_lt_of_le (by have:=World.block_lt_of_cell? _ _ hw109_0;first|rwa [z6] at this|exact this) GW104.out)|(rw [z6];exact Nat.ne_of_lt (Nat.lt_of_lt_of_le (by have:=World.block_lt_of_cell? _ _ hw109_0;first|rwa [z6] at this|exact this) GW104.out))|(show (Addr.add _ _).block ≠ _;rw [z6];exact Nat.ne_of_lt (Nat.lt_of_lt_of_le (by have:=World.block_lt_of_cell? _ _ hw109_0;first|rwa [z6] at this|exact this) GW104.out))|(dsimp only;exact Nat.ne_of_lt (Nat.lt_of_lt_of_le (by have:=World.block_lt_of_cell? _ _ hw109_0;first|rwa [z6] at this|exact this) GW104.out))) _).trans (hHeld.1)))),((zn (p:=⟨gb104,_,none⟩) (by first|exact Nat.ne_of_lt (Nat.lt_of_lt_of_le (by have:=World.block_lt_of_cell? _ _ hw109_1;first|rwa [z6] at this|exact this) GW104.out)|(rw [z6];exact Nat.ne_of_lt (Nat.lt_of_lt_of_le (by have:=World.block_lt_of_cell? _ _ hw109_1;first|rwa [z6] at this|exact this) GW104.out))|(show (Addr.add _ _).block ≠ _;rw [z6];exact Nat.ne_of_lt (Nat.lt_of_lt_of_le (by have:=World.block_lt_of_cell? _ _ hw109_1;first|rwa [z6] at this|exact this) GW104.out))|(dsimp only;exact Nat.ne_of_lt (Nat.lt_of_lt_of_le (by have:=World.block_lt_of_cell? _ _ hw109_1;first|rwa [z6] at this|exact this) GW104.out))) _).trans (((zn (p:=⟨gb104,_,none⟩) (by first|exact Nat.ne_of_lt (Nat.lt_of_lt_of_le (by have:=World.block_lt_of_cell? _ _ hw109_1;first|rwa [z6] at this|exact this) GW104.out)|(rw [z6];exact Nat.ne_of_lt (Nat.lt_of_lt_of_le (by have:=World.block_lt_of_cell? _ _ hw109_1;first|rwa [z6] at this|exact this) GW104.out))|(show (Addr.add _ _).block ≠ _;rw [z6];exact Nat.ne_of_lt (Nat.lt_of_lt_of_le (by have:=World.block_lt_of_cell? _ _ hw109_1;first|rwa [z6] at this|exact this) GW104.out))|(dsimp only;exact Nat.ne_of_lt (Nat.lt_of_lt_of_le (by have:=World.block_lt_of_cell? _ _ hw109_1;first|rwa [z6] at this|exact this) GW104.out))) _).trans (hHeld.2.1)))),((zn (p:=⟨gb104,_,none⟩) (by first|exact Nat.ne_of_lt (Nat.lt_of_lt_of_le (by have:=World.block_lt_of_cell? _ _ hw109_2;first|rwa [z6] at this|exact this) GW104.out)|(rw [z6];exact Nat.ne_of_lt (Nat.lt_of_lt_of_le (by have:=World.block_lt_of_cell? _ _ hw109_2;first|rwa [z6] at this|exact this) GW104.out))|(show (Addr.add _ _).block ≠ _;rw [z6];exact Nat.ne_of_lt (Nat.lt_of_lt_of_le (by have:=World.block_lt_of_cell? _ _ hw109_2;first|rwa [z6] at this|exact this) GW104.out))|(dsimp only;exact Nat.ne_of_lt (Nat.lt_of_lt_of_le (by have:=World.block_lt_of_cell? _ _ hw109_2;first|rwa [z6] at this|exact this) GW104.out))) _).trans (((zn (p:=⟨gb104,_,none⟩) (by first|exact Nat.ne_of_lt (Nat.lt_of_lt_of_le (by have:=World.block_lt_of_cell? _ _ hw109_2;first|rwa [z6] at this|exact this) GW104.out)|(rw [z6];exact Nat.ne_of_lt (Nat.lt_of_lt_of_le (by have:=World.block_lt_of_cell? _ _ hw109_2;first|rwa [z6] at this|exact this) GW104.out))|(show (Addr.add _ _).block ≠ _;rw [z6];exact Nat.ne_of_lt (Nat.lt_of_lt_of_le (by have:=World.block_lt_of_cell? _ _ hw109_2;first|rwa [z6] at this|exact this) GW104.out))|(dsimp only;exact Nat.ne_of_lt (Nat.lt_of_lt_of_le (by have:=World.block_lt_of_cell? _ _ hw109_2;first|rwa [z6] at this|exact this) GW104.out))) _).trans (hHeld.2.2.1)))),((zn (p:=⟨gb104,_,none⟩) (by first|exact Nat.ne_of_lt (Nat.lt_of_lt_of_le (by have:=World.block_lt_of_cell? _ _ hw109_3;first|rwa [z6] at this|exact this) GW104.out)|(rw [z6];exact Nat.ne_of_lt (Nat.lt_of_lt_of_le (by have:=World.block_lt_of_cell? _ _ hw109_3;first|rwa [z6] at this|exact this) GW104.out))|(show (Addr.add _ _).block ≠ _;rw [z6];exact Nat.ne_of_lt (Nat.lt_of_lt_of_le (by have:=World.block_lt_of_cell? _ _ hw109_3;first|rwa [z6] at this|exact this) GW104.out))|(dsimp only;exact Nat.ne_of_lt (Nat.lt_of_lt_of_le (by have:=World.block_lt_of_cell? _ _ hw109_3;first|rwa [z6] at this|exact this) GW104.out))) _).trans (((zn (p:=⟨gb104,_,none⟩) (by first|exact Nat.ne_of_lt (Nat.lt_of_lt_of_le (by have:=World.block_lt_of_cell? _ _ hw109_3;first|rwa [z6] at this|exact this) GW104.out)|(rw [z6];exact Nat.ne_of_lt (Nat.lt_of_lt_of_le (by have:=World.block_lt_of_cell? _ _ hw109_3;first|rwa [z6] at this|exact this) GW104.out))|(show (Addr.add _ _).block ≠ _;rw [z6];exact Nat.ne_of_lt (Nat.lt_of_lt_of_le (by have:=World.block_lt_of_cell? _ _ hw109_3;first|rwa [z6] at this|exact this) GW104.out))|(dsimp only;exact Nat.ne_of_lt (Nat.lt_of_lt_of_le (by have:=World.block_lt_of_cell? _ _ hw109_3;first|rwa [z6] at this|exact this) GW104.out))) _).trans (hHeld.2.2.2.1)))),((zn (p:=⟨gb104,_,none⟩) (by first|exact Nat.ne_of_lt (Nat.lt_of_lt_of_le (by have:=World.block_lt_of_cell? _ _ hw109_4;first|rwa [z6] at this|exact this) GW104.out)|(rw [z6];exact Nat.ne_of_lt (Nat.lt_of_lt_of_le (by have:=World.block_lt_of_cell? _ _ hw109_4;first|rwa [z6] at this|exact this) GW104.out))|(show (Addr.add _ _).block ≠ _;rw [z6];exact Nat.ne_of_lt (Nat.lt_of_lt_of_le (by have:=World.block_lt_of_cell? _ _ hw109_4;first|rwa [z6] at this|exact this) GW104.out))|(dsimp only;exact Nat.ne_of_lt (Nat.lt_of_lt_of_le (by have:=World.block_lt_of_cell? _ _ hw109_4;first|rwa [z6] at this|exact this) GW104.out))) _).trans (((zn (p:=⟨gb104,_,none⟩) (by first|exact Nat.ne_of_lt (Nat.lt_of_lt_of_le (by have:=World.block_lt_of_cell? _ _ hw109_4;first|rwa [z6] at this|exact this) GW104.out)|(rw [z6];exact Nat.ne_of_lt (Nat.lt_of_lt_of_le (by have:=World.block_lt_of_cell? _ _ hw109_4;first|rwa [z6] at this|exact this) GW104.out))|(show (Addr.add _ _).block ≠ _;rw [z6];exact Nat.ne_of_lt (Nat.lt_of_lt_of_le (by have:=World.block_lt_of_cell? _ _ hw109_4;first|rwa [z6] at this|exact this) GW104.out))|(dsimp only;exact Nat.ne_of_lt (Nat.lt_of_lt_of_le (by have:=World.block_lt_of_cell? _ _ hw109_4;first|rwa [z6] at this|exact this) GW104.out))) _).trans (hHeld.2.2.2.2.1)))),((zn (p:=⟨gb104,_,none⟩) (by first|exact Kd.zp (Kd.zt HO_7.out (fun _ hk=>hk.2))|(rw [z6];exact Kd.zp (Kd.zt HO_7.out (fun _ hk=>hk.2)))|(show (Addr.add _ _).block ≠ _;rw [z6];exact Kd.zp (Kd.zt HO_7.out (fun _ hk=>hk.2)))|(dsimp only;exact Kd.zp (Kd.zt HO_7.out (fun _ hk=>hk.2)))) _).trans (((zn (p:=⟨gb104,_,none⟩) (by first|exact Kd.zp (Kd.zt HO_7.out (fun _ hk=>hk.2))|(rw [z6];exact Kd.zp (Kd.zt HO_7.out (fun _ hk=>hk.2)))|(show (Addr.add _ _).block ≠ _;rw [z6];exact Kd.zp (Kd.zt HO_7.out (fun _ hk=>hk.2)))|(dsimp only;exact Kd.zp (Kd.zt HO_7.out (fun _ hk=>hk.2)))) _).trans (hHeld.2.2.2.2.2.1)))),((zn (p:=⟨gb104,_,none⟩) (by first|exact Kd.zp (Kd.zt HO_7.out (fun _ hk=>hk.2))|(rw [z6];exact Kd.zp (Kd.zt HO_7.out (fun _ hk=>hk.2)))|(show (Addr.add _ _).block ≠ _;rw [z6];exact Kd.zp (Kd.zt HO_7.out (fun _ hk=>hk.2)))|(dsimp only;exact Kd.zp (Kd.zt HO_7.out (fun _ hk=>hk.2)))) _).trans (((zn (p:=⟨gb104,_,none⟩) (by first|exact Kd.zp (Kd.zt HO_7.out (fun _ hk=>hk.2))|(rw [z6];exact Kd.zp (Kd.zt HO_7.out (fun _ hk=>hk.2)))|(show (Addr.add _ _).block ≠ _;rw [z6];exact Kd.zp (Kd.zt HO_7.out (fun _ hk=>hk.2)))|(dsimp only;exact Kd.zp (Kd.zt HO_7.out (fun _ hk=>hk.2)))) _).trans (hHeld.2.2.2.2.2.2.1)))),((zn (p:=⟨gb104,_,none⟩) (by first|exact Nat.ne_of_lt (Nat.lt_of_lt_of_le (by have:=World.block_lt_of_cell? _ _ hw111_0;first|rwa [z6] at this|exact this) GW104.out)|(rw [z6];exact Nat.ne_of_lt (Nat.lt_of_lt_of_le (by have:=World.block_lt_of_cell? _ _ hw111_0;first|rwa [z6] at this|exact this) GW104.out))|(show (Addr.add _ _).block ≠ _;rw [z6];exact Nat.ne_of_lt (Nat.lt_of_lt_of_le (by have:=World.block_lt_of_cell? _ _ hw111_0;first|rwa [z6] at this|exact this) GW104.out))|(dsimp only;exact Nat.ne_of_lt (Nat.lt_of_lt_of_le (by have:=World.block_lt_of_cell? _ _ hw111_0;first|rwa [z6] at this|exact this) GW104.out))) _).trans (((zn (p:=⟨gb104,_,none⟩) (by first|exact Nat.ne_of_lt (Nat.lt_of_lt_of_le (by have:=World.block_lt_of_cell? _ _ hw111_0;first|rwa [z6] at this|exact this) GW104.out)|(rw [z6];exact Nat.ne_of_lt (Nat.lt_of_lt_of_le (by have:=World.block_lt_of_cell? _ _ hw111_0;first|rwa [z6] at this|exact this) GW104.out))|(show (Addr.add _ _).block ≠ _;rw [z6];exact Nat.ne_of_lt (Nat.lt_of_lt_of_le (by have:=World.block_lt_of_cell? _ _ hw111_0;first|rwa [z6] at this|exact this) GW104.out))|(dsimp only;exact Nat.ne_of_lt (Nat.lt_of_lt_of_le (by have:=World.block_lt_of_cell? _ _ hw111_0;first|rwa [z6] at this|exact this) GW104.out))) _).trans (hHeld.2.2.2.2.2.2.2.1)))),((zn (p:=⟨gb104,_,none⟩) (by first|exact Nat.ne_of_lt (Nat.lt_of_lt_of_le (by have:=World.block_lt_of_cell? _ _ hw111_1;first|rwa [z6] at this|exact this) GW104.out)|(rw [z6];exact Nat.ne_of_lt (Nat.lt_of_lt_of_le (by have:=World.block_lt_of_cell? _ _ hw111_1;first|rwa [z6] at this|exact this) GW104.out))|(show (Addr.add _ _).block ≠ _;rw [z6];exact Nat.ne_of_lt (Nat.lt_of_lt_of_le (by have:=World.block_lt_of_cell? _ _ hw111_1;first|rwa [z6] at this|exact this) GW104.out))|(dsimp only;exact Nat.ne_of_lt (Nat.lt_of_lt_of_le (by have:=World.block_lt_of_cell? _ _ hw111_1;first|rwa [z6] at this|exact this) GW104.out))) _).trans (((zn (p:=⟨gb104,_,none⟩) (by first|exact Nat.ne_of_lt (Nat.lt_of_lt_of_le (by have:=World.block_lt_of_cell? _ _ hw111_1;first|rwa [z6] at this|exact this) GW104.out)|(rw [z6];exact Nat.ne_of_lt (Nat.lt_of_lt_of_le (by have:=World.block_lt_of_cell? _ _ hw111_1;first|rwa [z6] at this|exact this) GW104.out))|(show (Addr.add _ _).block ≠ _;rw [z6];exact Nat.ne_of_lt (Nat.lt_of_lt_of_le (by have:=World.block_lt_of_cell? _ _ hw111_1;first|rwa [z6] at this|exact this) GW104.out))|(dsimp only;exact Nat.ne_of_lt (Nat.lt_of_lt_of_le (by have:=World.block_lt_of_cell? _ _ hw111_1;first|rwa [z6] at this|exact this) GW104.out))) _).trans (hHeld.2.2.2.2.2.2.2.2.1)))),((zn (p:=⟨gb104,_,none⟩) (by first|exact Nat.ne_of_lt (Nat.lt_of_lt_of_le (by have:=World.block_lt_of_cell? _ _ hw111_2;first|rwa [z6] at this|exact this) GW104.out)|(rw [z6];exact Nat.ne_of_lt (Nat.lt_of_lt_of_le (by have:=World.block_lt_of_cell? _ _ hw111_2;first|rwa [z6] at this|exact this) GW104.out))|(show (Addr.add _ _).block ≠ _;rw [z6];exact Nat.ne_of_lt (Nat.lt_of_lt_of_le (by have:=World.block_lt_of_cell? _ _ hw111_2;first|rwa [z6] at this|exact this) GW104.out))|(dsimp only;exact Nat.ne_of_lt (Nat.lt_of_lt_of_le (by have:=World.block_lt_of_cell? _ _ hw111_2;first|rwa [z6] at this|exact this) GW104.out))) _).trans (((zn (p:=⟨gb104,_,none⟩) (by first|exact Nat.ne_of_lt (Nat.lt_of_lt_of_le (by have:=World.block_lt_of_cell? _ _ hw111_2;first|rwa [z6] at this|exact this) GW104.out)|(rw [z6];exact Nat.ne_of_lt (Nat.lt_of_lt_of_le (by have:=World.block_lt_of_cell? _ _ hw111_2;first|rwa [z6] at this|exact this) GW104.out))|(show (Addr.add _ _).block ≠ _;rw [z6];exact Nat.ne_of_lt (Nat.lt_of_lt_of_le (by have:=World.block_lt_of_cell? _ _ hw111_2;first|rwa [z6] at this|exact this) GW104.out))|(dsimp only;exact Nat.ne_of_lt (Nat.lt_of_lt_of_le (by have:=World.block_lt_of_cell? _ _ hw111_2;first|rwa [z6] at this|exact this) GW104.out))) _).trans (hHeld.2.2.2.2.2.2.2.2.2.1)))),((zn (p:=⟨gb104,_,none⟩) (by first|exact Nat.ne_of_lt (Nat.lt_of_lt_of_le (by have:=World.block_lt_of_cell? _ _ hw111_3;first|rwa [z6] at this|exact this) GW104.out)|(rw [z6];exact Nat.ne_of_lt (Nat.lt_of_lt_of_le (by have:=World.block_lt_of_cell? _ _ hw111_3;first|rwa [z6] at this|exact this) GW104.out))|(show (Addr.add _ _).block ≠ _;rw [z6];exact Nat.ne_of_lt (Nat.lt_of_lt_of_le (by have:=World.block_lt_of_cell? _ _ hw111_3;first|rwa [z6] at this|exact this) GW104.out))|(dsimp only;exact Nat.ne_of_lt (Nat.lt_of_lt_of_le (by have:=World.block_lt_of_cell? _ _ hw111_3;first|rwa [z6] at this|exact this) GW104.out))) _).trans (((zn (p:=⟨gb104,_,none⟩) (by first|exact Nat.ne_of_lt (Nat.lt_of_lt_of_le (by have:=World.block_lt_of_cell? _ _ hw111_3;first|rwa [z6] at this|exact this) GW104.out)|(rw [z6];exact Nat.ne_of_lt (Nat.lt_of_lt_of_le (by have:=World.block_lt_of_cell? _ _ hw111_3;first|rwa [z6] at this|exact this) GW104.out))|(show (Addr.add _ _).block ≠ _;rw [z6];exact Nat.ne_of_lt (Nat.lt_of_lt_of_le (by have:=World.block_lt_of_cell? _ _ hw111_3;first|rwa [z6] at this|exact this) GW104.out))|(dsimp only;exact Nat.ne_of_lt (Nat.lt_of_lt_of_le (by have:=World.block_lt_of_cell? _ _ hw111_3;first|rwa [z6] at this|exact this) GW104.out))) _).trans (hHeld.2.2.2.2.2.2.2.2.2.2.1)))),((zn (p:=⟨gb104,_,none⟩) (by first|exact Nat.ne_of_lt (Nat.lt_of_lt_of_le (by have:=World.block_lt_of_cell? _ _ hw111_4;first|rwa [z6] at this|exact this) GW104.out)|(rw [z6];exact Nat.ne_of_lt (Nat.lt_of_lt_of_le (by have:=World.block_lt_of_cell? _ _ hw111_4;first|rwa [z6] at this|exact this) GW104.out))|(show (Addr.add _ _).block ≠ _;rw [z6];exact Nat.ne_of_lt (Nat.lt_of_lt_of_le (by have:=World.block_lt_of_cell? _ _ hw111_4;first|rwa [z6] at this|exact this) GW104.out))|(dsimp only;exact Nat.ne_of_lt (Nat.lt_of_lt_of_le (by have:=World.block_lt_of_cell? _ _ hw111_4;first|rwa [z6] at this|exact this) GW104.out))) _).trans (((zn (p:=⟨gb104,_,none⟩) (by first|exact Nat.ne_of_lt (Nat.lt_of_lt_of_le (by have:=World.block_lt_of_cell? _ _ hw111_4;first|rwa [z6] at this|exact this) GW104.out)|(rw [z6];exact Nat.ne_of_lt (Nat.lt_of_lt_of_le (by have:=World.block_lt_of_cell? _ _ hw111_4;first|rwa [z6] at this|exact this) GW104.out))|(show (Addr.add _ _).block ≠ _;rw [z6];exact Nat.ne_of_lt (Nat.lt_of_lt_of_le (by have:=World.block_lt_of_cell? _ _ hw111_4;first|rwa [z6] at this|exact this) GW104.out))|(dsimp only;exact Nat.ne_of_lt (Nat.lt_of_lt_of_le (by have:=World.block_lt_of_cell? _ _ hw111_4;first|rwa [z6] at this|exact this) GW104.out))) _).trans (hHeld.2.2.2.2.2.2.2.2.2.2.2.1)))),((zn (p:=⟨gb104,_,none⟩) (by first|exact Kd.zp (Kd.zt HO_7.out (fun _ hk=>hk.2))|(rw [z6];exact Kd.zp (Kd.zt HO_7.out (fun _ hk=>hk.2)))|(show (Addr.add _ _).block ≠ _;rw [z6];exact Kd.zp (Kd.zt HO_7.out (fun _ hk=>hk.2)))|(dsimp only;exact Kd.zp (Kd.zt HO_7.out (fun _ hk=>hk.2)))) _).trans (((zn (p:=⟨gb104,_,none⟩) (by first|exact Kd.zp (Kd.zt HO_7.out (fun _ hk=>hk.2))|(rw [z6];exact Kd.zp (Kd.zt HO_7.out (fun _ hk=>hk.2)))|(show (Addr.add _ _).block ≠ _;rw [z6];exact Kd.zp (Kd.zt HO_7.out (fun _ hk=>hk.2)))|(dsimp only;exact Kd.zp (Kd.zt HO_7.out (fun _ hk=>hk.2)))) _).trans (hHeld.2.2.2.2.2.2.2.2.2.2.2.2.1)))),((zn (p:=⟨gb104,_,none⟩) (by first|exact Kd.zp (Kd.zt HO_7.out (fun _ hk=>hk.2))|(rw [z6];exact Kd.zp (Kd.zt HO_7.out (fun _ hk=>hk.2)))|(show (Addr.add _ _).block ≠ _;rw [z6];exact Kd.zp (Kd.zt HO_7.out (fun _ hk=>hk.2)))|(dsimp only;exact Kd.zp (Kd.zt HO_7.out (fun _ hk=>hk.2)))) _).trans (((zn (p:=⟨gb104,_,none⟩) (by first|exact Kd.zp (Kd.zt HO_7.out (fun _ hk=>hk.2))|(rw [z6];exact Kd.zp (Kd.zt HO_7.out (fun _ hk=>hk.2)))|(show (Addr.add _ _).block ≠ _;rw [z6];exact Kd.zp (Kd.zt HO_7.out (fun _ hk=>hk.2)))|(dsimp only;exact Kd.zp (Kd.zt HO_7.out (fun _ hk=>hk.2)))) _).trans (hHeld.2.2.2.2.2.2.2.2.2.2.2.2.2))))⟩ (fun hHeld=>?_)
       clear hK K
       refine done_ (z27 HT_.out (by kernel_rfl)) ?_
       have p115 : 0 ≤ (x8_1 : Int):=of_decide_eq_true (by first|(with_reducible assumption)|assumption)
       have q115 : x8_1 < (l0.length : Int):=of_decide_eq_true (by first|(with_reducible assumption)|assumption)
       obtain ⟨ad115,e115,hx115_0,hx115_1,hx115_2,hx115_3,hx115_4⟩:=z16 HR0.out x8_1 p115 q115
       obtain rfl : ad103 = ad115:=(by injection e115)
       have hn115_0 : ad103.block ≠ gb104:=Nat.ne_of_lt (Nat.lt_of_lt_of_le (by have:=World.block_lt_of_cell? _ _ hx115_0;first|rwa [z6] at this|exact this) GW104.out)
       have hn115_1 : ad103.block ≠ gb104:=Nat.ne_of_lt (Nat.lt_of_lt_of_le (by have:=World.block_lt_of_cell? _ _ hx115_0;first|rwa [z6] at this|exact this) GW104.out)
       replace hx115_0:=(HB.out.cell (World.block_lt_of_cell? w _ hx115_0)).trans hx115_0
       replace hx115_1:=(HB.out.cell (World.block_lt_of_cell? w _ hx115_1)).trans hx115_1
       replace hx115_2:=(HB.out.cell (World.block_lt_of_cell? w _ hx115_2)).trans hx115_2
       replace hx115_3:=(HB.out.cell (World.block_lt_of_cell? w _ hx115_3)).trans hx115_3
       replace hx115_4:=(HB.out.cell (World.block_lt_of_cell? w _ hx115_4)).trans hx115_4
       replace hx115_0:=(zn (p:=⟨gb104,0,none⟩) (by first|(rw [z6];exact hn115_0)|(show (Addr.add _ _).block ≠ _;rw [z6];exact hn115_0)|exact hn115_0) (.int .u64 t113)).trans hx115_0
       replace hx115_1:=(zn (p:=⟨gb104,0,none⟩) (by first|(rw [z6];exact hn115_0)|(show (Addr.add _ _).block ≠ _;rw [z6];exact hn115_0)|exact hn115_0) (.int .u64 t113)).trans hx115_1
       replace hx115_2:=(zn (p:=⟨gb104,0,none⟩) (by first|(rw [z6];exact hn115_0)|(show (Addr.add _ _).block ≠ _;rw [z6];exact hn115_0)|exact hn115_0) (.int .u64 t113)).trans hx115_2
       replace hx115_3:=(zn (p:=⟨gb104,0,none⟩) (by first|(rw [z6];exact hn115_0)|(show (Addr.add _ _).block ≠ _;rw [z6];exact hn115_0)|exact hn115_0) (.int .u64 t113)).trans hx115_3
       replace hx115_4:=(zn (p:=⟨gb104,0,none⟩) (by first|(rw [z6];exact hn115_0)|(show (Addr.add _ _).block ≠ _;rw [z6];exact hn115_0)|exact hn115_0) (.int .u64 t113)).trans hx115_4
       replace hx115_0:=(zn (p:=⟨gb104,1,none⟩) (by first|(rw [z6];exact hn115_1)|(show (Addr.add _ _).block ≠ _;rw [z6];exact hn115_1)|exact hn115_1) (.int .u64 t114)).trans hx115_0
       replace hx115_1:=(zn (p:=⟨gb104,1,none⟩) (by first|(rw [z6];exact hn115_1)|(show (Addr.add _ _).block ≠ _;rw [z6];exact hn115_1)|exact hn115_1) (.int .u64 t114)).trans hx115_1
       replace hx115_2:=(zn (p:=⟨gb104,1,none⟩) (by first|(rw [z6];exact hn115_1)|(show (Addr.add _ _).block ≠ _;rw [z6];exact hn115_1)|exact hn115_1) (.int .u64 t114)).trans hx115_2
       replace hx115_3:=(zn (p:=⟨gb104,1,none⟩) (by first|(rw [z6];exact hn115_1)|(show (Addr.add _ _).block ≠ _;rw [z6];exact hn115_1)|exact hn115_1) (.int .u64 t114)).trans hx115_3
       replace hx115_4:=(zn (p:=⟨gb104,1,none⟩) (by first|(rw [z6];exact hn115_1)|(show (Addr.add _ _).block ≠ _;rw [z6];exact hn115_1)|exact hn115_1) (.int .u64 t114)).trans hx115_4
       clear hn115_0
       clear hn115_1
       replace p115:=eq_true p115
       replace q115:=eq_true q115
       have hnb47:=NB104_101.out
       have hnc47:=NB101_104.out
       have hcz48_0 : w44.cell? ⟨gb104,0,none⟩ = some (.int .u64 x105000_7):=(zb BK104.out 0).trans rfl
       have hcz48_1 : w44.cell? ⟨gb104,1,none⟩ = some (.int .u64 x105001_7):=(zb BK104.out 1).trans rfl
       have hfz48_0:=z8 BK104.out 0
       have hfz48_1:=z8 BK104.out 1
       try go_wp2_with (first|((with_reducible refine zW (b:=.append) (xs:=#[.tmp 80,.tmp 82]) rfl ?_);at_builtin;refine Kd.z1h k61 (w0:=w) w.heap.size rfl (.tmp 80) (.tmp 82) 43 61 (.agg #[(.int .u64 0),(.int .u64 0)]) 16 rfl Try.underlying43 info61 rfl (by decide) (by omega) (.slice (some ad110) x7_1.length co43) x7_1 (⟨t113,t114⟩ : S61) [.int .u64 t113,.int .u64 t114] (fun k_=>k_ ≠ gb101 ∧ k_ ≠ gb104) (fun _=>False) rfl (by first|(go_simp;done)|(go_simp;rfl)) ?aP (fun _ hk=>hk.elim) ?aF ?aO ?aB ?aS ?aL ?_;(case aP=>exact z2F _ _ _ (⟨t113,t114⟩ : S61));(case aB=>exact (by repeat (first|(with_reducible first|exact HB.out|apply z4|apply z0|apply z3|refine z9 ?_ GE101.out|refine z9 ?_ GE104.out)|exact HB.out)));(case aF=>exact (fun k_ hk=>⟨Kd.freshB (g:=gb101) (o:=.cells #[.int .u64 0,.int .u64 0] 61 (0,0)) (by (with_reducible repeat (first|refine z2 ?_ _|refine z5 ?_|refine z1 ?_ _));refine zs ?_ NB101_104.out _;(with_reducible repeat (first|refine z2 ?_ _|refine z5 ?_|refine z1 ?_ _));refine zs ?_ NB101_104.out _;(with_reducible repeat (first|refine z2 ?_ _|refine z5 ?_|refine z1 ?_ _));exact BK101.out) k_ hk,Kd.freshB (g:=gb104) (o:=.cells #[.int .u64 t113,.int .u64 t114] 61 (0,0)) (by (with_reducible repeat (first|refine z2 ?_ _|refine z5 ?_|refine z1 ?_ _));refine zq (cs:=#[.int .u64 t113,.int .u64 x105001_7]) ?_ 1 _ rfl;(with_reducible repeat (first|refine z2 ?_ _|refine z5 ?_|refine z1 ?_ _));refine zq (cs:=#[.int .u64 x105000_7,.int .u64 x105001_7]) ?_ 0 _ rfl;(with_reducible repeat (first|refine z2 ?_ _|refine z5 ?_|refine z1 ?_ _));exact BK104.out) k_ hk⟩));(case aO=>exact (by (with_reducible repeat (first|apply Kd.zx|apply Kd.zy|apply Kd.zD));exact Kd.z1d (Kd.z1g (p:=⟨gb104,1,none⟩) (Kd.z1g (p:=⟨gb104,0,none⟩) (Kd.z1d HO_7.out (fun k_ hk=>(⟨hk,hk.2⟩ : _ ∧ k_ ≠ gb104))) (fun _ hk=>hk.2) (.int .u64 t113)) (fun _ hk=>hk.2) (.int .u64 t114)) (fun _ hk=>⟨hk.1.1,hk.1.2⟩)));(case aS=>exact (zf (by repeat (first|(with_reducible first|exact HB.out|apply z4|apply z0|apply z3|refine z9 ?_ GE101.out|refine z9 ?_ GE104.out)|exact HB.out))));(case aL=>have:=LMc41.out;omega);intro v126 w49 ho hb hg hat;rw [← Ny125.out] at ho;have n0_:=z7.mk (z1i (g:=gb101) (o:=.cells #[.int .u64 0,.int .u64 0] 61 (0,0)) (by (with_reducible repeat (first|refine z2 ?_ _|refine z5 ?_|refine z1 ?_ _));refine zs ?_ NB101_104.out _;(with_reducible repeat (first|refine z2 ?_ _|refine z5 ?_|refine z1 ?_ _));refine zs ?_ NB101_104.out _;(with_reducible repeat (first|refine z2 ?_ _|refine z5 ?_|refine z1 ?_ _));exact BK101.out) hg (Kd.zt HO_7.out (fun _ hk=>hk.1)));have n1_:=z7.mk (z1i (g:=gb104) (o:=.cells #[.int .u64 t113,.int .u64 t114] 61 (0,0)) (by (with_reducible repeat (first|refine z2 ?_ _|refine z5 ?_|refine z1 ?_ _));refine zq (cs:=#[.int .u64 t113,.int .u64 x105001_7]) ?_ 1 _ rfl;(with_reducible repeat (first|refine z2 ?_ _|refine z5 ?_|refine z1 ?_ _));refine zq (cs:=#[.int .u64 x105000_7,.int .u64 x105001_7]) ?_ 0 _ rfl;(with_reducible repeat (first|refine z2 ?_ _|refine z5 ?_|refine z1 ?_ _));exact BK104.out) hg (Kd.zt HO_7.out (fun _ hk=>hk.2)));have n2_:=z7.mk (hb);have n3_:=z7.mk (ho);clear BK101;clear BK104;clear HB;clear HO_7;have BK101:=n0_;have BK104:=n1_;have HB:=n2_;have HO127:=n3_;clear n0_ n1_ n2_ n3_;clear ho hb hg hat))
       go_roundg kj7
       case measure=>have:=HK1.out;have:=HJ7.out;omega
       case rel=>exact ⟨(y125),(wrap64 (x8_1 + 1)),(by first|rfl|(simp;done)|(simp [*];done)),H',⟨by have:=HK1.out;have:=HJ7.out;omega⟩,⟨by (with_reducible repeat (first|apply Kd.zx|apply Kd.zy|apply Kd.zD));exact Kd.z1d HO127.out (fun _ hk=>hk.1)⟩,⟨by (with_reducible repeat (first|refine z2 ?_ _|refine z5 ?_|refine z1 ?_ _));exact BK101.out⟩,⟨by repeat (first|(with_reducible first|exact HB.out|apply z4|apply z0|apply z3|refine z9 ?_ GE101.out|refine z9 ?_ GE104.out)|exact HB.out)⟩⟩
     rw [if_pos c25] at H
     have c25b0 : (((za l0 x8_1).f0) == 4) = true:=beq_iff_eq.mpr c25
     have c25b1 : (((za l0 x8_1).f0) != 4) = false:=bne_eq_false_iff_eq.mpr c25
     clear c25
     replace H:=Option.bind_eq_some_iff.mp H
     obtain ⟨⟨t120,t121⟩,A260,H⟩:=H
     replace H : (if x7_1.length < 8796093022208 then (zi.l0 kj7 l0 a1 l2 (x7_1 ++ [(⟨t120,t121⟩ : S61)]) (wrap64 (x8_1 + 1))) else (none)) = some (r1,r2):=H
     have A26:=z7.mk A260
     clear A260
     by_cases c27 : x7_1.length < 8796093022208
     rotate_left
     · rw [if_neg c27] at H
       exact absurd H (by simp)
     rw [if_pos c27] at H
     have LMc27:=z7.mk c27
     clear c27
     obtain ⟨y122,hy122⟩ : ∃ y_ : List (S61),y_ = (x7_1 ++ [(⟨t120,t121⟩ : S61)]):=⟨_,rfl⟩
     replace H : (zi.l0 kj7 l0 a1 l2 y122 (wrap64 (x8_1 + 1))) = some (r1,r2):=by first|(rw [hy122];with_reducible exact H)|(have H2_:=(Option.bind_some _ _).symm.trans H;rw [hy122];with_reducible exact H2_)|(have H2_:=(Option.bind_some _ _).symm.trans H;with_reducible exact H2_)|with_reducible exact H|(rw [hy122];exact H)|exact H
     have Ny122:=z7.mk hy122
     clear hy122
     have H':=z7.mk H
     clear H
     have p108 : 0 ≤ (x8_1 : Int):=of_decide_eq_true (by first|(with_reducible assumption)|assumption)
     have q108 : x8_1 < (l0.length : Int):=of_decide_eq_true (by first|(with_reducible assumption)|assumption)
     obtain ⟨ad108,e108,hx108_0,hx108_1,hx108_2,hx108_3,hx108_4⟩:=z16 HR0.out x8_1 p108 q108
     obtain rfl : ad103 = ad108:=(by injection e108)
     replace hx108_0:=(HB.out.cell (World.block_lt_of_cell? w _ hx108_0)).trans hx108_0
     replace hx108_1:=(HB.out.cell (World.block_lt_of_cell? w _ hx108_1)).trans hx108_1
     replace hx108_2:=(HB.out.cell (World.block_lt_of_cell? w _ hx108_2)).trans hx108_2
     replace hx108_3:=(HB.out.cell (World.block_lt_of_cell? w _ hx108_3)).trans hx108_3
     replace hx108_4:=(HB.out.cell (World.block_lt_of_cell? w _ hx108_4)).trans hx108_4
     replace p108:=eq_true p108
     replace q108:=eq_true q108
     try go_wp2
     have n0_:=z7.mk (Kd.zD HO_7.out)
     have n1_:=z7.mk (z5 BK101.out)
     have n2_:=z7.mk (z5 BK104.out)
     have n3_:=z7.mk (z3 HB.out)
     clear HO_7
     clear BK101
     clear BK104
     clear HB
     have HO_7:=n0_
     have BK101:=n1_
     have BK104:=n2_
     have HB:=n3_
     clear n0_ n1_ n2_ n3_
     have p109 : 0 ≤ (x8_1 : Int):=of_decide_eq_true (by first|(with_reducible assumption)|assumption)
     have q109 : x8_1 < (l0.length : Int):=of_decide_eq_true (by first|(with_reducible assumption)|assumption)
     obtain ⟨ad109,e109,hx109_0,hx109_1,hx109_2,hx109_3,hx109_4⟩:=z16 HR0.out x8_1 p109 q109
     have hw109_4:=hx109_4
     have hw109_3:=hx109_3
     have hw109_2:=hx109_2
     have hw109_1:=hx109_1
     have hw109_0:=hx109_0
     obtain rfl : ad103 = ad109:=(by injection e109)
     replace hx109_0:=(HB.out.cell (World.block_lt_of_cell? w _ hx109_0)).trans hx109_0
     replace hx109_1:=(HB.out.cell (World.block_lt_of_cell? w _ hx109_1)).trans hx109_1
     replace hx109_2:=(HB.out.cell (World.block_lt_of_cell? w _ hx109_2)).trans hx109_2
     replace hx109_3:=(HB.out.cell (World.block_lt_of_cell? w _ hx109_3)).trans hx109_3
     replace hx109_4:=(HB.out.cell (World.block_lt_of_cell? w _ hx109_4)).trans hx109_4
     replace p109:=eq_true p109
     replace q109:=eq_true q109
     obtain ⟨Ao29,co29,eo29⟩:=Kd.z1q HO_7.out
     (first|subst eo29|(injection eo29 with f1_ f2_ f3_;have f4_:=f1_.symm;have f5_:=f3_.symm;clear f1_ f2_ f3_;subst f4_;subst f5_))
     have p110 : 0 ≤ (((za l0 x8_1).f1) : Int):=of_decide_eq_true (by first|(with_reducible assumption)|assumption)
     have q110 : ((za l0 x8_1).f1) < (x7_1.length : Int):=of_decide_eq_true (by first|(with_reducible assumption)|assumption)
     obtain ⟨ad110,e110,hx110_0,hx110_1⟩:=z1W (Kd.zO HO_7.out).2.2 ((za l0 x8_1).f1) p110 q110
     cases e110
     replace p110:=eq_true p110
     replace q110:=eq_true q110
     have p111 : 0 ≤ (x8_1 : Int):=of_decide_eq_true (by first|(with_reducible assumption)|assumption)
     have q111 : x8_1 < (l0.length : Int):=of_decide_eq_true (by first|(with_reducible assumption)|assumption)
     obtain ⟨ad111,e111,hx111_0,hx111_1,hx111_2,hx111_3,hx111_4⟩:=z16 HR0.out x8_1 p111 q111
     have hw111_4:=hx111_4
     have hw111_3:=hx111_3
     have hw111_2:=hx111_2
     have hw111_1:=hx111_1
     have hw111_0:=hx111_0
     obtain rfl : ad103 = ad111:=(by injection e111)
     replace hx111_0:=(HB.out.cell (World.block_lt_of_cell? w _ hx111_0)).trans hx111_0
     replace hx111_1:=(HB.out.cell (World.block_lt_of_cell? w _ hx111_1)).trans hx111_1
     replace hx111_2:=(HB.out.cell (World.block_lt_of_cell? w _ hx111_2)).trans hx111_2
     replace hx111_3:=(HB.out.cell (World.block_lt_of_cell? w _ hx111_3)).trans hx111_3
     replace hx111_4:=(HB.out.cell (World.block_lt_of_cell? w _ hx111_4)).trans hx111_4
     replace p111:=eq_true p111
     replace q111:=eq_true q111
     have p112 : 0 ≤ (((za l0 x8_1).f2) : Int):=of_decide_eq_true (by first|(with_reducible assumption)|assumption)
     have q112 : ((za l0 x8_1).f2) < (x7_1.length : Int):=of_decide_eq_true (by first|(with_reducible assumption)|assumption)
     obtain ⟨ad112,e112,hx112_0,hx112_1⟩:=z1W (Kd.zO HO_7.out).2.2 ((za l0 x8_1).f2) p112 q112
     obtain rfl : ad110 = ad112:=(by injection e112)
     replace p112:=eq_true p112
     replace q112:=eq_true q112
     refine start_ (n:=18) (S:=fun w'=>w'.cell? (ad103.add ((x8_1).toNat * 5)) = some (.int .i64 ((za l0 x8_1).f0)) ∧ w'.cell? ⟨(ad103.add ((x8_1).toNat * 5)).block,(ad103.add ((x8_1).toNat * 5)).off + 1,none⟩ = some (.int .i64 ((za l0 x8_1).f1)) ∧ w'.cell? ⟨(ad103.add ((x8_1).toNat * 5)).block,(ad103.add ((x8_1).toNat * 5)).off + 2,none⟩ = some (.int .i64 ((za l0 x8_1).f2)) ∧ w'.cell? ⟨(ad103.add ((x8_1).toNat * 5)).block,(ad103.add ((x8_1).toNat * 5)).off + 3,none⟩ = some (.int .u64 ((za l0 x8_1).f3.f0)) ∧ w'.cell? ⟨(ad103.add ((x8_1).toNat * 5)).block,(ad103.add ((x8_1).toNat * 5)).off + 4,none⟩ = some (.int .u64 ((za l0 x8_1).f3.f1)) ∧ w'.cell? (ad110.add ((((za l0 x8_1).f1)).toNat * 2)) = some (.int .u64 ((zS x7_1 ((za l0 x8_1).f1)).f0)) ∧ w'.cell? ⟨(ad110.add ((((za l0 x8_1).f1)).toNat * 2)).block,(ad110.add ((((za l0 x8_1).f1)).toNat * 2)).off + 1,none⟩ = some (.int .u64 ((zS x7_1 ((za l0 x8_1).f1)).f1)) ∧ w'.cell? (ad103.add ((x8_1).toNat * 5)) = some (.int .i64 ((za l0 x8_1).f0)) ∧ w'.cell? ⟨(ad103.add ((x8_1).toNat * 5)).block,(ad103.add ((x8_1).toNat * 5)).off + 1,none⟩ = some (.int .i64 ((za l0 x8_1).f1)) ∧ w'.cell? ⟨(ad103.add ((x8_1).toNat * 5)).block,(ad103.add ((x8_1).toNat * 5)).off + 2,none⟩ = some (.int .i64 ((za l0 x8_1).f2)) ∧ w'.cell? ⟨(ad103.add ((x8_1).toNat * 5)).block,(ad103.add ((x8_1).toNat * 5)).off + 3,none⟩ = some (.int .u64 ((za l0 x8_1).f3.f0)) ∧ w'.cell? ⟨(ad103.add ((x8_1).toNat * 5)).block,(ad103.add ((x8_1).toNat * 5)).off + 4,none⟩ = some (.int .u64 ((za l0 x8_1).f3.f1)) ∧ w'.cell? (ad110.add ((((za l0 x8_1).f2)).toNat * 2)) = some (.int .u64 ((zS x7_1 ((za l0 x8_1).f2)).f0)) ∧ w'.cell? ⟨(ad110.add ((((za l0 x8_1).f2)).toNat * 2)).block,(ad110.add ((((za l0 x8_1).f2)).toNat * 2)).off + 1,none⟩ = some (.int .u64 ((zS x7_1 ((za l0 x8_1).f2)).f1))) (ds:=[]) #[false,false,false,false,false,false,false,false,false,false,false,false,false,false,false,false,false,false] (by kernel_rfl) rfl rfl ⟨((HB.out.cell (World.block_lt_of_cell? w _ hw109_0)).trans hw109_0),((HB.out.cell (World.block_lt_of_cell? w _ hw109_1)).trans hw109_1),((HB.out.cell (World.block_lt_of_cell? w _ hw109_2)).trans hw109_2),((HB.out.cell (World.block_lt_of_cell? w _ hw109_3)).trans hw109_3),((HB.out.cell (World.block_lt_of_cell? w _ hw109_4)).trans hw109_4),hx110_0,hx110_1,((HB.out.cell (World.block_lt_of_cell? w _ hw111_0)).trans hw111_0),((HB.out.cell (World.block_lt_of_cell? w _ hw111_1)).trans hw111_1),((HB.out.cell (World.block_lt_of_cell? w _ hw111_2)).trans hw111_2),((HB.out.cell (World.block_lt_of_cell? w _ hw111_3)).trans hw111_3),((HB.out.cell (World.block_lt_of_cell? w _ hw111_4)).trans hw111_4),hx112_0,hx112_1⟩ (fun hHeld=>?_);refine z1K zi.tab9 zi.bits9 (fun HT_ HW_=>?_)
     generalize wc.drew = w28 at HO_7 BK101 BK104 HB hx109_0 hx109_1 hx109_2 hx109_3 hx109_4 hx110_0 hx110_1 hx111_0 hx111_1 hx111_2 hx111_3 hx111_4 hx112_0 hx112_1 hHeld ⊢
     refine pure_ (i:=0) (N:=some 40) (v:=?_) (a':=?_) #[true,false,false,false,false,false,false,false,false,false,false,false,false,false,false,false,false,false] rfl rfl (zU HT_.out (by kernel_rfl)) (fun _ _ _ h=>h) (Or.inl ⟨by rfl,?_⟩) ?_ ?_
     rotate_left
     · intro w'
       go_simp
       with_reducible rfl
     rotate_left
     · simp only [Act.put,List.setIfInBounds_toArray,List.set_cons_zero,List.set_cons_succ,zH,zL]
       rfl
     refine pure_ (i:=1) (N:=some 41) (v:=?_) (a':=?_) #[true,true,false,false,false,false,false,false,false,false,false,false,false,false,false,false,false,false] rfl rfl (zU HT_.out (by kernel_rfl)) (fun _ _ _ h=>h) (Or.inl ⟨by rfl,?_⟩) ?_ ?_
     rotate_left
     · intro w'
       go_simp
       with_reducible rfl
     rotate_left
     · simp only [Act.put,List.setIfInBounds_toArray,List.set_cons_zero,List.set_cons_succ,zH,zL]
       rfl
     refine pure_ (i:=2) (N:=some 42) (v:=?_) (a':=?_) #[true,true,true,false,false,false,false,false,false,false,false,false,false,false,false,false,false,false] rfl rfl (zU HT_.out (by kernel_rfl)) (fun _ _ _ h=>h) (Or.inl ⟨by rfl,?_⟩) ?_ ?_
     rotate_left
     · intro w'
       go_simp
       with_reducible rfl
     rotate_left
     · simp only [Act.put,List.setIfInBounds_toArray,List.set_cons_zero,List.set_cons_succ,zH,zL]
       rfl
     refine pure_ (i:=3) (N:=some 43) (v:=?_) (a':=?_) #[true,true,true,true,false,false,false,false,false,false,false,false,false,false,false,false,false,false] rfl rfl (zU HT_.out (by kernel_rfl)) (fun _ _ _ h=>h) (Or.inl ⟨by rfl,?_⟩) ?_ ?_
     rotate_left
     · intro w'
       go_simp
       with_reducible rfl
     rotate_left
     · simp only [Act.put,List.setIfInBounds_toArray,List.set_cons_zero,List.set_cons_succ,zH,zL]
       rfl
     refine pure_ (i:=4) (N:=some 44) (v:=?_) (a':=?_) #[true,true,true,true,true,false,false,false,false,false,false,false,false,false,false,false,false,false] rfl rfl (zU HT_.out (by kernel_rfl)) (fun _ _ _ h=>h) (Or.inl ⟨by rfl,?_⟩) ?_ ?_
     rotate_left
     · intro w'
       go_simp
       with_reducible rfl
     rotate_left
     · simp only [Act.put,List.setIfInBounds_toArray,List.set_cons_zero,List.set_cons_succ,zH,zL]
       rfl
     refine pure_ (i:=8) (N:=some 48) (v:=?_) (a':=?_) #[true,true,true,true,true,false,false,false,true,false,false,false,false,false,false,false,false,false] rfl rfl (zU HT_.out (by kernel_rfl)) (fun _ _ _ h=>h) (Or.inl ⟨by rfl,?_⟩) ?_ ?_
     rotate_left
     · intro w'
       go_simp
       with_reducible rfl
     rotate_left
     · simp only [Act.put,List.setIfInBounds_toArray,List.set_cons_zero,List.set_cons_succ,zH,zL]
       rfl
     refine pure_ (i:=9) (N:=some 49) (v:=?_) (a':=?_) #[true,true,true,true,true,false,false,false,true,true,false,false,false,false,false,false,false,false] rfl rfl (zU HT_.out (by kernel_rfl)) (fun _ _ _ h=>h) (Or.inl ⟨by rfl,?_⟩) ?_ ?_
     rotate_left
     · intro w'
       go_simp
       with_reducible rfl
     rotate_left
     · simp only [Act.put,List.setIfInBounds_toArray,List.set_cons_zero,List.set_cons_succ,zH,zL]
       rfl
     refine pure_ (i:=10) (N:=some 50) (v:=?_) (a':=?_) #[true,true,true,true,true,false,false,false,true,true,true,false,false,false,false,false,false,false] rfl rfl (zU HT_.out (by kernel_rfl)) (fun _ _ _ h=>h) (Or.inl ⟨by rfl,?_⟩) ?_ ?_
     rotate_left
     · intro w'
       go_simp
       with_reducible rfl
     rotate_left
     · simp only [Act.put,List.setIfInBounds_toArray,List.set_cons_zero,List.set_cons_succ,zH,zL]
       rfl
     refine pure_ (i:=11) (N:=some 51) (v:=?_) (a':=?_) #[true,true,true,true,true,false,false,false,true,true,true,true,false,false,false,false,false,false] rfl rfl (zU HT_.out (by kernel_rfl)) (fun _ _ _ h=>h) (Or.inl ⟨by rfl,?_⟩) ?_ ?_
     rotate_left
     · intro w'
       go_simp
       with_reducible rfl
     rotate_left
     · simp only [Act.put,List.setIfInBounds_toArray,List.set_cons_zero,List.set_cons_succ,zH,zL]
       rfl
     refine pure_ (i:=12) (N:=some 52) (v:=?_) (a':=?_) #[true,true,true,true,true,false,false,false,true,true,true,true,true,false,false,false,false,false] rfl rfl (zU HT_.out (by kernel_rfl)) (fun _ _ _ h=>h) (Or.inl ⟨by rfl,?_⟩) ?_ ?_
     rotate_left
     · intro w'
       go_simp
       with_reducible rfl
     rotate_left
     · simp only [Act.put,List.setIfInBounds_toArray,List.set_cons_zero,List.set_cons_succ,zH,zL]
       rfl
     refine take_ (i:=5) (N:=some 45) (v:=?_) (a':=?_) #[true,true,true,true,true,true,false,false,true,true,true,true,true,false,false,false,false,false] rfl rfl (z1c HT_.out HW_.out (by kernel_rfl)) (fun _ _ _ h=>h) (Or.inl ⟨by rfl,?_⟩) hHeld ?_ ?_
     rotate_left
     · rintro w' ⟨s0,s1,s2,s3,s4,s5,s6,s7,s8,s9,s10,s11,s12,s13⟩
       go_simp
       with_reducible rfl
     rotate_left
     · simp only [Act.put,List.setIfInBounds_toArray,List.set_cons_zero,List.set_cons_succ,zH,zL]
       rfl
     refine pure_ (i:=6) (N:=some 46) (v:=?_) (a':=?_) #[true,true,true,true,true,true,true,false,true,true,true,true,true,false,false,false,false,false] rfl rfl (zU HT_.out (by kernel_rfl)) (fun _ _ _ h=>h) (Or.inl ⟨by rfl,?_⟩) ?_ ?_
     rotate_left
     · intro w'
       go_simp
       with_reducible rfl
     rotate_left
     · simp only [Act.put,List.setIfInBounds_toArray,List.set_cons_zero,List.set_cons_succ,zH,zL]
       rfl
     refine take_ (i:=7) (N:=some 47) (v:=?_) (a':=?_) #[true,true,true,true,true,true,true,true,true,true,true,true,true,false,false,false,false,false] rfl rfl (z1c HT_.out HW_.out (by kernel_rfl)) (fun _ _ _ h=>h) (Or.inl ⟨by rfl,?_⟩) hHeld ?_ ?_
     rotate_left
     · rintro w' ⟨s0,s1,s2,s3,s4,s5,s6,s7,s8,s9,s10,s11,s12,s13⟩
       go_simp
       with_reducible rfl
     rotate_left
     · simp only [Act.put,List.setIfInBounds_toArray,List.set_cons_zero,List.set_cons_succ,zH,zL]
       rfl
     refine take_ (i:=13) (N:=some 53) (v:=?_) (a':=?_) #[true,true,true,true,true,true,true,true,true,true,true,true,true,true,false,false,false,false] rfl rfl (z1c HT_.out HW_.out (by kernel_rfl)) (fun _ _ _ h=>h) (Or.inl ⟨by rfl,?_⟩) hHeld ?_ ?_
     rotate_left
     · rintro w' ⟨s0,s1,s2,s3,s4,s5,s6,s7,s8,s9,s10,s11,s12,s13⟩
       go_simp
       with_reducible rfl
     rotate_left
     · simp only [Act.put,List.setIfInBounds_toArray,List.set_cons_zero,List.set_cons_succ,zH,zL]
       rfl
     refine pure_ (i:=14) (N:=some 54) (v:=?_) (a':=?_) #[true,true,true,true,true,true,true,true,true,true,true,true,true,true,true,false,false,false] rfl rfl (zU HT_.out (by kernel_rfl)) (fun _ _ _ h=>h) (Or.inl ⟨by rfl,?_⟩) ?_ ?_
     rotate_left
     · intro w'
       go_simp
       with_reducible rfl
     rotate_left
     · simp only [Act.put,List.setIfInBounds_toArray,List.set_cons_zero,List.set_cons_succ,zH,zL]
       rfl
     refine take_ (i:=15) (N:=some 55) (v:=?_) (a':=?_) #[true,true,true,true,true,true,true,true,true,true,true,true,true,true,true,true,false,false] rfl rfl (z1c HT_.out HW_.out (by kernel_rfl)) (fun _ _ _ h=>h) (Or.inl ⟨by rfl,?_⟩) hHeld ?_ ?_
     rotate_left
     · rintro w' ⟨s0,s1,s2,s3,s4,s5,s6,s7,s8,s9,s10,s11,s12,s13⟩
       go_simp
       with_reducible rfl
     rotate_left
     · simp only [Act.put,List.setIfInBounds_toArray,List.set_cons_zero,List.set_cons_succ,zH,zL]
       rfl
     refine one_ (i:=16) (N:=some 56) #[true,true,true,true,true,true,true,true,true,true,true,true,true,true,true,true,true,false] rfl rfl (z1I HT_.out (by kernel_rfl)) (by decide) (fun K hK=>?_)
     refine goes_ Try.func74 (by kernel_rfl) rfl #[.agg #[.int .u64 ((zS x7_1 ((za l0 x8_1).f1)).f0),.int .u64 ((zS x7_1 ((za l0 x8_1).f1)).f1)],.agg #[.int .u64 ((zS x7_1 ((za l0 x8_1).f2)).f0),.int .u64 ((zS x7_1 ((za l0 x8_1).f2)).f1)]] (by rfl) rfl rfl (by (try simp only [List.map_toArray,List.map_cons,List.map_nil]);first|done|rfl|(simp only [List.length_drop,List.length_take];rfl)) ?_
     with_reducible refine (z1m.calls ((zS x7_1 ((za l0 x8_1).f1)).f0) ((zS x7_1 ((za l0 x8_1).f1)).f1) ((zS x7_1 ((za l0 x8_1).f2)).f0) ((zS x7_1 ((za l0 x8_1).f2)).f1) t113 t114 _ A24.out).mono ?_
     rintro e w30 ⟨rfl,hb⟩
     have HS5_:=(hb.cell (World.block_lt_of_cell? _ _ (hHeld.2.2.2.2.2.1))).trans (hHeld.2.2.2.2.2.1)
     have HS6_:=(hb.cell (World.block_lt_of_cell? _ _ (hHeld.2.2.2.2.2.2.1))).trans (hHeld.2.2.2.2.2.2.1)
     have HS12_:=(hb.cell (World.block_lt_of_cell? _ _ (hHeld.2.2.2.2.2.2.2.2.2.2.2.2.1))).trans (hHeld.2.2.2.2.2.2.2.2.2.2.2.2.1)
     have HS13_:=(hb.cell (World.block_lt_of_cell? _ _ (hHeld.2.2.2.2.2.2.2.2.2.2.2.2.2))).trans (hHeld.2.2.2.2.2.2.2.2.2.2.2.2.2)
     refine ⟨_,rfl,?_⟩
     have n0_:=z7.mk (Kd.zY (by (with_reducible repeat (first|apply Kd.zx|apply Kd.zy|apply Kd.zD));exact HO_7.out) hb)
     have n1_:=z7.mk (zk (g:=gb101) (o:=.cells #[.int .u64 0,.int .u64 0] 61 (0,0)) (by (with_reducible repeat (first|refine z2 ?_ _|refine z5 ?_|refine z1 ?_ _));exact BK101.out) hb)
     have n2_:=z7.mk (zk (g:=gb104) (o:=.cells #[.int .u64 x105000_7,.int .u64 x105001_7] 61 (0,0)) (by (with_reducible repeat (first|refine z2 ?_ _|refine z5 ?_|refine z1 ?_ _));exact BK104.out) hb)
     have n3_:=z7.mk (zg (by repeat (first|(with_reducible first|exact HB.out|apply z4|apply z0|apply z3|refine z9 ?_ GE101.out|refine z9 ?_ GE104.out)|exact HB.out)) hb)
     clear HO_7
     clear BK101
     clear BK104
     clear HB
     have HO_7:=n0_
     have BK101:=n1_
     have BK104:=n2_
     have HB:=n3_
     clear n0_ n1_ n2_ n3_
     (try clear hb)
     (try clear hb2)
     (try clear hk)
     (try clear hi)
     refine hK.out _ _ ⟨((HB.out.cell (World.block_lt_of_cell? w _ hw109_0)).trans hw109_0),((HB.out.cell (World.block_lt_of_cell? w _ hw109_1)).trans hw109_1),((HB.out.cell (World.block_lt_of_cell? w _ hw109_2)).trans hw109_2),((HB.out.cell (World.block_lt_of_cell? w _ hw109_3)).trans hw109_3),((HB.out.cell (World.block_lt_of_cell? w _ hw109_4)).trans hw109_4),HS5_,HS6_,((HB.out.cell (World.block_lt_of_cell? w _ hw111_0)).trans hw111_0),((HB.out.cell (World.block_lt_of_cell? w _ hw111_1)).trans hw111_1),((HB.out.cell (World.block_lt_of_cell? w _ hw111_2)).trans hw111_2),((HB.out.cell (World.block_lt_of_cell? w _ hw111_3)).trans hw111_3),((HB.out.cell (World.block_lt_of_cell? w _ hw111_4)).trans hw111_4),HS12_,HS13_⟩ (fun hHeld=>?_)
     clear hK K
     refine norm_ (a':=?_) ?_ ?_
     rotate_left
     · show Act.put _ (some 56) _ = _
       simp only [Act.put,List.setIfInBounds_toArray,List.set_cons_zero,List.set_cons_succ,zH,zL]
       rfl
     refine one_ (i:=17) (N:=none) #[true,true,true,true,true,true,true,true,true,true,true,true,true,true,true,true,true,true] rfl rfl (z1I HT_.out (by kernel_rfl)) (by decide) (fun K hK=>?_)
     have hs31 : w30.cell? ⟨gb104,0,none⟩ = some (.int .u64 x105000_7):=(zb BK104.out 0).trans rfl
     have hfs31:=z8 BK104.out 0
     have hns31_0:=NB101_104.out
     have hms31_0:=NB104_101.out
     have hs32 : w30.cell? ⟨gb104,1,none⟩ = some (.int .u64 x105001_7):=(zb BK104.out 1).trans rfl
     have hfs32:=z8 BK104.out 1
     have hns32_0:=NB101_104.out
     have hms32_0:=NB104_101.out
     refine skip_ (w1:=?_) (by rfl) rfl ?_ ?_
     rotate_left
     · go_simp
       rfl
     refine hK.out _ _ ⟨((zn (p:=⟨gb104,_,none⟩) (by first|exact Nat.ne_of_lt (Nat.lt_of_lt_of_le (by have:=World.block_lt_of_cell? _ _ hw109_0;first|rwa [z6] at this|exact this) GW104.out)|(rw [z6];exact Nat.ne_of_lt (Nat.lt_of_lt_of_le (by have:=World.block_lt_of_cell? _ _ hw109_0;first|rwa [z6] at this|exact this) GW104.out))|(show (Addr.add _ _).block ≠ _;rw [z6];exact Nat.ne_of_lt (Nat.lt_of_lt_of_le (by have:=World.block_lt_of_cell? _ _ hw109_0;first|rwa [z6] at this|exact this) GW104.out))|(dsimp only;exact Nat.ne_of_lt (Nat.lt_of_lt_of_le (by have:=World.block_lt_of_cell? _ _ hw109_0;first|rwa [z6] at this|exact this) GW104.out))) _).trans (((zn (p:=⟨gb104,_,none⟩) (by first|exact Nat.ne_of_lt (Nat.lt_of_lt_of_le (by have:=World.block_lt_of_cell? _ _ hw109_0;first|rwa [z6] at this|exact this) GW104.out)|(rw [z6];exact Nat.ne_of_lt (Nat.lt_of_lt_of_le (by have:=World.block_lt_of_cell? _ _ hw109_0;first|rwa [z6] at this|exact this) GW104.out))|(show (Addr.add _ _).block ≠ _;rw [z6];exact Nat.ne_of_lt (Nat.lt_of_lt_of_le (by have:=World.block_lt_of_cell? _ _ hw109_0;first|rwa [z6] at this|exact this) GW104.out))|(dsimp only;exact Nat.ne_of_lt (Nat.lt_of_lt_of_le (by have:=World.block_lt_of_cell? _ _ hw109_0;first|rwa [z6] at this|exact this) GW104.out))) _).trans (hHeld.1)))),((zn (p:=⟨gb104,_,none⟩) (by first|exact Nat.ne_of_lt (Nat.lt_of_lt_of_le (by have:=World.block_lt_of_cell? _ _ hw109_1;first|rwa [z6] at this|exact this) GW104.out)|(rw [z6];exact Nat.ne_of_lt (Nat.lt_of_lt_of_le (by have:=World.block_lt_of_cell? _ _ hw109_1;first|rwa [z6] at this|exact this) GW104.out))|(show (Addr.add _ _).block ≠ _;rw [z6];exact Nat.ne_of_lt (Nat.lt_of_lt_of_le (by have:=World.block_lt_of_cell? _ _ hw109_1;first|rwa [z6] at this|exact this) GW104.out))|(dsimp only;exact Nat.ne_of_lt (Nat.lt_of_lt_of_le (by have:=World.block_lt_of_cell? _ _ hw109_1;first|rwa [z6] at this|exact this) GW104.out))) _).trans (((zn (p:=⟨gb104,_,none⟩) (by first|exact Nat.ne_of_lt (Nat.lt_of_lt_of_le (by have:=World.block_lt_of_cell? _ _ hw109_1;first|rwa [z6] at this|exact this) GW104.out)|(rw [z6];exact Nat.ne_of_lt (Nat.lt_of_lt_of_le (by have:=World.block_lt_of_cell? _ _ hw109_1;first|rwa [z6] at this|exact this) GW104.out))|(show (Addr.add _ _).block ≠ _;rw [z6];exact Nat.ne_of_lt (Nat.lt_of_lt_of_le (by have:=World.block_lt_of_cell? _ _ hw109_1;first|rwa [z6] at this|exact this) GW104.out))|(dsimp only;exact Nat.ne_of_lt (Nat.lt_of_lt_of_le (by have:=World.block_lt_of_cell? _ _ hw109_1;first|rwa [z6] at this|exact this) GW104.out))) _).trans (hHeld.2.1)))),((zn (p:=⟨gb104,_,none⟩) (by first|exact Nat.ne_of_lt (Nat.lt_of_lt_of_le (by have:=World.block_lt_of_cell? _ _ hw109_2;first|rwa [z6] at this|exact this) GW104.out)|(rw [z6];exact Nat.ne_of_lt (Nat.lt_of_lt_of_le (by have:=World.block_lt_of_cell? _ _ hw109_2;first|rwa [z6] at this|exact this) GW104.out))|(show (Addr.add _ _).block ≠ _;rw [z6];exact Nat.ne_of_lt (Nat.lt_of_lt_of_le (by have:=World.block_lt_of_cell? _ _ hw109_2;first|rwa [z6] at this|exact this) GW104.out))|(dsimp only;exact Nat.ne_of_lt (Nat.lt_of_lt_of_le (by have:=World.block_lt_of_cell? _ _ hw109_2;first|rwa [z6] at this|exact this) GW104.out))) _).trans (((zn (p:=⟨gb104,_,none⟩) (by first|exact Nat.ne_of_lt (Nat.lt_of_lt_of_le (by have:=World.block_lt_of_cell? _ _ hw109_2;first|rwa [z6] at this|exact this) GW104.out)|(rw [z6];exact Nat.ne_of_lt (Nat.lt_of_lt_of_le (by have:=World.block_lt_of_cell? _ _ hw109_2;first|rwa [z6] at this|exact this) GW104.out))|(show (Addr.add _ _).block ≠ _;rw [z6];exact Nat.ne_of_lt (Nat.lt_of_lt_of_le (by have:=World.block_lt_of_cell? _ _ hw109_2;first|rwa [z6] at this|exact this) GW104.out))|(dsimp only;exact Nat.ne_of_lt (Nat.lt_of_lt_of_le (by have:=World.block_lt_of_cell? _ _ hw109_2;first|rwa [z6] at this|exact this) GW104.out))) _).trans (hHeld.2.2.1)))),((zn (p:=⟨gb104,_,none⟩) (by first|exact Nat.ne_of_lt (Nat.lt_of_lt_of_le (by have:=World.block_lt_of_cell? _ _ hw109_3;first|rwa [z6] at this|exact this) GW104.out)|(rw [z6];exact Nat.ne_of_lt (Nat.lt_of_lt_of_le (by have:=World.block_lt_of_cell? _ _ hw109_3;first|rwa [z6] at this|exact this) GW104.out))|(show (Addr.add _ _).block ≠ _;rw [z6];exact Nat.ne_of_lt (Nat.lt_of_lt_of_le (by have:=World.block_lt_of_cell? _ _ hw109_3;first|rwa [z6] at this|exact this) GW104.out))|(dsimp only;exact Nat.ne_of_lt (Nat.lt_of_lt_of_le (by have:=World.block_lt_of_cell? _ _ hw109_3;first|rwa [z6] at this|exact this) GW104.out))) _).trans (((zn (p:=⟨gb104,_,none⟩) (by first|exact Nat.ne_of_lt (Nat.lt_of_lt_of_le (by have:=World.block_lt_of_cell? _ _ hw109_3;first|rwa [z6] at this|exact this) GW104.out)|(rw [z6];exact Nat.ne_of_lt (Nat.lt_of_lt_of_le (by have:=World.block_lt_of_cell? _ _ hw109_3;first|rwa [z6] at this|exact this) GW104.out))|(show (Addr.add _ _).block ≠ _;rw [z6];exact Nat.ne_of_lt (Nat.lt_of_lt_of_le (by have:=World.block_lt_of_cell? _ _ hw109_3;first|rwa [z6] at this|exact this) GW104.out))|(dsimp only;exact Nat.ne_of_lt (Nat.lt_of_lt_of_le (by have:=World.block_lt_of_cell? _ _ hw109_3;first|rwa [z6] at this|exact this) GW104.out))) _).trans (hHeld.2.2.2.1)))),((zn (p:=⟨gb104,_,none⟩) (by first|exact Nat.ne_of_lt (Nat.lt_of_lt_of_le (by have:=World.block_lt_of_cell? _ _ hw109_4;first|rwa [z6] at this|exact this) GW104.out)|(rw [z6];exact Nat.ne_of_lt (Nat.lt_of_lt_of_le (by have:=World.block_lt_of_cell? _ _ hw109_4;first|rwa [z6] at this|exact this) GW104.out))|(show (Addr.add _ _).block ≠ _;rw [z6];exact Nat.ne_of_lt (Nat.lt_of_lt_of_le (by have:=World.block_lt_of_cell? _ _ hw109_4;first|rwa [z6] at this|exact this) GW104.out))|(dsimp only;exact Nat.ne_of_lt (Nat.lt_of_lt_of_le (by have:=World.block_lt_of_cell? _ _ hw109_4;first|rwa [z6] at this|exact this) GW104.out))) _).trans (((zn (p:=⟨gb104,_,none⟩) (by first|exact Nat.ne_of_lt (Nat.lt_of_lt_of_le (by have:=World.block_lt_of_cell? _ _ hw109_4;first|rwa [z6] at this|exact this) GW104.out)|(rw [z6];exact Nat.ne_of_lt (Nat.lt_of_lt_of_le (by have:=World.block_lt_of_cell? _ _ hw109_4;first|rwa [z6] at this|exact this) GW104.out))|(show (Addr.add _ _).block ≠ _;rw [z6];exact Nat.ne_of_lt (Nat.lt_of_lt_of_le (by have:=World.block_lt_of_cell? _ _ hw109_4;first|rwa [z6] at this|exact this) GW104.out))|(dsimp only;exact Nat.ne_of_lt (Nat.lt_of_lt_of_le (by have:=World.block_lt_of_cell? _ _ hw109_4;first|rwa [z6] at this|exact this) GW104.out))) _).trans (hHeld.2.2.2.2.1)))),((zn (p:=⟨gb104,_,none⟩) (by first|exact Kd.zp (Kd.zt HO_7.out (fun _ hk=>hk.2))|(rw [z6];exact Kd.zp (Kd.zt HO_7.out (fun _ hk=>hk.2)))|(show (Addr.add _ _).block ≠ _;rw [z6];exact Kd.zp (Kd.zt HO_7.out (fun _ hk=>hk.2)))|(dsimp only;exact Kd.zp (Kd.zt HO_7.out (fun _ hk=>hk.2)))) _).trans (((zn (p:=⟨gb104,_,none⟩) (by first|exact Kd.zp (Kd.zt HO_7.out (fun _ hk=>hk.2))|(rw [z6];exact Kd.zp (Kd.zt HO_7.out (fun _ hk=>hk.2)))|(show (Addr.add _ _).block ≠ _;rw [z6];exact Kd.zp (Kd.zt HO_7.out (fun _ hk=>hk.2)))|(dsimp only;exact Kd.zp (Kd.zt HO_7.out (fun _ hk=>hk.2)))) _).trans (hHeld.2.2.2.2.2.1)))),((zn (p:=⟨gb104,_,none⟩) (by first|exact Kd.zp (Kd.zt HO_7.out (fun _ hk=>hk.2))|(rw [z6];exact Kd.zp (Kd.zt HO_7.out (fun _ hk=>hk.2)))|(show (Addr.add _ _).block ≠ _;rw [z6];exact Kd.zp (Kd.zt HO_7.out (fun _ hk=>hk.2)))|(dsimp only;exact Kd.zp (Kd.zt HO_7.out (fun _ hk=>hk.2)))) _).trans (((zn (p:=⟨gb104,_,none⟩) (by first|exact Kd.zp (Kd.zt HO_7.out (fun _ hk=>hk.2))|(rw [z6];exact Kd.zp (Kd.zt HO_7.out (fun _ hk=>hk.2)))|(show (Addr.add _ _).block ≠ _;rw [z6];exact Kd.zp (Kd.zt HO_7.out (fun _ hk=>hk.2)))|(dsimp only;exact Kd.zp (Kd.zt HO_7.out (fun _ hk=>hk.2)))) _).trans (hHeld.2.2.2.2.2.2.1)))),((zn (p:=⟨gb104,_,none⟩) (by first|exact Nat.ne_of_lt (Nat.lt_of_lt_of_le (by have:=World.block_lt_of_cell? _ _ hw111_0;first|rwa [z6] at this|exact this) GW104.out)|(rw [z6];exact Nat.ne_of_lt (Nat.lt_of_lt_of_le (by have:=World.block_lt_of_cell? _ _ hw111_0;first|rwa [z6] at this|exact this) GW104.out))|(show (Addr.add _ _).block ≠ _;rw [z6];exact Nat.ne_of_lt (Nat.lt_of_lt_of_le (by have:=World.block_lt_of_cell? _ _ hw111_0;first|rwa [z6] at this|exact this) GW104.out))|(dsimp only;exact Nat.ne_of_lt (Nat.lt_of_lt_of_le (by have:=World.block_lt_of_cell? _ _ hw111_0;first|rwa [z6] at this|exact this) GW104.out))) _).trans (((zn (p:=⟨gb104,_,none⟩) (by first|exact Nat.ne_of_lt (Nat.lt_of_lt_of_le (by have:=World.block_lt_of_cell? _ _ hw111_0;first|rwa [z6] at this|exact this) GW104.out)|(rw [z6];exact Nat.ne_of_lt (Nat.lt_of_lt_of_le (by have:=World.block_lt_of_cell? _ _ hw111_0;first|rwa [z6] at this|exact this) GW104.out))|(show (Addr.add _ _).block ≠ _;rw [z6];exact Nat.ne_of_lt (Nat.lt_of_lt_of_le (by have:=World.block_lt_of_cell? _ _ hw111_0;first|rwa [z6] at this|exact this) GW104.out))|(dsimp only;exact Nat.ne_of_lt (Nat.lt_of_lt_of_le (by have:=World.block_lt_of_cell? _ _ hw111_0;first|rwa [z6] at this|exact this) GW104.out))) _).trans (hHeld.2.2.2.2.2.2.2.1)))),((zn (p:=⟨gb104,_,none⟩) (by first|exact Nat.ne_of_lt (Nat.lt_of_lt_of_le (by have:=World.block_lt_of_cell? _ _ hw111_1;first|rwa [z6] at this|exact this) GW104.out)|(rw [z6];exact Nat.ne_of_lt (Nat.lt_of_lt_of_le (by have:=World.block_lt_of_cell? _ _ hw111_1;first|rwa [z6] at this|exact this) GW104.out))|(show (Addr.add _ _).block ≠ _;rw [z6];exact Nat.ne_of_lt (Nat.lt_of_lt_of_le (by have:=World.block_lt_of_cell? _ _ hw111_1;first|rwa [z6] at this|exact this) GW104.out))|(dsimp only;exact Nat.ne_of_lt (Nat.lt_of_lt_of_le (by have:=World.block_lt_of_cell? _ _ hw111_1;first|rwa [z6] at this|exact this) GW104.out))) _).trans (((zn (p:=⟨gb104,_,none⟩) (by first|exact Nat.ne_of_lt (Nat.lt_of_lt_of_le (by have:=World.block_lt_of_cell? _ _ hw111_1;first|rwa [z6] at this|exact this) GW104.out)|(rw [z6];exact Nat.ne_of_lt (Nat.lt_of_lt_of_le (by have:=World.block_lt_of_cell? _ _ hw111_1;first|rwa [z6] at this|exact this) GW104.out))|(show (Addr.add _ _).block ≠ _;rw [z6];exact Nat.ne_of_lt (Nat.lt_of_lt_of_le (by have:=World.block_lt_of_cell? _ _ hw111_1;first|rwa [z6] at this|exact this) GW104.out))|(dsimp only;exact Nat.ne_of_lt (Nat.lt_of_lt_of_le (by have:=World.block_lt_of_cell? _ _ hw111_1;first|rwa [z6] at this|exact this) GW104.out))) _).trans (hHeld.2.2.2.2.2.2.2.2.1)))),((zn (p:=⟨gb104,_,none⟩) (by first|exact Nat.ne_of_lt (Nat.lt_of_lt_of_le (by have:=World.block_lt_of_cell? _ _ hw111_2;first|rwa [z6] at this|exact this) GW104.out)|(rw [z6];exact Nat.ne_of_lt (Nat.lt_of_lt_of_le (by have:=World.block_lt_of_cell? _ _ hw111_2;first|rwa [z6] at this|exact this) GW104.out))|(show (Addr.add _ _).block ≠ _;rw [z6];exact Nat.ne_of_lt (Nat.lt_of_lt_of_le (by have:=World.block_lt_of_cell? _ _ hw111_2;first|rwa [z6] at this|exact this) GW104.out))|(dsimp only;exact Nat.ne_of_lt (Nat.lt_of_lt_of_le (by have:=World.block_lt_of_cell? _ _ hw111_2;first|rwa [z6] at this|exact this) GW104.out))) _).trans (((zn (p:=⟨gb104,_,none⟩) (by first|exact Nat.ne_of_lt (Nat.lt_of_lt_of_le (by have:=World.block_lt_of_cell? _ _ hw111_2;first|rwa [z6] at this|exact this) GW104.out)|(rw [z6];exact Nat.ne_of_lt (Nat.lt_of_lt_of_le (by have:=World.block_lt_of_cell? _ _ hw111_2;first|rwa [z6] at this|exact this) GW104.out))|(show (Addr.add _ _).block ≠ _;rw [z6];exact Nat.ne_of_lt (Nat.lt_of_lt_of_le (by have:=World.block_lt_of_cell? _ _ hw111_2;first|rwa [z6] at this|exact this) GW104.out))|(dsimp only;exact Nat.ne_of_lt (Nat.lt_of_lt_of_le (by have:=World.block_lt_of_cell? _ _ hw111_2;first|rwa [z6] at this|exact this) GW104.out))) _).trans (hHeld.2.2.2.2.2.2.2.2.2.1)))),((zn (p:=⟨gb104,_,none⟩) (by first|exact Nat.ne_of_lt (Nat.lt_of_lt_of_le (by have:=World.block_lt_of_cell? _ _ hw111_3;first|rwa [z6] at this|exact this) GW104.out)|(rw [z6];exact Nat.ne_of_lt (Nat.lt_of_lt_of_le (by have:=World.block_lt_of_cell? _ _ hw111_3;first|rwa [z6] at this|exact this) GW104.out))|(show (Addr.add _ _).block ≠ _;rw [z6];exact Nat.ne_of_lt (Nat.lt_of_lt_of_le (by have:=World.block_lt_of_cell? _ _ hw111_3;first|rwa [z6] at this|exact this) GW104.out))|(dsimp only;exact Nat.ne_of_lt (Nat.lt_of_lt_of_le (by have:=World.block_lt_of_cell? _ _ hw111_3;first|rwa [z6] at this|exact this) GW104.out))) _).trans (((zn (p:=⟨gb104,_,none⟩) (by first|exact Nat.ne_of_lt (Nat.lt_of_lt_of_le (by have:=World.block_lt_of_cell? _ _ hw111_3;first|rwa [z6] at this|exact this) GW104.out)|(rw [z6];exact Nat.ne_of_lt (Nat.lt_of_lt_of_le (by have:=World.block_lt_of_cell? _ _ hw111_3;first|rwa [z6] at this|exact this) GW104.out))|(show (Addr.add _ _).block ≠ _;rw [z6];exact Nat.ne_of_lt (Nat.lt_of_lt_of_le (by have:=World.block_lt_of_cell? _ _ hw111_3;first|rwa [z6] at this|exact this) GW104.out))|(dsimp only;exact Nat.ne_of_lt (Nat.lt_of_lt_of_le (by have:=World.block_lt_of_cell? _ _ hw111_3;first|rwa [z6] at this|exact this) GW104.out))) _).trans (hHeld.2.2.2.2.2.2.2.2.2.2.1)))),((zn (p:=⟨gb104,_,none⟩) (by first|exact Nat.ne_of_lt (Nat.lt_of_lt_of_le (by have:=World.block_lt_of_cell? _ _ hw111_4;first|rwa [z6] at this|exact this) GW104.out)|(rw [z6];exact Nat.ne_of_lt (Nat.lt_of_lt_of_le (by have:=World.block_lt_of_cell? _ _ hw111_4;first|rwa [z6] at this|exact this) GW104.out))|(show (Addr.add _ _).block ≠ _;rw [z6];exact Nat.ne_of_lt (Nat.lt_of_lt_of_le (by have:=World.block_lt_of_cell? _ _ hw111_4;first|rwa [z6] at this|exact this) GW104.out))|(dsimp only;exact Nat.ne_of_lt (Nat.lt_of_lt_of_le (by have:=World.block_lt_of_cell? _ _ hw111_4;first|rwa [z6] at this|exact this) GW104.out))) _).trans (((zn (p:=⟨gb104,_,none⟩) (by first|exact Nat.ne_of_lt (Nat.lt_of_lt_of_le (by have:=World.block_lt_of_cell? _ _ hw111_4;first|rwa [z6] at this|exact this) GW104.out)|(rw [z6];exact Nat.ne_of_lt (Nat.lt_of_lt_of_le (by have:=World.block_lt_of_cell? _ _ hw111_4;first|rwa [z6] at this|exact this) GW104.out))|(show (Addr.add _ _).block ≠ _;rw [z6];exact Nat.ne_of_lt (Nat.lt_of_lt_of_le (by have:=World.block_lt_of_cell? _ _ hw111_4;first|rwa [z6] at this|exact this) GW104.out))|(dsimp only;exact Nat.ne_of_lt (Nat.lt_of_lt_of_le (by have:=World.block_lt_of_cell? _ _ hw111_4;first|rwa [z6] at this|exact this) GW104.out))) _).trans (hHeld.2.2.2.2.2.2.2.2.2.2.2.1)))),((zn (p:=⟨gb104,_,none⟩) (by first|exact Kd.zp (Kd.zt HO_7.out (fun _ hk=>hk.2))|(rw [z6];exact Kd.zp (Kd.zt HO_7.out (fun _ hk=>hk.2)))|(show (Addr.add _ _).block ≠ _;rw [z6];exact Kd.zp (Kd.zt HO_7.out (fun _ hk=>hk.2)))|(dsimp only;exact Kd.zp (Kd.zt HO_7.out (fun _ hk=>hk.2)))) _).trans (((zn (p:=⟨gb104,_,none⟩) (by first|exact Kd.zp (Kd.zt HO_7.out (fun _ hk=>hk.2))|(rw [z6];exact Kd.zp (Kd.zt HO_7.out (fun _ hk=>hk.2)))|(show (Addr.add _ _).block ≠ _;rw [z6];exact Kd.zp (Kd.zt HO_7.out (fun _ hk=>hk.2)))|(dsimp only;exact Kd.zp (Kd.zt HO_7.out (fun _ hk=>hk.2)))) _).trans (hHeld.2.2.2.2.2.2.2.2.2.2.2.2.1)))),((zn (p:=⟨gb104,_,none⟩) (by first|exact Kd.zp (Kd.zt HO_7.out (fun _ hk=>hk.2))|(rw [z6];exact Kd.zp (Kd.zt HO_7.out (fun _ hk=>hk.2)))|(show (Addr.add _ _).block ≠ _;rw [z6];exact Kd.zp (Kd.zt HO_7.out (fun _ hk=>hk.2)))|(dsimp only;exact Kd.zp (Kd.zt HO_7.out (fun _ hk=>hk.2)))) _).trans (((zn (p:=⟨gb104,_,none⟩) (by first|exact Kd.zp (Kd.zt HO_7.out (fun _ hk=>hk.2))|(rw [z6];exact Kd.zp (Kd.zt HO_7.out (fun _ hk=>hk.2)))|(show (Addr.add _ _).block ≠ _;rw [z6];exact Kd.zp (Kd.zt HO_7.out (fun _ hk=>hk.2)))|(dsimp only;exact Kd.zp (Kd.zt HO_7.out (fun _ hk=>hk.2)))) _).trans (hHeld.2.2.2.2.2.2.2.2.2.2.2.2.2))))⟩ (fun hHeld=>?_)
     clear hK K
     refine done_ (z27 HT_.out (by kernel_rfl)) ?_
     have p115 : 0 ≤ (x8_1 : Int):=of_decide_eq_true (by first|(with_reducible assumption)|assumption)
     have q115 : x8_1 < (l0.length : Int):=of_decide_eq_true (by first|(with_reducible assumption)|assumption)
     obtain ⟨ad115,e115,hx115_0,hx115_1,hx115_2,hx115_3,hx115_4⟩:=z16 HR0.out x8_1 p115 q115
     obtain rfl : ad103 = ad115:=(by injection e115)
     have hn115_0 : ad103.block ≠ gb104:=Nat.ne_of_lt (Nat.lt_of_lt_of_le (by have:=World.block_lt_of_cell? _ _ hx115_0;first|rwa [z6] at this|exact this) GW104.out)
     have hn115_1 : ad103.block ≠ gb104:=Nat.ne_of_lt (Nat.lt_of_lt_of_le (by have:=World.block_lt_of_cell? _ _ hx115_0;first|rwa [z6] at this|exact this) GW104.out)
     replace hx115_0:=(HB.out.cell (World.block_lt_of_cell? w _ hx115_0)).trans hx115_0
     replace hx115_1:=(HB.out.cell (World.block_lt_of_cell? w _ hx115_1)).trans hx115_1
     replace hx115_2:=(HB.out.cell (World.block_lt_of_cell? w _ hx115_2)).trans hx115_2
     replace hx115_3:=(HB.out.cell (World.block_lt_of_cell? w _ hx115_3)).trans hx115_3
     replace hx115_4:=(HB.out.cell (World.block_lt_of_cell? w _ hx115_4)).trans hx115_4
     replace hx115_0:=(zn (p:=⟨gb104,0,none⟩) (by first|(rw [z6];exact hn115_0)|(show (Addr.add _ _).block ≠ _;rw [z6];exact hn115_0)|exact hn115_0) (.int .u64 t113)).trans hx115_0
     replace hx115_1:=(zn (p:=⟨gb104,0,none⟩) (by first|(rw [z6];exact hn115_0)|(show (Addr.add _ _).block ≠ _;rw [z6];exact hn115_0)|exact hn115_0) (.int .u64 t113)).trans hx115_1
     replace hx115_2:=(zn (p:=⟨gb104,0,none⟩) (by first|(rw [z6];exact hn115_0)|(show (Addr.add _ _).block ≠ _;rw [z6];exact hn115_0)|exact hn115_0) (.int .u64 t113)).trans hx115_2
     replace hx115_3:=(zn (p:=⟨gb104,0,none⟩) (by first|(rw [z6];exact hn115_0)|(show (Addr.add _ _).block ≠ _;rw [z6];exact hn115_0)|exact hn115_0) (.int .u64 t113)).trans hx115_3
     replace hx115_4:=(zn (p:=⟨gb104,0,none⟩) (by first|(rw [z6];exact hn115_0)|(show (Addr.add _ _).block ≠ _;rw [z6];exact hn115_0)|exact hn115_0) (.int .u64 t113)).trans hx115_4
     replace hx115_0:=(zn (p:=⟨gb104,1,none⟩) (by first|(rw [z6];exact hn115_1)|(show (Addr.add _ _).block ≠ _;rw [z6];exact hn115_1)|exact hn115_1) (.int .u64 t114)).trans hx115_0
     replace hx115_1:=(zn (p:=⟨gb104,1,none⟩) (by first|(rw [z6];exact hn115_1)|(show (Addr.add _ _).block ≠ _;rw [z6];exact hn115_1)|exact hn115_1) (.int .u64 t114)).trans hx115_1
     replace hx115_2:=(zn (p:=⟨gb104,1,none⟩) (by first|(rw [z6];exact hn115_1)|(show (Addr.add _ _).block ≠ _;rw [z6];exact hn115_1)|exact hn115_1) (.int .u64 t114)).trans hx115_2
     replace hx115_3:=(zn (p:=⟨gb104,1,none⟩) (by first|(rw [z6];exact hn115_1)|(show (Addr.add _ _).block ≠ _;rw [z6];exact hn115_1)|exact hn115_1) (.int .u64 t114)).trans hx115_3
     replace hx115_4:=(zn (p:=⟨gb104,1,none⟩) (by first|(rw [z6];exact hn115_1)|(show (Addr.add _ _).block ≠ _;rw [z6];exact hn115_1)|exact hn115_1) (.int .u64 t114)).trans hx115_4
     clear hn115_0
     clear hn115_1
     replace p115:=eq_true p115
     replace q115:=eq_true q115
     try go_wp2
     have n0_ : z7 (Kd.R k61 61 ((w30.setCell ⟨gb104,0,none⟩ (.int .u64 t113)).setCell ⟨gb104,1,none⟩ (.int .u64 t114)) w.heap.size (fun k_=>k_ ≠ gb101 ∧ k_ ≠ gb104) (.slice (some ad110) x7_1.length co29) x7_1):=⟨by (with_reducible repeat (first|apply Kd.zx|apply Kd.zy|apply Kd.zD));exact Kd.z1d (Kd.z1g (p:=⟨gb104,1,none⟩) (Kd.z1g (p:=⟨gb104,0,none⟩) (Kd.z1d HO_7.out (fun k_ hk=>(⟨hk,hk.2⟩ : _ ∧ k_ ≠ gb104))) (fun _ hk=>hk.2) (.int .u64 t113)) (fun _ hk=>hk.2) (.int .u64 t114)) (fun _ hk=>⟨hk.1.1,hk.1.2⟩)⟩
     have n1_ : z7 (((w30.setCell ⟨gb104,0,none⟩ (.int .u64 t113)).setCell ⟨gb104,1,none⟩ (.int .u64 t114)).heap[gb101]? = some (.cells #[.int .u64 0,.int .u64 0] 61 (0,0))):=⟨by (with_reducible repeat (first|refine z2 ?_ _|refine z5 ?_|refine z1 ?_ _));refine zs ?_ NB101_104.out _;(with_reducible repeat (first|refine z2 ?_ _|refine z5 ?_|refine z1 ?_ _));refine zs ?_ NB101_104.out _;(with_reducible repeat (first|refine z2 ?_ _|refine z5 ?_|refine z1 ?_ _));exact BK101.out⟩
     have n2_ : z7 (((w30.setCell ⟨gb104,0,none⟩ (.int .u64 t113)).setCell ⟨gb104,1,none⟩ (.int .u64 t114)).heap[gb104]? = some (.cells #[.int .u64 t113,.int .u64 t114] 61 (0,0))):=⟨by (with_reducible repeat (first|refine z2 ?_ _|refine z5 ?_|refine z1 ?_ _));refine zq (cs:=#[.int .u64 t113,.int .u64 x105001_7]) ?_ 1 _ rfl;(with_reducible repeat (first|refine z2 ?_ _|refine z5 ?_|refine z1 ?_ _));refine zq (cs:=#[.int .u64 x105000_7,.int .u64 x105001_7]) ?_ 0 _ rfl;(with_reducible repeat (first|refine z2 ?_ _|refine z5 ?_|refine z1 ?_ _));exact BK104.out⟩
     have n3_ : z7 (Below w.heap.size w ((w30.setCell ⟨gb104,0,none⟩ (.int .u64 t113)).setCell ⟨gb104,1,none⟩ (.int .u64 t114))):=⟨by repeat (first|(with_reducible first|exact HB.out|apply z4|apply z0|apply z3|refine z9 ?_ GE101.out|refine z9 ?_ GE104.out)|exact HB.out)⟩
     (try clear HO_7)
     (try clear BK101)
     (try clear BK104)
     (try clear HB)
     generalize ((w30.setCell ⟨gb104,0,none⟩ (.int .u64 t113)).setCell ⟨gb104,1,none⟩ (.int .u64 t114)) = w33 at n0_ n1_ n2_ n3_ ⊢
     have HO_7:=n0_
     have BK101:=n1_
     have BK104:=n2_
     have HB:=n3_
     clear n0_ n1_ n2_ n3_
     have n0_:=z7.mk (Kd.zD HO_7.out)
     have n1_:=z7.mk (z5 BK101.out)
     have n2_:=z7.mk (z5 BK104.out)
     have n3_:=z7.mk (z3 HB.out)
     clear HO_7
     clear BK101
     clear BK104
     clear HB
     have HO_7:=n0_
     have BK101:=n1_
     have BK104:=n2_
     have HB:=n3_
     clear n0_ n1_ n2_ n3_
     have p116 : 0 ≤ (x8_1 : Int):=of_decide_eq_true (by first|(with_reducible assumption)|assumption)
     have q116 : x8_1 < (l0.length : Int):=of_decide_eq_true (by first|(with_reducible assumption)|assumption)
     obtain ⟨ad116,e116,hx116_0,hx116_1,hx116_2,hx116_3,hx116_4⟩:=z16 HR0.out x8_1 p116 q116
     have hw116_4:=hx116_4
     have hw116_3:=hx116_3
     have hw116_2:=hx116_2
     have hw116_1:=hx116_1
     have hw116_0:=hx116_0
     obtain rfl : ad103 = ad116:=(by injection e116)
     replace hx116_0:=(HB.out.cell (World.block_lt_of_cell? w _ hx116_0)).trans hx116_0
     replace hx116_1:=(HB.out.cell (World.block_lt_of_cell? w _ hx116_1)).trans hx116_1
     replace hx116_2:=(HB.out.cell (World.block_lt_of_cell? w _ hx116_2)).trans hx116_2
     replace hx116_3:=(HB.out.cell (World.block_lt_of_cell? w _ hx116_3)).trans hx116_3
     replace hx116_4:=(HB.out.cell (World.block_lt_of_cell? w _ hx116_4)).trans hx116_4
     replace p116:=eq_true p116
     replace q116:=eq_true q116
     have p117 : 0 ≤ (((za l0 x8_1).f1) : Int):=of_decide_eq_true (by first|(with_reducible assumption)|assumption)
     have q117 : ((za l0 x8_1).f1) < (x7_1.length : Int):=of_decide_eq_true (by first|(with_reducible assumption)|assumption)
     obtain ⟨ad117,e117,hx117_0,hx117_1⟩:=z1W (Kd.zO HO_7.out).2.2 ((za l0 x8_1).f1) p117 q117
     obtain rfl : ad110 = ad117:=(by injection e117)
     replace p117:=eq_true p117
     replace q117:=eq_true q117
     have p118 : 0 ≤ (x8_1 : Int):=of_decide_eq_true (by first|(with_reducible assumption)|assumption)
     have q118 : x8_1 < (l0.length : Int):=of_decide_eq_true (by first|(with_reducible assumption)|assumption)
     obtain ⟨ad118,e118,hx118_0,hx118_1,hx118_2,hx118_3,hx118_4⟩:=z16 HR0.out x8_1 p118 q118
     have hw118_4:=hx118_4
     have hw118_3:=hx118_3
     have hw118_2:=hx118_2
     have hw118_1:=hx118_1
     have hw118_0:=hx118_0
     obtain rfl : ad103 = ad118:=(by injection e118)
     replace hx118_0:=(HB.out.cell (World.block_lt_of_cell? w _ hx118_0)).trans hx118_0
     replace hx118_1:=(HB.out.cell (World.block_lt_of_cell? w _ hx118_1)).trans hx118_1
     replace hx118_2:=(HB.out.cell (World.block_lt_of_cell? w _ hx118_2)).trans hx118_2
     replace hx118_3:=(HB.out.cell (World.block_lt_of_cell? w _ hx118_3)).trans hx118_3
     replace hx118_4:=(HB.out.cell (World.block_lt_of_cell? w _ hx118_4)).trans hx118_4
     replace p118:=eq_true p118
     replace q118:=eq_true q118
     have p119 : 0 ≤ (((za l0 x8_1).f2) : Int):=of_decide_eq_true (by first|(with_reducible assumption)|assumption)
     have q119 : ((za l0 x8_1).f2) < (x7_1.length : Int):=of_decide_eq_true (by first|(with_reducible assumption)|assumption)
     obtain ⟨ad119,e119,hx119_0,hx119_1⟩:=z1W (Kd.zO HO_7.out).2.2 ((za l0 x8_1).f2) p119 q119
     obtain rfl : ad110 = ad119:=(by injection e119)
     replace p119:=eq_true p119
     replace q119:=eq_true q119
     refine start_ (n:=18) (S:=fun w'=>w'.cell? (ad103.add ((x8_1).toNat * 5)) = some (.int .i64 ((za l0 x8_1).f0)) ∧ w'.cell? ⟨(ad103.add ((x8_1).toNat * 5)).block,(ad103.add ((x8_1).toNat * 5)).off + 1,none⟩ = some (.int .i64 ((za l0 x8_1).f1)) ∧ w'.cell? ⟨(ad103.add ((x8_1).toNat * 5)).block,(ad103.add ((x8_1).toNat * 5)).off + 2,none⟩ = some (.int .i64 ((za l0 x8_1).f2)) ∧ w'.cell? ⟨(ad103.add ((x8_1).toNat * 5)).block,(ad103.add ((x8_1).toNat * 5)).off + 3,none⟩ = some (.int .u64 ((za l0 x8_1).f3.f0)) ∧ w'.cell? ⟨(ad103.add ((x8_1).toNat * 5)).block,(ad103.add ((x8_1).toNat * 5)).off + 4,none⟩ = some (.int .u64 ((za l0 x8_1).f3.f1)) ∧ w'.cell? (ad110.add ((((za l0 x8_1).f1)).toNat * 2)) = some (.int .u64 ((zS x7_1 ((za l0 x8_1).f1)).f0)) ∧ w'.cell? ⟨(ad110.add ((((za l0 x8_1).f1)).toNat * 2)).block,(ad110.add ((((za l0 x8_1).f1)).toNat * 2)).off + 1,none⟩ = some (.int .u64 ((zS x7_1 ((za l0 x8_1).f1)).f1)) ∧ w'.cell? (ad103.add ((x8_1).toNat * 5)) = some (.int .i64 ((za l0 x8_1).f0)) ∧ w'.cell? ⟨(ad103.add ((x8_1).toNat * 5)).block,(ad103.add ((x8_1).toNat * 5)).off + 1,none⟩ = some (.int .i64 ((za l0 x8_1).f1)) ∧ w'.cell? ⟨(ad103.add ((x8_1).toNat * 5)).block,(ad103.add ((x8_1).toNat * 5)).off + 2,none⟩ = some (.int .i64 ((za l0 x8_1).f2)) ∧ w'.cell? ⟨(ad103.add ((x8_1).toNat * 5)).block,(ad103.add ((x8_1).toNat * 5)).off + 3,none⟩ = some (.int .u64 ((za l0 x8_1).f3.f0)) ∧ w'.cell? ⟨(ad103.add ((x8_1).toNat * 5)).block,(ad103.add ((x8_1).toNat * 5)).off + 4,none⟩ = some (.int .u64 ((za l0 x8_1).f3.f1)) ∧ w'.cell? (ad110.add ((((za l0 x8_1).f2)).toNat * 2)) = some (.int .u64 ((zS x7_1 ((za l0 x8_1).f2)).f0)) ∧ w'.cell? ⟨(ad110.add ((((za l0 x8_1).f2)).toNat * 2)).block,(ad110.add ((((za l0 x8_1).f2)).toNat * 2)).off + 1,none⟩ = some (.int .u64 ((zS x7_1 ((za l0 x8_1).f2)).f1))) (ds:=[]) #[false,false,false,false,false,false,false,false,false,false,false,false,false,false,false,false,false,false] (by kernel_rfl) rfl rfl ⟨((HB.out.cell (World.block_lt_of_cell? w _ hw116_0)).trans hw116_0),((HB.out.cell (World.block_lt_of_cell? w _ hw116_1)).trans hw116_1),((HB.out.cell (World.block_lt_of_cell? w _ hw116_2)).trans hw116_2),((HB.out.cell (World.block_lt_of_cell? w _ hw116_3)).trans hw116_3),((HB.out.cell (World.block_lt_of_cell? w _ hw116_4)).trans hw116_4),hx117_0,hx117_1,((HB.out.cell (World.block_lt_of_cell? w _ hw118_0)).trans hw118_0),((HB.out.cell (World.block_lt_of_cell? w _ hw118_1)).trans hw118_1),((HB.out.cell (World.block_lt_of_cell? w _ hw118_2)).trans hw118_2),((HB.out.cell (World.block_lt_of_cell? w _ hw118_3)).trans hw118_3),((HB.out.cell (World.block_lt_of_cell? w _ hw118_4)).trans hw118_4),hx119_0,hx119_1⟩ (fun hHeld=>?_);refine z1K zi.tab11 zi.bits11 (fun HT_ HW_=>?_)
     generalize w33.drew = w34 at HO_7 BK101 BK104 HB hx116_0 hx116_1 hx116_2 hx116_3 hx116_4 hx117_0 hx117_1 hx118_0 hx118_1 hx118_2 hx118_3 hx118_4 hx119_0 hx119_1 hHeld ⊢
     refine pure_ (i:=0) (N:=some 63) (v:=?_) (a':=?_) #[true,false,false,false,false,false,false,false,false,false,false,false,false,false,false,false,false,false] rfl rfl (zU HT_.out (by kernel_rfl)) (fun _ _ _ h=>h) (Or.inl ⟨by rfl,?_⟩) ?_ ?_
     rotate_left
     · intro w'
       go_simp
       with_reducible rfl
     rotate_left
     · simp only [Act.put,List.setIfInBounds_toArray,List.set_cons_zero,List.set_cons_succ,zH,zL]
       rfl
     refine pure_ (i:=1) (N:=some 64) (v:=?_) (a':=?_) #[true,true,false,false,false,false,false,false,false,false,false,false,false,false,false,false,false,false] rfl rfl (zU HT_.out (by kernel_rfl)) (fun _ _ _ h=>h) (Or.inl ⟨by rfl,?_⟩) ?_ ?_
     rotate_left
     · intro w'
       go_simp
       with_reducible rfl
     rotate_left
     · simp only [Act.put,List.setIfInBounds_toArray,List.set_cons_zero,List.set_cons_succ,zH,zL]
       rfl
     refine pure_ (i:=2) (N:=some 65) (v:=?_) (a':=?_) #[true,true,true,false,false,false,false,false,false,false,false,false,false,false,false,false,false,false] rfl rfl (zU HT_.out (by kernel_rfl)) (fun _ _ _ h=>h) (Or.inl ⟨by rfl,?_⟩) ?_ ?_
     rotate_left
     · intro w'
       go_simp
       with_reducible rfl
     rotate_left
     · simp only [Act.put,List.setIfInBounds_toArray,List.set_cons_zero,List.set_cons_succ,zH,zL]
       rfl
     refine pure_ (i:=3) (N:=some 66) (v:=?_) (a':=?_) #[true,true,true,true,false,false,false,false,false,false,false,false,false,false,false,false,false,false] rfl rfl (zU HT_.out (by kernel_rfl)) (fun _ _ _ h=>h) (Or.inl ⟨by rfl,?_⟩) ?_ ?_
     rotate_left
     · intro w'
       go_simp
       with_reducible rfl
     rotate_left
     · simp only [Act.put,List.setIfInBounds_toArray,List.set_cons_zero,List.set_cons_succ,zH,zL]
       rfl
     refine pure_ (i:=4) (N:=some 67) (v:=?_) (a':=?_) #[true,true,true,true,true,false,false,false,false,false,false,false,false,false,false,false,false,false] rfl rfl (zU HT_.out (by kernel_rfl)) (fun _ _ _ h=>h) (Or.inl ⟨by rfl,?_⟩) ?_ ?_
     rotate_left
     · intro w'
       go_simp
       with_reducible rfl
     rotate_left
     · simp only [Act.put,List.setIfInBounds_toArray,List.set_cons_zero,List.set_cons_succ,zH,zL]
       rfl
     refine pure_ (i:=8) (N:=some 71) (v:=?_) (a':=?_) #[true,true,true,true,true,false,false,false,true,false,false,false,false,false,false,false,false,false] rfl rfl (zU HT_.out (by kernel_rfl)) (fun _ _ _ h=>h) (Or.inl ⟨by rfl,?_⟩) ?_ ?_
     rotate_left
     · intro w'
       go_simp
       with_reducible rfl
     rotate_left
     · simp only [Act.put,List.setIfInBounds_toArray,List.set_cons_zero,List.set_cons_succ,zH,zL]
       rfl
     refine pure_ (i:=9) (N:=some 72) (v:=?_) (a':=?_) #[true,true,true,true,true,false,false,false,true,true,false,false,false,false,false,false,false,false] rfl rfl (zU HT_.out (by kernel_rfl)) (fun _ _ _ h=>h) (Or.inl ⟨by rfl,?_⟩) ?_ ?_
     rotate_left
     · intro w'
       go_simp
       with_reducible rfl
     rotate_left
     · simp only [Act.put,List.setIfInBounds_toArray,List.set_cons_zero,List.set_cons_succ,zH,zL]
       rfl
     refine pure_ (i:=10) (N:=some 73) (v:=?_) (a':=?_) #[true,true,true,true,true,false,false,false,true,true,true,false,false,false,false,false,false,false] rfl rfl (zU HT_.out (by kernel_rfl)) (fun _ _ _ h=>h) (Or.inl ⟨by rfl,?_⟩) ?_ ?_
     rotate_left
     · intro w'
       go_simp
       with_reducible rfl
     rotate_left
     · simp only [Act.put,List.setIfInBounds_toArray,List.set_cons_zero,List.set_cons_succ,zH,zL]
       rfl
     refine pure_ (i:=11) (N:=some 74) (v:=?_) (a':=?_) #[true,true,true,true,true,false,false,false,true,true,true,true,false,false,false,false,false,false] rfl rfl (zU HT_.out (by kernel_rfl)) (fun _ _ _ h=>h) (Or.inl ⟨by rfl,?_⟩) ?_ ?_
     rotate_left
     · intro w'
       go_simp
       with_reducible rfl
     rotate_left
     · simp only [Act.put,List.setIfInBounds_toArray,List.set_cons_zero,List.set_cons_succ,zH,zL]
       rfl
     refine pure_ (i:=12) (N:=some 75) (v:=?_) (a':=?_) #[true,true,true,true,true,false,false,false,true,true,true,true,true,false,false,false,false,false] rfl rfl (zU HT_.out (by kernel_rfl)) (fun _ _ _ h=>h) (Or.inl ⟨by rfl,?_⟩) ?_ ?_
     rotate_left
     · intro w'
       go_simp
       with_reducible rfl
     rotate_left
     · simp only [Act.put,List.setIfInBounds_toArray,List.set_cons_zero,List.set_cons_succ,zH,zL]
       rfl
     refine take_ (i:=5) (N:=some 68) (v:=?_) (a':=?_) #[true,true,true,true,true,true,false,false,true,true,true,true,true,false,false,false,false,false] rfl rfl (z1c HT_.out HW_.out (by kernel_rfl)) (fun _ _ _ h=>h) (Or.inl ⟨by rfl,?_⟩) hHeld ?_ ?_
     rotate_left
     · rintro w' ⟨s0,s1,s2,s3,s4,s5,s6,s7,s8,s9,s10,s11,s12,s13⟩
       go_simp
       with_reducible rfl
     rotate_left
     · simp only [Act.put,List.setIfInBounds_toArray,List.set_cons_zero,List.set_cons_succ,zH,zL]
       rfl
     refine pure_ (i:=6) (N:=some 69) (v:=?_) (a':=?_) #[true,true,true,true,true,true,true,false,true,true,true,true,true,false,false,false,false,false] rfl rfl (zU HT_.out (by kernel_rfl)) (fun _ _ _ h=>h) (Or.inl ⟨by rfl,?_⟩) ?_ ?_
     rotate_left
     · intro w'
       go_simp
       with_reducible rfl
     rotate_left
     · simp only [Act.put,List.setIfInBounds_toArray,List.set_cons_zero,List.set_cons_succ,zH,zL]
       rfl
     refine take_ (i:=7) (N:=some 70) (v:=?_) (a':=?_) #[true,true,true,true,true,true,true,true,true,true,true,true,true,false,false,false,false,false] rfl rfl (z1c HT_.out HW_.out (by kernel_rfl)) (fun _ _ _ h=>h) (Or.inl ⟨by rfl,?_⟩) hHeld ?_ ?_
     rotate_left
     · rintro w' ⟨s0,s1,s2,s3,s4,s5,s6,s7,s8,s9,s10,s11,s12,s13⟩
       go_simp
       with_reducible rfl
     rotate_left
     · simp only [Act.put,List.setIfInBounds_toArray,List.set_cons_zero,List.set_cons_succ,zH,zL]
       rfl
     refine take_ (i:=13) (N:=some 76) (v:=?_) (a':=?_) #[true,true,true,true,true,true,true,true,true,true,true,true,true,true,false,false,false,false] rfl rfl (z1c HT_.out HW_.out (by kernel_rfl)) (fun _ _ _ h=>h) (Or.inl ⟨by rfl,?_⟩) hHeld ?_ ?_
     rotate_left
     · rintro w' ⟨s0,s1,s2,s3,s4,s5,s6,s7,s8,s9,s10,s11,s12,s13⟩
       go_simp
       with_reducible rfl
     rotate_left
     · simp only [Act.put,List.setIfInBounds_toArray,List.set_cons_zero,List.set_cons_succ,zH,zL]
       rfl
     refine pure_ (i:=14) (N:=some 77) (v:=?_) (a':=?_) #[true,true,true,true,true,true,true,true,true,true,true,true,true,true,true,false,false,false] rfl rfl (zU HT_.out (by kernel_rfl)) (fun _ _ _ h=>h) (Or.inl ⟨by rfl,?_⟩) ?_ ?_
     rotate_left
     · intro w'
       go_simp
       with_reducible rfl
     rotate_left
     · simp only [Act.put,List.setIfInBounds_toArray,List.set_cons_zero,List.set_cons_succ,zH,zL]
       rfl
     refine take_ (i:=15) (N:=some 78) (v:=?_) (a':=?_) #[true,true,true,true,true,true,true,true,true,true,true,true,true,true,true,true,false,false] rfl rfl (z1c HT_.out HW_.out (by kernel_rfl)) (fun _ _ _ h=>h) (Or.inl ⟨by rfl,?_⟩) hHeld ?_ ?_
     rotate_left
     · rintro w' ⟨s0,s1,s2,s3,s4,s5,s6,s7,s8,s9,s10,s11,s12,s13⟩
       go_simp
       with_reducible rfl
     rotate_left
     · simp only [Act.put,List.setIfInBounds_toArray,List.set_cons_zero,List.set_cons_succ,zH,zL]
       rfl
     refine one_ (i:=16) (N:=some 79) #[true,true,true,true,true,true,true,true,true,true,true,true,true,true,true,true,true,false] rfl rfl (z1I HT_.out (by kernel_rfl)) (by decide) (fun K hK=>?_)
     refine goes_ Try.func79 (by kernel_rfl) rfl #[.agg #[.int .u64 ((zS x7_1 ((za l0 x8_1).f1)).f0),.int .u64 ((zS x7_1 ((za l0 x8_1).f1)).f1)],.agg #[.int .u64 ((zS x7_1 ((za l0 x8_1).f2)).f0),.int .u64 ((zS x7_1 ((za l0 x8_1).f2)).f1)]] (by rfl) rfl rfl (by (try simp only [List.map_toArray,List.map_cons,List.map_nil]);first|done|rfl|(simp only [List.length_drop,List.length_take];rfl)) ?_
     with_reducible refine (zh.calls kj7 ((zS x7_1 ((za l0 x8_1).f1)).f0) ((zS x7_1 ((za l0 x8_1).f1)).f1) ((zS x7_1 ((za l0 x8_1).f2)).f0) ((zS x7_1 ((za l0 x8_1).f2)).f1) t120 t121 _ A26.out).mono ?_
     rintro e w35 ⟨rfl,hb⟩
     have HS5_:=(hb.cell (World.block_lt_of_cell? _ _ (hHeld.2.2.2.2.2.1))).trans (hHeld.2.2.2.2.2.1)
     have HS6_:=(hb.cell (World.block_lt_of_cell? _ _ (hHeld.2.2.2.2.2.2.1))).trans (hHeld.2.2.2.2.2.2.1)
     have HS12_:=(hb.cell (World.block_lt_of_cell? _ _ (hHeld.2.2.2.2.2.2.2.2.2.2.2.2.1))).trans (hHeld.2.2.2.2.2.2.2.2.2.2.2.2.1)
     have HS13_:=(hb.cell (World.block_lt_of_cell? _ _ (hHeld.2.2.2.2.2.2.2.2.2.2.2.2.2))).trans (hHeld.2.2.2.2.2.2.2.2.2.2.2.2.2)
     refine ⟨_,rfl,?_⟩
     have n0_:=z7.mk (Kd.zY (by (with_reducible repeat (first|apply Kd.zx|apply Kd.zy|apply Kd.zD));exact HO_7.out) hb)
     have n1_:=z7.mk (zk (g:=gb101) (o:=.cells #[.int .u64 0,.int .u64 0] 61 (0,0)) (by (with_reducible repeat (first|refine z2 ?_ _|refine z5 ?_|refine z1 ?_ _));exact BK101.out) hb)
     have n2_:=z7.mk (zk (g:=gb104) (o:=.cells #[.int .u64 t113,.int .u64 t114] 61 (0,0)) (by (with_reducible repeat (first|refine z2 ?_ _|refine z5 ?_|refine z1 ?_ _));exact BK104.out) hb)
     have n3_:=z7.mk (zg (by repeat (first|(with_reducible first|exact HB.out|apply z4|apply z0|apply z3|refine z9 ?_ GE101.out|refine z9 ?_ GE104.out)|exact HB.out)) hb)
     clear HO_7
     clear BK101
     clear BK104
     clear HB
     have HO_7:=n0_
     have BK101:=n1_
     have BK104:=n2_
     have HB:=n3_
     clear n0_ n1_ n2_ n3_
     (try clear hb)
     (try clear hb2)
     (try clear hk)
     (try clear hi)
     refine hK.out _ _ ⟨((HB.out.cell (World.block_lt_of_cell? w _ hw116_0)).trans hw116_0),((HB.out.cell (World.block_lt_of_cell? w _ hw116_1)).trans hw116_1),((HB.out.cell (World.block_lt_of_cell? w _ hw116_2)).trans hw116_2),((HB.out.cell (World.block_lt_of_cell? w _ hw116_3)).trans hw116_3),((HB.out.cell (World.block_lt_of_cell? w _ hw116_4)).trans hw116_4),HS5_,HS6_,((HB.out.cell (World.block_lt_of_cell? w _ hw118_0)).trans hw118_0),((HB.out.cell (World.block_lt_of_cell? w _ hw118_1)).trans hw118_1),((HB.out.cell (World.block_lt_of_cell? w _ hw118_2)).trans hw118_2),((HB.out.cell (World.block_lt_of_cell? w _ hw118_3)).trans hw118_3),((HB.out.cell (World.block_lt_of_cell? w _ hw118_4)).trans hw118_4),HS12_,HS13_⟩ (fun hHeld=>?_)
     clear hK K
     refine norm_ (a':=?_) ?_ ?_
     rotate_left
     · show Act.put _ (some 79) _ = _
       simp only [Act.put,List.setIfInBounds_toArray,List.set_cons_zero,List.set_cons_succ,zH,zL]
       rfl
     refine one_ (i:=17) (N:=none) #[true,true,true,true,true,true,true,true,true,true,true,true,true,true,true,true,true,true] rfl rfl (z1I HT_.out (by kernel_rfl)) (by decide) (fun K hK=>?_)
     have hs36 : w35.cell? ⟨gb104,0,none⟩ = some (.int .u64 t113):=(zb BK104.out 0).trans rfl
     have hfs36:=z8 BK104.out 0
     have hns36_0:=NB101_104.out
     have hms36_0:=NB104_101.out
     have hs37 : w35.cell? ⟨gb104,1,none⟩ = some (.int .u64 t114):=(zb BK104.out 1).trans rfl
     have hfs37:=z8 BK104.out 1
     have hns37_0:=NB101_104.out
     have hms37_0:=NB104_101.out
     refine skip_ (w1:=?_) (by rfl) rfl ?_ ?_
     rotate_left
     · go_simp
       rfl
     refine hK.out _ _ ⟨((zn (p:=⟨gb104,_,none⟩) (by first|exact Nat.ne_of_lt (Nat.lt_of_lt_of_le (by have:=World.block_lt_of_cell? _ _ hw116_0;first|rwa [z6] at this|exact this) GW104.out)|(rw [z6];exact Nat.ne_of_lt (Nat.lt_of_lt_of_le (by have:=World.block_lt_of_cell? _ _ hw116_0;first|rwa [z6] at this|exact this) GW104.out))|(show (Addr.add _ _).block ≠ _;rw [z6];exact Nat.ne_of_lt (Nat.lt_of_lt_of_le (by have:=World.block_lt_of_cell? _ _ hw116_0;first|rwa [z6] at this|exact this) GW104.out))|(dsimp only;exact Nat.ne_of_lt (Nat.lt_of_lt_of_le (by have:=World.block_lt_of_cell? _ _ hw116_0;first|rwa [z6] at this|exact this) GW104.out))) _).trans (((zn (p:=⟨gb104,_,none⟩) (by first|exact Nat.ne_of_lt (Nat.lt_of_lt_of_le (by have:=World.block_lt_of_cell? _ _ hw116_0;first|rwa [z6] at this|exact this) GW104.out)|(rw [z6];exact Nat.ne_of_lt (Nat.lt_of_lt_of_le (by have:=World.block_lt_of_cell? _ _ hw116_0;first|rwa [z6] at this|exact this) GW104.out))|(show (Addr.add _ _).block ≠ _;rw [z6];exact Nat.ne_of_lt (Nat.lt_of_lt_of_le (by have:=World.block_lt_of_cell? _ _ hw116_0;first|rwa [z6] at this|exact this) GW104.out))|(dsimp only;exact Nat.ne_of_lt (Nat.lt_of_lt_of_le (by have:=World.block_lt_of_cell? _ _ hw116_0;first|rwa [z6] at this|exact this) GW104.out))) _).trans (hHeld.1)))),((zn (p:=⟨gb104,_,none⟩) (by first|exact Nat.ne_of_lt (Nat.lt_of_lt_of_le (by have:=World.block_lt_of_cell? _ _ hw116_1;first|rwa [z6] at this|exact this) GW104.out)|(rw [z6];exact Nat.ne_of_lt (Nat.lt_of_lt_of_le (by have:=World.block_lt_of_cell? _ _ hw116_1;first|rwa [z6] at this|exact this) GW104.out))|(show (Addr.add _ _).block ≠ _;rw [z6];exact Nat.ne_of_lt (Nat.lt_of_lt_of_le (by have:=World.block_lt_of_cell? _ _ hw116_1;first|rwa [z6] at this|exact this) GW104.out))|(dsimp only;exact Nat.ne_of_lt (Nat.lt_of_lt_of_le (by have:=World.block_lt_of_cell? _ _ hw116_1;first|rwa [z6] at this|exact this) GW104.out))) _).trans (((zn (p:=⟨gb104,_,none⟩) (by first|exact Nat.ne_of_lt (Nat.lt_of_lt_of_le (by have:=World.block_lt_of_cell? _ _ hw116_1;first|rwa [z6] at this|exact this) GW104.out)|(rw [z6];exact Nat.ne_of_lt (Nat.lt_of_lt_of_le (by have:=World.block_lt_of_cell? _ _ hw116_1;first|rwa [z6] at this|exact this) GW104.out))|(show (Addr.add _ _).block ≠ _;rw [z6];exact Nat.ne_of_lt (Nat.lt_of_lt_of_le (by have:=World.block_lt_of_cell? _ _ hw116_1;first|rwa [z6] at this|exact this) GW104.out))|(dsimp only;exact Nat.ne_of_lt (Nat.lt_of_lt_of_le (by have:=World.block_lt_of_cell? _ _ hw116_1;first|rwa [z6] at this|exact this) GW104.out))) _).trans (hHeld.2.1)))),((zn (p:=⟨gb104,_,none⟩) (by first|exact Nat.ne_of_lt (Nat.lt_of_lt_of_le (by have:=World.block_lt_of_cell? _ _ hw116_2;first|rwa [z6] at this|exact this) GW104.out)|(rw [z6];exact Nat.ne_of_lt (Nat.lt_of_lt_of_le (by have:=World.block_lt_of_cell? _ _ hw116_2;first|rwa [z6] at this|exact this) GW104.out))|(show (Addr.add _ _).block ≠ _;rw [z6];exact Nat.ne_of_lt (Nat.lt_of_lt_of_le (by have:=World.block_lt_of_cell? _ _ hw116_2;first|rwa [z6] at this|exact this) GW104.out))|(dsimp only;exact Nat.ne_of_lt (Nat.lt_of_lt_of_le (by have:=World.block_lt_of_cell? _ _ hw116_2;first|rwa [z6] at this|exact this) GW104.out))) _).trans (((zn (p:=⟨gb104,_,none⟩) (by first|exact Nat.ne_of_lt (Nat.lt_of_lt_of_le (by have:=World.block_lt_of_cell? _ _ hw116_2;first|rwa [z6] at this|exact this) GW104.out)|(rw [z6];exact Nat.ne_of_lt (Nat.lt_of_lt_of_le (by have:=World.block_lt_of_cell? _ _ hw116_2;first|rwa [z6] at this|exact this) GW104.out))|(show (Addr.add _ _).block ≠ _;rw [z6];exact Nat.ne_of_lt (Nat.lt_of_lt_of_le (by have:=World.block_lt_of_cell? _ _ hw116_2;first|rwa [z6] at this|exact this) GW104.out))|(dsimp only;exact Nat.ne_of_lt (Nat.lt_of_lt_of_le (by have:=World.block_lt_of_cell? _ _ hw116_2;first|rwa [z6] at this|exact this) GW104.out))) _).trans (hHeld.2.2.1)))),((zn (p:=⟨gb104,_,none⟩) (by first|exact Nat.ne_of_lt (Nat.lt_of_lt_of_le (by have:=World.block_lt_of_cell? _ _ hw116_3;first|rwa [z6] at this|exact this) GW104.out)|(rw [z6];exact Nat.ne_of_lt (Nat.lt_of_lt_of_le (by have:=World.block_lt_of_cell? _ _ hw116_3;first|rwa [z6] at this|exact this) GW104.out))|(show (Addr.add _ _).block ≠ _;rw [z6];exact Nat.ne_of_lt (Nat.lt_of_lt_of_le (by have:=World.block_lt_of_cell? _ _ hw116_3;first|rwa [z6] at this|exact this) GW104.out))|(dsimp only;exact Nat.ne_of_lt (Nat.lt_of_lt_of_le (by have:=World.block_lt_of_cell? _ _ hw116_3;first|rwa [z6] at this|exact this) GW104.out))) _).trans (((zn (p:=⟨gb104,_,none⟩) (by first|exact Nat.ne_of_lt (Nat.lt_of_lt_of_le (by have:=World.block_lt_of_cell? _ _ hw116_3;first|rwa [z6] at this|exact this) GW104.out)|(rw [z6];exact Nat.ne_of_lt (Nat.lt_of_lt_of_le (by have:=World.block_lt_of_cell? _ _ hw116_3;first|rwa [z6] at this|exact this) GW104.out))|(show (Addr.add _ _).block ≠ _;rw [z6];exact Nat.ne_of_lt (Nat.lt_of_lt_of_le (by have:=World.block_lt_of_cell? _ _ hw116_3;first|rwa [z6] at this|exact this) GW104.out))|(dsimp only;exact Nat.ne_of_lt (Nat.lt_of_lt_of_le (by have:=World.block_lt_of_cell? _ _ hw116_3;first|rwa [z6] at this|exact this) GW104.out))) _).trans (hHeld.2.2.2.1)))),((zn (p:=⟨gb104,_,none⟩) (by first|exact Nat.ne_of_lt (Nat.lt_of_lt_of_le (by have:=World.block_lt_of_cell? _ _ hw116_4;first|rwa [z6] at this|exact this) GW104.out)|(rw [z6];exact Nat.ne_of_lt (Nat.lt_of_lt_of_le (by have:=World.block_lt_of_cell? _ _ hw116_4;first|rwa [z6] at this|exact this) GW104.out))|(show (Addr.add _ _).block ≠ _;rw [z6];exact Nat.ne_of_lt (Nat.lt_of_lt_of_le (by have:=World.block_lt_of_cell? _ _ hw116_4;first|rwa [z6] at this|exact this) GW104.out))|(dsimp only;exact Nat.ne_of_lt (Nat.lt_of_lt_of_le (by have:=World.block_lt_of_cell? _ _ hw116_4;first|rwa [z6] at this|exact this) GW104.out))) _).trans (((zn (p:=⟨gb104,_,none⟩) (by first|exact Nat.ne_of_lt (Nat.lt_of_lt_of_le (by have:=World.block_lt_of_cell? _ _ hw116_4;first|rwa [z6] at this|exact this) GW104.out)|(rw [z6];exact Nat.ne_of_lt (Nat.lt_of_lt_of_le (by have:=World.block_lt_of_cell? _ _ hw116_4;first|rwa [z6] at this|exact this) GW104.out))|(show (Addr.add _ _).block ≠ _;rw [z6];exact Nat.ne_of_lt (Nat.lt_of_lt_of_le (by have:=World.block_lt_of_cell? _ _ hw116_4;first|rwa [z6] at this|exact this) GW104.out))|(dsimp only;exact Nat.ne_of_lt (Nat.lt_of_lt_of_le (by have:=World.block_lt_of_cell? _ _ hw116_4;first|rwa [z6] at this|exact this) GW104.out))) _).trans (hHeld.2.2.2.2.1)))),((zn (p:=⟨gb104,_,none⟩) (by first|exact Kd.zp (Kd.zt HO_7.out (fun _ hk=>hk.2))|(rw [z6];exact Kd.zp (Kd.zt HO_7.out (fun _ hk=>hk.2)))|(show (Addr.add _ _).block ≠ _;rw [z6];exact Kd.zp (Kd.zt HO_7.out (fun _ hk=>hk.2)))|(dsimp only;exact Kd.zp (Kd.zt HO_7.out (fun _ hk=>hk.2)))) _).trans (((zn (p:=⟨gb104,_,none⟩) (by first|exact Kd.zp (Kd.zt HO_7.out (fun _ hk=>hk.2))|(rw [z6];exact Kd.zp (Kd.zt HO_7.out (fun _ hk=>hk.2)))|(show (Addr.add _ _).block ≠ _;rw [z6];exact Kd.zp (Kd.zt HO_7.out (fun _ hk=>hk.2)))|(dsimp only;exact Kd.zp (Kd.zt HO_7.out (fun _ hk=>hk.2)))) _).trans (hHeld.2.2.2.2.2.1)))),((zn (p:=⟨gb104,_,none⟩) (by first|exact Kd.zp (Kd.zt HO_7.out (fun _ hk=>hk.2))|(rw [z6];exact Kd.zp (Kd.zt HO_7.out (fun _ hk=>hk.2)))|(show (Addr.add _ _).block ≠ _;rw [z6];exact Kd.zp (Kd.zt HO_7.out (fun _ hk=>hk.2)))|(dsimp only;exact Kd.zp (Kd.zt HO_7.out (fun _ hk=>hk.2)))) _).trans (((zn (p:=⟨gb104,_,none⟩) (by first|exact Kd.zp (Kd.zt HO_7.out (fun _ hk=>hk.2))|(rw [z6];exact Kd.zp (Kd.zt HO_7.out (fun _ hk=>hk.2)))|(show (Addr.add _ _).block ≠ _;rw [z6];exact Kd.zp (Kd.zt HO_7.out (fun _ hk=>hk.2)))|(dsimp only;exact Kd.zp (Kd.zt HO_7.out (fun _ hk=>hk.2)))) _).trans (hHeld.2.2.2.2.2.2.1)))),((zn (p:=⟨gb104,_,none⟩) (by first|exact Nat.ne_of_lt (Nat.lt_of_lt_of_le (by have:=World.block_lt_of_cell? _ _ hw118_0;first|rwa [z6] at this|exact this) GW104.out)|(rw [z6];exact Nat.ne_of_lt (Nat.lt_of_lt_of_le (by have:=World.block_lt_of_cell? _ _ hw118_0;first|rwa [z6] at this|exact this) GW104.out))|(show (Addr.add _ _).block ≠ _;rw [z6];exact Nat.ne_of_lt (Nat.lt_of_lt_of_le (by have:=World.block_lt_of_cell? _ _ hw118_0;first|rwa [z6] at this|exact this) GW104.out))|(dsimp only;exact Nat.ne_of_lt (Nat.lt_of_lt_of_le (by have:=World.block_lt_of_cell? _ _ hw118_0;first|rwa [z6] at this|exact this) GW104.out))) _).trans (((zn (p:=⟨gb104,_,none⟩) (by first|exact Nat.ne_of_lt (Nat.lt_of_lt_of_le (by have:=World.block_lt_of_cell? _ _ hw118_0;first|rwa [z6] at this|exact this) GW104.out)|(rw [z6];exact Nat.ne_of_lt (Nat.lt_of_lt_of_le (by have:=World.block_lt_of_cell? _ _ hw118_0;first|rwa [z6] at this|exact this) GW104.out))|(show (Addr.add _ _).block ≠ _;rw [z6];exact Nat.ne_of_lt (Nat.lt_of_lt_of_le (by have:=World.block_lt_of_cell? _ _ hw118_0;first|rwa [z6] at this|exact this) GW104.out))|(dsimp only;exact Nat.ne_of_lt (Nat.lt_of_lt_of_le (by have:=World.block_lt_of_cell? _ _ hw118_0;first|rwa [z6] at this|exact this) GW104.out))) _).trans (hHeld.2.2.2.2.2.2.2.1)))),((zn (p:=⟨gb104,_,none⟩) (by first|exact Nat.ne_of_lt (Nat.lt_of_lt_of_le (by have:=World.block_lt_of_cell? _ _ hw118_1;first|rwa [z6] at this|exact this) GW104.out)|(rw [z6];exact Nat.ne_of_lt (Nat.lt_of_lt_of_le (by have:=World.block_lt_of_cell? _ _ hw118_1;first|rwa [z6] at this|exact this) GW104.out))|(show (Addr.add _ _).block ≠ _;rw [z6];exact Nat.ne_of_lt (Nat.lt_of_lt_of_le (by have:=World.block_lt_of_cell? _ _ hw118_1;first|rwa [z6] at this|exact this) GW104.out))|(dsimp only;exact Nat.ne_of_lt (Nat.lt_of_lt_of_le (by have:=World.block_lt_of_cell? _ _ hw118_1;first|rwa [z6] at this|exact this) GW104.out))) _).trans (((zn (p:=⟨gb104,_,none⟩) (by first|exact Nat.ne_of_lt (Nat.lt_of_lt_of_le (by have:=World.block_lt_of_cell? _ _ hw118_1;first|rwa [z6] at this|exact this) GW104.out)|(rw [z6];exact Nat.ne_of_lt (Nat.lt_of_lt_of_le (by have:=World.block_lt_of_cell? _ _ hw118_1;first|rwa [z6] at this|exact this) GW104.out))|(show (Addr.add _ _).block ≠ _;rw [z6];exact Nat.ne_of_lt (Nat.lt_of_lt_of_le (by have:=World.block_lt_of_cell? _ _ hw118_1;first|rwa [z6] at this|exact this) GW104.out))|(dsimp only;exact Nat.ne_of_lt (Nat.lt_of_lt_of_le (by have:=World.block_lt_of_cell? _ _ hw118_1;first|rwa [z6] at this|exact this) GW104.out))) _).trans (hHeld.2.2.2.2.2.2.2.2.1)))),((zn (p:=⟨gb104,_,none⟩) (by first|exact Nat.ne_of_lt (Nat.lt_of_lt_of_le (by have:=World.block_lt_of_cell? _ _ hw118_2;first|rwa [z6] at this|exact this) GW104.out)|(rw [z6];exact Nat.ne_of_lt (Nat.lt_of_lt_of_le (by have:=World.block_lt_of_cell? _ _ hw118_2;first|rwa [z6] at this|exact this) GW104.out))|(show (Addr.add _ _).block ≠ _;rw [z6];exact Nat.ne_of_lt (Nat.lt_of_lt_of_le (by have:=World.block_lt_of_cell? _ _ hw118_2;first|rwa [z6] at this|exact this) GW104.out))|(dsimp only;exact Nat.ne_of_lt (Nat.lt_of_lt_of_le (by have:=World.block_lt_of_cell? _ _ hw118_2;first|rwa [z6] at this|exact this) GW104.out))) _).trans (((zn (p:=⟨gb104,_,none⟩) (by first|exact Nat.ne_of_lt (Nat.lt_of_lt_of_le (by have:=World.block_lt_of_cell? _ _ hw118_2;first|rwa [z6] at this|exact this) GW104.out)|(rw [z6];exact Nat.ne_of_lt (Nat.lt_of_lt_of_le (by have:=World.block_lt_of_cell? _ _ hw118_2;first|rwa [z6] at this|exact this) GW104.out))|(show (Addr.add _ _).block ≠ _;rw [z6];exact Nat.ne_of_lt (Nat.lt_of_lt_of_le (by have:=World.block_lt_of_cell? _ _ hw118_2;first|rwa [z6] at this|exact this) GW104.out))|(dsimp only;exact Nat.ne_of_lt (Nat.lt_of_lt_of_le (by have:=World.block_lt_of_cell? _ _ hw118_2;first|rwa [z6] at this|exact this) GW104.out))) _).trans (hHeld.2.2.2.2.2.2.2.2.2.1)))),((zn (p:=⟨gb104,_,none⟩) (by first|exact Nat.ne_of_lt (Nat.lt_of_lt_of_le (by have:=World.block_lt_of_cell? _ _ hw118_3;first|rwa [z6] at this|exact this) GW104.out)|(rw [z6];exact Nat.ne_of_lt (Nat.lt_of_lt_of_le (by have:=World.block_lt_of_cell? _ _ hw118_3;first|rwa [z6] at this|exact this) GW104.out))|(show (Addr.add _ _).block ≠ _;rw [z6];exact Nat.ne_of_lt (Nat.lt_of_lt_of_le (by have:=World.block_lt_of_cell? _ _ hw118_3;first|rwa [z6] at this|exact this) GW104.out))|(dsimp only;exact Nat.ne_of_lt (Nat.lt_of_lt_of_le (by have:=World.block_lt_of_cell? _ _ hw118_3;first|rwa [z6] at this|exact this) GW104.out))) _).trans (((zn (p:=⟨gb104,_,none⟩) (by first|exact Nat.ne_of_lt (Nat.lt_of_lt_of_le (by have:=World.block_lt_of_cell? _ _ hw118_3;first|rwa [z6] at this|exact this) GW104.out)|(rw [z6];exact Nat.ne_of_lt (Nat.lt_of_lt_of_le (by have:=World.block_lt_of_cell? _ _ hw118_3;first|rwa [z6] at this|exact this) GW104.out))|(show (Addr.add _ _).block ≠ _;rw [z6];exact Nat.ne_of_lt (Nat.lt_of_lt_of_le (by have:=World.block_lt_of_cell? _ _ hw118_3;first|rwa [z6] at this|exact this) GW104.out))|(dsimp only;exact Nat.ne_of_lt (Nat.lt_of_lt_of_le (by have:=World.block_lt_of_cell? _ _ hw118_3;first|rwa [z6] at this|exact this) GW104.out))) _).trans (hHeld.2.2.2.2.2.2.2.2.2.2.1)))),((zn (p:=⟨gb104,_,none⟩) (by first|exact Nat.ne_of_lt (Nat.lt_of_lt_of_le (by have:=World.block_lt_of_cell? _ _ hw118_4;first|rwa [z6] at this|exact this) GW104.out)|(rw [z6];exact Nat.ne_of_lt (Nat.lt_of_lt_of_le (by have:=World.block_lt_of_cell? _ _ hw118_4;first|rwa [z6] at this|exact this) GW104.out))|(show (Addr.add _ _).block ≠ _;rw [z6];exact Nat.ne_of_lt (Nat.lt_of_lt_of_le (by have:=World.block_lt_of_cell? _ _ hw118_4;first|rwa [z6] at this|exact this) GW104.out))|(dsimp only;exact Nat.ne_of_lt (Nat.lt_of_lt_of_le (by have:=World.block_lt_of_cell? _ _ hw118_4;first|rwa [z6] at this|exact this) GW104.out))) _).trans (((zn (p:=⟨gb104,_,none⟩) (by first|exact Nat.ne_of_lt (Nat.lt_of_lt_of_le (by have:=World.block_lt_of_cell? _ _ hw118_4;first|rwa [z6] at this|exact this) GW104.out)|(rw [z6];exact Nat.ne_of_lt (Nat.lt_of_lt_of_le (by have:=World.block_lt_of_cell? _ _ hw118_4;first|rwa [z6] at this|exact this) GW104.out))|(show (Addr.add _ _).block ≠ _;rw [z6];exact Nat.ne_of_lt (Nat.lt_of_lt_of_le (by have:=World.block_lt_of_cell? _ _ hw118_4;first|rwa [z6] at this|exact this) GW104.out))|(dsimp only;exact Nat.ne_of_lt (Nat.lt_of_lt_of_le (by have:=World.block_lt_of_cell? _ _ hw118_4;first|rwa [z6] at this|exact this) GW104.out))) _).trans (hHeld.2.2.2.2.2.2.2.2.2.2.2.1)))),((zn (p:=⟨gb104,_,none⟩) (by first|exact Kd.zp (Kd.zt HO_7.out (fun _ hk=>hk.2))|(rw [z6];exact Kd.zp (Kd.zt HO_7.out (fun _ hk=>hk.2)))|(show (Addr.add _ _).block ≠ _;rw [z6];exact Kd.zp (Kd.zt HO_7.out (fun _ hk=>hk.2)))|(dsimp only;exact Kd.zp (Kd.zt HO_7.out (fun _ hk=>hk.2)))) _).trans (((zn (p:=⟨gb104,_,none⟩) (by first|exact Kd.zp (Kd.zt HO_7.out (fun _ hk=>hk.2))|(rw [z6];exact Kd.zp (Kd.zt HO_7.out (fun _ hk=>hk.2)))|(show (Addr.add _ _).block ≠ _;rw [z6];exact Kd.zp (Kd.zt HO_7.out (fun _ hk=>hk.2)))|(dsimp only;exact Kd.zp (Kd.zt HO_7.out (fun _ hk=>hk.2)))) _).trans (hHeld.2.2.2.2.2.2.2.2.2.2.2.2.1)))),((zn (p:=⟨gb104,_,none⟩) (by first|exact Kd.zp (Kd.zt HO_7.out (fun _ hk=>hk.2))|(rw [z6];exact Kd.zp (Kd.zt HO_7.out (fun _ hk=>hk.2)))|(show (Addr.add _ _).block ≠ _;rw [z6];exact Kd.zp (Kd.zt HO_7.out (fun _ hk=>hk.2)))|(dsimp only;exact Kd.zp (Kd.zt HO_7.out (fun _ hk=>hk.2)))) _).trans (((zn (p:=⟨gb104,_,none⟩) (by first|exact Kd.zp (Kd.zt HO_7.out (fun _ hk=>hk.2))|(rw [z6];exact Kd.zp (Kd.zt HO_7.out (fun _ hk=>hk.2)))|(show (Addr.add _ _).block ≠ _;rw [z6];exact Kd.zp (Kd.zt HO_7.out (fun _ hk=>hk.2)))|(dsimp only;exact Kd.zp (Kd.zt HO_7.out (fun _ hk=>hk.2)))) _).trans (hHeld.2.2.2.2.2.2.2.2.2.2.2.2.2))))⟩ (fun hHeld=>?_)
     clear hK K
     refine done_ (z27 HT_.out (by kernel_rfl)) ?_
     have hnb38:=NB104_101.out
     have hnc38:=NB101_104.out
     have hcz39_0 : w35.cell? ⟨gb104,0,none⟩ = some (.int .u64 t113):=(zb BK104.out 0).trans rfl
     have hcz39_1 : w35.cell? ⟨gb104,1,none⟩ = some (.int .u64 t114):=(zb BK104.out 1).trans rfl
     have hfz39_0:=z8 BK104.out 0
     have hfz39_1:=z8 BK104.out 1
     try go_wp2_with (first|((with_reducible refine zW (b:=.append) (xs:=#[.tmp 80,.tmp 82]) rfl ?_);at_builtin;refine Kd.z1h k61 (w0:=w) w.heap.size rfl (.tmp 80) (.tmp 82) 43 61 (.agg #[(.int .u64 0),(.int .u64 0)]) 16 rfl Try.underlying43 info61 rfl (by decide) (by omega) (.slice (some ad110) x7_1.length co29) x7_1 (⟨t120,t121⟩ : S61) [.int .u64 t120,.int .u64 t121] (fun k_=>k_ ≠ gb101 ∧ k_ ≠ gb104) (fun _=>False) rfl (by first|(go_simp;done)|(go_simp;rfl)) ?aP (fun _ hk=>hk.elim) ?aF ?aO ?aB ?aS ?aL ?_;(case aP=>exact z2F _ _ _ (⟨t120,t121⟩ : S61));(case aB=>exact (by repeat (first|(with_reducible first|exact HB.out|apply z4|apply z0|apply z3|refine z9 ?_ GE101.out|refine z9 ?_ GE104.out)|exact HB.out)));(case aF=>exact (fun k_ hk=>⟨Kd.freshB (g:=gb101) (o:=.cells #[.int .u64 0,.int .u64 0] 61 (0,0)) (by (with_reducible repeat (first|refine z2 ?_ _|refine z5 ?_|refine z1 ?_ _));refine zs ?_ NB101_104.out _;(with_reducible repeat (first|refine z2 ?_ _|refine z5 ?_|refine z1 ?_ _));refine zs ?_ NB101_104.out _;(with_reducible repeat (first|refine z2 ?_ _|refine z5 ?_|refine z1 ?_ _));exact BK101.out) k_ hk,Kd.freshB (g:=gb104) (o:=.cells #[.int .u64 t120,.int .u64 t121] 61 (0,0)) (by (with_reducible repeat (first|refine z2 ?_ _|refine z5 ?_|refine z1 ?_ _));refine zq (cs:=#[.int .u64 t120,.int .u64 t114]) ?_ 1 _ rfl;(with_reducible repeat (first|refine z2 ?_ _|refine z5 ?_|refine z1 ?_ _));refine zq (cs:=#[.int .u64 t113,.int .u64 t114]) ?_ 0 _ rfl;(with_reducible repeat (first|refine z2 ?_ _|refine z5 ?_|refine z1 ?_ _));exact BK104.out) k_ hk⟩));(case aO=>exact (by (with_reducible repeat (first|apply Kd.zx|apply Kd.zy|apply Kd.zD));exact Kd.z1d (Kd.z1g (p:=⟨gb104,1,none⟩) (Kd.z1g (p:=⟨gb104,0,none⟩) (Kd.z1d HO_7.out (fun k_ hk=>(⟨hk,hk.2⟩ : _ ∧ k_ ≠ gb104))) (fun _ hk=>hk.2) (.int .u64 t120)) (fun _ hk=>hk.2) (.int .u64 t121)) (fun _ hk=>⟨hk.1.1,hk.1.2⟩)));(case aS=>exact (zf (by repeat (first|(with_reducible first|exact HB.out|apply z4|apply z0|apply z3|refine z9 ?_ GE101.out|refine z9 ?_ GE104.out)|exact HB.out))));(case aL=>have:=LMc27.out;omega);intro v123 w40 ho hb hg hat;rw [← Ny122.out] at ho;have n0_:=z7.mk (z1i (g:=gb101) (o:=.cells #[.int .u64 0,.int .u64 0] 61 (0,0)) (by (with_reducible repeat (first|refine z2 ?_ _|refine z5 ?_|refine z1 ?_ _));refine zs ?_ NB101_104.out _;(with_reducible repeat (first|refine z2 ?_ _|refine z5 ?_|refine z1 ?_ _));refine zs ?_ NB101_104.out _;(with_reducible repeat (first|refine z2 ?_ _|refine z5 ?_|refine z1 ?_ _));exact BK101.out) hg (Kd.zt HO_7.out (fun _ hk=>hk.1)));have n1_:=z7.mk (z1i (g:=gb104) (o:=.cells #[.int .u64 t120,.int .u64 t121] 61 (0,0)) (by (with_reducible repeat (first|refine z2 ?_ _|refine z5 ?_|refine z1 ?_ _));refine zq (cs:=#[.int .u64 t120,.int .u64 t114]) ?_ 1 _ rfl;(with_reducible repeat (first|refine z2 ?_ _|refine z5 ?_|refine z1 ?_ _));refine zq (cs:=#[.int .u64 t113,.int .u64 t114]) ?_ 0 _ rfl;(with_reducible repeat (first|refine z2 ?_ _|refine z5 ?_|refine z1 ?_ _));exact BK104.out) hg (Kd.zt HO_7.out (fun _ hk=>hk.2)));have n2_:=z7.mk (hb);have n3_:=z7.mk (ho);clear BK101;clear BK104;clear HB;clear HO_7;have BK101:=n0_;have BK104:=n1_;have HB:=n2_;have HO124:=n3_;clear n0_ n1_ n2_ n3_;clear ho hb hg hat))
     go_roundg kj7
     case measure=>have:=HK1.out;have:=HJ7.out;omega
     case rel=>exact ⟨(y122),(wrap64 (x8_1 + 1)),(by first|rfl|(simp;done)|(simp [*];done)),H',⟨by have:=HK1.out;have:=HJ7.out;omega⟩,⟨by (with_reducible repeat (first|apply Kd.zx|apply Kd.zy|apply Kd.zD));exact Kd.z1d HO124.out (fun _ hk=>hk.1)⟩,⟨by (with_reducible repeat (first|refine z2 ?_ _|refine z5 ?_|refine z1 ?_ _));exact BK101.out⟩,⟨by repeat (first|(with_reducible first|exact HB.out|apply z4|apply z0|apply z3|refine z9 ?_ GE101.out|refine z9 ?_ GE104.out)|exact HB.out)⟩⟩
end Go.Proofs.Ytngcaphdkgihmaa.P
/- Expressions: their degrees, what is wrong with them, their values; the program's and the document's. Own text. -/
namespace Go.Proofs.Ytngcaphdkgihmaa.Sp
open Go.RowKit Go.Proofs.YtngcaphdkgihmaaW.PrintWords Go.Proofs.YtngcaphdkgihmaaW.PrintMore Go.Proofs.Ytngcaphdkgihmaa.P Go.Proofs.Ytngcaphdkgihmaa.Ar Go.Proofs.Ytngcaphdkgihmaa.Tw
set_option linter.unusedVariables false
set_option linter.unusedSimpArgs false
/-- A step. -/
structure St where
  k : Int
  a : Int
  b : Int
  v : E
def st0 : St := ⟨0, 0, 0, 0⟩
def toP (o : St) : S87 := ⟨o.k, o.a, o.b, toS o.v⟩
def toD (o : St) : S114 := ⟨o.k, o.a, o.b, toR o.v⟩
theorem z3X (o : St) : (toP o).f0 = o.k := rfl
theorem z3Y (o : St) : (toP o).f1 = o.a := rfl
theorem z5v (o : St) : (toP o).f2 = o.b := rfl
theorem z4b (o : St) : (toP o).f3.f0 = hi o.v := rfl
theorem z4c (o : St) : (toP o).f3.f1 = lo o.v := rfl
theorem z3W (o : St) : (toD o).f0 = o.k := rfl
theorem z4w (o : St) : (toD o).f1 = o.a := rfl
theorem z5s (o : St) : (toD o).f2 = o.b := rfl
theorem z5t (o : St) : (toD o).f3.f0 = hi o.v := rfl
theorem z5u (o : St) : (toD o).f3.f1 = lo o.v := rfl
theorem rdP (X : List St) (i : Nat) : zd (X.map toP) (i : Int) = toP (X.getD i st0) := by
  unfold zd
  have : toP st0 = z87 := by unfold toP st0; simp only [z4y]; rfl
  rw [Int.toNat_natCast, ← this, List.getD_eq_getElem?_getD, List.getD_eq_getElem?_getD, List.getElem?_map]
  cases X[i]? <;> rfl
theorem rdD (X : List St) (i : Nat) : za (X.map toD) (i : Int) = toD (X.getD i st0) := by
  unfold za
  have : toD st0 = z114 := by unfold toD st0; simp only [z4x]; rfl
  rw [Int.toNat_natCast, ← this, List.getD_eq_getElem?_getD, List.getD_eq_getElem?_getD, List.getElem?_map]
  cases X[i]? <;> rfl
theorem steps_of (l : List S87) (h : ∀ e ∈ l, ((Lit.int .i64 e.f0).wf = true) ∧ ((Lit.int .i64 e.f1).wf = true) ∧ ((Lit.int .i64 e.f2).wf = true) ∧ (((Lit.int .u64 e.f3.f0).wf = true) ∧ ((Lit.int .u64 e.f3.f1).wf = true))) : ∃ X : List St, l = X.map toP := by
  refine ⟨l.map fun e => ⟨e.f0, e.f1, e.f2, el e.f3.f0 e.f3.f1⟩, ?_⟩
  rw [List.map_map]
  conv => lhs; rw [← List.map_id l]
  apply List.map_congr_left
  intro e he
  have := (z5w e.f3 (wf_of (h e he).2.2.2)).symm
  show e = toP ⟨e.f0, e.f1, e.f2, el e.f3.f0 e.f3.f1⟩
  unfold toP
  rw [← this]
/-- A list that grows by what a step says of what is there. -/
def grow {β : Type} (f : St → List β → β) : List St → List β → List β
  | [], l => l
  | o :: t, l => grow f t (l ++ [f o l])
def G {β : Type} (f : St → List β → β) (X : List St) : List β := grow f X []
theorem z3N {β : Type} (f : St → List β → β) : ∀ (X : List St) (o : St) (l : List β), grow f (X ++ [o]) l = grow f X l ++ [f o (grow f X l)]
  | [], o, l => rfl
  | p :: t, o, l => z3N f t o (l ++ [f p l])
theorem z5r {X : List St} {i : Nat} (h : i < X.length) : X.take (i + 1) = X.take i ++ [X.getD i st0] := by
  rw [List.take_succ_eq_append_getElem h]
  have : X.getD i st0 = X[i] := by rw [List.getD_eq_getElem?_getD, List.getElem?_eq_getElem h]; rfl
  rw [this]
theorem G_nil {β : Type} (f : St → List β → β) (X : List St) : G f (X.take 0) = [] := rfl
theorem z2L {β : Type} (f : St → List β → β) {X : List St} {i : Nat} (h : i < X.length) : G f (X.take (i + 1)) = G f (X.take i) ++ [f (X.getD i st0) (G f (X.take i))] := by
  rw [z5r h]; exact z3N f _ _ _
theorem z1y {β : Type} (f : St → List β → β) {X : List St} : ∀ {i : Nat}, i ≤ X.length → (G f (X.take i)).length = i
  | 0, _ => rfl
  | i + 1, h => by rw [z2L f h, List.length_append, z1y f (Nat.le_of_succ_le h)]; rfl
theorem z4e {β : Type} (f : St → List β → β) (d : β) {X : List St} {i : Nat} (h : i < X.length) : (G f (X.take (i + 1))).getD i d = f (X.getD i st0) (G f (X.take i)) := by
  rw [z2L f h, List.getD_eq_getElem?_getD, List.getElem?_append_right (by rw [z1y f (Nat.le_of_lt h)]; exact Nat.le_refl _), z1y f (Nat.le_of_lt h), Nat.sub_self]; rfl
theorem G_mem {β : Type} (f : St → List β → β) (P : β → Prop) {X : List St} {n : Nat} (hn : n ≤ X.length) (h : ∀ i, i < n → (∀ y ∈ G f (X.take i), P y) → P (f (X.getD i st0) (G f (X.take i)))) : ∀ i, i ≤ n → ∀ y ∈ G f (X.take i), P y := by
  intro i
  induction i with
  | zero => intro _ y hy; cases hy
  | succ i ih =>
    intro hi y hy
    rw [z2L f (by omega)] at hy
    rcases List.mem_append.1 hy with h1 | h1
    · exact ih (by omega) y h1
    · rw [List.mem_singleton.1 h1]; exact h i (by omega) (ih (by omega))
/-- Are both of a step's ahead? -/
def AheadS (o : St) (i : Int) : Prop := 0 ≤ o.a ∧ o.a < i ∧ 0 ≤ o.b ∧ o.b < i
instance (o : St) (i : Int) : Decidable (AheadS o i) := by unfold AheadS; infer_instance
def degS (o : St) (ds : List Int) : Int := if o.k = 2 then 1 else if o.k = 3 then mx (rd ds o.a) (rd ds o.b) else if o.k = 4 then rd ds o.a + rd ds o.b else 0
def FormS (o : St) (i : Int) : Prop := (o.k = 1 ∧ o.a = 0 ∧ o.b = 0) ∨ (o.k = 2 ∧ o.b = 0 ∧ o.v = 0) ∨ ((o.k = 3 ∨ o.k = 4) ∧ o.v = 0 ∧ AheadS o i)
instance (o : St) (i : Int) : Decidable (FormS o i) := by unfold FormS; infer_instance
/-- What is wrong with a step, but for its degree. -/
def err0S (L vars : Int) (o : St) (i : Int) : Int := if FormS o i then (if o.k = 1 ∧ ¬ OfS L o.v then 5 else if o.k = 2 ∧ (o.a < 0 ∨ o.a ≥ vars) then 4 else 0) else 3
def errS (L vars : Int) (o : St) (ds : List Int) : Int := if err0S L vars o (ds.length : Int) = 0 then (if degS o ds > 8 then 7 else 0) else err0S L vars o (ds.length : Int)
def chkS (L vars : Int) : List St → List Int → List Int × Int
  | [], ds => (ds, 0)
  | o :: t, ds => if errS L vars o ds = 0 then chkS L vars t (ds ++ [degS o ds]) else ([], errS L vars o ds)
def checkS (L vars : Int) (X : List St) : List Int × Int := if ¬ LvS L ∨ vars < 0 then ([], 1) else if X.length = 0 then ([], 3) else if X.length > 200 then ([], 2) else chkS L vars X []
def Small (ds : List Int) : Prop := ∀ d ∈ ds, 0 ≤ d ∧ d ≤ 8
theorem z2l {ds : List Int} (h : Small ds) (i : Int) : 0 ≤ rd ds i ∧ rd ds i ≤ 8 := by
  unfold rd; rw [List.getD_eq_getElem?_getD]
  cases e : ds[i.toNat]? with
  | none => exact ⟨by decide, by decide⟩
  | some d => exact h d (List.mem_of_getElem? e)
theorem z54 {ds : List Int} (h : Small ds) (o : St) : 0 ≤ degS o ds ∧ degS o ds ≤ 16 := by
  have h1 := z2l h o.a
  have h2 := z2l h o.b
  unfold degS mx
  split
  · omega
  split
  · split <;> omega
  split <;> omega
theorem z4f (o : St) (i : Int) (x y : Int) : z1n.f o.k o.a o.b x y i = some (decide (AheadS o i)) := by
  have ht : AheadS o i → decide (AheadS o i) = true := decide_eq_true
  have hf : ¬ AheadS o i → decide (AheadS o i) = false := decide_eq_false
  unfold z1n.f
  by_cases h1 : o.a ≥ 0
  · rw [if_pos h1]
    by_cases h2 : o.a < i
    · rw [if_pos h2]
      by_cases h3 : o.b ≥ 0
      · rw [if_pos h3]
        by_cases h4 : o.b < i
        · rw [decide_eq_true h4, ht ⟨h1, h2, h3, h4⟩]
        · rw [decide_eq_false h4, hf (fun h => h4 h.2.2.2)]
      · rw [if_neg h3, hf (fun h => h3 h.2.2.1)]
    · rw [if_neg h2, hf (fun h => h2 h.2.1)]
  · rw [if_neg h1, hf (fun h => h1 h.1)]
/-- What step tells. -/
def stepS (L vars : Int) (o : St) (ds : List Int) : Int × Int := if err0S L vars o (ds.length : Int) = 0 then (degS o ds, 0) else (0, err0S L vars o (ds.length : Int))
theorem z2t {L vars : Int} {o : St} {i : Int} (h : FormS o i) : err0S L vars o i = if o.k = 1 ∧ ¬ OfS L o.v then 5 else if o.k = 2 ∧ (o.a < 0 ∨ o.a ≥ vars) then 4 else 0 := if_pos h
theorem z2m {L vars : Int} {o : St} {ds : List Int} (h : ¬ FormS o (ds.length : Int)) : stepS L vars o ds = (0, 3) := by
  unfold stepS err0S; rw [if_neg h]; rfl
theorem z4a (L vars : Int) (o : St) (ds : List Int) (hs : Small ds) (h1 : o.k ≠ 1) (h2 : o.k ≠ 2) (c : Bool) (hc : c = decide (o.k = 3 ∧ o.v = 0 ∧ AheadS o (ds.length : Int))) :
    Ev (fun q => zC.j2 q ds c o.k o.a o.b (hi o.v) (lo o.v) 0 0) (stepS L vars o ds) := by
  refine Ev.step (fun q => by rw [zC.j2]) ?_
  have hfo : FormS o (ds.length : Int) → stepS L vars o ds = (degS o ds, 0) := by
    intro hf
    have he := z2t (L := L) (vars := vars) hf
    rw [if_neg (show ¬ (o.k = 1 ∧ ¬ OfS L o.v) from fun h => h1 h.1), if_neg (show ¬ (o.k = 2 ∧ (o.a < 0 ∨ o.a ≥ vars)) from fun h => h2 h.1)] at he
    exact if_pos he
  by_cases e : o.k = 3 ∧ o.v = 0 ∧ AheadS o (ds.length : Int)
  · rw [decide_eq_true e] at hc
    have hA := e.2.2
    unfold AheadS at hA
    refine Ev.pos hc (Ev.pos hA.1 (Ev.pos hA.2.1 (Ev.pos hA.2.2.1 (Ev.pos hA.2.2.2 (Ev.ret' ?_)))))
    rw [hfo (Or.inr (Or.inr ⟨Or.inl e.1, e.2⟩))]
    unfold degS
    rw [if_neg h2, if_pos e.1]
  · rw [decide_eq_false e] at hc
    refine Ev.neg (by rw [hc]; decide) ?_
    by_cases h4 : o.k = 4
    · refine Ev.pos h4 ?_
      by_cases hv : o.v = 0
      · refine Ev.pos (by rw [z2D, decide_eq_true hv]) (Ev.bnd0 (z4f o _ _ _) ?_)
        by_cases hA : AheadS o (ds.length : Int)
        · have hA' := hA
          unfold AheadS at hA'
          refine Ev.pos (decide_eq_true hA) (Ev.pos hA'.1 (Ev.pos hA'.2.1 (Ev.pos hA'.2.2.1 (Ev.pos hA'.2.2.2 (Ev.ret' ?_)))))
          have r1 := z2l hs o.a
          have r2 := z2l hs o.b
          rw [hfo (Or.inr (Or.inr ⟨Or.inr h4, hv, hA⟩)), z26 (by omega) (by omega)]
          unfold degS
          rw [if_neg h2, if_neg (by omega), if_pos h4]
        · refine Ev.neg (by simpa using hA) (Ev.ret' ?_)
          rw [z2m]
          rintro (h | h | h)
          · exact h1 h.1
          · exact h2 h.1
          · exact hA h.2.2
      · refine Ev.neg (by rw [z2D, decide_eq_false hv]; decide) (Ev.ret' ?_)
        rw [z2m]
        rintro (h | h | h)
        · exact h1 h.1
        · exact h2 h.1
        · exact hv h.2.1
    · refine Ev.neg h4 (Ev.ret' ?_)
      rw [z2m]
      rintro (h | h | ⟨h | h, h'⟩)
      · exact h1 h.1
      · exact h2 h.1
      · exact e ⟨h, h'⟩
      · exact h4 h
theorem z49 (L vars : Int) (o : St) (ds : List Int) (hs : Small ds) (h1 : o.k ≠ 1 ∨ o.a ≠ 0 ∨ o.b ≠ 0) (c : Bool) (hc : c = decide (o.k = 2 ∧ o.b = 0 ∧ o.v = 0)) :
    Ev (fun q => zC.j1 q vars ds c o.k o.a o.b (hi o.v) (lo o.v) 0 0) (stepS L vars o ds) := by
  refine Ev.step (fun q => by rw [zC.j1]) ?_
  by_cases e : o.k = 2 ∧ o.b = 0 ∧ o.v = 0
  · rw [decide_eq_true e] at hc
    have hf : FormS o (ds.length : Int) := Or.inr (Or.inl e)
    have he := z2t (L := L) (vars := vars) hf
    rw [if_neg (by rintro ⟨h, _⟩; omega)] at he
    refine Ev.pos hc ?_
    by_cases ha : o.a < 0
    · refine Ev.pos ha (Ev.ret' ?_)
      rw [if_pos ⟨e.1, Or.inl ha⟩] at he
      unfold stepS; rw [he]; rfl
    · refine Ev.neg ha ?_
      by_cases hb : o.a ≥ vars
      · refine Ev.pos hb (Ev.ret' ?_)
        rw [if_pos ⟨e.1, Or.inr hb⟩] at he
        unfold stepS; rw [he]; rfl
      · refine Ev.neg hb (Ev.ret' ?_)
        rw [if_neg (by rintro ⟨_, h | h⟩ <;> omega)] at he
        unfold stepS degS; rw [he, if_pos rfl, if_pos e.1]
  · rw [decide_eq_false e] at hc
    refine Ev.neg (by rw [hc]; decide) ?_
    by_cases k1 : o.k = 1 ∨ o.k = 2
    · refine Ev.neg (by omega) (Ev.step (fun q => by rw [zC.j2]) (Ev.neg (by decide) (Ev.neg (by omega) (Ev.ret' ?_))))
      rw [z2m]
      rintro (h | h | ⟨h, _⟩)
      · omega
      · exact e h
      · omega
    · have k1' : o.k ≠ 1 := by omega
      have k2' : o.k ≠ 2 := by omega
      by_cases k3 : o.k = 3
      · refine Ev.pos k3 ?_
        by_cases hv : o.v = 0
        · refine Ev.pos (by rw [z2D, decide_eq_true hv]) (Ev.bnd0 (z4f o _ _ _) (z4a L vars o ds hs k1' k2' _ ?_))
          rw [decide_eq_decide]; exact ⟨fun h => ⟨k3, hv, h⟩, fun h => h.2.2⟩
        · refine Ev.neg (by rw [z2D, decide_eq_false hv]; decide) (z4a L vars o ds hs k1' k2' _ ?_)
          symm; rw [decide_eq_false_iff_not]; exact fun h => hv h.2.1
      · refine Ev.neg k3 (z4a L vars o ds hs k1' k2' _ ?_)
        symm; rw [decide_eq_false_iff_not]; exact fun h => k3 h.1
theorem z48 (L vars : Int) (o : St) (ds : List Int) (hs : Small ds) (c : Bool) (hc : c = decide (o.k = 1 ∧ o.a = 0 ∧ o.b = 0)) :
    Ev (fun q => zC.j0 q L vars ds c o.k o.a o.b (hi o.v) (lo o.v) 0 0) (stepS L vars o ds) := by
  refine Ev.step (fun q => by rw [zC.j0]) ?_
  by_cases e : o.k = 1 ∧ o.a = 0 ∧ o.b = 0
  · rw [decide_eq_true e] at hc
    have hf : FormS o (ds.length : Int) := Or.inl e
    have he := z2t (L := L) (vars := vars) hf
    rw [show (if o.k = 2 ∧ (o.a < 0 ∨ o.a ≥ vars) then (4 : Int) else 0) = 0 from if_neg (by rintro ⟨h, _⟩; omega)] at he
    refine Ev.pos hc (Ev.bnd (z4G L o.v) ?_)
    by_cases hv : OfS L o.v
    · refine Ev.pos (decide_eq_true hv) (Ev.ret' ?_)
      rw [if_neg (fun h => h.2 hv)] at he
      unfold stepS degS; rw [he, if_pos rfl, if_neg (by omega), if_neg (by omega), if_neg (by omega)]
    · refine Ev.neg (by simpa using hv) (Ev.ret' ?_)
      rw [if_pos ⟨e.1, hv⟩] at he
      unfold stepS; rw [he]; rfl
  · rw [decide_eq_false e] at hc
    refine Ev.neg (by rw [hc]; decide) ?_
    have h1 : o.k ≠ 1 ∨ o.a ≠ 0 ∨ o.b ≠ 0 := by
      by_cases g1 : o.k = 1
      · by_cases g2 : o.a = 0
        · exact Or.inr (Or.inr fun g3 => e ⟨g1, g2, g3⟩)
        · exact Or.inr (Or.inl g2)
      · exact Or.inl g1
    by_cases k2 : o.k = 2
    · refine Ev.pos k2 ?_
      by_cases hb : o.b = 0
      · refine Ev.pos hb (z49 L vars o ds hs h1 _ ?_)
        rw [z2D, decide_eq_decide]; exact ⟨fun h => ⟨k2, hb, h⟩, fun h => h.2.2⟩
      · refine Ev.neg hb (z49 L vars o ds hs h1 _ ?_)
        symm; rw [decide_eq_false_iff_not]; exact fun h => hb h.2.1
    · refine Ev.neg k2 (z49 L vars o ds hs h1 _ ?_)
      symm; rw [decide_eq_false_iff_not]; exact fun h => k2 h.1
theorem step_ev (L vars : Int) (o : St) (ds : List Int) (hs : Small ds) : Ev (fun q => zC.f q L vars o.k o.a o.b (hi o.v) (lo o.v) ds) (stepS L vars o ds) := by
  unfold zC.f
  by_cases k1 : o.k = 1
  · refine Ev.pos k1 ?_
    by_cases ha : o.a = 0
    · refine Ev.pos ha (z48 L vars o ds hs _ ?_)
      rw [Bool.eq_iff_iff, beq_iff_eq, decide_eq_true_eq]; exact ⟨fun h => ⟨k1, ha, h⟩, fun h => h.2.2⟩
    · refine Ev.neg ha (z48 L vars o ds hs _ ?_)
      symm; rw [decide_eq_false_iff_not]; exact fun h => ha h.2.1
  · refine Ev.neg k1 (z48 L vars o ds hs _ ?_)
    symm; rw [decide_eq_false_iff_not]; exact fun h => k1 h.1
theorem z2s {X : List St} {i : Nat} (h : i < X.length) : X.drop i = X.getD i st0 :: X.drop (i + 1) := by
  rw [List.drop_eq_getElem_cons h]
  have : X.getD i st0 = X[i] := by rw [List.getD_eq_getElem?_getD, List.getElem?_eq_getElem h]; rfl
  rw [this]
theorem z4K {ds : List Int} {d : Int} (h : Small ds) (h0 : 0 ≤ d) (h8 : d ≤ 8) : Small (ds ++ [d]) := by
  intro x hx
  rcases List.mem_append.1 hx with h1 | h1
  · exact h x h1
  · rw [List.mem_singleton.1 h1]; exact ⟨h0, h8⟩
theorem z3p (L vars : Int) (X : List St) (ds : List Int) (d e : Int) (i : Nat) (c : Bool) (hX : X.length ≤ 1000000) (hl : ds.length ≤ 1000000) (hi' : i < X.length) (hc : c = decide (e = 0 ∧ d > 8)) (r : List Int × Int) (he : e ≠ 0 → r = ([], e)) (h7 : e = 0 → d > 8 → r = ([], 7))
    (ih : e = 0 → ¬ d > 8 → Ev (fun q => zu.l0 q L vars (ds ++ [d]) (X.map toP) ((X.length : Nat) : Int) ((i + 1 : Nat) : Int)) r) :
    Ev (fun q => zu.j2 q L vars ds d e (X.map toP) ((X.length : Nat) : Int) (i : Int) c) r := by
  refine Ev.step (fun q => by rw [zu.j2]) ?_
  by_cases g : e = 0 ∧ d > 8
  · rw [decide_eq_true g] at hc
    exact Ev.pos hc (Ev.ret' (h7 g.1 g.2).symm)
  · rw [decide_eq_false g] at hc
    refine Ev.neg (by rw [hc]; decide) ?_
    by_cases g0 : e = 0
    · refine Ev.pos g0 (Ev.pos (by omega) ?_)
      rw [z1z hi' (by omega)]
      exact ih g0 (fun h => g ⟨g0, h⟩)
    · exact Ev.neg g0 (Ev.ret' (he g0).symm)
theorem z4F (L vars : Int) (X : List St) (hX : X.length ≤ 1000000) : ∀ (d i : Nat) (ds : List Int), i + d = X.length → ds.length = i → Small ds → Ev (fun q => zu.l0 q L vars ds (X.map toP) ((X.length : Nat) : Int) (i : Int)) (chkS L vars (X.drop i) ds) := by
  intro d
  induction d with
  | zero =>
    intro i ds hi _ _
    refine Ev.step (fun q => by rw [zu.l0]) (Ev.neg (by omega) (Ev.ret' ?_))
    rw [List.drop_eq_nil_of_le (by omega)]; rfl
  | succ d ih =>
    intro i ds hi hl hs
    have hi' : i < X.length := by omega
    refine Ev.step (fun q => by rw [zu.l0]) (Ev.pos (by omega) (Ev.pos (Int.natCast_nonneg _) (Ev.pos (by rw [List.length_map]; omega) ?_)))
    simp only [rdP, z3X, z3Y, z5v, z4b, z4c]
    refine Ev.bnd (step_ev L vars _ ds hs) ?_
    rw [z2s hi']
    have hb := z54 hs (X.getD i st0)
    by_cases e : err0S L vars (X.getD i st0) (ds.length : Int) = 0
    · have es : stepS L vars (X.getD i st0) ds = (degS (X.getD i st0) ds, 0) := if_pos e
      rw [es]
      refine Ev.pos (by rfl) (z3p L vars X ds _ _ i _ hX (by omega) hi' (by simp) _ (fun h => absurd rfl h) ?_ ?_)
      · intro _ h8
        have : errS L vars (X.getD i st0) ds = 7 := by unfold errS; rw [if_pos e, if_pos h8]
        unfold chkS; rw [this]; rfl
      · intro _ h8
        have : errS L vars (X.getD i st0) ds = 0 := by unfold errS; rw [if_pos e, if_neg h8]
        unfold chkS; rw [if_pos this]
        have h8' : degS (X.getD i st0) ds ≤ 8 := by
          have h8'' : ¬ (degS (X.getD i st0) ds > 8) := h8
          omega
        exact ih (i + 1) _ (by omega) (by rw [List.length_append, hl]; rfl) (z4K hs hb.1 h8')
    · have es : stepS L vars (X.getD i st0) ds = (0, err0S L vars (X.getD i st0) (ds.length : Int)) := if_neg e
      have er : errS L vars (X.getD i st0) ds = err0S L vars (X.getD i st0) (ds.length : Int) := if_neg e
      rw [es]
      refine Ev.neg e (z3p L vars X ds _ _ i _ hX (by omega) hi' ?_ _ ?_ (fun h => absurd h e) (fun h => absurd h e))
      · symm; rw [decide_eq_false_iff_not]; exact fun h => e h.1
      · intro _
        unfold chkS; rw [er, if_neg e]
theorem z3o (L vars : Int) (X : List St) : Ev (fun q => zu.f q L vars (X.map toP)) (checkS L vars X) := by
  unfold zu.f
  have hj : ∀ c : Bool, c = decide (¬ LvS L ∨ vars < 0) → Ev (fun q => zu.j0 q L vars (X.map toP) c) (checkS L vars X) := by
    intro c hc
    refine Ev.step (fun q => by rw [zu.j0]) ?_
    unfold checkS
    by_cases g : ¬ LvS L ∨ vars < 0
    · rw [if_pos g]; rw [decide_eq_true g] at hc
      exact Ev.pos hc (Ev.ret _)
    · rw [if_neg g]; rw [decide_eq_false g] at hc
      refine Ev.neg (by rw [hc]; decide) ?_
      rw [List.length_map]
      by_cases g0 : X.length = 0
      · rw [if_pos g0]; exact Ev.pos (by omega) (Ev.ret _)
      rw [if_neg g0]
      refine Ev.neg (by omega) ?_
      by_cases g2 : X.length > 200
      · rw [if_pos g2]; exact Ev.pos (by omega) (Ev.ret _)
      rw [if_neg g2]
      refine Ev.neg (by omega) ?_
      exact z4F L vars X (by omega) X.length 0 [] (by omega) rfl (fun d h => by cases h)
  by_cases g : LvS L
  · obtain ⟨v, hv, hw⟩ := wide_in g
    refine Ev.bnd hw (Ev.neg hv (hj _ ?_))
    rw [decide_eq_decide]; exact ⟨Or.inr, fun h => h.resolve_left (fun h => h g)⟩
  · refine Ev.bnd (wide_out g) (Ev.pos rfl (hj _ ?_))
    symm; rw [decide_eq_true_eq]; exact Or.inl g
theorem z4d (L vars : Int) (X : List St) : Ev (fun q => z15.f q L vars (X.map toP)) (checkS L vars X).2 := by
  unfold z15.f
  exact Ev.bnd (z3o L vars X) (Ev.ret _)
/-- Nothing is wrong up to a step. -/
def OkS (L vars : Int) (X : List St) (n : Nat) : Prop := ∀ i, i < n → errS L vars (X.getD i st0) (G degS (X.take i)) = 0
theorem z5j (L vars : Int) (X : List St) : OkS L vars X 0 := fun i h => by omega
theorem z5i {L vars : Int} {X : List St} {n : Nat} (h : OkS L vars X n) (h' : errS L vars (X.getD n st0) (G degS (X.take n)) = 0) : OkS L vars X (n + 1) := by
  intro i hi
  by_cases e : i = n
  · rw [e]; exact h'
  · exact h i (by omega)
theorem z2i {L vars : Int} {o : St} {ds : List Int} (h : errS L vars o ds = 0) : FormS o (ds.length : Int) ∧ degS o ds ≤ 8 ∧ (o.k = 1 → OfS L o.v) ∧ (o.k = 2 → 0 ≤ o.a ∧ o.a < vars) := by
  unfold errS at h
  by_cases e : err0S L vars o (ds.length : Int) = 0
  · rw [if_pos e] at h
    by_cases g : degS o ds > 8
    · rw [if_pos g] at h; exact absurd h (by decide)
    unfold err0S at e
    by_cases f : FormS o (ds.length : Int)
    · rw [if_pos f] at e
      by_cases f1 : o.k = 1 ∧ ¬ OfS L o.v
      · rw [if_pos f1] at e; exact absurd e (by decide)
      rw [if_neg f1] at e
      by_cases f2 : o.k = 2 ∧ (o.a < 0 ∨ o.a ≥ vars)
      · rw [if_pos f2] at e; exact absurd e (by decide)
      refine ⟨f, by omega, fun h1 => Decidable.not_not.1 (fun h2 => f1 ⟨h1, h2⟩), fun h1 => ?_⟩
      by_cases h2 : o.a < 0 ∨ o.a ≥ vars
      · exact absurd ⟨h1, h2⟩ f2
      · omega
    · rw [if_neg f] at e; exact absurd e (by decide)
  · rw [if_neg e] at h; exact absurd h e
theorem ok_small {L vars : Int} {X : List St} {n : Nat} (hn : n ≤ X.length) (h : OkS L vars X n) : Small (G degS (X.take n)) :=
  G_mem degS (fun d => 0 ≤ d ∧ d ≤ 8) hn (fun i hi hs => ⟨(z54 hs _).1, (z2i (h i hi)).2.1⟩) n (Nat.le_refl n)
theorem z1E {o : St} {i : Int} (h : FormS o i) (hk : o.k > 2) : AheadS o i := by
  rcases h with h | h | h
  · omega
  · omega
  · exact h.2.2
theorem z2u {o : St} {i : Int} (h : FormS o i) : o.k = 1 ∨ o.k = 2 ∨ o.k = 3 ∨ o.k = 4 := by
  rcases h with h | h | h <;> omega
/-- Where the check ends well, nothing is wrong, and the degrees are those of all steps. -/
theorem chk_ok {L vars : Int} {X : List St} : ∀ (d i : Nat), i + d = X.length → OkS L vars X i → (chkS L vars (X.drop i) (G degS (X.take i))).2 = 0 → OkS L vars X X.length ∧ (chkS L vars (X.drop i) (G degS (X.take i))).1 = G degS X := by
  intro d
  induction d with
  | zero =>
    intro i hi hk h
    have : i = X.length := by omega
    subst this
    rw [List.drop_eq_nil_of_le (Nat.le_refl _), List.take_of_length_le (Nat.le_refl _)]
    exact ⟨hk, rfl⟩
  | succ d ih =>
    intro i hi hk h
    have hi' : i < X.length := by omega
    rw [z2s hi'] at h ⊢
    unfold chkS at h ⊢
    by_cases e : errS L vars (X.getD i st0) (G degS (X.take i)) = 0
    · rw [if_pos e] at h ⊢
      rw [← z2L degS hi'] at h ⊢
      exact ih (i + 1) (by omega) (z5i hk e) h
    · rw [if_neg e] at h
      exact absurd h e
theorem z3y {L vars : Int} {X : List St} (h : (checkS L vars X).2 = 0) : LvS L ∧ 0 ≤ vars ∧ 0 < X.length ∧ X.length ≤ 200 ∧ OkS L vars X X.length ∧ (checkS L vars X).1 = G degS X := by
  unfold checkS at h ⊢
  by_cases g : ¬ LvS L ∨ vars < 0
  · rw [if_pos g] at h; exact absurd h (by decide)
  rw [if_neg g] at h ⊢
  by_cases g0 : X.length = 0
  · rw [if_pos g0] at h; exact absurd h (by decide)
  rw [if_neg g0] at h ⊢
  by_cases g2 : X.length > 200
  · rw [if_pos g2] at h; exact absurd h (by decide)
  rw [if_neg g2] at h ⊢
  have := chk_ok (L := L) (vars := vars) (X := X) X.length 0 (by omega) (z5j _ _ _) h
  exact ⟨Decidable.not_not.1 fun h => g (Or.inl h), by omega, by omega, by omega, this⟩
theorem chk_err {L vars : Int} : ∀ {X : List St} {ds : List Int}, (chkS L vars X ds).2 ≠ 0 → (chkS L vars X ds).1 = []
  | [], ds, h => absurd rfl h
  | o :: t, ds, h => by
    unfold chkS at h ⊢
    by_cases e : errS L vars o ds = 0
    · rw [if_pos e] at h ⊢; exact chk_err h
    · rw [if_neg e]
end Go.Proofs.Ytngcaphdkgihmaa.Sp

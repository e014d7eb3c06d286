/- Own text: merged by wip/tools/pack.py out of what the law SpanMaps reaches. -/
import Derived.Test.YtnhbdhgbmjcjdaaMSpanMapsb
namespace Go.Proofs.Ytnhbdhgbmjcjdaa.P
open Go.RowKit Go.Proofs.YtnhbdhgbmjcjdaaW.PrintWords Go.Proofs.YtnhbdhgbmjcjdaaW.PrintLast Go.Proofs.YtnhbdhgbmjcjdaaW.PrintMore
attribute [local go_sem] z10 z12 z1h z1i zQ zR z11 z13   -- for this text's walks alone
set_option linter.unusedVariables false
set_option linter.unusedSimpArgs false
def zN.l0 : Nat → List (S35) → Int → Int → Int → Int → Int → Int → Option (Int × Int)
 | 0,_,_,_,_,_,_,_=>none
 | k + 1,x8,x9,x10,x102000,x102001,x104000,x104001=>if x10 < x9 then (if 0 ≤ x10 then (if x10 < (x8.length : Int) then ((z1d.f k x102000 x102001 x10).bind fun t106=>(if t106 = true then ((z1t.f x104000 x104001 ((rd_T35 x8 x10).f0) ((rd_T35 x8 x10).f1)).bind fun bt107=>(zN.l0 k x8 x9 (wrap64 (x10 + 1)) x102000 x102001 bt107.1 bt107.2)) else (zN.l0 k x8 x9 (wrap64 (x10 + 1)) x102000 x102001 x104000 x104001))) else (none)) else (none)) else (some (x104000,x104001))
def zN.f (k : Nat) (l0 : List (S35)) (a1_0 : Int) (a1_1 : Int) : Option (Int × Int):=zN.l0 k l0 (l0.length : Int) 0 a1_0 a1_1 0 0
theorem zN.zY : ∀ k,(∀ y0 y1 y2 y3 y4 y5 y6,LeO (zN.l0 k y0 y1 y2 y3 y4 y5 y6) (zN.l0 (k + 1) y0 y1 y2 y3 y4 y5 y6))
 | 0=>fun _ _ _ _ _ _ _ r h=>by simp [zN.l0] at h
 | k + 1=>by
  have ih0:=zN.zY k
  · intro y0 y1 y2 y3 y4 y5 y6
    unfold zN.l0
    repeat' first
    | (with_reducible exact ih0 _ _ _ _ _ _ _)
    | (with_reducible exact z1d.mono _ _ _ _)
    | (with_reducible exact LeO.refl _)
    | (with_reducible exact LeO.none _)
    | (with_reducible refine LeO.ite ?_ ?_)
    | (with_reducible refine LeO.bind ?_ (fun _=>?_))
    | exact ih0 _ _ _ _ _ _ _
    | exact z1d.mono _ _ _ _
    | exact LeO.none _
    | refine LeO.ite ?_ ?_
    | refine LeO.bind ?_ (fun _=>?_)
theorem zN.mono : ∀ a0 a1 a2 k,LeO (zN.f k a0 a1 a2) (zN.f (k + 1) a0 a1 a2):=by
 intro a0 a1 a2 k
 have ih0:=zN.zY k
 unfold zN.f
 repeat' first
  | (with_reducible exact ih0 _ _ _ _ _ _ _)
  | (with_reducible exact z1d.mono _ _ _ _)
  | (with_reducible exact LeO.refl _)
  | (with_reducible exact LeO.none _)
  | (with_reducible refine LeO.ite ?_ ?_)
  | (with_reducible refine LeO.bind ?_ (fun _=>?_))
  | exact ih0 _ _ _ _ _ _ _
  | exact z1d.mono _ _ _ _
  | exact LeO.none _
  | refine LeO.ite ?_ ?_
  | refine LeO.bind ?_ (fun _=>?_)
set_option maxHeartbeats 8000000 in
set_option maxRecDepth 100000 in
theorem zN.calls (k : Nat) (A0 : Option Addr) (c0 : Nat) (l0 : List (S35)) (a1_0 : Int) (a1_1 : Int) (r1 : Int) (r2 : Int) (w : World) (hr0 : Kd.C k35 w A0 l0.length l0) (hc0 : l0.length ≤ c0) (h : zN.f k l0 a1_0 a1_1 = some (r1,r2)) :
 Calls Try.prog 50 #[.slice A0 l0.length c0,.agg #[.int .u64 a1_0,.int .u64 a1_1]] w fun e w'=>e = .returned (.agg #[.int .u64 r1,.int .u64 r2]) ∧ Below w.heap.size w w':=by
 have hu35:=Try.underlying35
 have HR0:=z1.mk hr0
 have HC0:=z1.mk hc0
 clear hr0 hc0
 have HB:=z1.mk (Below.refl w.heap.size w)
 have H : (zN.l0 k l0 (l0.length : Int) 0 a1_0 a1_1 0 0) = some (r1,r2):=h
 clear h
 have H':=z1.mk H
 clear H
 go_enter Try.func50,Try.ntmps50
 go_wp2_with (first|((with_reducible refine zE (N:=3) rfl ?_);refine zC ?hg (N:=3) ?hd (cs:=#[.int .u64 a1_0,.int .u64 a1_1]) (t:=35) ?hr ?_;(case hd=>rfl);(case hg=>rfl);(case hr=>first|(go_simp;done)|(go_simp;rfl));intro gb101 hg w3 hbox hb;have n0_:=z1.mk (ze zz47 hb);have n1_:=z1.mk (hbox);have n2_:=z1.mk ((by rw [hg];exact (zf zz47) : w.heap.size ≤ gb101));have n3_:=z1.mk ((by rw [hg];exact (zf zz47) : w.heap.size ≤ gb101));clear HB;have HB:=n0_;have BK101:=n1_;have GW101:=n2_;have GE101:=n3_;clear n0_ n1_ n2_ n3_;clear hb hbox hg)|((with_reducible refine zE (N:=4) rfl ?_);refine zC ?hg (N:=4) ?hd (cs:=#[.int .u64 0,.int .u64 0]) (t:=35) ?hr ?_;(case hd=>rfl);(case hg=>rfl);(case hr=>first|(go_simp;done)|(go_simp;rfl));intro gb102 hg w4 hbox hb;have n0_:=z1.mk (z9 (g:=gb101) (o:=.cells #[.int .u64 a1_0,.int .u64 a1_1] 35 (0,0)) zz49 hb);have n1_:=z1.mk (ze zz41 hb);have n2_:=z1.mk (hbox);have n3_:=z1.mk ((by rw [hg];exact (zf zz41) : w.heap.size ≤ gb102));have n4_:=z1.mk ((by rw [hg];exact (zf zz41) : w.heap.size ≤ gb102));have n5_:=z1.mk ((by rw [hg];exact Nat.ne_of_lt (zw (g:=gb101) (o:=.cells #[.int .u64 a1_0,.int .u64 a1_1] 35 (0,0)) zz49) : gb101 ≠ gb102));have n6_:=z1.mk ((by rw [hg];exact Nat.ne_of_gt (zw (g:=gb101) (o:=.cells #[.int .u64 a1_0,.int .u64 a1_1] 35 (0,0)) zz49) : gb102 ≠ gb101));clear BK101;clear HB;have BK101:=n0_;have HB:=n1_;have BK102:=n2_;have GW102:=n3_;have GE102:=n4_;have NB101_102:=n5_;have NB102_101:=n6_;clear n0_ n1_ n2_ n3_ n4_ n5_ n6_;clear hb hbox hg)|((with_reducible refine zE (N:=5) rfl ?_);refine zC ?hg (N:=5) ?hd (cs:=#[.int .u64 0,.int .u64 0]) (t:=35) ?hr ?_;(case hd=>rfl);(case hg=>rfl);(case hr=>first|(go_simp;done)|(go_simp;rfl));intro gb103 hg w5 hbox hb;have n0_:=z1.mk (z9 (g:=gb101) (o:=.cells #[.int .u64 a1_0,.int .u64 a1_1] 35 (0,0)) zz49 hb);have n1_:=z1.mk (z9 (g:=gb102) (o:=.cells #[.int .u64 0,.int .u64 0] 35 (0,0)) zz50 hb);have n2_:=z1.mk (ze zz36 hb);have n3_:=z1.mk (hbox);have n4_:=z1.mk ((by rw [hg];exact (zf zz36) : w.heap.size ≤ gb103));have n5_:=z1.mk ((by rw [hg];exact (zf zz36) : w.heap.size ≤ gb103));have n6_:=z1.mk ((by rw [hg];exact Nat.ne_of_lt (zw (g:=gb101) (o:=.cells #[.int .u64 a1_0,.int .u64 a1_1] 35 (0,0)) zz49) : gb101 ≠ gb103));have n7_:=z1.mk ((by rw [hg];exact Nat.ne_of_gt (zw (g:=gb101) (o:=.cells #[.int .u64 a1_0,.int .u64 a1_1] 35 (0,0)) zz49) : gb103 ≠ gb101));have n8_:=z1.mk ((by rw [hg];exact Nat.ne_of_lt (zw (g:=gb102) (o:=.cells #[.int .u64 0,.int .u64 0] 35 (0,0)) zz50) : gb102 ≠ gb103));have n9_:=z1.mk ((by rw [hg];exact Nat.ne_of_gt (zw (g:=gb102) (o:=.cells #[.int .u64 0,.int .u64 0] 35 (0,0)) zz50) : gb103 ≠ gb102));clear BK101;clear BK102;clear HB;have BK101:=n0_;have BK102:=n1_;have HB:=n2_;have BK103:=n3_;have GW103:=n4_;have GE103:=n5_;have NB101_103:=n6_;have NB103_101:=n7_;have NB102_103:=n8_;have NB103_102:=n9_;clear n0_ n1_ n2_ n3_ n4_ n5_ n6_ n7_ n8_ n9_;clear hb hbox hg))
 go_loopg [10] k (fun kq v10 w'=>∃ (x10_1 : Int) (x104000_1 : Int) (x104001_1 : Int),v10 = .int .i64 x10_1 ∧ z1 (zN.l0 kq l0 (l0.length : Int) x10_1 a1_0 a1_1 x104000_1 x104001_1 = some (r1,r2)) ∧ z1 (kq ≤ k) ∧ z1 (w'.heap[gb101]? = some (.cells #[.int .u64 a1_0,.int .u64 a1_1] 35 (0,0))) ∧ z1 (w'.heap[gb102]? = some (.cells #[.int .u64 0,.int .u64 0] 35 (0,0))) ∧ z1 (w'.heap[gb103]? = some (.cells #[.int .u64 x104000_1,.int .u64 x104001_1] 35 (0,0))) ∧ z1 (Below w.heap.size w w'))
 case atStart=>exact ⟨(0),(0),(0),zz82,H',⟨Nat.le_refl _⟩,⟨by (with_reducible repeat (first|refine z8 ?_ _|refine zb ?_|refine z7 ?_ _));exact BK101.out⟩,⟨by (with_reducible repeat (first|refine z8 ?_ _|refine zb ?_|refine z7 ?_ _));exact BK102.out⟩,⟨by (with_reducible repeat (first|refine z8 ?_ _|refine zb ?_|refine z7 ?_ _));exact BK103.out⟩,⟨by repeat (first|(with_reducible first|exact HB.out|apply zd|apply z3|apply zc|refine za ?_ GE101.out|refine za ?_ GE102.out|refine za ?_ GE103.out)|exact HB.out)⟩⟩
 case round =>
  clear H'
  (try clear p2);(try clear c5)
  obtain ⟨x10_1,x104000_1,x104001_1,rfl,HA,HK1,BK101,BK102,BK103,HB⟩:=hrel
  cases gk with
  | zero=>exact absurd HA.out (by simp [zN.l0])
  | succ k1 =>
   have H:=HA.out
   clear HA
   simp only [zN.l0] at H
   by_cases c6 : x10_1 < (l0.length : Int)
   rotate_left
   · rw [if_neg c6] at H
     have c6b0 : decide (x10_1 < (l0.length : Int)) = false:=decide_eq_false c6
     clear c6
     simp only [Option.some.injEq,Prod.mk.injEq] at H
     obtain ⟨rfl,rfl⟩:=H
     have hnb35:=NB103_101.out
     have hnc35:=NB101_103.out
     have hnb36:=NB103_102.out
     have hnc36:=NB102_103.out
     have hcz37_0 : wr.cell? ⟨gb103,0,none⟩ = some (.int .u64 x104000_1):=(z5 BK103.out 0).trans rfl
     have hcz37_1 : wr.cell? ⟨gb103,1,none⟩ = some (.int .u64 x104001_1):=(z5 BK103.out 1).trans rfl
     have hfz37_0:=z4 BK103.out 0
     have hfz37_1:=z4 BK103.out 1
     have hnb38:=NB102_101.out
     have hnc38:=NB101_102.out
     have hcz39_0 : wr.cell? ⟨gb102,0,none⟩ = some (.int .u64 0):=(z5 BK102.out 0).trans rfl
     have hcz39_1 : wr.cell? ⟨gb102,1,none⟩ = some (.int .u64 0):=(z5 BK102.out 1).trans rfl
     have hfz39_0:=z4 BK102.out 0
     have hfz39_1:=z4 BK102.out 1
     go_wp2
     refine bodyPost_ret (results_cell_row rfl _ _ gb102 35 #[.int .u64 x104000_1,.int .u64 x104001_1] (0,0) _ rfl zz3 Try.underlying35 rfl zz84) rfl ?_
     exact ⟨by first|rfl|(simp [zi,zj] <;> rfl)|(simp [*,zi,zj] <;> rfl),by repeat (first|(with_reducible first|exact HB.out|apply zd|apply z3|apply zc|refine za ?_ GE101.out|refine za ?_ GE102.out|refine za ?_ GE103.out)|exact HB.out)⟩
   rw [if_pos c6] at H
   have c6b0 : decide (x10_1 < (l0.length : Int)) = true:=decide_eq_true c6
   clear c6
   by_cases c7 : 0 ≤ x10_1
   rotate_left
   · rw [if_neg c7] at H
     exact absurd H zz87
   rw [if_pos c7] at H
   have c7b0 : decide (0 ≤ x10_1) = true:=decide_eq_true c7
   clear c7
   by_cases c8 : x10_1 < (l0.length : Int)
   rotate_left
   · rw [if_neg c8] at H
     exact absurd H zz87
   rw [if_pos c8] at H
   have c8b0 : decide (x10_1 < (l0.length : Int)) = true:=decide_eq_true c8
   clear c8
   replace H:=Option.bind_eq_some_iff.mp H
   obtain ⟨t106,A90,H⟩:=H
   replace H : (if t106 = true then ((z1t.f x104000_1 x104001_1 ((rd_T35 l0 x10_1).f0) ((rd_T35 l0 x10_1).f1)).bind fun bt107=>(zN.l0 k1 l0 (l0.length : Int) (wrap64 (x10_1 + 1)) a1_0 a1_1 bt107.1 bt107.2)) else (zN.l0 k1 l0 (l0.length : Int) (wrap64 (x10_1 + 1)) a1_0 a1_1 x104000_1 x104001_1)) = some (r1,r2):=H
   have A9:=z1.mk A90
   clear A90
   by_cases c10 : t106 = true
   rotate_left
   · replace c10:=Bool.eq_false_iff.mpr c10
     subst c10
     have H1 : (zN.l0 k1 l0 (l0.length : Int) (wrap64 (x10_1 + 1)) a1_0 a1_1 x104000_1 x104001_1) = some (r1,r2):=by rw [if_neg (show ¬ (false = true) by decide)] at H;exact H
     clear H
     have H:=H1
     clear H1
     have H':=z1.mk H
     clear H
     have p104 : 0 ≤ (x10_1 : Int):=of_decide_eq_true zz81
     have q104 : x10_1 < (l0.length : Int):=of_decide_eq_true zz81
     obtain ⟨ad104,e104,hx104_0,hx104_1⟩:=z1Q HR0.out x10_1 p104 q104
     cases e104
     replace hx104_0:=(HB.out.cell (World.block_lt_of_cell? w _ hx104_0)).trans hx104_0
     replace hx104_1:=(HB.out.cell (World.block_lt_of_cell? w _ hx104_1)).trans hx104_1
     replace p104:=eq_true p104
     replace q104:=eq_true q104
     go_wp2_with (first|((with_reducible refine zE (N:=7) rfl ?_);refine zC ?hg (N:=7) ?hd (cs:=#[.int .u64 0,.int .u64 0]) (t:=35) ?hr ?_;(case hd=>rfl);(case hg=>rfl);(case hr=>first|(go_simp;done)|(go_simp;rfl));intro gb105 hg w26 hbox hb;have n0_:=z1.mk (z9 (g:=gb101) (o:=.cells #[.int .u64 a1_0,.int .u64 a1_1] 35 (0,0)) zz49 hb);have n1_:=z1.mk (z9 (g:=gb102) (o:=.cells #[.int .u64 0,.int .u64 0] 35 (0,0)) zz50 hb);have n2_:=z1.mk (z9 (g:=gb103) (o:=.cells #[.int .u64 x104000_1,.int .u64 x104001_1] 35 (0,0)) zz54 hb);have n3_:=z1.mk (ze zz32 hb);have n4_:=z1.mk (hbox);have n5_:=z1.mk ((by rw [hg];exact (zf zz32) : w.heap.size ≤ gb105));have n6_:=z1.mk ((by rw [hg];exact (zf zz32) : w.heap.size ≤ gb105));have n7_:=z1.mk ((by rw [hg];exact Nat.ne_of_lt (zw (g:=gb101) (o:=.cells #[.int .u64 a1_0,.int .u64 a1_1] 35 (0,0)) zz49) : gb101 ≠ gb105));have n8_:=z1.mk ((by rw [hg];exact Nat.ne_of_gt (zw (g:=gb101) (o:=.cells #[.int .u64 a1_0,.int .u64 a1_1] 35 (0,0)) zz49) : gb105 ≠ gb101));have n9_:=z1.mk ((by rw [hg];exact Nat.ne_of_lt (zw (g:=gb102) (o:=.cells #[.int .u64 0,.int .u64 0] 35 (0,0)) zz50) : gb102 ≠ gb105));have n10_:=z1.mk ((by rw [hg];exact Nat.ne_of_gt (zw (g:=gb102) (o:=.cells #[.int .u64 0,.int .u64 0] 35 (0,0)) zz50) : gb105 ≠ gb102));have n11_:=z1.mk ((by rw [hg];exact Nat.ne_of_lt (zw (g:=gb103) (o:=.cells #[.int .u64 x104000_1,.int .u64 x104001_1] 35 (0,0)) zz54) : gb103 ≠ gb105));have n12_:=z1.mk ((by rw [hg];exact Nat.ne_of_gt (zw (g:=gb103) (o:=.cells #[.int .u64 x104000_1,.int .u64 x104001_1] 35 (0,0)) zz54) : gb105 ≠ gb103));clear BK101;clear BK102;clear BK103;clear HB;have BK101:=n0_;have BK102:=n1_;have BK103:=n2_;have HB:=n3_;have BK105:=n4_;have GW105:=n5_;have GE105:=n6_;have NB101_105:=n7_;have NB105_101:=n8_;have NB102_105:=n9_;have NB105_102:=n10_;have NB103_105:=n11_;have NB105_103:=n12_;clear n0_ n1_ n2_ n3_ n4_ n5_ n6_ n7_ n8_ n9_ n10_ n11_ n12_;clear hb hbox hg;have hnb27:=NB105_101.out;have hnc27:=NB101_105.out;have hnb28:=NB105_102.out;have hnc28:=NB102_105.out;have hnb29:=NB105_103.out;have hnc29:=NB103_105.out;have hcz30_0 : w26.cell? ⟨gb105,0,none⟩ = some (.int .u64 0):=(z5 BK105.out 0).trans rfl;have hcz30_1 : w26.cell? ⟨gb105,1,none⟩ = some (.int .u64 0):=(z5 BK105.out 1).trans rfl;have hfz30_0:=z4 BK105.out 0;have hfz30_1:=z4 BK105.out 1;have hnb31:=NB101_102.out;have hnc31:=NB102_101.out;have hnb32:=NB101_103.out;have hnc32:=NB103_101.out;have hcz33_0 : w26.cell? ⟨gb101,0,none⟩ = some (.int .u64 a1_0):=(z5 BK101.out 0).trans rfl;have hcz33_1 : w26.cell? ⟨gb101,1,none⟩ = some (.int .u64 a1_1):=(z5 BK101.out 1).trans rfl;have hfz33_0:=z4 BK101.out 0;have hfz33_1:=z4 BK101.out 1)|((with_reducible refine zo (f:=44) rfl ?_);refine goesL_ (some 17) rfl rfl Try.func44 zz84 rfl #[.agg #[.int .u64 a1_0,.int .u64 a1_1],.int .i64 x10_1] rfl zz45 ?_;(with_reducible refine (z1d.calls k1 a1_0 a1_1 x10_1 false _ A9.out).mono ?_);rintro e w34 ⟨rfl,hb⟩;refine ⟨_,rfl,?_⟩;have n0_:=z1.mk (z9 (g:=gb101) (o:=.cells #[.int .u64 a1_0,.int .u64 a1_1] 35 (0,0)) zz11 hb);have n1_:=z1.mk (z9 (g:=gb102) (o:=.cells #[.int .u64 0,.int .u64 0] 35 (0,0)) zz12 hb);have n2_:=z1.mk (z9 (g:=gb103) (o:=.cells #[.int .u64 x104000_1,.int .u64 x104001_1] 35 (0,0)) zz13 hb);have n3_:=z1.mk (z9 (g:=gb105) (o:=.cells #[.int .u64 ((rd_T35 l0 x10_1).f0),.int .u64 ((rd_T35 l0 x10_1).f1)] 35 (0,0)) zz2 hb);have n4_:=z1.mk (ze zz27 hb);clear BK101;clear BK102;clear BK103;clear BK105;clear HB;have BK101:=n0_;have BK102:=n1_;have BK103:=n2_;have BK105:=n3_;have HB:=n4_;clear n0_ n1_ n2_ n3_ n4_;(try clear hb);(try clear hb2);(try clear hk);(try clear hi)))
     go_roundg k1
     case measure=>have:=HK1.out;omega
     case rel=>exact ⟨(wrap64 (x10_1 + 1)),(x104000_1),(x104001_1),zz82,H',⟨by have:=HK1.out;omega⟩,⟨by (with_reducible repeat (first|refine z8 ?_ _|refine zb ?_|refine z7 ?_ _));exact BK101.out⟩,⟨by (with_reducible repeat (first|refine z8 ?_ _|refine zb ?_|refine z7 ?_ _));exact BK102.out⟩,⟨by (with_reducible repeat (first|refine z8 ?_ _|refine zb ?_|refine z7 ?_ _));exact BK103.out⟩,⟨by repeat (first|(with_reducible first|exact HB.out|apply zd|apply z3|apply zc|refine za ?_ GE101.out|refine za ?_ GE102.out|refine za ?_ GE103.out|refine za ?_ GE105.out)|exact HB.out)⟩⟩
   subst c10
   have H1 : ((z1t.f x104000_1 x104001_1 ((rd_T35 l0 x10_1).f0) ((rd_T35 l0 x10_1).f1)).bind fun bt107=>(zN.l0 k1 l0 (l0.length : Int) (wrap64 (x10_1 + 1)) a1_0 a1_1 bt107.1 bt107.2)) = some (r1,r2):=by rw [if_pos rfl] at H;exact H
   clear H
   have H:=H1
   clear H1
   replace H:=Option.bind_eq_some_iff.mp H
   obtain ⟨⟨t107,t108⟩,A110,H⟩:=H
   replace H : (zN.l0 k1 l0 (l0.length : Int) (wrap64 (x10_1 + 1)) a1_0 a1_1 t107 t108) = some (r1,r2):=H
   have A11:=z1.mk A110
   clear A110
   have H':=z1.mk H
   clear H
   have p104 : 0 ≤ (x10_1 : Int):=of_decide_eq_true zz81
   have q104 : x10_1 < (l0.length : Int):=of_decide_eq_true zz81
   obtain ⟨ad104,e104,hx104_0,hx104_1⟩:=z1Q HR0.out x10_1 p104 q104
   cases e104
   replace hx104_0:=(HB.out.cell (World.block_lt_of_cell? w _ hx104_0)).trans hx104_0
   replace hx104_1:=(HB.out.cell (World.block_lt_of_cell? w _ hx104_1)).trans hx104_1
   replace p104:=eq_true p104
   replace q104:=eq_true q104
   go_wp2_with (first|((with_reducible refine zE (N:=7) rfl ?_);refine zC ?hg (N:=7) ?hd (cs:=#[.int .u64 0,.int .u64 0]) (t:=35) ?hr ?_;(case hd=>rfl);(case hg=>rfl);(case hr=>first|(go_simp;done)|(go_simp;rfl));intro gb105 hg w12 hbox hb;have n0_:=z1.mk (z9 (g:=gb101) (o:=.cells #[.int .u64 a1_0,.int .u64 a1_1] 35 (0,0)) zz49 hb);have n1_:=z1.mk (z9 (g:=gb102) (o:=.cells #[.int .u64 0,.int .u64 0] 35 (0,0)) zz50 hb);have n2_:=z1.mk (z9 (g:=gb103) (o:=.cells #[.int .u64 x104000_1,.int .u64 x104001_1] 35 (0,0)) zz54 hb);have n3_:=z1.mk (ze zz32 hb);have n4_:=z1.mk (hbox);have n5_:=z1.mk ((by rw [hg];exact (zf zz32) : w.heap.size ≤ gb105));have n6_:=z1.mk ((by rw [hg];exact (zf zz32) : w.heap.size ≤ gb105));have n7_:=z1.mk ((by rw [hg];exact Nat.ne_of_lt (zw (g:=gb101) (o:=.cells #[.int .u64 a1_0,.int .u64 a1_1] 35 (0,0)) zz49) : gb101 ≠ gb105));have n8_:=z1.mk ((by rw [hg];exact Nat.ne_of_gt (zw (g:=gb101) (o:=.cells #[.int .u64 a1_0,.int .u64 a1_1] 35 (0,0)) zz49) : gb105 ≠ gb101));have n9_:=z1.mk ((by rw [hg];exact Nat.ne_of_lt (zw (g:=gb102) (o:=.cells #[.int .u64 0,.int .u64 0] 35 (0,0)) zz50) : gb102 ≠ gb105));have n10_:=z1.mk ((by rw [hg];exact Nat.ne_of_gt (zw (g:=gb102) (o:=.cells #[.int .u64 0,.int .u64 0] 35 (0,0)) zz50) : gb105 ≠ gb102));have n11_:=z1.mk ((by rw [hg];exact Nat.ne_of_lt (zw (g:=gb103) (o:=.cells #[.int .u64 x104000_1,.int .u64 x104001_1] 35 (0,0)) zz54) : gb103 ≠ gb105));have n12_:=z1.mk ((by rw [hg];exact Nat.ne_of_gt (zw (g:=gb103) (o:=.cells #[.int .u64 x104000_1,.int .u64 x104001_1] 35 (0,0)) zz54) : gb105 ≠ gb103));clear BK101;clear BK102;clear BK103;clear HB;have BK101:=n0_;have BK102:=n1_;have BK103:=n2_;have HB:=n3_;have BK105:=n4_;have GW105:=n5_;have GE105:=n6_;have NB101_105:=n7_;have NB105_101:=n8_;have NB102_105:=n9_;have NB105_102:=n10_;have NB103_105:=n11_;have NB105_103:=n12_;clear n0_ n1_ n2_ n3_ n4_ n5_ n6_ n7_ n8_ n9_ n10_ n11_ n12_;clear hb hbox hg;have hnb13:=NB105_101.out;have hnc13:=NB101_105.out;have hnb14:=NB105_102.out;have hnc14:=NB102_105.out;have hnb15:=NB105_103.out;have hnc15:=NB103_105.out;have hcz16_0 : w12.cell? ⟨gb105,0,none⟩ = some (.int .u64 0):=(z5 BK105.out 0).trans rfl;have hcz16_1 : w12.cell? ⟨gb105,1,none⟩ = some (.int .u64 0):=(z5 BK105.out 1).trans rfl;have hfz16_0:=z4 BK105.out 0;have hfz16_1:=z4 BK105.out 1;have hnb17:=NB101_102.out;have hnc17:=NB102_101.out;have hnb18:=NB101_103.out;have hnc18:=NB103_101.out;have hcz19_0 : w12.cell? ⟨gb101,0,none⟩ = some (.int .u64 a1_0):=(z5 BK101.out 0).trans rfl;have hcz19_1 : w12.cell? ⟨gb101,1,none⟩ = some (.int .u64 a1_1):=(z5 BK101.out 1).trans rfl;have hfz19_0:=z4 BK101.out 0;have hfz19_1:=z4 BK101.out 1)|((with_reducible refine zo (f:=44) rfl ?_);refine goesL_ (some 17) rfl rfl Try.func44 zz84 rfl #[.agg #[.int .u64 a1_0,.int .u64 a1_1],.int .i64 x10_1] rfl zz45 ?_;(with_reducible refine (z1d.calls k1 a1_0 a1_1 x10_1 true _ A9.out).mono ?_);rintro e w20 ⟨rfl,hb⟩;refine ⟨_,rfl,?_⟩;have n0_:=z1.mk (z9 (g:=gb101) (o:=.cells #[.int .u64 a1_0,.int .u64 a1_1] 35 (0,0)) zz11 hb);have n1_:=z1.mk (z9 (g:=gb102) (o:=.cells #[.int .u64 0,.int .u64 0] 35 (0,0)) zz12 hb);have n2_:=z1.mk (z9 (g:=gb103) (o:=.cells #[.int .u64 x104000_1,.int .u64 x104001_1] 35 (0,0)) zz13 hb);have n3_:=z1.mk (z9 (g:=gb105) (o:=.cells #[.int .u64 ((rd_T35 l0 x10_1).f0),.int .u64 ((rd_T35 l0 x10_1).f1)] 35 (0,0)) zz2 hb);have n4_:=z1.mk (ze zz27 hb);clear BK101;clear BK102;clear BK103;clear BK105;clear HB;have BK101:=n0_;have BK102:=n1_;have BK103:=n2_;have BK105:=n3_;have HB:=n4_;clear n0_ n1_ n2_ n3_ n4_;(try clear hb);(try clear hb2);(try clear hk);(try clear hi);have hnb21:=NB103_102.out;have hnc21:=NB102_103.out;have hcz22_0 : w20.cell? ⟨gb103,0,none⟩ = some (.int .u64 x104000_1):=(z5 BK103.out 0).trans rfl;have hcz22_1 : w20.cell? ⟨gb103,1,none⟩ = some (.int .u64 x104001_1):=(z5 BK103.out 1).trans rfl;have hfz22_0:=z4 BK103.out 0;have hfz22_1:=z4 BK103.out 1;have hcz23_0 : w20.cell? ⟨gb105,0,none⟩ = some (.int .u64 ((rd_T35 l0 x10_1).f0)):=(z5 BK105.out 0).trans rfl;have hcz23_1 : w20.cell? ⟨gb105,1,none⟩ = some (.int .u64 ((rd_T35 l0 x10_1).f1)):=(z5 BK105.out 1).trans rfl;have hfz23_0:=z4 BK105.out 0;have hfz23_1:=z4 BK105.out 1)|((with_reducible refine zo (f:=23) rfl ?_);refine goesL_ (some 20) rfl rfl Try.func23 zz84 rfl #[.agg #[.int .u64 x104000_1,.int .u64 x104001_1],.agg #[.int .u64 ((rd_T35 l0 x10_1).f0),.int .u64 ((rd_T35 l0 x10_1).f1)]] rfl zz45 ?_;(with_reducible refine (z1t.calls x104000_1 x104001_1 ((rd_T35 l0 x10_1).f0) ((rd_T35 l0 x10_1).f1) t107 t108 _ A11.out).mono ?_);rintro e w24 ⟨rfl,hb⟩;refine ⟨_,rfl,?_⟩;have n0_:=z1.mk (z9 (g:=gb101) (o:=.cells #[.int .u64 a1_0,.int .u64 a1_1] 35 (0,0)) zz49 hb);have n1_:=z1.mk (z9 (g:=gb102) (o:=.cells #[.int .u64 0,.int .u64 0] 35 (0,0)) zz50 hb);have n2_:=z1.mk (z9 (g:=gb103) (o:=.cells #[.int .u64 x104000_1,.int .u64 x104001_1] 35 (0,0)) zz54 hb);have n3_:=z1.mk (z9 (g:=gb105) (o:=.cells #[.int .u64 ((rd_T35 l0 x10_1).f0),.int .u64 ((rd_T35 l0 x10_1).f1)] 35 (0,0)) (by (with_reducible repeat (first|refine z8 ?_ _|refine zb ?_|refine z7 ?_ _));exact BK105.out) hb);have n4_:=z1.mk (ze zz27 hb);clear BK101;clear BK102;clear BK103;clear BK105;clear HB;have BK101:=n0_;have BK102:=n1_;have BK103:=n2_;have BK105:=n3_;have HB:=n4_;clear n0_ n1_ n2_ n3_ n4_;(try clear hb);(try clear hb2);(try clear hk);(try clear hi);have hcz25_0 : w24.cell? ⟨gb103,0,none⟩ = some (.int .u64 x104000_1):=(z5 BK103.out 0).trans rfl;have hcz25_1 : w24.cell? ⟨gb103,1,none⟩ = some (.int .u64 x104001_1):=(z5 BK103.out 1).trans rfl;have hfz25_0:=z4 BK103.out 0;have hfz25_1:=z4 BK103.out 1))
   go_roundg k1
   case measure=>have:=HK1.out;omega
   case rel=>exact ⟨(wrap64 (x10_1 + 1)),(t107),(t108),zz82,H',⟨by have:=HK1.out;omega⟩,⟨by (with_reducible repeat (first|refine z8 ?_ _|refine zb ?_|refine z7 ?_ _));refine zP ?_ NB101_103.out _;(with_reducible repeat (first|refine z8 ?_ _|refine zb ?_|refine z7 ?_ _));refine zP ?_ NB101_103.out _;(with_reducible repeat (first|refine z8 ?_ _|refine zb ?_|refine z7 ?_ _));exact BK101.out⟩,⟨by (with_reducible repeat (first|refine z8 ?_ _|refine zb ?_|refine z7 ?_ _));refine zP ?_ NB102_103.out _;(with_reducible repeat (first|refine z8 ?_ _|refine zb ?_|refine z7 ?_ _));refine zP ?_ NB102_103.out _;(with_reducible repeat (first|refine z8 ?_ _|refine zb ?_|refine z7 ?_ _));exact BK102.out⟩,⟨by (with_reducible repeat (first|refine z8 ?_ _|refine zb ?_|refine z7 ?_ _));refine zT (cs:=#[.int .u64 t107,.int .u64 x104001_1]) ?_ 1 _ rfl;(with_reducible repeat (first|refine z8 ?_ _|refine zb ?_|refine z7 ?_ _));refine zT (cs:=#[.int .u64 x104000_1,.int .u64 x104001_1]) ?_ 0 _ rfl;(with_reducible repeat (first|refine z8 ?_ _|refine zb ?_|refine z7 ?_ _));exact BK103.out⟩,⟨by repeat (first|(with_reducible first|exact HB.out|apply zd|apply z3|apply zc|refine za ?_ GE101.out|refine za ?_ GE102.out|refine za ?_ GE103.out|refine za ?_ GE105.out)|exact HB.out)⟩⟩
end Go.Proofs.Ytnhbdhgbmjcjdaa.P
namespace Go.Proofs.Ytnhbdhgbmjcjdaa.P
open Go.RowKit Go.Proofs.YtnhbdhgbmjcjdaaW.PrintWords Go.Proofs.YtnhbdhgbmjcjdaaW.PrintLast Go.Proofs.YtnhbdhgbmjcjdaaW.PrintMore
attribute [local go_sem] z10 z12 z1h z1i zQ zR z11 z13   -- for this text's walks alone
set_option linter.unusedVariables false
set_option linter.unusedSimpArgs false
def z19.f (k : Nat) (l0 : List (S35)) (a1_0 : Int) (a1_1 : Int) : Option (Int × Int × Int):=if (l0.length : Int) > 128 then (some (0,0,1)) else ((z14.f k a1_0 a1_1).bind fun t103=>(if t103 ≥ (l0.length : Int) then (some (0,0,6)) else ((zN.f k l0 a1_0 a1_1).bind fun bt104=>(some (bt104.1,bt104.2,0)))))
theorem z19.mono : ∀ a0 a1 a2 k,LeO (z19.f k a0 a1 a2) (z19.f (k + 1) a0 a1 a2):=by
 intro a0 a1 a2 k
 unfold z19.f
 repeat' first
  | (with_reducible exact z14.mono _ _ _)
  | (with_reducible exact zN.mono _ _ _ _)
  | (with_reducible exact LeO.refl _)
  | (with_reducible exact LeO.none _)
  | (with_reducible refine LeO.ite ?_ ?_)
  | (with_reducible refine LeO.bind ?_ (fun _=>?_))
  | exact z14.mono _ _ _
  | exact zN.mono _ _ _ _
  | exact LeO.none _
  | refine LeO.ite ?_ ?_
  | refine LeO.bind ?_ (fun _=>?_)
set_option maxHeartbeats 8000000 in
set_option maxRecDepth 100000 in
theorem z19.calls (k : Nat) (A0 : Option Addr) (c0 : Nat) (l0 : List (S35)) (a1_0 : Int) (a1_1 : Int) (r1 : Int) (r2 : Int) (r3 : Int) (w : World) (hr0 : Kd.C k35 w A0 l0.length l0) (hc0 : l0.length ≤ c0) (h : z19.f k l0 a1_0 a1_1 = some (r1,r2,r3)) :
 Calls Try.prog 15 #[.slice A0 l0.length c0,.agg #[.int .u64 a1_0,.int .u64 a1_1]] w fun e w'=>e = .returned (.tuple #[.agg #[.int .u64 r1,.int .u64 r2],.int .i64 r3]) ∧ Below w.heap.size w w':=by
 have hu35:=Try.underlying35
 have HR0:=z1.mk hr0
 have HC0:=z1.mk hc0
 clear hr0 hc0
 have HB:=z1.mk (Below.refl w.heap.size w)
 have H : (if (l0.length : Int) > 128 then (some (0,0,1)) else ((z14.f k a1_0 a1_1).bind fun t103=>(if t103 ≥ (l0.length : Int) then (some (0,0,6)) else ((zN.f k l0 a1_0 a1_1).bind fun bt104=>(some (bt104.1,bt104.2,0)))))) = some (r1,r2,r3):=h
 clear h
 by_cases c3 : (l0.length : Int) > 128
 · rw [if_pos c3] at H
   have c3b0 : decide (128 < (l0.length : Int)) = true:=decide_eq_true c3
   have c3b1 : decide (128 < l0.length) = true:=decide_eq_true zz86
   clear c3
   simp only [Option.some.injEq,Prod.mk.injEq] at H
   obtain ⟨rfl,rfl,rfl⟩:=H
   go_enter Try.func15,Try.ntmps15
   go_wp2_with (first|((with_reducible refine zE (N:=3) rfl ?_);refine zC ?hg (N:=3) ?hd (cs:=#[.int .u64 a1_0,.int .u64 a1_1]) (t:=35) ?hr ?_;(case hd=>rfl);(case hg=>rfl);(case hr=>first|(go_simp;done)|(go_simp;rfl));intro gb101 hg w4 hbox hb;have n0_:=z1.mk (ze zz47 hb);have n1_:=z1.mk (hbox);have n2_:=z1.mk ((by rw [hg];exact (zf zz47) : w.heap.size ≤ gb101));have n3_:=z1.mk ((by rw [hg];exact (zf zz47) : w.heap.size ≤ gb101));clear HB;have HB:=n0_;have BK101:=n1_;have GW101:=n2_;have GE101:=n3_;clear n0_ n1_ n2_ n3_;clear hb hbox hg)|((with_reducible refine zE (N:=4) rfl ?_);refine zC ?hg (N:=4) ?hd (cs:=#[.int .u64 0,.int .u64 0]) (t:=35) ?hr ?_;(case hd=>rfl);(case hg=>rfl);(case hr=>first|(go_simp;done)|(go_simp;rfl));intro gb102 hg w5 hbox hb;have n0_:=z1.mk (z9 (g:=gb101) (o:=.cells #[.int .u64 a1_0,.int .u64 a1_1] 35 (0,0)) zz49 hb);have n1_:=z1.mk (ze zz41 hb);have n2_:=z1.mk (hbox);have n3_:=z1.mk ((by rw [hg];exact (zf zz41) : w.heap.size ≤ gb102));have n4_:=z1.mk ((by rw [hg];exact (zf zz41) : w.heap.size ≤ gb102));have n5_:=z1.mk ((by rw [hg];exact Nat.ne_of_lt (zw (g:=gb101) (o:=.cells #[.int .u64 a1_0,.int .u64 a1_1] 35 (0,0)) zz49) : gb101 ≠ gb102));have n6_:=z1.mk ((by rw [hg];exact Nat.ne_of_gt (zw (g:=gb101) (o:=.cells #[.int .u64 a1_0,.int .u64 a1_1] 35 (0,0)) zz49) : gb102 ≠ gb101));clear BK101;clear HB;have BK101:=n0_;have HB:=n1_;have BK102:=n2_;have GW102:=n3_;have GE102:=n4_;have NB101_102:=n5_;have NB102_101:=n6_;clear n0_ n1_ n2_ n3_ n4_ n5_ n6_;clear hb hbox hg;have hnb6:=NB102_101.out;have hnc6:=NB101_102.out;have hcz7_0 : w5.cell? ⟨gb102,0,none⟩ = some (.int .u64 0):=(z5 BK102.out 0).trans rfl;have hcz7_1 : w5.cell? ⟨gb102,1,none⟩ = some (.int .u64 0):=(z5 BK102.out 1).trans rfl;have hfz7_0:=z4 BK102.out 0;have hfz7_1:=z4 BK102.out 1))
   refine bodyPost_ret (z25 rfl _ _ gb102 35 #[.int .u64 0,.int .u64 0] (0,0) _ rfl zz8 Try.underlying35 rfl zz84) rfl ?_
   exact ⟨by first|rfl|(simp [zi,zj] <;> rfl)|(simp [*,zi,zj] <;> rfl),by repeat (first|(with_reducible first|exact HB.out|apply zd|apply z3|apply zc|refine za ?_ GE101.out|refine za ?_ GE102.out)|exact HB.out)⟩
 rw [if_neg c3] at H
 have c3b0 : decide (128 < (l0.length : Int)) = false:=decide_eq_false c3
 have c3b1 : decide (128 < l0.length) = false:=decide_eq_false zz86
 clear c3
 replace H:=Option.bind_eq_some_iff.mp H
 obtain ⟨t103,A80,H⟩:=H
 replace H : (if t103 ≥ (l0.length : Int) then (some (0,0,6)) else ((zN.f k l0 a1_0 a1_1).bind fun bt104=>(some (bt104.1,bt104.2,0)))) = some (r1,r2,r3):=H
 have A8:=z1.mk A80
 clear A80
 by_cases c9 : t103 ≥ (l0.length : Int)
 · rw [if_pos c9] at H
   have c9b0 : decide ((l0.length : Int) ≤ t103) = true:=decide_eq_true c9
   clear c9
   simp only [Option.some.injEq,Prod.mk.injEq] at H
   obtain ⟨rfl,rfl,rfl⟩:=H
   go_enter Try.func15,Try.ntmps15
   go_wp2_with (first|((with_reducible refine zE (N:=3) rfl ?_);refine zC ?hg (N:=3) ?hd (cs:=#[.int .u64 a1_0,.int .u64 a1_1]) (t:=35) ?hr ?_;(case hd=>rfl);(case hg=>rfl);(case hr=>first|(go_simp;done)|(go_simp;rfl));intro gb101 hg w10 hbox hb;have n0_:=z1.mk (ze zz47 hb);have n1_:=z1.mk (hbox);have n2_:=z1.mk ((by rw [hg];exact (zf zz47) : w.heap.size ≤ gb101));have n3_:=z1.mk ((by rw [hg];exact (zf zz47) : w.heap.size ≤ gb101));clear HB;have HB:=n0_;have BK101:=n1_;have GW101:=n2_;have GE101:=n3_;clear n0_ n1_ n2_ n3_;clear hb hbox hg)|((with_reducible refine zE (N:=4) rfl ?_);refine zC ?hg (N:=4) ?hd (cs:=#[.int .u64 0,.int .u64 0]) (t:=35) ?hr ?_;(case hd=>rfl);(case hg=>rfl);(case hr=>first|(go_simp;done)|(go_simp;rfl));intro gb102 hg w11 hbox hb;have n0_:=z1.mk (z9 (g:=gb101) (o:=.cells #[.int .u64 a1_0,.int .u64 a1_1] 35 (0,0)) zz49 hb);have n1_:=z1.mk (ze zz41 hb);have n2_:=z1.mk (hbox);have n3_:=z1.mk ((by rw [hg];exact (zf zz41) : w.heap.size ≤ gb102));have n4_:=z1.mk ((by rw [hg];exact (zf zz41) : w.heap.size ≤ gb102));have n5_:=z1.mk ((by rw [hg];exact Nat.ne_of_lt (zw (g:=gb101) (o:=.cells #[.int .u64 a1_0,.int .u64 a1_1] 35 (0,0)) zz49) : gb101 ≠ gb102));have n6_:=z1.mk ((by rw [hg];exact Nat.ne_of_gt (zw (g:=gb101) (o:=.cells #[.int .u64 a1_0,.int .u64 a1_1] 35 (0,0)) zz49) : gb102 ≠ gb101));clear BK101;clear HB;have BK101:=n0_;have HB:=n1_;have BK102:=n2_;have GW102:=n3_;have GE102:=n4_;have NB101_102:=n5_;have NB102_101:=n6_;clear n0_ n1_ n2_ n3_ n4_ n5_ n6_;clear hb hbox hg;have hnb12:=NB101_102.out;have hnc12:=NB102_101.out;have hcz13_0 : w11.cell? ⟨gb101,0,none⟩ = some (.int .u64 a1_0):=(z5 BK101.out 0).trans rfl;have hcz13_1 : w11.cell? ⟨gb101,1,none⟩ = some (.int .u64 a1_1):=(z5 BK101.out 1).trans rfl;have hfz13_0:=z4 BK101.out 0;have hfz13_1:=z4 BK101.out 1)|((with_reducible refine zo (f:=49) rfl ?_);refine goesL_ (some 13) rfl rfl Try.func49 zz84 rfl #[.agg #[.int .u64 a1_0,.int .u64 a1_1]] rfl zz45 ?_;(with_reducible refine (z14.calls k a1_0 a1_1 t103 _ A8.out).mono ?_);rintro e w14 ⟨rfl,hb⟩;refine ⟨_,rfl,?_⟩;have n0_:=z1.mk (z9 (g:=gb101) (o:=.cells #[.int .u64 a1_0,.int .u64 a1_1] 35 (0,0)) zz49 hb);have n1_:=z1.mk (z9 (g:=gb102) (o:=.cells #[.int .u64 0,.int .u64 0] 35 (0,0)) zz50 hb);have n2_:=z1.mk (ze zz36 hb);clear BK101;clear BK102;clear HB;have BK101:=n0_;have BK102:=n1_;have HB:=n2_;clear n0_ n1_ n2_;(try clear hb);(try clear hb2);(try clear hk);(try clear hi);have hcz15_0 : w14.cell? ⟨gb102,0,none⟩ = some (.int .u64 0):=(z5 BK102.out 0).trans rfl;have hcz15_1 : w14.cell? ⟨gb102,1,none⟩ = some (.int .u64 0):=(z5 BK102.out 1).trans rfl;have hfz15_0:=z4 BK102.out 0;have hfz15_1:=z4 BK102.out 1))
   refine bodyPost_ret (z25 rfl _ _ gb102 35 #[.int .u64 0,.int .u64 0] (0,0) _ rfl zz8 Try.underlying35 rfl zz84) rfl ?_
   exact ⟨by first|rfl|(simp [zi,zj] <;> rfl)|(simp [*,zi,zj] <;> rfl),by repeat (first|(with_reducible first|exact HB.out|apply zd|apply z3|apply zc|refine za ?_ GE101.out|refine za ?_ GE102.out)|exact HB.out)⟩
 rw [if_neg c9] at H
 have c9b0 : decide ((l0.length : Int) ≤ t103) = false:=decide_eq_false c9
 clear c9
 replace H:=Option.bind_eq_some_iff.mp H
 obtain ⟨⟨t104,t105⟩,A160,H⟩:=H
 replace H : (some (t104,t105,0)) = some (r1,r2,r3):=H
 have A16:=z1.mk A160
 clear A160
 simp only [Option.some.injEq,Prod.mk.injEq] at H
 obtain ⟨rfl,rfl,rfl⟩:=H
 go_enter Try.func15,Try.ntmps15
 go_wp2_with (first|((with_reducible refine zE (N:=3) rfl ?_);refine zC ?hg (N:=3) ?hd (cs:=#[.int .u64 a1_0,.int .u64 a1_1]) (t:=35) ?hr ?_;(case hd=>rfl);(case hg=>rfl);(case hr=>first|(go_simp;done)|(go_simp;rfl));intro gb101 hg w17 hbox hb;have n0_:=z1.mk (ze zz47 hb);have n1_:=z1.mk (hbox);have n2_:=z1.mk ((by rw [hg];exact (zf zz47) : w.heap.size ≤ gb101));have n3_:=z1.mk ((by rw [hg];exact (zf zz47) : w.heap.size ≤ gb101));clear HB;have HB:=n0_;have BK101:=n1_;have GW101:=n2_;have GE101:=n3_;clear n0_ n1_ n2_ n3_;clear hb hbox hg)|((with_reducible refine zE (N:=4) rfl ?_);refine zC ?hg (N:=4) ?hd (cs:=#[.int .u64 0,.int .u64 0]) (t:=35) ?hr ?_;(case hd=>rfl);(case hg=>rfl);(case hr=>first|(go_simp;done)|(go_simp;rfl));intro gb102 hg w18 hbox hb;have n0_:=z1.mk (z9 (g:=gb101) (o:=.cells #[.int .u64 a1_0,.int .u64 a1_1] 35 (0,0)) zz49 hb);have n1_:=z1.mk (ze zz41 hb);have n2_:=z1.mk (hbox);have n3_:=z1.mk ((by rw [hg];exact (zf zz41) : w.heap.size ≤ gb102));have n4_:=z1.mk ((by rw [hg];exact (zf zz41) : w.heap.size ≤ gb102));have n5_:=z1.mk ((by rw [hg];exact Nat.ne_of_lt (zw (g:=gb101) (o:=.cells #[.int .u64 a1_0,.int .u64 a1_1] 35 (0,0)) zz49) : gb101 ≠ gb102));have n6_:=z1.mk ((by rw [hg];exact Nat.ne_of_gt (zw (g:=gb101) (o:=.cells #[.int .u64 a1_0,.int .u64 a1_1] 35 (0,0)) zz49) : gb102 ≠ gb101));clear BK101;clear HB;have BK101:=n0_;have HB:=n1_;have BK102:=n2_;have GW102:=n3_;have GE102:=n4_;have NB101_102:=n5_;have NB102_101:=n6_;clear n0_ n1_ n2_ n3_ n4_ n5_ n6_;clear hb hbox hg;have hnb19:=NB101_102.out;have hnc19:=NB102_101.out;have hcz20_0 : w18.cell? ⟨gb101,0,none⟩ = some (.int .u64 a1_0):=(z5 BK101.out 0).trans rfl;have hcz20_1 : w18.cell? ⟨gb101,1,none⟩ = some (.int .u64 a1_1):=(z5 BK101.out 1).trans rfl;have hfz20_0:=z4 BK101.out 0;have hfz20_1:=z4 BK101.out 1)|((with_reducible refine zo (f:=49) rfl ?_);refine goesL_ (some 13) rfl rfl Try.func49 zz84 rfl #[.agg #[.int .u64 a1_0,.int .u64 a1_1]] rfl zz45 ?_;(with_reducible refine (z14.calls k a1_0 a1_1 t103 _ A8.out).mono ?_);rintro e w21 ⟨rfl,hb⟩;refine ⟨_,rfl,?_⟩;have n0_:=z1.mk (z9 (g:=gb101) (o:=.cells #[.int .u64 a1_0,.int .u64 a1_1] 35 (0,0)) zz49 hb);have n1_:=z1.mk (z9 (g:=gb102) (o:=.cells #[.int .u64 0,.int .u64 0] 35 (0,0)) zz50 hb);have n2_:=z1.mk (ze zz36 hb);clear BK101;clear BK102;clear HB;have BK101:=n0_;have BK102:=n1_;have HB:=n2_;clear n0_ n1_ n2_;(try clear hb);(try clear hb2);(try clear hk);(try clear hi);have hcz22_0 : w21.cell? ⟨gb101,0,none⟩ = some (.int .u64 a1_0):=(z5 BK101.out 0).trans rfl;have hcz22_1 : w21.cell? ⟨gb101,1,none⟩ = some (.int .u64 a1_1):=(z5 BK101.out 1).trans rfl;have hfz22_0:=z4 BK101.out 0;have hfz22_1:=z4 BK101.out 1)|((with_reducible refine zo (f:=50) rfl ?_);refine goesL_ (some 20) rfl rfl Try.func50 zz84 rfl #[.slice A0 l0.length c0,.agg #[.int .u64 a1_0,.int .u64 a1_1]] rfl zz45 ?_;(with_reducible refine (zN.calls k _ _ l0 a1_0 a1_1 t104 t105 _ ?side1 ?side2 A16.out).mono ?_);(case side1=>repeat (first|exact (Kd.z1A HR0.out HB.out)|(with_reducible refine Kd.z15 ?_ _)|(with_reducible refine Kd.z16 ?_ _)|(with_reducible refine Kd.z1m ?_)));(case side2=>exact HC0.out);rintro e w23 ⟨rfl,hb⟩;refine ⟨_,rfl,?_⟩;have n0_:=z1.mk (z9 (g:=gb101) (o:=.cells #[.int .u64 a1_0,.int .u64 a1_1] 35 (0,0)) zz49 hb);have n1_:=z1.mk (z9 (g:=gb102) (o:=.cells #[.int .u64 0,.int .u64 0] 35 (0,0)) zz50 hb);have n2_:=z1.mk (ze zz36 hb);clear BK101;clear BK102;clear HB;have BK101:=n0_;have BK102:=n1_;have HB:=n2_;clear n0_ n1_ n2_;(try clear hb);(try clear hb2);(try clear hk);(try clear hi);have hcz24_0 : w23.cell? ⟨gb102,0,none⟩ = some (.int .u64 0):=(z5 BK102.out 0).trans rfl;have hcz24_1 : w23.cell? ⟨gb102,1,none⟩ = some (.int .u64 0):=(z5 BK102.out 1).trans rfl;have hfz24_0:=z4 BK102.out 0;have hfz24_1:=z4 BK102.out 1))
 refine bodyPost_ret (z25 rfl _ _ gb102 35 #[.int .u64 t104,.int .u64 t105] (0,0) _ rfl zz4 Try.underlying35 rfl zz84) rfl ?_
 exact ⟨by first|rfl|(simp [zi,zj] <;> rfl)|(simp [*,zi,zj] <;> rfl),by repeat (first|(with_reducible first|exact HB.out|apply zd|apply z3|apply zc|refine za ?_ GE101.out|refine za ?_ GE102.out)|exact HB.out)⟩
end Go.Proofs.Ytnhbdhgbmjcjdaa.P
namespace Go.Proofs.Ytnhbdhgbmjcjdaa.P
open Go.RowKit Go.Proofs.YtnhbdhgbmjcjdaaW.PrintWords Go.Proofs.YtnhbdhgbmjcjdaaW.PrintLast Go.Proofs.YtnhbdhgbmjcjdaaW.PrintMore
attribute [local go_sem] z10 z12 z1h z1i zQ zR z11 z13   -- for this text's walks alone
set_option linter.unusedVariables false
set_option linter.unusedSimpArgs false
def zy.j0 : Nat → Int → Bool → Option (Int × Int)
 | 0,_,_=>none
 | k + 1,x0,x8=>if x8 = true then (some (0,0)) else (if x0 > 63 then (if 0 ≤ (IntKind.u64.wrap (wrap64 (x0 - 64))) then (some (shl .u64 1 (IntKind.u64.wrap (wrap64 (x0 - 64))),0)) else (none)) else (if 0 ≤ (IntKind.u64.wrap (x0)) then (some (0,shl .u64 1 (IntKind.u64.wrap (x0)))) else (none)))
def zy.f (k : Nat) (a0 : Int) : Option (Int × Int):=if a0 < 0 then (zy.j0 k a0 true) else (zy.j0 k a0 (decide (a0 > 127)))
theorem zy.zY : ∀ k,(∀ y0 y1,LeO (zy.j0 k y0 y1) (zy.j0 (k + 1) y0 y1))
 | 0=>fun _ _ r h=>by simp [zy.j0] at h
 | k + 1=>by
  have ih0:=zy.zY k
  · intro y0 y1
    unfold zy.j0
    repeat' first
    | (with_reducible exact ih0 _ _)
    | (with_reducible exact LeO.refl _)
    | (with_reducible exact LeO.none _)
    | (with_reducible refine LeO.ite ?_ ?_)
    | (with_reducible refine LeO.bind ?_ (fun _=>?_))
    | exact ih0 _ _
    | exact LeO.none _
    | refine LeO.ite ?_ ?_
    | refine LeO.bind ?_ (fun _=>?_)
theorem zy.mono : ∀ a0 k,LeO (zy.f k a0) (zy.f (k + 1) a0):=by
 intro a0 k
 have ih0:=zy.zY k
 unfold zy.f
 repeat' first
  | (with_reducible exact ih0 _ _)
  | (with_reducible exact LeO.refl _)
  | (with_reducible exact LeO.none _)
  | (with_reducible refine LeO.ite ?_ ?_)
  | (with_reducible refine LeO.bind ?_ (fun _=>?_))
  | exact ih0 _ _
  | exact LeO.none _
  | refine LeO.ite ?_ ?_
  | refine LeO.bind ?_ (fun _=>?_)
set_option maxHeartbeats 8000000 in
set_option maxRecDepth 100000 in
theorem zy.calls (k : Nat) (a0 : Int) (r1 : Int) (r2 : Int) (w : World) (h : zy.f k a0 = some (r1,r2)) :
 Calls Try.prog 48 #[.int .i64 a0] w fun e w'=>e = .returned (.agg #[.int .u64 r1,.int .u64 r2]) ∧ Below w.heap.size w w':=by
 have hu38:=Try.underlying38
 have HB:=z1.mk (Below.refl w.heap.size w)
 have H : (if a0 < 0 then (zy.j0 k a0 true) else (zy.j0 k a0 (decide (a0 > 127)))) = some (r1,r2):=h
 clear h
 have HC2:=z1.mk H
 clear H
 go_enter Try.func48,Try.ntmps48
 go_upto_region 1 with (first|((with_reducible refine zE (N:=2) rfl ?_);refine zC ?hg (N:=2) ?hd (cs:=#[.int .u64 0,.int .u64 0]) (t:=38) ?hr ?_;(case hd=>rfl);(case hg=>rfl);(case hr=>first|(go_simp;done)|(go_simp;rfl));intro gb101 hg w3 hbox hb;have n0_:=z1.mk (ze zz47 hb);have n1_:=z1.mk (hbox);have n2_:=z1.mk ((by rw [hg];exact (zf zz47) : w.heap.size ≤ gb101));have n3_:=z1.mk ((by rw [hg];exact (zf zz47) : w.heap.size ≤ gb101));clear HB;have HB:=n0_;have BK101:=n1_;have GW101:=n2_;have GE101:=n3_;clear n0_ n1_ n2_ n3_;clear hb hbox hg))
 (try simp only [Act.put,List.setIfInBounds_toArray,List.set_cons_zero,List.set_cons_succ])
 go_cut [8] (fun v8 wc=>∃ (kq : Nat) (x8_1 : Bool),v8 = .bool x8_1 ∧ z1 (zy.j0 kq a0 x8_1 = some (r1,r2)) ∧ z1 (kq ≤ k) ∧ z1 (wc.heap[gb101]? = some (.cells #[.int .u64 0,.int .u64 0] 38 (0,0))) ∧ z1 (Below w.heap.size w wc))
 case first =>
  have H:=HC2.out
  clear HC2
  by_cases c4 : a0 < 0
  rotate_left
  · rw [if_neg c4] at H
    have c4b0 : decide (a0 < 0) = false:=decide_eq_false c4
    clear c4
    (first|rw [c4b0]|(simp only [zH,zI];rw [c4b0])|skip)
    have H':=z1.mk H
    clear H
    go_wp2
    go_meet
    case rel=>exact ⟨_,(decide (a0 > 127)),zz82,H',⟨by first|omega|exact Nat.le_refl _⟩,⟨by (with_reducible repeat (first|refine z8 ?_ _|refine zb ?_|refine z7 ?_ _));exact BK101.out⟩,⟨by repeat (first|(with_reducible first|exact HB.out|apply zd|apply z3|apply zc|refine za ?_ GE101.out)|exact HB.out)⟩⟩
  rw [if_pos c4] at H
  have c4b0 : decide (a0 < 0) = true:=decide_eq_true c4
  clear c4
  (first|rw [c4b0]|(simp only [zH,zI];rw [c4b0])|skip)
  have H':=z1.mk H
  clear H
  go_wp2
  go_meet
  case rel=>exact ⟨_,(true),zz82,H',⟨by first|omega|exact Nat.le_refl _⟩,⟨by (with_reducible repeat (first|refine z8 ?_ _|refine zb ?_|refine z7 ?_ _));exact BK101.out⟩,⟨by repeat (first|(with_reducible first|exact HB.out|apply zd|apply z3|apply zc|refine za ?_ GE101.out)|exact HB.out)⟩⟩
 case rest =>
  clear HC2
  (try clear p2);(try clear c4);(try clear c4b0)
  obtain ⟨kq,x8_1,rfl,HA,HJ1,BK101,HB⟩:=hcut
  cases kq with
  | zero=>exact absurd HA.out (by simp [zy.j0])
  | succ kj1 =>
   have H:=HA.out
   clear HA
   simp only [zy.j0] at H
   by_cases c5 : x8_1 = true
   · subst c5
     have H1 : (some (0,0)) = some (r1,r2):=by rw [if_pos rfl] at H;exact H
     clear H
     have H:=H1
     clear H1
     simp only [Option.some.injEq,Prod.mk.injEq] at H
     obtain ⟨rfl,rfl⟩:=H
     have hcz6_0 : wc.cell? ⟨gb101,0,none⟩ = some (.int .u64 0):=(z5 BK101.out 0).trans rfl
     have hcz6_1 : wc.cell? ⟨gb101,1,none⟩ = some (.int .u64 0):=(z5 BK101.out 1).trans rfl
     have hfz6_0:=z4 BK101.out 0
     have hfz6_1:=z4 BK101.out 1
     go_wp2
     refine bodyPost_ret (results_cell_row rfl _ _ gb101 38 #[.int .u64 0,.int .u64 0] (0,0) _ rfl zz7 Try.underlying38 rfl zz84) rfl ?_
     exact ⟨by first|rfl|(simp [zi,zj] <;> rfl)|(simp [*,zi,zj] <;> rfl),by repeat (first|(with_reducible first|exact HB.out|apply zd|apply z3|apply zc|refine za ?_ GE101.out)|exact HB.out)⟩
   replace c5:=Bool.eq_false_iff.mpr c5
   subst c5
   have H1 : (if a0 > 63 then (if 0 ≤ (IntKind.u64.wrap (wrap64 (a0 - 64))) then (some (shl .u64 1 (IntKind.u64.wrap (wrap64 (a0 - 64))),0)) else (none)) else (if 0 ≤ (IntKind.u64.wrap (a0)) then (some (0,shl .u64 1 (IntKind.u64.wrap (a0)))) else (none))) = some (r1,r2):=by rw [if_neg (show ¬ (false = true) by decide)] at H;exact H
   clear H
   have H:=H1
   clear H1
   by_cases c7 : a0 > 63
   · rw [if_pos c7] at H
     have c7b0 : decide (63 < a0) = true:=decide_eq_true c7
     clear c7
     obtain ⟨ji8,hji8⟩ : ∃ j_ : Int,(IntKind.u64.wrap (wrap64 (a0 - 64))) = j_:=⟨_,rfl⟩
     replace H : (if 0 ≤ (ji8) then (some (shl .u64 1 (ji8),0)) else (none)) = some (r1,r2):=by first|(rw [hji8] at H;exact H)|(simp only [hji8] at H ⊢;exact H)
     by_cases c9 : 0 ≤ (ji8)
     rotate_left
     · rw [if_neg c9] at H
       exact absurd H zz87
     rw [if_pos c9] at H
     have c9b0:=eq_true c9
     have c9b1 : decide (0 ≤ (ji8)) = true:=decide_eq_true c9
     clear c9
     obtain ⟨ji10,hji10⟩ : ∃ j_ : Int,(shl .u64 1 (ji8)) = j_:=⟨_,rfl⟩
     replace H : (some (ji10,0)) = some (r1,r2):=by first|(rw [hji10] at H;exact H)|(simp only [hji10] at H ⊢;exact H)
     have hji10_ : (IntKind.u64.wrap (1 * 2 ^ min (ji8).toNat 64)) = ji10:=hji10
     have hji10z : (ji8) ≤ 64 → (IntKind.u64.wrap (1 * 2 ^ (ji8).toNat)) = ji10:=z1I hji10
     have hji10n0 : 0 ≤ ji10:=by rw [← hji10];exact Int.emod_nonneg _ zz85
     have hji10n1 : decide (0 ≤ ji10) = true:=decide_eq_true hji10n0
     replace hji10n0:=eq_true hji10n0
     have hji10u : (IntKind.u64.wrap (2 ^ min (ji8).toNat 64)) = ji10:=by have h_:=hji10_;rw [Int.one_mul] at h_;exact h_
     have hji10v : (ji8) ≤ 64 → (IntKind.u64.wrap (2 ^ (ji8).toNat)) = ji10:=fun hle_=>by have h_:=hji10z hle_;rw [Int.one_mul] at h_;exact h_
     simp only [Option.some.injEq,Prod.mk.injEq] at H
     obtain ⟨rfl,rfl⟩:=H
     have hcz11_0 : wc.cell? ⟨gb101,0,none⟩ = some (.int .u64 0):=(z5 BK101.out 0).trans rfl
     have hcz11_1 : wc.cell? ⟨gb101,1,none⟩ = some (.int .u64 0):=(z5 BK101.out 1).trans rfl
     have hfz11_0:=z4 BK101.out 0
     have hfz11_1:=z4 BK101.out 1
     go_wp2
     refine bodyPost_ret (results_cell_row rfl _ _ gb101 38 #[.int .u64 ji10,.int .u64 0] (0,0) _ rfl (by (with_reducible repeat (first|refine z8 ?_ _|refine zb ?_|refine z7 ?_ _));refine zT (cs:=#[.int .u64 ji10,.int .u64 0]) ?_ 1 _ rfl;(with_reducible repeat (first|refine z8 ?_ _|refine zb ?_|refine z7 ?_ _));refine zT (cs:=#[.int .u64 0,.int .u64 0]) ?_ 0 _ rfl;(with_reducible repeat (first|refine z8 ?_ _|refine zb ?_|refine z7 ?_ _));exact BK101.out) Try.underlying38 rfl zz84) rfl ?_
     exact ⟨by first|rfl|(simp [zi,zj] <;> rfl)|(simp only [← hji8,← hji10];first|rfl|(simp [zi,zj] <;> rfl))|(simp [*,zi,zj] <;> rfl),by repeat (first|(with_reducible first|exact HB.out|apply zd|apply z3|apply zc|refine za ?_ GE101.out)|exact HB.out)⟩
   rw [if_neg c7] at H
   have c7b0 : decide (63 < a0) = false:=decide_eq_false c7
   clear c7
   obtain ⟨ji12,hji12⟩ : ∃ j_ : Int,(IntKind.u64.wrap (a0)) = j_:=⟨_,rfl⟩
   replace H : (if 0 ≤ (ji12) then (some (0,shl .u64 1 (ji12))) else (none)) = some (r1,r2):=by first|(rw [hji12] at H;exact H)|(simp only [hji12] at H ⊢;exact H)
   by_cases c13 : 0 ≤ (ji12)
   rotate_left
   · rw [if_neg c13] at H
     exact absurd H zz87
   rw [if_pos c13] at H
   have c13b0:=eq_true c13
   have c13b1 : decide (0 ≤ (ji12)) = true:=decide_eq_true c13
   clear c13
   obtain ⟨ji14,hji14⟩ : ∃ j_ : Int,(shl .u64 1 (ji12)) = j_:=⟨_,rfl⟩
   replace H : (some (0,ji14)) = some (r1,r2):=by first|(rw [hji14] at H;exact H)|(simp only [hji14] at H ⊢;exact H)
   have hji14_ : (IntKind.u64.wrap (1 * 2 ^ min (ji12).toNat 64)) = ji14:=hji14
   have hji14z : (ji12) ≤ 64 → (IntKind.u64.wrap (1 * 2 ^ (ji12).toNat)) = ji14:=z1I hji14
   have hji14n0 : 0 ≤ ji14:=by rw [← hji14];exact Int.emod_nonneg _ zz85
   have hji14n1 : decide (0 ≤ ji14) = true:=decide_eq_true hji14n0
   replace hji14n0:=eq_true hji14n0
   have hji14u : (IntKind.u64.wrap (2 ^ min (ji12).toNat 64)) = ji14:=by have h_:=hji14_;rw [Int.one_mul] at h_;exact h_
   have hji14v : (ji12) ≤ 64 → (IntKind.u64.wrap (2 ^ (ji12).toNat)) = ji14:=fun hle_=>by have h_:=hji14z hle_;rw [Int.one_mul] at h_;exact h_
   simp only [Option.some.injEq,Prod.mk.injEq] at H
   obtain ⟨rfl,rfl⟩:=H
   have hcz15_0 : wc.cell? ⟨gb101,0,none⟩ = some (.int .u64 0):=(z5 BK101.out 0).trans rfl
   have hcz15_1 : wc.cell? ⟨gb101,1,none⟩ = some (.int .u64 0):=(z5 BK101.out 1).trans rfl
   have hfz15_0:=z4 BK101.out 0
   have hfz15_1:=z4 BK101.out 1
   go_wp2
   refine bodyPost_ret (results_cell_row rfl _ _ gb101 38 #[.int .u64 0,.int .u64 ji14] (0,0) _ rfl zz7 Try.underlying38 rfl zz84) rfl ?_
   exact ⟨by first|rfl|(simp [zi,zj] <;> rfl)|(simp only [← hji12,← hji14];first|rfl|(simp [zi,zj] <;> rfl))|(simp [*,zi,zj] <;> rfl),by repeat (first|(with_reducible first|exact HB.out|apply zd|apply z3|apply zc|refine za ?_ GE101.out)|exact HB.out)⟩
end Go.Proofs.Ytnhbdhgbmjcjdaa.P
namespace Go.Proofs.Ytnhbdhgbmjcjdaa.P
open Go.RowKit Go.Proofs.YtnhbdhgbmjcjdaaW.PrintWords Go.Proofs.YtnhbdhgbmjcjdaaW.PrintLast Go.Proofs.YtnhbdhgbmjcjdaaW.PrintMore
attribute [local go_sem] z10 z12 z1h z1i zQ zR z11 z13   -- for this text's walks alone
set_option linter.unusedVariables false
set_option linter.unusedSimpArgs false
def zv.f (k : Nat) (a0_0 : Int) (a0_1 : Int) (a1 : Int) : Option (Bool):=(zy.f k a1).bind fun bt102=>(some ((Go.bits .or .u64 (Go.bits .and .u64 a0_1 bt102.2) (Go.bits .and .u64 a0_0 bt102.1)) != 0))
theorem zv.mono : ∀ a0 a1 a2 k,LeO (zv.f k a0 a1 a2) (zv.f (k + 1) a0 a1 a2):=by
 intro a0 a1 a2 k
 unfold zv.f
 repeat' first
  | (with_reducible exact zy.mono _ _)
  | (with_reducible exact LeO.refl _)
  | (with_reducible exact LeO.none _)
  | (with_reducible refine LeO.ite ?_ ?_)
  | (with_reducible refine LeO.bind ?_ (fun _=>?_))
  | exact zy.mono _ _
  | exact LeO.none _
  | refine LeO.ite ?_ ?_
  | refine LeO.bind ?_ (fun _=>?_)
set_option maxHeartbeats 8000000 in
set_option maxRecDepth 100000 in
theorem zv.calls (k : Nat) (a0_0 : Int) (a0_1 : Int) (a1 : Int) (r : Bool) (w : World) (h : zv.f k a0_0 a0_1 a1 = some r) :
 Calls Try.prog 46 #[.agg #[.int .u64 a0_0,.int .u64 a0_1],.int .i64 a1] w fun e w'=>e = .returned (.bool r) ∧ Below w.heap.size w w':=by
 have hu38:=Try.underlying38
 have HB:=z1.mk (Below.refl w.heap.size w)
 have H : ((zy.f k a1).bind fun bt102=>(some ((Go.bits .or .u64 (Go.bits .and .u64 a0_1 bt102.2) (Go.bits .and .u64 a0_0 bt102.1)) != 0))) = some r:=h
 clear h
 replace H:=Option.bind_eq_some_iff.mp H
 obtain ⟨⟨t102,t103⟩,A30,H⟩:=H
 replace H : (some ((Go.bits .or .u64 (Go.bits .and .u64 a0_1 t103) (Go.bits .and .u64 a0_0 t102)) != 0)) = some r:=H
 have A3:=z1.mk A30
 clear A30
 obtain rfl:=Option.some.inj H
 go_enter Try.func46,Try.ntmps46
 go_wp2_with (first|((with_reducible refine zE (N:=2) rfl ?_);refine zC ?hg (N:=2) ?hd (cs:=#[.int .u64 a0_0,.int .u64 a0_1]) (t:=38) ?hr ?_;(case hd=>rfl);(case hg=>rfl);(case hr=>first|(go_simp;done)|(go_simp;rfl));intro gb101 hg w4 hbox hb;have n0_:=z1.mk (ze zz47 hb);have n1_:=z1.mk (hbox);have n2_:=z1.mk ((by rw [hg];exact (zf zz47) : w.heap.size ≤ gb101));have n3_:=z1.mk ((by rw [hg];exact (zf zz47) : w.heap.size ≤ gb101));clear HB;have HB:=n0_;have BK101:=n1_;have GW101:=n2_;have GE101:=n3_;clear n0_ n1_ n2_ n3_;clear hb hbox hg)|((with_reducible refine zo (f:=48) rfl ?_);refine goesL_ (some 7) rfl rfl Try.func48 zz84 rfl #[.int .i64 a1] rfl zz45 ?_;(with_reducible refine (zy.calls k a1 t102 t103 _ A3.out).mono ?_);rintro e w5 ⟨rfl,hb⟩;refine ⟨_,rfl,?_⟩;have n0_:=z1.mk (z9 (g:=gb101) (o:=.cells #[.int .u64 a0_0,.int .u64 a0_1] 38 (0,0)) zz49 hb);have n1_:=z1.mk (ze zz41 hb);clear BK101;clear HB;have BK101:=n0_;have HB:=n1_;clear n0_ n1_;(try clear hb);(try clear hb2);(try clear hk);(try clear hi))|((with_reducible refine zE (N:=5) rfl ?_);refine zC ?hg (N:=5) ?hd (cs:=#[.int .u64 0,.int .u64 0]) (t:=38) ?hr ?_;(case hd=>rfl);(case hg=>rfl);(case hr=>first|(go_simp;done)|(go_simp;rfl));intro gb104 hg w6 hbox hb;have n0_:=z1.mk (z9 (g:=gb101) (o:=.cells #[.int .u64 a0_0,.int .u64 a0_1] 38 (0,0)) zz49 hb);have n1_:=z1.mk (ze zz41 hb);have n2_:=z1.mk (hbox);have n3_:=z1.mk ((by rw [hg];exact (zf zz41) : w.heap.size ≤ gb104));have n4_:=z1.mk ((by rw [hg];exact (zf zz41) : w.heap.size ≤ gb104));have n5_:=z1.mk ((by rw [hg];exact Nat.ne_of_lt (zw (g:=gb101) (o:=.cells #[.int .u64 a0_0,.int .u64 a0_1] 38 (0,0)) zz49) : gb101 ≠ gb104));have n6_:=z1.mk ((by rw [hg];exact Nat.ne_of_gt (zw (g:=gb101) (o:=.cells #[.int .u64 a0_0,.int .u64 a0_1] 38 (0,0)) zz49) : gb104 ≠ gb101));clear BK101;clear HB;have BK101:=n0_;have HB:=n1_;have BK104:=n2_;have GW104:=n3_;have GE104:=n4_;have NB101_104:=n5_;have NB104_101:=n6_;clear n0_ n1_ n2_ n3_ n4_ n5_ n6_;clear hb hbox hg;have hnb7:=NB104_101.out;have hnc7:=NB101_104.out;have hcz8_0 : w6.cell? ⟨gb104,0,none⟩ = some (.int .u64 0):=(z5 BK104.out 0).trans rfl;have hcz8_1 : w6.cell? ⟨gb104,1,none⟩ = some (.int .u64 0):=(z5 BK104.out 1).trans rfl;have hfz8_0:=z4 BK104.out 0;have hfz8_1:=z4 BK104.out 1;have hcz9_0 : w6.cell? ⟨gb101,0,none⟩ = some (.int .u64 a0_0):=(z5 BK101.out 0).trans rfl;have hcz9_1 : w6.cell? ⟨gb101,1,none⟩ = some (.int .u64 a0_1):=(z5 BK101.out 1).trans rfl;have hfz9_0:=z4 BK101.out 0;have hfz9_1:=z4 BK101.out 1))
 go_ret
 exact ⟨by first|rfl|(simp [zi,zj] <;> rfl)|(simp [*,zi,zj] <;> rfl),by repeat (first|(with_reducible first|exact HB.out|apply zd|apply z3|apply zc|refine za ?_ GE101.out|refine za ?_ GE104.out)|exact HB.out)⟩
end Go.Proofs.Ytnhbdhgbmjcjdaa.P
namespace Go.Proofs.Ytnhbdhgbmjcjdaa.P
open Go.RowKit Go.Proofs.YtnhbdhgbmjcjdaaW.PrintWords Go.Proofs.YtnhbdhgbmjcjdaaW.PrintLast Go.Proofs.YtnhbdhgbmjcjdaaW.PrintMore
attribute [local go_sem] z10 z12 z1h z1i zQ zR z11 z13   -- for this text's walks alone
set_option linter.unusedVariables false
set_option linter.unusedSimpArgs false
def zu.l0 : Nat → Int → Int → Int → Int → Option (Int)
 | 0,_,_,_,_=>none
 | k + 1,x3,x4,x102000,x102001=>if x4 < 128 then ((zv.f k x102000 x102001 x4).bind fun t102=>(if t102 = true then (zu.l0 k x4 (wrap64 (x4 + 1)) x102000 x102001) else (zu.l0 k x3 (wrap64 (x4 + 1)) x102000 x102001))) else (some x3)
def zu.f (k : Nat) (a0_0 : Int) (a0_1 : Int) : Option (Int):=zu.l0 k (-1) 0 a0_0 a0_1
theorem zu.zY : ∀ k,(∀ y0 y1 y2 y3,LeO (zu.l0 k y0 y1 y2 y3) (zu.l0 (k + 1) y0 y1 y2 y3))
 | 0=>fun _ _ _ _ r h=>by simp [zu.l0] at h
 | k + 1=>by
  have ih0:=zu.zY k
  · intro y0 y1 y2 y3
    unfold zu.l0
    repeat' first
    | (with_reducible exact ih0 _ _ _ _)
    | (with_reducible exact zv.mono _ _ _ _)
    | (with_reducible exact LeO.refl _)
    | (with_reducible exact LeO.none _)
    | (with_reducible refine LeO.ite ?_ ?_)
    | (with_reducible refine LeO.bind ?_ (fun _=>?_))
    | exact ih0 _ _ _ _
    | exact zv.mono _ _ _ _
    | exact LeO.none _
    | refine LeO.ite ?_ ?_
    | refine LeO.bind ?_ (fun _=>?_)
theorem zu.mono : ∀ a0 a1 k,LeO (zu.f k a0 a1) (zu.f (k + 1) a0 a1):=by
 intro a0 a1 k
 have ih0:=zu.zY k
 unfold zu.f
 repeat' first
  | (with_reducible exact ih0 _ _ _ _)
  | (with_reducible exact zv.mono _ _ _ _)
  | (with_reducible exact LeO.refl _)
  | (with_reducible exact LeO.none _)
  | (with_reducible refine LeO.ite ?_ ?_)
  | (with_reducible refine LeO.bind ?_ (fun _=>?_))
  | exact ih0 _ _ _ _
  | exact zv.mono _ _ _ _
  | exact LeO.none _
  | refine LeO.ite ?_ ?_
  | refine LeO.bind ?_ (fun _=>?_)
set_option maxHeartbeats 8000000 in
set_option maxRecDepth 100000 in
theorem zu.calls (k : Nat) (a0_0 : Int) (a0_1 : Int) (r : Int) (w : World) (h : zu.f k a0_0 a0_1 = some r) :
 Calls Try.prog 51 #[.agg #[.int .u64 a0_0,.int .u64 a0_1]] w fun e w'=>e = .returned (.int .i64 r) ∧ Below w.heap.size w w':=by
 have hu38:=Try.underlying38
 have HB:=z1.mk (Below.refl w.heap.size w)
 have H : (zu.l0 k (-1) 0 a0_0 a0_1) = some r:=h
 clear h
 have H':=z1.mk H
 clear H
 go_enter Try.func51,Try.ntmps51
 go_wp2_with (first|((with_reducible refine zE (N:=1) rfl ?_);refine zC ?hg (N:=1) ?hd (cs:=#[.int .u64 a0_0,.int .u64 a0_1]) (t:=38) ?hr ?_;(case hd=>rfl);(case hg=>rfl);(case hr=>first|(go_simp;done)|(go_simp;rfl));intro gb101 hg w2 hbox hb;have n0_:=z1.mk (ze zz47 hb);have n1_:=z1.mk (hbox);have n2_:=z1.mk ((by rw [hg];exact (zf zz47) : w.heap.size ≤ gb101));have n3_:=z1.mk ((by rw [hg];exact (zf zz47) : w.heap.size ≤ gb101));clear HB;have HB:=n0_;have BK101:=n1_;have GW101:=n2_;have GE101:=n3_;clear n0_ n1_ n2_ n3_;clear hb hbox hg))
 go_loopg [3,4] k (fun kq v3 v4 w'=>∃ (x3_1 : Int) (x4_1 : Int),v3 = .int .i64 x3_1 ∧ v4 = .int .i64 x4_1 ∧ z1 (zu.l0 kq x3_1 x4_1 a0_0 a0_1 = some r) ∧ z1 (kq ≤ k) ∧ z1 (w'.heap[gb101]? = some (.cells #[.int .u64 a0_0,.int .u64 a0_1] 38 (0,0))) ∧ z1 (Below w.heap.size w w'))
 case atStart=>exact ⟨((-1)),(0),zz82,zz82,H',⟨Nat.le_refl _⟩,⟨by (with_reducible repeat (first|refine z8 ?_ _|refine zb ?_|refine z7 ?_ _));exact BK101.out⟩,⟨by repeat (first|(with_reducible first|exact HB.out|apply zd|apply z3|apply zc|refine za ?_ GE101.out)|exact HB.out)⟩⟩
 case round =>
  clear H'
  (try clear p2)
  obtain ⟨x3_1,x4_1,rfl,rfl,HA,HK1,BK101,HB⟩:=hrel
  cases gk with
  | zero=>exact absurd HA.out (by simp [zu.l0])
  | succ k1 =>
   have H:=HA.out
   clear HA
   simp only [zu.l0] at H
   by_cases c3 : x4_1 < 128
   rotate_left
   · rw [if_neg c3] at H
     have c3b0 : decide (x4_1 < 128) = false:=decide_eq_false c3
     clear c3
     obtain rfl:=Option.some.inj H
     go_wp2
     go_ret
     exact ⟨by first|rfl|(simp [zi,zj] <;> rfl)|(simp [*,zi,zj] <;> rfl),by repeat (first|(with_reducible first|exact HB.out|apply zd|apply z3|apply zc|refine za ?_ GE101.out)|exact HB.out)⟩
   rw [if_pos c3] at H
   have c3b0 : decide (x4_1 < 128) = true:=decide_eq_true c3
   clear c3
   replace H:=Option.bind_eq_some_iff.mp H
   obtain ⟨t102,A40,H⟩:=H
   replace H : (if t102 = true then (zu.l0 k1 x4_1 (wrap64 (x4_1 + 1)) a0_0 a0_1) else (zu.l0 k1 x3_1 (wrap64 (x4_1 + 1)) a0_0 a0_1)) = some r:=H
   have A4:=z1.mk A40
   clear A40
   by_cases c5 : t102 = true
   · subst c5
     have H1 : (zu.l0 k1 x4_1 (wrap64 (x4_1 + 1)) a0_0 a0_1) = some r:=by rw [if_pos rfl] at H;exact H
     clear H
     have H:=H1
     clear H1
     have H':=z1.mk H
     clear H
     have hcz6_0 : wr.cell? ⟨gb101,0,none⟩ = some (.int .u64 a0_0):=(z5 BK101.out 0).trans rfl
     have hcz6_1 : wr.cell? ⟨gb101,1,none⟩ = some (.int .u64 a0_1):=(z5 BK101.out 1).trans rfl
     have hfz6_0:=z4 BK101.out 0
     have hfz6_1:=z4 BK101.out 1
     go_wp2_with (first|((with_reducible refine zo (f:=46) rfl ?_);refine goesL_ (some 11) rfl rfl Try.func46 zz84 rfl #[.agg #[.int .u64 a0_0,.int .u64 a0_1],.int .i64 x4_1] rfl zz45 ?_;(with_reducible refine (zv.calls k1 a0_0 a0_1 x4_1 true _ A4.out).mono ?_);rintro e w7 ⟨rfl,hb⟩;refine ⟨_,rfl,?_⟩;have n0_:=z1.mk (z9 (g:=gb101) (o:=.cells #[.int .u64 a0_0,.int .u64 a0_1] 38 (0,0)) zz49 hb);have n1_:=z1.mk (ze zz41 hb);clear BK101;clear HB;have BK101:=n0_;have HB:=n1_;clear n0_ n1_;(try clear hb);(try clear hb2);(try clear hk);(try clear hi)))
     go_roundg k1
     case measure=>have:=HK1.out;omega
     case rel=>exact ⟨(x4_1),(wrap64 (x4_1 + 1)),zz82,zz82,H',⟨by have:=HK1.out;omega⟩,⟨by (with_reducible repeat (first|refine z8 ?_ _|refine zb ?_|refine z7 ?_ _));exact BK101.out⟩,⟨by repeat (first|(with_reducible first|exact HB.out|apply zd|apply z3|apply zc|refine za ?_ GE101.out)|exact HB.out)⟩⟩
   replace c5:=Bool.eq_false_iff.mpr c5
   subst c5
   have H1 : (zu.l0 k1 x3_1 (wrap64 (x4_1 + 1)) a0_0 a0_1) = some r:=by rw [if_neg (show ¬ (false = true) by decide)] at H;exact H
   clear H
   have H:=H1
   clear H1
   have H':=z1.mk H
   clear H
   have hcz8_0 : wr.cell? ⟨gb101,0,none⟩ = some (.int .u64 a0_0):=(z5 BK101.out 0).trans rfl
   have hcz8_1 : wr.cell? ⟨gb101,1,none⟩ = some (.int .u64 a0_1):=(z5 BK101.out 1).trans rfl
   have hfz8_0:=z4 BK101.out 0
   have hfz8_1:=z4 BK101.out 1
   go_wp2_with (first|((with_reducible refine zo (f:=46) rfl ?_);refine goesL_ (some 11) rfl rfl Try.func46 zz84 rfl #[.agg #[.int .u64 a0_0,.int .u64 a0_1],.int .i64 x4_1] rfl zz45 ?_;(with_reducible refine (zv.calls k1 a0_0 a0_1 x4_1 false _ A4.out).mono ?_);rintro e w9 ⟨rfl,hb⟩;refine ⟨_,rfl,?_⟩;have n0_:=z1.mk (z9 (g:=gb101) (o:=.cells #[.int .u64 a0_0,.int .u64 a0_1] 38 (0,0)) zz49 hb);have n1_:=z1.mk (ze zz41 hb);clear BK101;clear HB;have BK101:=n0_;have HB:=n1_;clear n0_ n1_;(try clear hb);(try clear hb2);(try clear hk);(try clear hi)))
   go_roundg k1
   case measure=>have:=HK1.out;omega
   case rel=>exact ⟨(x3_1),(wrap64 (x4_1 + 1)),zz82,zz82,H',⟨by have:=HK1.out;omega⟩,⟨by (with_reducible repeat (first|refine z8 ?_ _|refine zb ?_|refine z7 ?_ _));exact BK101.out⟩,⟨by repeat (first|(with_reducible first|exact HB.out|apply zd|apply z3|apply zc|refine za ?_ GE101.out)|exact HB.out)⟩⟩
end Go.Proofs.Ytnhbdhgbmjcjdaa.P
namespace Go.Proofs.Ytnhbdhgbmjcjdaa.P
open Go.RowKit Go.Proofs.YtnhbdhgbmjcjdaaW.PrintWords Go.Proofs.YtnhbdhgbmjcjdaaW.PrintLast Go.Proofs.YtnhbdhgbmjcjdaaW.PrintMore
attribute [local go_sem] z10 z12 z1h z1i zQ zR z11 z13   -- for this text's walks alone
set_option linter.unusedVariables false
set_option linter.unusedSimpArgs false
def z1f.f (a0_0 : Int) (a0_1 : Int) (a1_0 : Int) (a1_1 : Int) : Option (Int × Int):=some (Go.bits .xor .u64 a0_0 a1_0,Go.bits .xor .u64 a0_1 a1_1)
set_option maxHeartbeats 8000000 in
set_option maxRecDepth 100000 in
theorem z1f.calls (a0_0 : Int) (a0_1 : Int) (a1_0 : Int) (a1_1 : Int) (r1 : Int) (r2 : Int) (w : World) (h : z1f.f a0_0 a0_1 a1_0 a1_1 = some (r1,r2)) :
 Calls Try.prog 47 #[.agg #[.int .u64 a0_0,.int .u64 a0_1],.agg #[.int .u64 a1_0,.int .u64 a1_1]] w fun e w'=>e = .returned (.agg #[.int .u64 r1,.int .u64 r2]) ∧ Below w.heap.size w w':=by
 have hu38:=Try.underlying38
 have HB:=z1.mk (Below.refl w.heap.size w)
 have H : (some (Go.bits .xor .u64 a0_0 a1_0,Go.bits .xor .u64 a0_1 a1_1)) = some (r1,r2):=h
 clear h
 simp only [Option.some.injEq,Prod.mk.injEq] at H
 obtain ⟨rfl,rfl⟩:=H
 go_enter Try.func47,Try.ntmps47
 go_wp2_with (first|((with_reducible refine zE (N:=2) rfl ?_);refine zC ?hg (N:=2) ?hd (cs:=#[.int .u64 a0_0,.int .u64 a0_1]) (t:=38) ?hr ?_;(case hd=>rfl);(case hg=>rfl);(case hr=>first|(go_simp;done)|(go_simp;rfl));intro gb101 hg w3 hbox hb;have n0_:=z1.mk (ze zz47 hb);have n1_:=z1.mk (hbox);have n2_:=z1.mk ((by rw [hg];exact (zf zz47) : w.heap.size ≤ gb101));have n3_:=z1.mk ((by rw [hg];exact (zf zz47) : w.heap.size ≤ gb101));clear HB;have HB:=n0_;have BK101:=n1_;have GW101:=n2_;have GE101:=n3_;clear n0_ n1_ n2_ n3_;clear hb hbox hg)|((with_reducible refine zE (N:=3) rfl ?_);refine zC ?hg (N:=3) ?hd (cs:=#[.int .u64 a1_0,.int .u64 a1_1]) (t:=38) ?hr ?_;(case hd=>rfl);(case hg=>rfl);(case hr=>first|(go_simp;done)|(go_simp;rfl));intro gb102 hg w4 hbox hb;have n0_:=z1.mk (z9 (g:=gb101) (o:=.cells #[.int .u64 a0_0,.int .u64 a0_1] 38 (0,0)) zz49 hb);have n1_:=z1.mk (ze zz41 hb);have n2_:=z1.mk (hbox);have n3_:=z1.mk ((by rw [hg];exact (zf zz41) : w.heap.size ≤ gb102));have n4_:=z1.mk ((by rw [hg];exact (zf zz41) : w.heap.size ≤ gb102));have n5_:=z1.mk ((by rw [hg];exact Nat.ne_of_lt (zw (g:=gb101) (o:=.cells #[.int .u64 a0_0,.int .u64 a0_1] 38 (0,0)) zz49) : gb101 ≠ gb102));have n6_:=z1.mk ((by rw [hg];exact Nat.ne_of_gt (zw (g:=gb101) (o:=.cells #[.int .u64 a0_0,.int .u64 a0_1] 38 (0,0)) zz49) : gb102 ≠ gb101));clear BK101;clear HB;have BK101:=n0_;have HB:=n1_;have BK102:=n2_;have GW102:=n3_;have GE102:=n4_;have NB101_102:=n5_;have NB102_101:=n6_;clear n0_ n1_ n2_ n3_ n4_ n5_ n6_;clear hb hbox hg)|((with_reducible refine zE (N:=4) rfl ?_);refine zC ?hg (N:=4) ?hd (cs:=#[.int .u64 0,.int .u64 0]) (t:=38) ?hr ?_;(case hd=>rfl);(case hg=>rfl);(case hr=>first|(go_simp;done)|(go_simp;rfl));intro gb103 hg w5 hbox hb;have n0_:=z1.mk (z9 (g:=gb101) (o:=.cells #[.int .u64 a0_0,.int .u64 a0_1] 38 (0,0)) zz49 hb);have n1_:=z1.mk (z9 (g:=gb102) (o:=.cells #[.int .u64 a1_0,.int .u64 a1_1] 38 (0,0)) zz50 hb);have n2_:=z1.mk (ze zz36 hb);have n3_:=z1.mk (hbox);have n4_:=z1.mk ((by rw [hg];exact (zf zz36) : w.heap.size ≤ gb103));have n5_:=z1.mk ((by rw [hg];exact (zf zz36) : w.heap.size ≤ gb103));have n6_:=z1.mk ((by rw [hg];exact Nat.ne_of_lt (zw (g:=gb101) (o:=.cells #[.int .u64 a0_0,.int .u64 a0_1] 38 (0,0)) zz49) : gb101 ≠ gb103));have n7_:=z1.mk ((by rw [hg];exact Nat.ne_of_gt (zw (g:=gb101) (o:=.cells #[.int .u64 a0_0,.int .u64 a0_1] 38 (0,0)) zz49) : gb103 ≠ gb101));have n8_:=z1.mk ((by rw [hg];exact Nat.ne_of_lt (zw (g:=gb102) (o:=.cells #[.int .u64 a1_0,.int .u64 a1_1] 38 (0,0)) zz50) : gb102 ≠ gb103));have n9_:=z1.mk ((by rw [hg];exact Nat.ne_of_gt (zw (g:=gb102) (o:=.cells #[.int .u64 a1_0,.int .u64 a1_1] 38 (0,0)) zz50) : gb103 ≠ gb102));clear BK101;clear BK102;clear HB;have BK101:=n0_;have BK102:=n1_;have HB:=n2_;have BK103:=n3_;have GW103:=n4_;have GE103:=n5_;have NB101_103:=n6_;have NB103_101:=n7_;have NB102_103:=n8_;have NB103_102:=n9_;clear n0_ n1_ n2_ n3_ n4_ n5_ n6_ n7_ n8_ n9_;clear hb hbox hg;have hnb6:=NB101_102.out;have hnc6:=NB102_101.out;have hnb7:=NB101_103.out;have hnc7:=NB103_101.out;have hcz8_0 : w5.cell? ⟨gb101,0,none⟩ = some (.int .u64 a0_0):=(z5 BK101.out 0).trans rfl;have hcz8_1 : w5.cell? ⟨gb101,1,none⟩ = some (.int .u64 a0_1):=(z5 BK101.out 1).trans rfl;have hfz8_0:=z4 BK101.out 0;have hfz8_1:=z4 BK101.out 1;have hnb9:=NB102_103.out;have hnc9:=NB103_102.out;have hcz10_0 : w5.cell? ⟨gb102,0,none⟩ = some (.int .u64 a1_0):=(z5 BK102.out 0).trans rfl;have hcz10_1 : w5.cell? ⟨gb102,1,none⟩ = some (.int .u64 a1_1):=(z5 BK102.out 1).trans rfl;have hfz10_0:=z4 BK102.out 0;have hfz10_1:=z4 BK102.out 1;have hcz11_0 : w5.cell? ⟨gb103,0,none⟩ = some (.int .u64 0):=(z5 BK103.out 0).trans rfl;have hcz11_1 : w5.cell? ⟨gb103,1,none⟩ = some (.int .u64 0):=(z5 BK103.out 1).trans rfl;have hfz11_0:=z4 BK103.out 0;have hfz11_1:=z4 BK103.out 1))
 refine bodyPost_ret (results_cell_row rfl _ _ gb103 38 #[.int .u64 (Go.bits .xor .u64 a0_0 a1_0),.int .u64 (Go.bits .xor .u64 a0_1 a1_1)] (0,0) _ rfl zz1 Try.underlying38 rfl zz84) rfl ?_
 exact ⟨by first|rfl|(simp [zi,zj] <;> rfl)|(simp [*,zi,zj] <;> rfl),by repeat (first|(with_reducible first|exact HB.out|apply zd|apply z3|apply zc|refine za ?_ GE101.out|refine za ?_ GE102.out|refine za ?_ GE103.out)|exact HB.out)⟩
end Go.Proofs.Ytnhbdhgbmjcjdaa.P
namespace Go.Proofs.Ytnhbdhgbmjcjdaa.P
open Go.RowKit Go.Proofs.YtnhbdhgbmjcjdaaW.PrintWords Go.Proofs.YtnhbdhgbmjcjdaaW.PrintLast Go.Proofs.YtnhbdhgbmjcjdaaW.PrintMore
attribute [local go_sem] z10 z12 z1h z1i zQ zR z11 z13   -- for this text's walks alone
set_option linter.unusedVariables false
set_option linter.unusedSimpArgs false
def zt.l0 : Nat → List (S38) → Int → Int → Int → Int → Int → Option (Int × Int)
 | 0,_,_,_,_,_,_=>none
 | k + 1,x0,x6,x102000,x102001,x104000,x104001=>if x6 < (x0.length : Int) then ((zv.f k x102000 x102001 x6).bind fun t104=>(if t104 = true then (if 0 ≤ x6 then ((z1f.f x104000 x104001 ((z1r x0 x6).f0) ((z1r x0 x6).f1)).bind fun bt106=>(zt.l0 k x0 (wrap64 (x6 + 1)) x102000 x102001 bt106.1 bt106.2)) else (none)) else (zt.l0 k x0 (wrap64 (x6 + 1)) x102000 x102001 x104000 x104001))) else (some (x104000,x104001))
def zt.f (k : Nat) (l0 : List (S38)) (a1_0 : Int) (a1_1 : Int) : Option (Int × Int):=zt.l0 k l0 0 a1_0 a1_1 0 0
theorem zt.zY : ∀ k,(∀ y0 y1 y2 y3 y4 y5,LeO (zt.l0 k y0 y1 y2 y3 y4 y5) (zt.l0 (k + 1) y0 y1 y2 y3 y4 y5))
 | 0=>fun _ _ _ _ _ _ r h=>by simp [zt.l0] at h
 | k + 1=>by
  have ih0:=zt.zY k
  · intro y0 y1 y2 y3 y4 y5
    unfold zt.l0
    repeat' first
    | (with_reducible exact ih0 _ _ _ _ _ _)
    | (with_reducible exact zv.mono _ _ _ _)
    | (with_reducible exact LeO.refl _)
    | (with_reducible exact LeO.none _)
    | (with_reducible refine LeO.ite ?_ ?_)
    | (with_reducible refine LeO.bind ?_ (fun _=>?_))
    | exact ih0 _ _ _ _ _ _
    | exact zv.mono _ _ _ _
    | exact LeO.none _
    | refine LeO.ite ?_ ?_
    | refine LeO.bind ?_ (fun _=>?_)
theorem zt.mono : ∀ a0 a1 a2 k,LeO (zt.f k a0 a1 a2) (zt.f (k + 1) a0 a1 a2):=by
 intro a0 a1 a2 k
 have ih0:=zt.zY k
 unfold zt.f
 repeat' first
  | (with_reducible exact ih0 _ _ _ _ _ _)
  | (with_reducible exact zv.mono _ _ _ _)
  | (with_reducible exact LeO.refl _)
  | (with_reducible exact LeO.none _)
  | (with_reducible refine LeO.ite ?_ ?_)
  | (with_reducible refine LeO.bind ?_ (fun _=>?_))
  | exact ih0 _ _ _ _ _ _
  | exact zv.mono _ _ _ _
  | exact LeO.none _
  | refine LeO.ite ?_ ?_
  | refine LeO.bind ?_ (fun _=>?_)
set_option maxHeartbeats 8000000 in
set_option maxRecDepth 100000 in
theorem zt.calls (k : Nat) (A0 : Option Addr) (c0 : Nat) (l0 : List (S38)) (a1_0 : Int) (a1_1 : Int) (r1 : Int) (r2 : Int) (w : World) (hr0 : Kd.C k38 w A0 l0.length l0) (hc0 : l0.length ≤ c0) (h : zt.f k l0 a1_0 a1_1 = some (r1,r2)) :
 Calls Try.prog 52 #[.slice A0 l0.length c0,.agg #[.int .u64 a1_0,.int .u64 a1_1]] w fun e w'=>e = .returned (.agg #[.int .u64 r1,.int .u64 r2]) ∧ Below w.heap.size w w':=by
 have hu38:=Try.underlying38
 have HR0:=z1.mk hr0
 have HC0:=z1.mk hc0
 clear hr0 hc0
 have HB:=z1.mk (Below.refl w.heap.size w)
 have H : (zt.l0 k l0 0 a1_0 a1_1 0 0) = some (r1,r2):=h
 clear h
 have H':=z1.mk H
 clear H
 go_enter Try.func52,Try.ntmps52
 go_wp2_with (first|((with_reducible refine zE (N:=3) rfl ?_);refine zC ?hg (N:=3) ?hd (cs:=#[.int .u64 a1_0,.int .u64 a1_1]) (t:=38) ?hr ?_;(case hd=>rfl);(case hg=>rfl);(case hr=>first|(go_simp;done)|(go_simp;rfl));intro gb101 hg w3 hbox hb;have n0_:=z1.mk (ze zz47 hb);have n1_:=z1.mk (hbox);have n2_:=z1.mk ((by rw [hg];exact (zf zz47) : w.heap.size ≤ gb101));have n3_:=z1.mk ((by rw [hg];exact (zf zz47) : w.heap.size ≤ gb101));clear HB;have HB:=n0_;have BK101:=n1_;have GW101:=n2_;have GE101:=n3_;clear n0_ n1_ n2_ n3_;clear hb hbox hg)|((with_reducible refine zE (N:=4) rfl ?_);refine zC ?hg (N:=4) ?hd (cs:=#[.int .u64 0,.int .u64 0]) (t:=38) ?hr ?_;(case hd=>rfl);(case hg=>rfl);(case hr=>first|(go_simp;done)|(go_simp;rfl));intro gb102 hg w4 hbox hb;have n0_:=z1.mk (z9 (g:=gb101) (o:=.cells #[.int .u64 a1_0,.int .u64 a1_1] 38 (0,0)) zz49 hb);have n1_:=z1.mk (ze zz41 hb);have n2_:=z1.mk (hbox);have n3_:=z1.mk ((by rw [hg];exact (zf zz41) : w.heap.size ≤ gb102));have n4_:=z1.mk ((by rw [hg];exact (zf zz41) : w.heap.size ≤ gb102));have n5_:=z1.mk ((by rw [hg];exact Nat.ne_of_lt (zw (g:=gb101) (o:=.cells #[.int .u64 a1_0,.int .u64 a1_1] 38 (0,0)) zz49) : gb101 ≠ gb102));have n6_:=z1.mk ((by rw [hg];exact Nat.ne_of_gt (zw (g:=gb101) (o:=.cells #[.int .u64 a1_0,.int .u64 a1_1] 38 (0,0)) zz49) : gb102 ≠ gb101));clear BK101;clear HB;have BK101:=n0_;have HB:=n1_;have BK102:=n2_;have GW102:=n3_;have GE102:=n4_;have NB101_102:=n5_;have NB102_101:=n6_;clear n0_ n1_ n2_ n3_ n4_ n5_ n6_;clear hb hbox hg)|((with_reducible refine zE (N:=5) rfl ?_);refine zC ?hg (N:=5) ?hd (cs:=#[.int .u64 0,.int .u64 0]) (t:=38) ?hr ?_;(case hd=>rfl);(case hg=>rfl);(case hr=>first|(go_simp;done)|(go_simp;rfl));intro gb103 hg w5 hbox hb;have n0_:=z1.mk (z9 (g:=gb101) (o:=.cells #[.int .u64 a1_0,.int .u64 a1_1] 38 (0,0)) zz49 hb);have n1_:=z1.mk (z9 (g:=gb102) (o:=.cells #[.int .u64 0,.int .u64 0] 38 (0,0)) zz50 hb);have n2_:=z1.mk (ze zz36 hb);have n3_:=z1.mk (hbox);have n4_:=z1.mk ((by rw [hg];exact (zf zz36) : w.heap.size ≤ gb103));have n5_:=z1.mk ((by rw [hg];exact (zf zz36) : w.heap.size ≤ gb103));have n6_:=z1.mk ((by rw [hg];exact Nat.ne_of_lt (zw (g:=gb101) (o:=.cells #[.int .u64 a1_0,.int .u64 a1_1] 38 (0,0)) zz49) : gb101 ≠ gb103));have n7_:=z1.mk ((by rw [hg];exact Nat.ne_of_gt (zw (g:=gb101) (o:=.cells #[.int .u64 a1_0,.int .u64 a1_1] 38 (0,0)) zz49) : gb103 ≠ gb101));have n8_:=z1.mk ((by rw [hg];exact Nat.ne_of_lt (zw (g:=gb102) (o:=.cells #[.int .u64 0,.int .u64 0] 38 (0,0)) zz50) : gb102 ≠ gb103));have n9_:=z1.mk ((by rw [hg];exact Nat.ne_of_gt (zw (g:=gb102) (o:=.cells #[.int .u64 0,.int .u64 0] 38 (0,0)) zz50) : gb103 ≠ gb102));clear BK101;clear BK102;clear HB;have BK101:=n0_;have BK102:=n1_;have HB:=n2_;have BK103:=n3_;have GW103:=n4_;have GE103:=n5_;have NB101_103:=n6_;have NB103_101:=n7_;have NB102_103:=n8_;have NB103_102:=n9_;clear n0_ n1_ n2_ n3_ n4_ n5_ n6_ n7_ n8_ n9_;clear hb hbox hg))
 go_loopg [6] k (fun kq v6 w'=>∃ (x6_1 : Int) (x104000_1 : Int) (x104001_1 : Int),v6 = .int .i64 x6_1 ∧ z1 (zt.l0 kq l0 x6_1 a1_0 a1_1 x104000_1 x104001_1 = some (r1,r2)) ∧ z1 (kq ≤ k) ∧ z1 (w'.heap[gb101]? = some (.cells #[.int .u64 a1_0,.int .u64 a1_1] 38 (0,0))) ∧ z1 (w'.heap[gb102]? = some (.cells #[.int .u64 0,.int .u64 0] 38 (0,0))) ∧ z1 (w'.heap[gb103]? = some (.cells #[.int .u64 x104000_1,.int .u64 x104001_1] 38 (0,0))) ∧ z1 (Below w.heap.size w w'))
 case atStart=>exact ⟨(0),(0),(0),zz82,H',⟨Nat.le_refl _⟩,⟨by (with_reducible repeat (first|refine z8 ?_ _|refine zb ?_|refine z7 ?_ _));exact BK101.out⟩,⟨by (with_reducible repeat (first|refine z8 ?_ _|refine zb ?_|refine z7 ?_ _));exact BK102.out⟩,⟨by (with_reducible repeat (first|refine z8 ?_ _|refine zb ?_|refine z7 ?_ _));exact BK103.out⟩,⟨by repeat (first|(with_reducible first|exact HB.out|apply zd|apply z3|apply zc|refine za ?_ GE101.out|refine za ?_ GE102.out|refine za ?_ GE103.out)|exact HB.out)⟩⟩
 case round =>
  clear H'
  (try clear p2);(try clear c5)
  obtain ⟨x6_1,x104000_1,x104001_1,rfl,HA,HK1,BK101,BK102,BK103,HB⟩:=hrel
  cases gk with
  | zero=>exact absurd HA.out (by simp [zt.l0])
  | succ k1 =>
   have H:=HA.out
   clear HA
   simp only [zt.l0] at H
   by_cases c6 : x6_1 < (l0.length : Int)
   rotate_left
   · rw [if_neg c6] at H
     have c6b0 : decide (x6_1 < (l0.length : Int)) = false:=decide_eq_false c6
     clear c6
     simp only [Option.some.injEq,Prod.mk.injEq] at H
     obtain ⟨rfl,rfl⟩:=H
     have hnb23:=NB103_101.out
     have hnc23:=NB101_103.out
     have hnb24:=NB103_102.out
     have hnc24:=NB102_103.out
     have hcz25_0 : wr.cell? ⟨gb103,0,none⟩ = some (.int .u64 x104000_1):=(z5 BK103.out 0).trans rfl
     have hcz25_1 : wr.cell? ⟨gb103,1,none⟩ = some (.int .u64 x104001_1):=(z5 BK103.out 1).trans rfl
     have hfz25_0:=z4 BK103.out 0
     have hfz25_1:=z4 BK103.out 1
     have hnb26:=NB102_101.out
     have hnc26:=NB101_102.out
     have hcz27_0 : wr.cell? ⟨gb102,0,none⟩ = some (.int .u64 0):=(z5 BK102.out 0).trans rfl
     have hcz27_1 : wr.cell? ⟨gb102,1,none⟩ = some (.int .u64 0):=(z5 BK102.out 1).trans rfl
     have hfz27_0:=z4 BK102.out 0
     have hfz27_1:=z4 BK102.out 1
     go_wp2
     refine bodyPost_ret (results_cell_row rfl _ _ gb102 38 #[.int .u64 x104000_1,.int .u64 x104001_1] (0,0) _ rfl zz3 Try.underlying38 rfl zz84) rfl ?_
     exact ⟨by first|rfl|(simp [zi,zj] <;> rfl)|(simp [*,zi,zj] <;> rfl),by repeat (first|(with_reducible first|exact HB.out|apply zd|apply z3|apply zc|refine za ?_ GE101.out|refine za ?_ GE102.out|refine za ?_ GE103.out)|exact HB.out)⟩
   rw [if_pos c6] at H
   have c6b0 : decide (x6_1 < (l0.length : Int)) = true:=decide_eq_true c6
   clear c6
   replace H:=Option.bind_eq_some_iff.mp H
   obtain ⟨t104,A70,H⟩:=H
   replace H : (if t104 = true then (if 0 ≤ x6_1 then ((z1f.f x104000_1 x104001_1 ((z1r l0 x6_1).f0) ((z1r l0 x6_1).f1)).bind fun bt106=>(zt.l0 k1 l0 (wrap64 (x6_1 + 1)) a1_0 a1_1 bt106.1 bt106.2)) else (none)) else (zt.l0 k1 l0 (wrap64 (x6_1 + 1)) a1_0 a1_1 x104000_1 x104001_1)) = some (r1,r2):=H
   have A7:=z1.mk A70
   clear A70
   by_cases c8 : t104 = true
   rotate_left
   · replace c8:=Bool.eq_false_iff.mpr c8
     subst c8
     have H1 : (zt.l0 k1 l0 (wrap64 (x6_1 + 1)) a1_0 a1_1 x104000_1 x104001_1) = some (r1,r2):=by rw [if_neg (show ¬ (false = true) by decide)] at H;exact H
     clear H
     have H:=H1
     clear H1
     have H':=z1.mk H
     clear H
     have hnb19:=NB101_102.out
     have hnc19:=NB102_101.out
     have hnb20:=NB101_103.out
     have hnc20:=NB103_101.out
     have hcz21_0 : wr.cell? ⟨gb101,0,none⟩ = some (.int .u64 a1_0):=(z5 BK101.out 0).trans rfl
     have hcz21_1 : wr.cell? ⟨gb101,1,none⟩ = some (.int .u64 a1_1):=(z5 BK101.out 1).trans rfl
     have hfz21_0:=z4 BK101.out 0
     have hfz21_1:=z4 BK101.out 1
     go_wp2_with (first|((with_reducible refine zo (f:=46) rfl ?_);refine goesL_ (some 15) rfl rfl Try.func46 zz84 rfl #[.agg #[.int .u64 a1_0,.int .u64 a1_1],.int .i64 x6_1] rfl zz45 ?_;(with_reducible refine (zv.calls k1 a1_0 a1_1 x6_1 false _ A7.out).mono ?_);rintro e w22 ⟨rfl,hb⟩;refine ⟨_,rfl,?_⟩;have n0_:=z1.mk (z9 (g:=gb101) (o:=.cells #[.int .u64 a1_0,.int .u64 a1_1] 38 (0,0)) zz49 hb);have n1_:=z1.mk (z9 (g:=gb102) (o:=.cells #[.int .u64 0,.int .u64 0] 38 (0,0)) zz50 hb);have n2_:=z1.mk (z9 (g:=gb103) (o:=.cells #[.int .u64 x104000_1,.int .u64 x104001_1] 38 (0,0)) zz54 hb);have n3_:=z1.mk (ze zz32 hb);clear BK101;clear BK102;clear BK103;clear HB;have BK101:=n0_;have BK102:=n1_;have BK103:=n2_;have HB:=n3_;clear n0_ n1_ n2_ n3_;(try clear hb);(try clear hb2);(try clear hk);(try clear hi)))
     go_roundg k1
     case measure=>have:=HK1.out;omega
     case rel=>exact ⟨(wrap64 (x6_1 + 1)),(x104000_1),(x104001_1),zz82,H',⟨by have:=HK1.out;omega⟩,⟨by (with_reducible repeat (first|refine z8 ?_ _|refine zb ?_|refine z7 ?_ _));exact BK101.out⟩,⟨by (with_reducible repeat (first|refine z8 ?_ _|refine zb ?_|refine z7 ?_ _));exact BK102.out⟩,⟨by (with_reducible repeat (first|refine z8 ?_ _|refine zb ?_|refine z7 ?_ _));exact BK103.out⟩,⟨by repeat (first|(with_reducible first|exact HB.out|apply zd|apply z3|apply zc|refine za ?_ GE101.out|refine za ?_ GE102.out|refine za ?_ GE103.out)|exact HB.out)⟩⟩
   subst c8
   have H1 : (if 0 ≤ x6_1 then ((z1f.f x104000_1 x104001_1 ((z1r l0 x6_1).f0) ((z1r l0 x6_1).f1)).bind fun bt106=>(zt.l0 k1 l0 (wrap64 (x6_1 + 1)) a1_0 a1_1 bt106.1 bt106.2)) else (none)) = some (r1,r2):=by rw [if_pos rfl] at H;exact H
   clear H
   have H:=H1
   clear H1
   by_cases c9 : 0 ≤ x6_1
   rotate_left
   · rw [if_neg c9] at H
     exact absurd H zz87
   rw [if_pos c9] at H
   have c9b0 : decide (0 ≤ x6_1) = true:=decide_eq_true c9
   clear c9
   replace H:=Option.bind_eq_some_iff.mp H
   obtain ⟨⟨t106,t107⟩,A100,H⟩:=H
   replace H : (zt.l0 k1 l0 (wrap64 (x6_1 + 1)) a1_0 a1_1 t106 t107) = some (r1,r2):=H
   have A10:=z1.mk A100
   clear A100
   have H':=z1.mk H
   clear H
   have hnb11:=NB101_102.out
   have hnc11:=NB102_101.out
   have hnb12:=NB101_103.out
   have hnc12:=NB103_101.out
   have hcz13_0 : wr.cell? ⟨gb101,0,none⟩ = some (.int .u64 a1_0):=(z5 BK101.out 0).trans rfl
   have hcz13_1 : wr.cell? ⟨gb101,1,none⟩ = some (.int .u64 a1_1):=(z5 BK101.out 1).trans rfl
   have hfz13_0:=z4 BK101.out 0
   have hfz13_1:=z4 BK101.out 1
   try go_wp2_with (first|((with_reducible refine zo (f:=46) rfl ?_);refine goesL_ (some 15) rfl rfl Try.func46 zz84 rfl #[.agg #[.int .u64 a1_0,.int .u64 a1_1],.int .i64 x6_1] rfl zz45 ?_;(with_reducible refine (zv.calls k1 a1_0 a1_1 x6_1 true _ A7.out).mono ?_);rintro e w14 ⟨rfl,hb⟩;refine ⟨_,rfl,?_⟩;have n0_:=z1.mk (z9 (g:=gb101) (o:=.cells #[.int .u64 a1_0,.int .u64 a1_1] 38 (0,0)) zz49 hb);have n1_:=z1.mk (z9 (g:=gb102) (o:=.cells #[.int .u64 0,.int .u64 0] 38 (0,0)) zz50 hb);have n2_:=z1.mk (z9 (g:=gb103) (o:=.cells #[.int .u64 x104000_1,.int .u64 x104001_1] 38 (0,0)) zz54 hb);have n3_:=z1.mk (ze zz32 hb);clear BK101;clear BK102;clear BK103;clear HB;have BK101:=n0_;have BK102:=n1_;have BK103:=n2_;have HB:=n3_;clear n0_ n1_ n2_ n3_;(try clear hb);(try clear hb2);(try clear hk);(try clear hi)))
   have n0_:=z1.mk (zb BK101.out)
   have n1_:=z1.mk (zb BK102.out)
   have n2_:=z1.mk (zb BK103.out)
   have n3_:=z1.mk (zc HB.out)
   clear BK101
   clear BK102
   clear BK103
   clear HB
   have BK101:=n0_
   have BK102:=n1_
   have BK103:=n2_
   have HB:=n3_
   clear n0_ n1_ n2_ n3_
   have p105 : 0 ≤ (x6_1 : Int):=of_decide_eq_true zz81
   have q105 : x6_1 < (l0.length : Int):=of_decide_eq_true zz81
   obtain ⟨ad105,e105,hx105_0,hx105_1⟩:=z3b HR0.out x6_1 p105 q105
   have hw105_1:=hx105_1
   have hw105_0:=hx105_0
   cases e105
   replace hx105_0:=(HB.out.cell (World.block_lt_of_cell? w _ hx105_0)).trans hx105_0
   replace hx105_1:=(HB.out.cell (World.block_lt_of_cell? w _ hx105_1)).trans hx105_1
   replace p105:=eq_true p105
   replace q105:=eq_true q105
   refine start_ (n:=7) (S:=fun w'=>w'.cell? ⟨gb103,0,none⟩ = some (.int .u64 x104000_1) ∧ w'.cell? ⟨gb103,1,none⟩ = some (.int .u64 x104001_1) ∧ w'.cell? (ad105.add ((x6_1).toNat * 2)) = some (.int .u64 ((z1r l0 x6_1).f0)) ∧ w'.cell? ⟨(ad105.add ((x6_1).toNat * 2)).block,(ad105.add ((x6_1).toNat * 2)).off + 1,none⟩ = some (.int .u64 ((z1r l0 x6_1).f1))) (ds:=[6]) #[false,false,false,false,false,false,false] zz84 rfl rfl ⟨(z5 BK103.out 0).trans rfl,(z5 BK103.out 1).trans rfl,((HB.out.cell (World.block_lt_of_cell? w _ hw105_0)).trans hw105_0),((HB.out.cell (World.block_lt_of_cell? w _ hw105_1)).trans hw105_1)⟩ (fun hHeld=>?_)
   generalize w14.drew = w15 at BK101 BK102 BK103 HB hx105_0 hx105_1 hHeld ⊢
   refine pure_ (i:=1) (N:=some 17) (v:=?_) (a':=?_) #[false,true,false,false,false,false,false] rfl rfl zz84 (fun _ _ _ h=>h) (Or.inl ⟨by rfl,?_⟩) ?_ ?_
   rotate_left
   · intro w'
     go_simp
     with_reducible rfl
   rotate_left
   · simp only [Act.put,List.setIfInBounds_toArray,List.set_cons_zero,List.set_cons_succ,zH,zI]
     rfl
   refine pure_ (i:=2) (N:=some 18) (v:=?_) (a':=?_) #[false,true,true,false,false,false,false] rfl rfl zz84 (fun _ _ _ h=>h) (Or.inl ⟨by rfl,?_⟩) ?_ ?_
   rotate_left
   · intro w'
     go_simp
     with_reducible rfl
   rotate_left
   · simp only [Act.put,List.setIfInBounds_toArray,List.set_cons_zero,List.set_cons_succ,zH,zI]
     rfl
   refine pure_ (i:=3) (N:=some 19) (v:=?_) (a':=?_) #[false,true,true,true,false,false,false] rfl rfl zz84 (fun _ _ _ h=>h) (Or.inl ⟨by rfl,?_⟩) ?_ ?_
   rotate_left
   · intro w'
     go_simp
     with_reducible rfl
   rotate_left
   · simp only [Act.put,List.setIfInBounds_toArray,List.set_cons_zero,List.set_cons_succ,zH,zI]
     rfl
   refine take_ (i:=0) (N:=some 16) (v:=?_) (a':=?_) #[true,true,true,true,false,false,false] rfl rfl zz84 (fun _ _ _ h=>h) (Or.inl ⟨by rfl,?_⟩) hHeld ?_ ?_
   rotate_left
   · rintro w' ⟨s0,s1,s2,s3⟩
     go_simp
     with_reducible rfl
   rotate_left
   · simp only [Act.put,List.setIfInBounds_toArray,List.set_cons_zero,List.set_cons_succ,zH,zI]
     rfl
   refine take_ (i:=4) (N:=some 20) (v:=?_) (a':=?_) #[true,true,true,true,true,false,false] rfl rfl zz84 (fun _ _ _ h=>h) (Or.inl ⟨by rfl,?_⟩) hHeld ?_ ?_
   rotate_left
   · rintro w' ⟨s0,s1,s2,s3⟩
     go_simp
     with_reducible rfl
   rotate_left
   · simp only [Act.put,List.setIfInBounds_toArray,List.set_cons_zero,List.set_cons_succ,zH,zI]
     rfl
   refine one_ (i:=5) (N:=some 21) #[true,true,true,true,true,true,false] rfl rfl zz84 zz85 (fun K hK=>?_)
   refine goes_ Try.func47 zz84 rfl #[.agg #[.int .u64 x104000_1,.int .u64 x104001_1],.agg #[.int .u64 ((z1r l0 x6_1).f0),.int .u64 ((z1r l0 x6_1).f1)]] zz88 rfl rfl zz45 ?_
   with_reducible refine (z1f.calls x104000_1 x104001_1 ((z1r l0 x6_1).f0) ((z1r l0 x6_1).f1) t106 t107 _ A10.out).mono ?_
   rintro e w16 ⟨rfl,hb⟩
   refine ⟨_,rfl,?_⟩
   have n0_:=z1.mk (z9 (g:=gb101) (o:=.cells #[.int .u64 a1_0,.int .u64 a1_1] 38 (0,0)) zz49 hb)
   have n1_:=z1.mk (z9 (g:=gb102) (o:=.cells #[.int .u64 0,.int .u64 0] 38 (0,0)) zz50 hb)
   have n2_:=z1.mk (z9 (g:=gb103) (o:=.cells #[.int .u64 x104000_1,.int .u64 x104001_1] 38 (0,0)) zz54 hb)
   have n3_:=z1.mk (ze zz32 hb)
   clear BK101
   clear BK102
   clear BK103
   clear HB
   have BK101:=n0_
   have BK102:=n1_
   have BK103:=n2_
   have HB:=n3_
   clear n0_ n1_ n2_ n3_
   (try clear hb)
   (try clear hb2)
   (try clear hk)
   (try clear hi)
   refine hK.out _ _ ⟨(z5 BK103.out 0).trans rfl,(z5 BK103.out 1).trans rfl,((HB.out.cell (World.block_lt_of_cell? w _ hw105_0)).trans hw105_0),((HB.out.cell (World.block_lt_of_cell? w _ hw105_1)).trans hw105_1)⟩ (fun hHeld=>?_)
   clear hK K
   refine norm_ (a':=?_) ?_ ?_
   rotate_left
   · show Act.put _ (some 21) _ = _
     simp only [Act.put,List.setIfInBounds_toArray,List.set_cons_zero,List.set_cons_succ,zH,zI]
     rfl
   refine last_ (i:=6) (N:=none) #[true,true,true,true,true,true,true] rfl rfl zz84 zz85 (fun K hK=>?_)
   have hs17 : w16.cell? ⟨gb103,0,none⟩ = some (.int .u64 x104000_1):=(z5 BK103.out 0).trans rfl
   have hfs17:=z4 BK103.out 0
   have hns17_0:=NB101_103.out
   have hns17_1:=NB102_103.out
   have hms17_0:=NB103_101.out
   have hms17_1:=NB103_102.out
   have hs18 : w16.cell? ⟨gb103,1,none⟩ = some (.int .u64 x104001_1):=(z5 BK103.out 1).trans rfl
   have hfs18:=z4 BK103.out 1
   have hns18_0:=NB101_103.out
   have hns18_1:=NB102_103.out
   have hms18_0:=NB103_101.out
   have hms18_1:=NB103_102.out
   refine skip_ (w1:=?_) zz88 rfl ?_ ?_
   rotate_left
   · go_simp
     rfl
   refine hK.out _ _ ?_
   clear hK K
   refine done_ zz84 ?_
   try go_wp2
   go_roundg k1
   case measure=>have:=HK1.out;omega
   case rel=>exact ⟨(wrap64 (x6_1 + 1)),(t106),(t107),zz82,H',⟨by have:=HK1.out;omega⟩,⟨by (with_reducible repeat (first|refine z8 ?_ _|refine zb ?_|refine z7 ?_ _));refine zP ?_ NB101_103.out _;(with_reducible repeat (first|refine z8 ?_ _|refine zb ?_|refine z7 ?_ _));refine zP ?_ NB101_103.out _;(with_reducible repeat (first|refine z8 ?_ _|refine zb ?_|refine z7 ?_ _));exact BK101.out⟩,⟨by (with_reducible repeat (first|refine z8 ?_ _|refine zb ?_|refine z7 ?_ _));refine zP ?_ NB102_103.out _;(with_reducible repeat (first|refine z8 ?_ _|refine zb ?_|refine z7 ?_ _));refine zP ?_ NB102_103.out _;(with_reducible repeat (first|refine z8 ?_ _|refine zb ?_|refine z7 ?_ _));exact BK102.out⟩,⟨by (with_reducible repeat (first|refine z8 ?_ _|refine zb ?_|refine z7 ?_ _));refine zT (cs:=#[.int .u64 t106,.int .u64 x104001_1]) ?_ 1 _ rfl;(with_reducible repeat (first|refine z8 ?_ _|refine zb ?_|refine z7 ?_ _));refine zT (cs:=#[.int .u64 x104000_1,.int .u64 x104001_1]) ?_ 0 _ rfl;(with_reducible repeat (first|refine z8 ?_ _|refine zb ?_|refine z7 ?_ _));exact BK103.out⟩,⟨by repeat (first|(with_reducible first|exact HB.out|apply zd|apply z3|apply zc|refine za ?_ GE101.out|refine za ?_ GE102.out|refine za ?_ GE103.out)|exact HB.out)⟩⟩
end Go.Proofs.Ytnhbdhgbmjcjdaa.P
namespace Go.Proofs.Ytnhbdhgbmjcjdaa.P
open Go.RowKit Go.Proofs.YtnhbdhgbmjcjdaaW.PrintWords Go.Proofs.YtnhbdhgbmjcjdaaW.PrintLast Go.Proofs.YtnhbdhgbmjcjdaaW.PrintMore
attribute [local go_sem] z10 z12 z1h z1i zQ zR z11 z13   -- for this text's walks alone
set_option linter.unusedVariables false
set_option linter.unusedSimpArgs false
def zK.f (k : Nat) (l0 : List (S38)) (a1_0 : Int) (a1_1 : Int) : Option (Int × Int × Int):=if (l0.length : Int) > 128 then (some (0,0,1)) else ((zu.f k a1_0 a1_1).bind fun t103=>(if t103 ≥ (l0.length : Int) then (some (0,0,6)) else ((zt.f k l0 a1_0 a1_1).bind fun bt104=>(some (bt104.1,bt104.2,0)))))
theorem zK.mono : ∀ a0 a1 a2 k,LeO (zK.f k a0 a1 a2) (zK.f (k + 1) a0 a1 a2):=by
 intro a0 a1 a2 k
 unfold zK.f
 repeat' first
  | (with_reducible exact zu.mono _ _ _)
  | (with_reducible exact zt.mono _ _ _ _)
  | (with_reducible exact LeO.refl _)
  | (with_reducible exact LeO.none _)
  | (with_reducible refine LeO.ite ?_ ?_)
  | (with_reducible refine LeO.bind ?_ (fun _=>?_))
  | exact zu.mono _ _ _
  | exact zt.mono _ _ _ _
  | exact LeO.none _
  | refine LeO.ite ?_ ?_
  | refine LeO.bind ?_ (fun _=>?_)
set_option maxHeartbeats 8000000 in
set_option maxRecDepth 100000 in
theorem zK.calls (k : Nat) (A0 : Option Addr) (c0 : Nat) (l0 : List (S38)) (a1_0 : Int) (a1_1 : Int) (r1 : Int) (r2 : Int) (r3 : Int) (w : World) (hr0 : Kd.C k38 w A0 l0.length l0) (hc0 : l0.length ≤ c0) (h : zK.f k l0 a1_0 a1_1 = some (r1,r2,r3)) :
 Calls Try.prog 16 #[.slice A0 l0.length c0,.agg #[.int .u64 a1_0,.int .u64 a1_1]] w fun e w'=>e = .returned (.tuple #[.agg #[.int .u64 r1,.int .u64 r2],.int .i64 r3]) ∧ Below w.heap.size w w':=by
 have hu38:=Try.underlying38
 have HR0:=z1.mk hr0
 have HC0:=z1.mk hc0
 clear hr0 hc0
 have HB:=z1.mk (Below.refl w.heap.size w)
 have H : (if (l0.length : Int) > 128 then (some (0,0,1)) else ((zu.f k a1_0 a1_1).bind fun t103=>(if t103 ≥ (l0.length : Int) then (some (0,0,6)) else ((zt.f k l0 a1_0 a1_1).bind fun bt104=>(some (bt104.1,bt104.2,0)))))) = some (r1,r2,r3):=h
 clear h
 by_cases c3 : (l0.length : Int) > 128
 · rw [if_pos c3] at H
   have c3b0 : decide (128 < (l0.length : Int)) = true:=decide_eq_true c3
   have c3b1 : decide (128 < l0.length) = true:=decide_eq_true zz86
   clear c3
   simp only [Option.some.injEq,Prod.mk.injEq] at H
   obtain ⟨rfl,rfl,rfl⟩:=H
   go_enter Try.func16,Try.ntmps16
   go_wp2_with (first|((with_reducible refine zE (N:=3) rfl ?_);refine zC ?hg (N:=3) ?hd (cs:=#[.int .u64 a1_0,.int .u64 a1_1]) (t:=38) ?hr ?_;(case hd=>rfl);(case hg=>rfl);(case hr=>first|(go_simp;done)|(go_simp;rfl));intro gb101 hg w4 hbox hb;have n0_:=z1.mk (ze zz47 hb);have n1_:=z1.mk (hbox);have n2_:=z1.mk ((by rw [hg];exact (zf zz47) : w.heap.size ≤ gb101));have n3_:=z1.mk ((by rw [hg];exact (zf zz47) : w.heap.size ≤ gb101));clear HB;have HB:=n0_;have BK101:=n1_;have GW101:=n2_;have GE101:=n3_;clear n0_ n1_ n2_ n3_;clear hb hbox hg)|((with_reducible refine zE (N:=4) rfl ?_);refine zC ?hg (N:=4) ?hd (cs:=#[.int .u64 0,.int .u64 0]) (t:=38) ?hr ?_;(case hd=>rfl);(case hg=>rfl);(case hr=>first|(go_simp;done)|(go_simp;rfl));intro gb102 hg w5 hbox hb;have n0_:=z1.mk (z9 (g:=gb101) (o:=.cells #[.int .u64 a1_0,.int .u64 a1_1] 38 (0,0)) zz49 hb);have n1_:=z1.mk (ze zz41 hb);have n2_:=z1.mk (hbox);have n3_:=z1.mk ((by rw [hg];exact (zf zz41) : w.heap.size ≤ gb102));have n4_:=z1.mk ((by rw [hg];exact (zf zz41) : w.heap.size ≤ gb102));have n5_:=z1.mk ((by rw [hg];exact Nat.ne_of_lt (zw (g:=gb101) (o:=.cells #[.int .u64 a1_0,.int .u64 a1_1] 38 (0,0)) zz49) : gb101 ≠ gb102));have n6_:=z1.mk ((by rw [hg];exact Nat.ne_of_gt (zw (g:=gb101) (o:=.cells #[.int .u64 a1_0,.int .u64 a1_1] 38 (0,0)) zz49) : gb102 ≠ gb101));clear BK101;clear HB;have BK101:=n0_;have HB:=n1_;have BK102:=n2_;have GW102:=n3_;have GE102:=n4_;have NB101_102:=n5_;have NB102_101:=n6_;clear n0_ n1_ n2_ n3_ n4_ n5_ n6_;clear hb hbox hg;have hnb6:=NB102_101.out;have hnc6:=NB101_102.out;have hcz7_0 : w5.cell? ⟨gb102,0,none⟩ = some (.int .u64 0):=(z5 BK102.out 0).trans rfl;have hcz7_1 : w5.cell? ⟨gb102,1,none⟩ = some (.int .u64 0):=(z5 BK102.out 1).trans rfl;have hfz7_0:=z4 BK102.out 0;have hfz7_1:=z4 BK102.out 1))
   refine bodyPost_ret (z25 rfl _ _ gb102 38 #[.int .u64 0,.int .u64 0] (0,0) _ rfl zz8 Try.underlying38 rfl zz84) rfl ?_
   exact ⟨by first|rfl|(simp [zi,zj] <;> rfl)|(simp [*,zi,zj] <;> rfl),by repeat (first|(with_reducible first|exact HB.out|apply zd|apply z3|apply zc|refine za ?_ GE101.out|refine za ?_ GE102.out)|exact HB.out)⟩
 rw [if_neg c3] at H
 have c3b0 : decide (128 < (l0.length : Int)) = false:=decide_eq_false c3
 have c3b1 : decide (128 < l0.length) = false:=decide_eq_false zz86
 clear c3
 replace H:=Option.bind_eq_some_iff.mp H
 obtain ⟨t103,A80,H⟩:=H
 replace H : (if t103 ≥ (l0.length : Int) then (some (0,0,6)) else ((zt.f k l0 a1_0 a1_1).bind fun bt104=>(some (bt104.1,bt104.2,0)))) = some (r1,r2,r3):=H
 have A8:=z1.mk A80
 clear A80
 by_cases c9 : t103 ≥ (l0.length : Int)
 · rw [if_pos c9] at H
   have c9b0 : decide ((l0.length : Int) ≤ t103) = true:=decide_eq_true c9
   clear c9
   simp only [Option.some.injEq,Prod.mk.injEq] at H
   obtain ⟨rfl,rfl,rfl⟩:=H
   go_enter Try.func16,Try.ntmps16
   go_wp2_with (first|((with_reducible refine zE (N:=3) rfl ?_);refine zC ?hg (N:=3) ?hd (cs:=#[.int .u64 a1_0,.int .u64 a1_1]) (t:=38) ?hr ?_;(case hd=>rfl);(case hg=>rfl);(case hr=>first|(go_simp;done)|(go_simp;rfl));intro gb101 hg w10 hbox hb;have n0_:=z1.mk (ze zz47 hb);have n1_:=z1.mk (hbox);have n2_:=z1.mk ((by rw [hg];exact (zf zz47) : w.heap.size ≤ gb101));have n3_:=z1.mk ((by rw [hg];exact (zf zz47) : w.heap.size ≤ gb101));clear HB;have HB:=n0_;have BK101:=n1_;have GW101:=n2_;have GE101:=n3_;clear n0_ n1_ n2_ n3_;clear hb hbox hg)|((with_reducible refine zE (N:=4) rfl ?_);refine zC ?hg (N:=4) ?hd (cs:=#[.int .u64 0,.int .u64 0]) (t:=38) ?hr ?_;(case hd=>rfl);(case hg=>rfl);(case hr=>first|(go_simp;done)|(go_simp;rfl));intro gb102 hg w11 hbox hb;have n0_:=z1.mk (z9 (g:=gb101) (o:=.cells #[.int .u64 a1_0,.int .u64 a1_1] 38 (0,0)) zz49 hb);have n1_:=z1.mk (ze zz41 hb);have n2_:=z1.mk (hbox);have n3_:=z1.mk ((by rw [hg];exact (zf zz41) : w.heap.size ≤ gb102));have n4_:=z1.mk ((by rw [hg];exact (zf zz41) : w.heap.size ≤ gb102));have n5_:=z1.mk ((by rw [hg];exact Nat.ne_of_lt (zw (g:=gb101) (o:=.cells #[.int .u64 a1_0,.int .u64 a1_1] 38 (0,0)) zz49) : gb101 ≠ gb102));have n6_:=z1.mk ((by rw [hg];exact Nat.ne_of_gt (zw (g:=gb101) (o:=.cells #[.int .u64 a1_0,.int .u64 a1_1] 38 (0,0)) zz49) : gb102 ≠ gb101));clear BK101;clear HB;have BK101:=n0_;have HB:=n1_;have BK102:=n2_;have GW102:=n3_;have GE102:=n4_;have NB101_102:=n5_;have NB102_101:=n6_;clear n0_ n1_ n2_ n3_ n4_ n5_ n6_;clear hb hbox hg;have hnb12:=NB101_102.out;have hnc12:=NB102_101.out;have hcz13_0 : w11.cell? ⟨gb101,0,none⟩ = some (.int .u64 a1_0):=(z5 BK101.out 0).trans rfl;have hcz13_1 : w11.cell? ⟨gb101,1,none⟩ = some (.int .u64 a1_1):=(z5 BK101.out 1).trans rfl;have hfz13_0:=z4 BK101.out 0;have hfz13_1:=z4 BK101.out 1)|((with_reducible refine zo (f:=51) rfl ?_);refine goesL_ (some 11) rfl rfl Try.func51 zz84 rfl #[.agg #[.int .u64 a1_0,.int .u64 a1_1]] rfl zz45 ?_;(with_reducible refine (zu.calls k a1_0 a1_1 t103 _ A8.out).mono ?_);rintro e w14 ⟨rfl,hb⟩;refine ⟨_,rfl,?_⟩;have n0_:=z1.mk (z9 (g:=gb101) (o:=.cells #[.int .u64 a1_0,.int .u64 a1_1] 38 (0,0)) zz49 hb);have n1_:=z1.mk (z9 (g:=gb102) (o:=.cells #[.int .u64 0,.int .u64 0] 38 (0,0)) zz50 hb);have n2_:=z1.mk (ze zz36 hb);clear BK101;clear BK102;clear HB;have BK101:=n0_;have BK102:=n1_;have HB:=n2_;clear n0_ n1_ n2_;(try clear hb);(try clear hb2);(try clear hk);(try clear hi);have hcz15_0 : w14.cell? ⟨gb102,0,none⟩ = some (.int .u64 0):=(z5 BK102.out 0).trans rfl;have hcz15_1 : w14.cell? ⟨gb102,1,none⟩ = some (.int .u64 0):=(z5 BK102.out 1).trans rfl;have hfz15_0:=z4 BK102.out 0;have hfz15_1:=z4 BK102.out 1))
   refine bodyPost_ret (z25 rfl _ _ gb102 38 #[.int .u64 0,.int .u64 0] (0,0) _ rfl zz8 Try.underlying38 rfl zz84) rfl ?_
   exact ⟨by first|rfl|(simp [zi,zj] <;> rfl)|(simp [*,zi,zj] <;> rfl),by repeat (first|(with_reducible first|exact HB.out|apply zd|apply z3|apply zc|refine za ?_ GE101.out|refine za ?_ GE102.out)|exact HB.out)⟩
 rw [if_neg c9] at H
 have c9b0 : decide ((l0.length : Int) ≤ t103) = false:=decide_eq_false c9
 clear c9
 replace H:=Option.bind_eq_some_iff.mp H
 obtain ⟨⟨t104,t105⟩,A160,H⟩:=H
 replace H : (some (t104,t105,0)) = some (r1,r2,r3):=H
 have A16:=z1.mk A160
 clear A160
 simp only [Option.some.injEq,Prod.mk.injEq] at H
 obtain ⟨rfl,rfl,rfl⟩:=H
 go_enter Try.func16,Try.ntmps16
 go_wp2_with (first|((with_reducible refine zE (N:=3) rfl ?_);refine zC ?hg (N:=3) ?hd (cs:=#[.int .u64 a1_0,.int .u64 a1_1]) (t:=38) ?hr ?_;(case hd=>rfl);(case hg=>rfl);(case hr=>first|(go_simp;done)|(go_simp;rfl));intro gb101 hg w17 hbox hb;have n0_:=z1.mk (ze zz47 hb);have n1_:=z1.mk (hbox);have n2_:=z1.mk ((by rw [hg];exact (zf zz47) : w.heap.size ≤ gb101));have n3_:=z1.mk ((by rw [hg];exact (zf zz47) : w.heap.size ≤ gb101));clear HB;have HB:=n0_;have BK101:=n1_;have GW101:=n2_;have GE101:=n3_;clear n0_ n1_ n2_ n3_;clear hb hbox hg)|((with_reducible refine zE (N:=4) rfl ?_);refine zC ?hg (N:=4) ?hd (cs:=#[.int .u64 0,.int .u64 0]) (t:=38) ?hr ?_;(case hd=>rfl);(case hg=>rfl);(case hr=>first|(go_simp;done)|(go_simp;rfl));intro gb102 hg w18 hbox hb;have n0_:=z1.mk (z9 (g:=gb101) (o:=.cells #[.int .u64 a1_0,.int .u64 a1_1] 38 (0,0)) zz49 hb);have n1_:=z1.mk (ze zz41 hb);have n2_:=z1.mk (hbox);have n3_:=z1.mk ((by rw [hg];exact (zf zz41) : w.heap.size ≤ gb102));have n4_:=z1.mk ((by rw [hg];exact (zf zz41) : w.heap.size ≤ gb102));have n5_:=z1.mk ((by rw [hg];exact Nat.ne_of_lt (zw (g:=gb101) (o:=.cells #[.int .u64 a1_0,.int .u64 a1_1] 38 (0,0)) zz49) : gb101 ≠ gb102));have n6_:=z1.mk ((by rw [hg];exact Nat.ne_of_gt (zw (g:=gb101) (o:=.cells #[.int .u64 a1_0,.int .u64 a1_1] 38 (0,0)) zz49) : gb102 ≠ gb101));clear BK101;clear HB;have BK101:=n0_;have HB:=n1_;have BK102:=n2_;have GW102:=n3_;have GE102:=n4_;have NB101_102:=n5_;have NB102_101:=n6_;clear n0_ n1_ n2_ n3_ n4_ n5_ n6_;clear hb hbox hg;have hnb19:=NB101_102.out;have hnc19:=NB102_101.out;have hcz20_0 : w18.cell? ⟨gb101,0,none⟩ = some (.int .u64 a1_0):=(z5 BK101.out 0).trans rfl;have hcz20_1 : w18.cell? ⟨gb101,1,none⟩ = some (.int .u64 a1_1):=(z5 BK101.out 1).trans rfl;have hfz20_0:=z4 BK101.out 0;have hfz20_1:=z4 BK101.out 1)|((with_reducible refine zo (f:=51) rfl ?_);refine goesL_ (some 11) rfl rfl Try.func51 zz84 rfl #[.agg #[.int .u64 a1_0,.int .u64 a1_1]] rfl zz45 ?_;(with_reducible refine (zu.calls k a1_0 a1_1 t103 _ A8.out).mono ?_);rintro e w21 ⟨rfl,hb⟩;refine ⟨_,rfl,?_⟩;have n0_:=z1.mk (z9 (g:=gb101) (o:=.cells #[.int .u64 a1_0,.int .u64 a1_1] 38 (0,0)) zz49 hb);have n1_:=z1.mk (z9 (g:=gb102) (o:=.cells #[.int .u64 0,.int .u64 0] 38 (0,0)) zz50 hb);have n2_:=z1.mk (ze zz36 hb);clear BK101;clear BK102;clear HB;have BK101:=n0_;have BK102:=n1_;have HB:=n2_;clear n0_ n1_ n2_;(try clear hb);(try clear hb2);(try clear hk);(try clear hi);have hcz22_0 : w21.cell? ⟨gb101,0,none⟩ = some (.int .u64 a1_0):=(z5 BK101.out 0).trans rfl;have hcz22_1 : w21.cell? ⟨gb101,1,none⟩ = some (.int .u64 a1_1):=(z5 BK101.out 1).trans rfl;have hfz22_0:=z4 BK101.out 0;have hfz22_1:=z4 BK101.out 1)|((with_reducible refine zo (f:=52) rfl ?_);refine goesL_ (some 18) rfl rfl Try.func52 zz84 rfl #[.slice A0 l0.length c0,.agg #[.int .u64 a1_0,.int .u64 a1_1]] rfl zz45 ?_;(with_reducible refine (zt.calls k _ _ l0 a1_0 a1_1 t104 t105 _ ?side1 ?side2 A16.out).mono ?_);(case side1=>repeat (first|exact (Kd.z1A HR0.out HB.out)|(with_reducible refine Kd.z15 ?_ _)|(with_reducible refine Kd.z16 ?_ _)|(with_reducible refine Kd.z1m ?_)));(case side2=>exact HC0.out);rintro e w23 ⟨rfl,hb⟩;refine ⟨_,rfl,?_⟩;have n0_:=z1.mk (z9 (g:=gb101) (o:=.cells #[.int .u64 a1_0,.int .u64 a1_1] 38 (0,0)) zz49 hb);have n1_:=z1.mk (z9 (g:=gb102) (o:=.cells #[.int .u64 0,.int .u64 0] 38 (0,0)) zz50 hb);have n2_:=z1.mk (ze zz36 hb);clear BK101;clear BK102;clear HB;have BK101:=n0_;have BK102:=n1_;have HB:=n2_;clear n0_ n1_ n2_;(try clear hb);(try clear hb2);(try clear hk);(try clear hi);have hcz24_0 : w23.cell? ⟨gb102,0,none⟩ = some (.int .u64 0):=(z5 BK102.out 0).trans rfl;have hcz24_1 : w23.cell? ⟨gb102,1,none⟩ = some (.int .u64 0):=(z5 BK102.out 1).trans rfl;have hfz24_0:=z4 BK102.out 0;have hfz24_1:=z4 BK102.out 1))
 refine bodyPost_ret (z25 rfl _ _ gb102 38 #[.int .u64 t104,.int .u64 t105] (0,0) _ rfl zz4 Try.underlying38 rfl zz84) rfl ?_
 exact ⟨by first|rfl|(simp [zi,zj] <;> rfl)|(simp [*,zi,zj] <;> rfl),by repeat (first|(with_reducible first|exact HB.out|apply zd|apply z3|apply zc|refine za ?_ GE101.out|refine za ?_ GE102.out)|exact HB.out)⟩
end Go.Proofs.Ytnhbdhgbmjcjdaa.P
namespace Go.Proofs.Ytnhbdhgbmjcjdaa.P
open Go.RowKit Go.Proofs.YtnhbdhgbmjcjdaaW.PrintWords Go.Proofs.YtnhbdhgbmjcjdaaW.PrintLast Go.Proofs.YtnhbdhgbmjcjdaaW.PrintMore
attribute [local go_sem] z10 z12 z1h z1i zQ zR z11 z13   -- for this text's walks alone
set_option linter.unusedVariables false
set_option linter.unusedSimpArgs false
mutual
def zJ.j0 : Nat → List (S35) → List (S35) → Bool → Option ((List (S35)) × Int)
 | 0,_,_,_=>none
 | k + 1,x0,x1,x9=>if x9 = true then (some (([] : List (S35)),1)) else ((zD.f k x0 (x1.length : Int)).bind fun t101=>(if t101 = true then (zJ.l0 k x1 ([] : List (S35)) x0 (x0.length : Int) 0) else (some (([] : List (S35)),6))))
def zJ.l0 : Nat → List (S35) → List (S35) → List (S35) → Int → Int → Option ((List (S35)) × Int)
 | 0,_,_,_,_,_=>none
 | k + 1,x1,x6,x24,x25,x26=>if x26 < x25 then (if 0 ≤ x26 then (if x26 < (x24.length : Int) then ((zN.f k x1 ((rd_T35 x24 x26).f0) ((rd_T35 x24 x26).f1)).bind fun bt104=>(if x6.length < 8796093022208 then (zJ.l0 k x1 (x6 ++ [(⟨bt104.1,bt104.2⟩ : S35)]) x24 x25 (wrap64 (x26 + 1))) else (none))) else (none)) else (none)) else (some (x6,0))
end
def zJ.f (k : Nat) (l0 : List (S35)) (l1 : List (S35)) : Option ((List (S35)) × Int):=if (l0.length : Int) > 128 then (zJ.j0 k l0 l1 true) else (zJ.j0 k l0 l1 (decide ((l1.length : Int) > 128)))
theorem zJ.zY : ∀ k,(∀ y0 y1 y2,LeO (zJ.j0 k y0 y1 y2) (zJ.j0 (k + 1) y0 y1 y2)) ∧ (∀ y0 y1 y2 y3 y4,LeO (zJ.l0 k y0 y1 y2 y3 y4) (zJ.l0 (k + 1) y0 y1 y2 y3 y4))
 | 0=>⟨fun _ _ _ r h=>by simp [zJ.j0] at h,fun _ _ _ _ _ r h=>by simp [zJ.l0] at h⟩
 | k + 1=>by
  obtain ⟨ih0,ih1⟩:=zJ.zY k
  refine ⟨?_,?_⟩
  · intro y0 y1 y2
    unfold zJ.j0
    repeat' first
    | (with_reducible exact ih0 _ _ _)
    | (with_reducible exact ih1 _ _ _ _ _)
    | (with_reducible exact zN.mono _ _ _ _)
    | (with_reducible exact zD.mono _ _ _)
    | (with_reducible exact LeO.refl _)
    | (with_reducible exact LeO.none _)
    | (with_reducible refine LeO.ite ?_ ?_)
    | (with_reducible refine LeO.bind ?_ (fun _=>?_))
    | exact ih0 _ _ _
    | exact ih1 _ _ _ _ _
    | exact zN.mono _ _ _ _
    | exact zD.mono _ _ _
    | exact LeO.none _
    | refine LeO.ite ?_ ?_
    | refine LeO.bind ?_ (fun _=>?_)
  · intro y0 y1 y2 y3 y4
    unfold zJ.l0
    repeat' first
    | (with_reducible exact ih0 _ _ _)
    | (with_reducible exact ih1 _ _ _ _ _)
    | (with_reducible exact zN.mono _ _ _ _)
    | (with_reducible exact zD.mono _ _ _)
    | (with_reducible exact LeO.refl _)
    | (with_reducible exact LeO.none _)
    | (with_reducible refine LeO.ite ?_ ?_)
    | (with_reducible refine LeO.bind ?_ (fun _=>?_))
    | exact ih0 _ _ _
    | exact ih1 _ _ _ _ _
    | exact zN.mono _ _ _ _
    | exact zD.mono _ _ _
    | exact LeO.none _
    | refine LeO.ite ?_ ?_
    | refine LeO.bind ?_ (fun _=>?_)
theorem zJ.mono : ∀ a0 a1 k,LeO (zJ.f k a0 a1) (zJ.f (k + 1) a0 a1):=by
 intro a0 a1 k
 obtain ⟨ih0,ih1⟩:=zJ.zY k
 unfold zJ.f
 repeat' first
  | (with_reducible exact ih0 _ _ _)
  | (with_reducible exact ih1 _ _ _ _ _)
  | (with_reducible exact zN.mono _ _ _ _)
  | (with_reducible exact zD.mono _ _ _)
  | (with_reducible exact LeO.refl _)
  | (with_reducible exact LeO.none _)
  | (with_reducible refine LeO.ite ?_ ?_)
  | (with_reducible refine LeO.bind ?_ (fun _=>?_))
  | exact ih0 _ _ _
  | exact ih1 _ _ _ _ _
  | exact zN.mono _ _ _ _
  | exact zD.mono _ _ _
  | exact LeO.none _
  | refine LeO.ite ?_ ?_
  | refine LeO.bind ?_ (fun _=>?_)
set_option maxHeartbeats 8000000 in
set_option maxRecDepth 100000 in
theorem zJ.calls (k : Nat) (A0 : Option Addr) (c0 : Nat) (l0 : List (S35)) (A1 : Option Addr) (c1 : Nat) (l1 : List (S35)) (r1 : List (S35)) (r2 : Int) (w : World) (hr0 : Kd.C k35 w A0 l0.length l0) (hc0 : l0.length ≤ c0) (hr1 : Kd.C k35 w A1 l1.length l1) (hc1 : l1.length ≤ c1) (h : zJ.f k l0 l1 = some (r1,r2)) :
 Calls Try.prog 17 #[.slice A0 l0.length c0,.slice A1 l1.length c1] w fun e w'=>∃ v0_ : Value,e = .returned (.tuple #[v0_,.int .i64 r2]) ∧ Kd.R k35 35 w' w.heap.size (fun _=>True) v0_ r1 ∧ Below w.heap.size w w':=by
 have hu35:=Try.underlying35
 have HR0:=z1.mk hr0
 have HC0:=z1.mk hc0
 clear hr0 hc0
 have HR1:=z1.mk hr1
 have HC1:=z1.mk hc1
 clear hr1 hc1
 have HB:=z1.mk (Below.refl w.heap.size w)
 have H : (if (l0.length : Int) > 128 then (zJ.j0 k l0 l1 true) else (zJ.j0 k l0 l1 (decide ((l1.length : Int) > 128)))) = some (r1,r2):=h
 clear h
 have HC3:=z1.mk H
 clear H
 go_enter Try.func17,Try.ntmps17
 go_upto_region 1 with (fail)
 go_cut [9] (fun v9 wc=>∃ (kq : Nat) (x9_2 : Bool),v9 = .bool x9_2 ∧ z1 (zJ.j0 kq l0 l1 x9_2 = some (r1,r2)) ∧ z1 (kq ≤ k) ∧ z1 (Below w.heap.size w wc))
 case first =>
  have H:=HC3.out
  clear HC3
  by_cases c4 : (l0.length : Int) > 128
  rotate_left
  · rw [if_neg c4] at H
    have c4b0 : decide (128 < (l0.length : Int)) = false:=decide_eq_false c4
    have c4b1 : decide (128 < l0.length) = false:=decide_eq_false zz86
    clear c4
    (first|rw [c4b0]|(simp only [zH,zI];rw [c4b0])|skip)
    have H':=z1.mk H
    clear H
    go_wp2
    go_meet
    case rel=>exact ⟨_,(decide ((l1.length : Int) > 128)),zz82,H',⟨by first|omega|exact Nat.le_refl _⟩,⟨by repeat (first|(with_reducible first|exact HB.out|apply zd|apply z3|apply zc)|exact HB.out)⟩⟩
  rw [if_pos c4] at H
  have c4b0 : decide (128 < (l0.length : Int)) = true:=decide_eq_true c4
  have c4b1 : decide (128 < l0.length) = true:=decide_eq_true zz86
  clear c4
  (first|rw [c4b0]|(simp only [zH,zI];rw [c4b0])|skip)
  have H':=z1.mk H
  clear H
  go_wp2
  go_meet
  case rel=>exact ⟨_,(true),zz82,H',⟨by first|omega|exact Nat.le_refl _⟩,⟨by repeat (first|(with_reducible first|exact HB.out|apply zd|apply z3|apply zc)|exact HB.out)⟩⟩
 case rest =>
  clear HC3
  (try clear c1);(try clear p2);(try clear c4);(try clear c4b0);(try clear c4b1)
  obtain ⟨kq,x9_2,rfl,HA,HJ2,HB⟩:=hcut
  cases kq with
  | zero=>exact absurd HA.out (by simp [zJ.j0])
  | succ kj2 =>
   have H:=HA.out
   clear HA
   simp only [zJ.j0] at H
   by_cases c5 : x9_2 = true
   · subst c5
     have H1 : (some (([] : List (S35)),1)) = some (r1,r2):=by rw [if_pos rfl] at H;exact H
     clear H
     have H:=H1
     clear H1
     simp only [Option.some.injEq,Prod.mk.injEq] at H
     obtain ⟨rfl,rfl⟩:=H
     go_wp2
     go_ret2
     exact ⟨_,by first|rfl|(simp [zi,zj] <;> rfl)|(simp [*,zi,zj] <;> rfl),by first|exact Kd.z2e _ _ _ _ _|exact Kd.z2t _ _ _ _ _|exact Kd.z2w _ _ _ _ _|exact Kd.z2u _ _ _ _ _|exact Kd.z2v _ _ _ _ _,by repeat (first|(with_reducible first|exact HB.out|apply zd|apply z3|apply zc)|exact HB.out)⟩
   replace c5:=Bool.eq_false_iff.mpr c5
   subst c5
   have H1 : ((zD.f kj2 l0 (l1.length : Int)).bind fun t101=>(if t101 = true then (zJ.l0 kj2 l1 ([] : List (S35)) l0 (l0.length : Int) 0) else (some (([] : List (S35)),6)))) = some (r1,r2):=by rw [if_neg (show ¬ (false = true) by decide)] at H;exact H
   clear H
   have H:=H1
   clear H1
   replace H:=Option.bind_eq_some_iff.mp H
   obtain ⟨t101,A60,H⟩:=H
   replace H : (if t101 = true then (zJ.l0 kj2 l1 ([] : List (S35)) l0 (l0.length : Int) 0) else (some (([] : List (S35)),6))) = some (r1,r2):=H
   have A6:=z1.mk A60
   clear A60
   by_cases c7 : t101 = true
   rotate_left
   · replace c7:=Bool.eq_false_iff.mpr c7
     subst c7
     have H1 : (some (([] : List (S35)),6)) = some (r1,r2):=by rw [if_neg (show ¬ (false = true) by decide)] at H;exact H
     clear H
     have H:=H1
     clear H1
     simp only [Option.some.injEq,Prod.mk.injEq] at H
     obtain ⟨rfl,rfl⟩:=H
     go_wp2_with (first|((with_reducible refine zo (f:=43) rfl ?_);refine goesL_ (some 22) rfl rfl Try.func43 zz84 rfl #[.slice A0 l0.length c0,.int .i64 (l1.length : Int)] rfl zz45 ?_;(with_reducible refine (zD.calls kj2 _ _ l0 (l1.length : Int) false _ ?side1 ?side2 A6.out).mono ?_);(case side1=>repeat (first|exact (Kd.z1A HR0.out HB.out)|(with_reducible refine Kd.z15 ?_ _)|(with_reducible refine Kd.z16 ?_ _)|(with_reducible refine Kd.z1m ?_)));(case side2=>exact HC0.out);rintro e w18 ⟨rfl,hb⟩;refine ⟨_,rfl,?_⟩;have n0_:=z1.mk (ze zz47 hb);clear HB;have HB:=n0_;clear n0_;(try clear hb);(try clear hb2);(try clear hk);(try clear hi)))
     go_ret2
     exact ⟨_,by first|rfl|(simp [zi,zj] <;> rfl)|(simp [*,zi,zj] <;> rfl),by first|exact Kd.z2e _ _ _ _ _|exact Kd.z2t _ _ _ _ _|exact Kd.z2w _ _ _ _ _|exact Kd.z2u _ _ _ _ _|exact Kd.z2v _ _ _ _ _,by repeat (first|(with_reducible first|exact HB.out|apply zd|apply z3|apply zc)|exact HB.out)⟩
   subst c7
   have H1 : (zJ.l0 kj2 l1 ([] : List (S35)) l0 (l0.length : Int) 0) = some (r1,r2):=by rw [if_pos rfl] at H;exact H
   clear H
   have H:=H1
   clear H1
   have H':=z1.mk H
   clear H
   go_wp2_with (first|((with_reducible refine zo (f:=43) rfl ?_);refine goesL_ (some 22) rfl rfl Try.func43 zz84 rfl #[.slice A0 l0.length c0,.int .i64 (l1.length : Int)] rfl zz45 ?_;(with_reducible refine (zD.calls kj2 _ _ l0 (l1.length : Int) true _ ?side1 ?side2 A6.out).mono ?_);(case side1=>repeat (first|exact (Kd.z1A HR0.out HB.out)|(with_reducible refine Kd.z15 ?_ _)|(with_reducible refine Kd.z16 ?_ _)|(with_reducible refine Kd.z1m ?_)));(case side2=>exact HC0.out);rintro e w8 ⟨rfl,hb⟩;refine ⟨_,rfl,?_⟩;have n0_:=z1.mk (ze zz47 hb);clear HB;have HB:=n0_;clear n0_;(try clear hb);(try clear hb2);(try clear hk);(try clear hi)))
   go_loopg [6,26] kj2 (fun kq v6 v26 w'=>∃ (x6_2 : List (S35)) (x26_2 : Int),v26 = .int .i64 x26_2 ∧ z1 (zJ.l0 kq l1 x6_2 l0 (l0.length : Int) x26_2 = some (r1,r2)) ∧ z1 (kq ≤ kj2) ∧ z1 (Kd.R k35 35 w' w.heap.size (fun _=>True) v6 x6_2) ∧ z1 (Below w.heap.size w w'))
   case atStart=>exact ⟨(([] : List (S35))),(0),zz82,H',⟨Nat.le_refl _⟩,⟨by first|exact Kd.z2e _ _ _ _ _|exact Kd.z2t _ _ _ _ _|exact Kd.z2w _ _ _ _ _|exact Kd.z2u _ _ _ _ _|exact Kd.z2v _ _ _ _ _⟩,⟨by repeat (first|(with_reducible first|exact HB.out|apply zd|apply z3|apply zc)|exact HB.out)⟩⟩
   case round =>
    clear H'
    (try clear c1);(try clear p2);(try clear c4);(try clear c4b0);(try clear c4b1);(try clear c5);(try clear c7);(try clear p2)
    obtain ⟨x6_2,x26_2,rfl,HA,HK2,HO_6,HB⟩:=hrel
    cases gk with
    | zero=>exact absurd HA.out (by simp [zJ.l0])
    | succ k2 =>
     have H:=HA.out
     clear HA
     simp only [zJ.l0] at H
     by_cases c9 : x26_2 < (l0.length : Int)
     rotate_left
     · rw [if_neg c9] at H
       have c9b0 : decide (x26_2 < (l0.length : Int)) = false:=decide_eq_false c9
       clear c9
       simp only [Option.some.injEq,Prod.mk.injEq] at H
       obtain ⟨rfl,rfl⟩:=H
       go_wp2
       go_ret2
       exact ⟨_,by first|rfl|(simp [zi,zj] <;> rfl)|(simp [*,zi,zj] <;> rfl),by (with_reducible repeat (first|apply Kd.zL|apply Kd.zM|apply Kd.zS));exact HO_6.out,by repeat (first|(with_reducible first|exact HB.out|apply zd|apply z3|apply zc)|exact HB.out)⟩
     rw [if_pos c9] at H
     have c9b0 : decide (x26_2 < (l0.length : Int)) = true:=decide_eq_true c9
     clear c9
     by_cases c10 : 0 ≤ x26_2
     rotate_left
     · rw [if_neg c10] at H
       exact absurd H zz87
     rw [if_pos c10] at H
     have c10b0 : decide (0 ≤ x26_2) = true:=decide_eq_true c10
     clear c10
     by_cases c11 : x26_2 < (l0.length : Int)
     rotate_left
     · rw [if_neg c11] at H
       exact absurd H zz87
     rw [if_pos c11] at H
     have c11b0 : decide (x26_2 < (l0.length : Int)) = true:=decide_eq_true c11
     clear c11
     replace H:=Option.bind_eq_some_iff.mp H
     obtain ⟨⟨t104,t105⟩,A120,H⟩:=H
     replace H : (if x6_2.length < 8796093022208 then (zJ.l0 k2 l1 (x6_2 ++ [(⟨t104,t105⟩ : S35)]) l0 (l0.length : Int) (wrap64 (x26_2 + 1))) else (none)) = some (r1,r2):=H
     have A12:=z1.mk A120
     clear A120
     by_cases c13 : x6_2.length < 8796093022208
     rotate_left
     · rw [if_neg c13] at H
       exact absurd H zz87
     rw [if_pos c13] at H
     have LMc13:=z1.mk c13
     clear c13
     obtain ⟨y106,hy106⟩ : ∃ y_ : List (S35),y_ = (x6_2 ++ [(⟨t104,t105⟩ : S35)]):=⟨_,rfl⟩
     replace H : (zJ.l0 k2 l1 y106 l0 (l0.length : Int) (wrap64 (x26_2 + 1))) = some (r1,r2):=by first|(rw [hy106];with_reducible exact H)|(have H2_:=(Option.bind_some _ _).symm.trans H;rw [hy106];with_reducible exact H2_)|(have H2_:=(Option.bind_some _ _).symm.trans H;with_reducible exact H2_)|with_reducible exact H|(rw [hy106];exact H)|exact H
     have Ny106:=z1.mk hy106
     clear hy106
     have H':=z1.mk H
     clear H
     have p102 : 0 ≤ (x26_2 : Int):=of_decide_eq_true zz81
     have q102 : x26_2 < (l0.length : Int):=of_decide_eq_true zz81
     obtain ⟨ad102,e102,hx102_0,hx102_1⟩:=z1Q HR0.out x26_2 p102 q102
     cases e102
     replace hx102_0:=(HB.out.cell (World.block_lt_of_cell? w _ hx102_0)).trans hx102_0
     replace hx102_1:=(HB.out.cell (World.block_lt_of_cell? w _ hx102_1)).trans hx102_1
     replace p102:=eq_true p102
     replace q102:=eq_true q102
     go_wp2_with (first|((with_reducible refine zE (N:=8) rfl ?_);(try (refine z1n zz88 ?_;dsimp only));refine zC ?hg (N:=8) ?hd (cs:=#[.int .u64 0,.int .u64 0]) (t:=35) ?hr ?_;(case hd=>rfl);(case hg=>rfl);(case hr=>first|(go_simp;done)|(go_simp;rfl));intro gb103 hg w14 hbox hb;have n0_:=z1.mk (Kd.zs (Kd.z1B zz74 gb103 (Nat.le_of_eq hg.symm)) hb);have n1_:=z1.mk (ze zz47 hb);have n2_:=z1.mk (hbox);have n3_:=z1.mk ((by rw [hg];exact (zf zz47) : w.heap.size ≤ gb103));have n4_:=z1.mk ((by rw [hg];exact (zf zz47) : w.heap.size ≤ gb103));clear HO_6;clear HB;have HO_6:=n0_;have HB:=n1_;have BK103:=n2_;have GW103:=n3_;have GE103:=n4_;clear n0_ n1_ n2_ n3_ n4_;clear hb hbox hg;have hcz15_0 : w14.cell? ⟨gb103,0,none⟩ = some (.int .u64 0):=(z5 BK103.out 0).trans rfl;have hcz15_1 : w14.cell? ⟨gb103,1,none⟩ = some (.int .u64 0):=(z5 BK103.out 1).trans rfl;have hfz15_0:=z4 BK103.out 0;have hfz15_1:=z4 BK103.out 1)|((with_reducible refine zo (f:=50) rfl ?_);refine goesL_ (some 33) rfl rfl Try.func50 zz84 rfl #[.slice A1 l1.length c1,.agg #[.int .u64 ((rd_T35 l0 x26_2).f0),.int .u64 ((rd_T35 l0 x26_2).f1)]] rfl zz45 ?_;(with_reducible refine (zN.calls k2 _ _ l1 ((rd_T35 l0 x26_2).f0) ((rd_T35 l0 x26_2).f1) t104 t105 _ ?side1 ?side2 A12.out).mono ?_);(case side1=>exact Kd.z1A HR1.out zz44);(case side2=>exact HC1.out);rintro e w16 ⟨rfl,hb⟩;refine ⟨_,rfl,?_⟩;have n0_:=z1.mk (Kd.zs (by (with_reducible repeat (first|apply Kd.zL|apply Kd.zM|apply Kd.zS));exact (Kd.z1j (Kd.z1O (p:=⟨gb103,1,none⟩) (Kd.z1O (p:=⟨gb103,0,none⟩) (Kd.z1j HO_6.out (fun k_ hk=>(⟨hk,hk.2⟩ : _ ∧ k_ ≠ gb103))) (fun _ hk=>hk.2) (.int .u64 ((rd_T35 l0 x26_2).f0))) (fun _ hk=>hk.2) (.int .u64 ((rd_T35 l0 x26_2).f1))) (fun _ h_=>h_.1))) hb);have n1_:=z1.mk (z9 (g:=gb103) (o:=.cells #[.int .u64 ((rd_T35 l0 x26_2).f0),.int .u64 ((rd_T35 l0 x26_2).f1)] 35 (0,0)) (by (with_reducible repeat (first|refine z8 ?_ _|refine zb ?_|refine z7 ?_ _));refine zT (cs:=#[.int .u64 ((rd_T35 l0 x26_2).f0),.int .u64 0]) ?_ 1 _ rfl;(with_reducible repeat (first|refine z8 ?_ _|refine zb ?_|refine z7 ?_ _));refine zT (cs:=#[.int .u64 0,.int .u64 0]) ?_ 0 _ rfl;(with_reducible repeat (first|refine z8 ?_ _|refine zb ?_|refine z7 ?_ _));exact BK103.out) hb);have n2_:=z1.mk (ze zz44 hb);clear HO_6;clear BK103;clear HB;have HO_6:=n0_;have BK103:=n1_;have HB:=n2_;clear n0_ n1_ n2_;(try clear hb);(try clear hb2);(try clear hk);(try clear hi))|((with_reducible refine z1H (b:=.append) (xs:=#[.tmp 30,.tmp 34]) rfl ?_);(try (refine z1n zz88 ?_;dsimp only));at_builtin;refine Kd.z2b k35 (w0:=w) w.heap.size rfl (.tmp 30) (.tmp 34) 22 35 (.agg #[(.int .u64 0),(.int .u64 0)]) 16 rfl Try.underlying22 info35 rfl zz85 zz86 u6 x6_2 (⟨t104,t105⟩ : S35) [.int .u64 t104,.int .u64 t105] (fun k_=>k_ ≠ gb103) (fun _=>False) rfl rfl ?aP (fun _ hk=>hk.elim) ?aF ?aO ?aB ?aS ?aL ?_;(case aP=>exact z2g _ _ _ (⟨t104,t105⟩ : S35));(case aB=>exact zz44);(case aF=>exact (fun k_ hk=>Kd.freshB (g:=gb103) (o:=.cells #[.int .u64 ((rd_T35 l0 x26_2).f0),.int .u64 ((rd_T35 l0 x26_2).f1)] 35 (0,0)) zz54 k_ hk));(case aO=>exact (by (with_reducible repeat (first|apply Kd.zL|apply Kd.zM|apply Kd.zS));exact Kd.z1j HO_6.out (fun _ hk=>hk.2)));(case aS=>exact (zf zz44));(case aL=>have:=LMc13.out;omega);intro v107 w17 ho hb hg hat;rw [← Ny106.out] at ho;have n0_:=z1.mk (z26 (g:=gb103) (o:=.cells #[.int .u64 ((rd_T35 l0 x26_2).f0),.int .u64 ((rd_T35 l0 x26_2).f1)] 35 (0,0)) zz54 hg (Kd.z2y HO_6.out (fun _ hk=>hk.2)));have n1_:=z1.mk (hb);have n2_:=z1.mk (ho);clear BK103;clear HB;clear HO_6;have BK103:=n0_;have HB:=n1_;have HO108:=n2_;clear n0_ n1_ n2_;clear ho hb hg hat))
     go_roundg k2
     case measure=>have:=HJ2.out;have:=HK2.out;omega
     case rel=>exact ⟨(y106),(wrap64 (x26_2 + 1)),zz82,H',⟨by have:=HJ2.out;have:=HK2.out;omega⟩,⟨by (with_reducible repeat (first|apply Kd.zL|apply Kd.zM|apply Kd.zS));exact Kd.z1j HO108.out (fun _ hk=>trivial)⟩,⟨by repeat (first|(with_reducible first|exact HB.out|apply zd|apply z3|apply zc|refine za ?_ GE103.out)|exact HB.out)⟩⟩
end Go.Proofs.Ytnhbdhgbmjcjdaa.P
namespace Go.Proofs.Ytnhbdhgbmjcjdaa.P
open Go.RowKit Go.Proofs.YtnhbdhgbmjcjdaaW.PrintWords Go.Proofs.YtnhbdhgbmjcjdaaW.PrintLast Go.Proofs.YtnhbdhgbmjcjdaaW.PrintMore
attribute [local go_sem] z10 z12 z1h z1i zQ zR z11 z13   -- for this text's walks alone
set_option linter.unusedVariables false
set_option linter.unusedSimpArgs false
def zr.l0 : Nat → List (S38) → Int → Int → Option (Bool)
 | 0,_,_,_=>none
 | k + 1,x0,x1,x5=>if x5 < (x0.length : Int) then (if 0 ≤ x5 then ((zu.f k ((z1r x0 x5).f0) ((z1r x0 x5).f1)).bind fun t102=>(if t102 ≥ x1 then (some false) else (zr.l0 k x0 x1 (wrap64 (x5 + 1))))) else (none)) else (some true)
def zr.f (k : Nat) (l0 : List (S38)) (a1 : Int) : Option (Bool):=zr.l0 k l0 a1 0
theorem zr.zY : ∀ k,(∀ y0 y1 y2,LeO (zr.l0 k y0 y1 y2) (zr.l0 (k + 1) y0 y1 y2))
 | 0=>fun _ _ _ r h=>by simp [zr.l0] at h
 | k + 1=>by
  have ih0:=zr.zY k
  · intro y0 y1 y2
    unfold zr.l0
    repeat' first
    | (with_reducible exact ih0 _ _ _)
    | (with_reducible exact zu.mono _ _ _)
    | (with_reducible exact LeO.refl _)
    | (with_reducible exact LeO.none _)
    | (with_reducible refine LeO.ite ?_ ?_)
    | (with_reducible refine LeO.bind ?_ (fun _=>?_))
    | exact ih0 _ _ _
    | exact zu.mono _ _ _
    | exact LeO.none _
    | refine LeO.ite ?_ ?_
    | refine LeO.bind ?_ (fun _=>?_)
theorem zr.mono : ∀ a0 a1 k,LeO (zr.f k a0 a1) (zr.f (k + 1) a0 a1):=by
 intro a0 a1 k
 have ih0:=zr.zY k
 unfold zr.f
 repeat' first
  | (with_reducible exact ih0 _ _ _)
  | (with_reducible exact zu.mono _ _ _)
  | (with_reducible exact LeO.refl _)
  | (with_reducible exact LeO.none _)
  | (with_reducible refine LeO.ite ?_ ?_)
  | (with_reducible refine LeO.bind ?_ (fun _=>?_))
  | exact ih0 _ _ _
  | exact zu.mono _ _ _
  | exact LeO.none _
  | refine LeO.ite ?_ ?_
  | refine LeO.bind ?_ (fun _=>?_)
set_option maxHeartbeats 8000000 in
set_option maxRecDepth 100000 in
theorem zr.calls (k : Nat) (A0 : Option Addr) (c0 : Nat) (l0 : List (S38)) (a1 : Int) (r : Bool) (w : World) (hr0 : Kd.C k38 w A0 l0.length l0) (hc0 : l0.length ≤ c0) (h : zr.f k l0 a1 = some r) :
 Calls Try.prog 45 #[.slice A0 l0.length c0,.int .i64 a1] w fun e w'=>e = .returned (.bool r) ∧ Below w.heap.size w w':=by
 have hu38:=Try.underlying38
 have HR0:=z1.mk hr0
 have HC0:=z1.mk hc0
 clear hr0 hc0
 have HB:=z1.mk (Below.refl w.heap.size w)
 have H : (zr.l0 k l0 a1 0) = some r:=h
 clear h
 have H':=z1.mk H
 clear H
 go_enter Try.func45,Try.ntmps45
 go_wp2
 go_loopg [5] k (fun kq v5 w'=>∃ (x5_1 : Int),v5 = .int .i64 x5_1 ∧ z1 (zr.l0 kq l0 a1 x5_1 = some r) ∧ z1 (kq ≤ k) ∧ z1 (Below w.heap.size w w'))
 case atStart=>exact ⟨(0),zz82,H',⟨Nat.le_refl _⟩,⟨by repeat (first|(with_reducible first|exact HB.out|apply zd|apply z3|apply zc)|exact HB.out)⟩⟩
 case round =>
  clear H'
  (try clear p2)
  obtain ⟨x5_1,rfl,HA,HK1,HB⟩:=hrel
  cases gk with
  | zero=>exact absurd HA.out (by simp [zr.l0])
  | succ k1 =>
   have H:=HA.out
   clear HA
   simp only [zr.l0] at H
   by_cases c3 : x5_1 < (l0.length : Int)
   rotate_left
   · rw [if_neg c3] at H
     have c3b0 : decide (x5_1 < (l0.length : Int)) = false:=decide_eq_false c3
     clear c3
     obtain rfl:=Option.some.inj H
     go_wp2
     go_ret
     exact ⟨by first|rfl|(simp [zi,zj] <;> rfl)|(simp [*,zi,zj] <;> rfl),by repeat (first|(with_reducible first|exact HB.out|apply zd|apply z3|apply zc)|exact HB.out)⟩
   rw [if_pos c3] at H
   have c3b0 : decide (x5_1 < (l0.length : Int)) = true:=decide_eq_true c3
   clear c3
   by_cases c4 : 0 ≤ x5_1
   rotate_left
   · rw [if_neg c4] at H
     exact absurd H zz87
   rw [if_pos c4] at H
   have c4b0 : decide (0 ≤ x5_1) = true:=decide_eq_true c4
   clear c4
   replace H:=Option.bind_eq_some_iff.mp H
   obtain ⟨t102,A50,H⟩:=H
   replace H : (if t102 ≥ a1 then (some false) else (zr.l0 k1 l0 a1 (wrap64 (x5_1 + 1)))) = some r:=H
   have A5:=z1.mk A50
   clear A50
   by_cases c6 : t102 ≥ a1
   · rw [if_pos c6] at H
     have c6b0 : decide (a1 ≤ t102) = true:=decide_eq_true c6
     clear c6
     obtain rfl:=Option.some.inj H
     have p101 : 0 ≤ (x5_1 : Int):=of_decide_eq_true zz81
     have q101 : x5_1 < (l0.length : Int):=of_decide_eq_true zz81
     obtain ⟨ad101,e101,hx101_0,hx101_1⟩:=z3b HR0.out x5_1 p101 q101
     cases e101
     replace hx101_0:=(HB.out.cell (World.block_lt_of_cell? w _ hx101_0)).trans hx101_0
     replace hx101_1:=(HB.out.cell (World.block_lt_of_cell? w _ hx101_1)).trans hx101_1
     replace p101:=eq_true p101
     replace q101:=eq_true q101
     go_wp2_with (first|((with_reducible refine zo (f:=51) rfl ?_);refine goesL_ (some 16) rfl rfl Try.func51 zz84 rfl #[.agg #[.int .u64 ((z1r l0 x5_1).f0),.int .u64 ((z1r l0 x5_1).f1)]] rfl zz45 ?_;(with_reducible refine (zu.calls k1 ((z1r l0 x5_1).f0) ((z1r l0 x5_1).f1) t102 _ A5.out).mono ?_);rintro e w7 ⟨rfl,hb⟩;refine ⟨_,rfl,?_⟩;have n0_:=z1.mk (ze zz47 hb);clear HB;have HB:=n0_;clear n0_;(try clear hb);(try clear hb2);(try clear hk);(try clear hi)))
     go_ret
     exact ⟨by first|rfl|(simp [zi,zj] <;> rfl)|(simp [*,zi,zj] <;> rfl),by repeat (first|(with_reducible first|exact HB.out|apply zd|apply z3|apply zc)|exact HB.out)⟩
   rw [if_neg c6] at H
   have c6b0 : decide (a1 ≤ t102) = false:=decide_eq_false c6
   clear c6
   have H':=z1.mk H
   clear H
   have p101 : 0 ≤ (x5_1 : Int):=of_decide_eq_true zz81
   have q101 : x5_1 < (l0.length : Int):=of_decide_eq_true zz81
   obtain ⟨ad101,e101,hx101_0,hx101_1⟩:=z3b HR0.out x5_1 p101 q101
   cases e101
   replace hx101_0:=(HB.out.cell (World.block_lt_of_cell? w _ hx101_0)).trans hx101_0
   replace hx101_1:=(HB.out.cell (World.block_lt_of_cell? w _ hx101_1)).trans hx101_1
   replace p101:=eq_true p101
   replace q101:=eq_true q101
   go_wp2_with (first|((with_reducible refine zo (f:=51) rfl ?_);refine goesL_ (some 16) rfl rfl Try.func51 zz84 rfl #[.agg #[.int .u64 ((z1r l0 x5_1).f0),.int .u64 ((z1r l0 x5_1).f1)]] rfl zz45 ?_;(with_reducible refine (zu.calls k1 ((z1r l0 x5_1).f0) ((z1r l0 x5_1).f1) t102 _ A5.out).mono ?_);rintro e w8 ⟨rfl,hb⟩;refine ⟨_,rfl,?_⟩;have n0_:=z1.mk (ze zz47 hb);clear HB;have HB:=n0_;clear n0_;(try clear hb);(try clear hb2);(try clear hk);(try clear hi)))
   go_roundg k1
   case measure=>have:=HK1.out;omega
   case rel=>exact ⟨(wrap64 (x5_1 + 1)),zz82,H',⟨by have:=HK1.out;omega⟩,⟨by repeat (first|(with_reducible first|exact HB.out|apply zd|apply z3|apply zc)|exact HB.out)⟩⟩
end Go.Proofs.Ytnhbdhgbmjcjdaa.P
namespace Go.Proofs.Ytnhbdhgbmjcjdaa.P
open Go.RowKit Go.Proofs.YtnhbdhgbmjcjdaaW.PrintWords Go.Proofs.YtnhbdhgbmjcjdaaW.PrintLast Go.Proofs.YtnhbdhgbmjcjdaaW.PrintMore
attribute [local go_sem] z10 z12 z1h z1i zQ zR z11 z13   -- for this text's walks alone
set_option linter.unusedVariables false
set_option linter.unusedSimpArgs false
mutual
def zm.j0 : Nat → List (S38) → List (S38) → List (S38) → Bool → Option ((List (S38)) × Int)
 | 0,_,_,_,_=>none
 | k + 1,x0,x1,x6,x15=>if x15 = true then (some (([] : List (S38)),1)) else ((zr.f k x0 (x1.length : Int)).bind fun t101=>(if t101 = true then (zm.l0 k x0 x1 x6 0) else (some (([] : List (S38)),6))))
def zm.l0 : Nat → List (S38) → List (S38) → List (S38) → Int → Option ((List (S38)) × Int)
 | 0,_,_,_,_=>none
 | k + 1,x0,x1,x6,x7=>if x7 < (x0.length : Int) then (if 0 ≤ x7 then ((zt.f k x1 ((z1r x0 x7).f0) ((z1r x0 x7).f1)).bind fun bt103=>(if x6.length < 8796093022208 then (zm.l0 k x0 x1 (x6 ++ [(⟨bt103.1,bt103.2⟩ : S38)]) (wrap64 (x7 + 1))) else (none))) else (none)) else (some (x6,0))
end
def zm.f (k : Nat) (l0 : List (S38)) (l1 : List (S38)) : Option ((List (S38)) × Int):=if (l0.length : Int) > 128 then (zm.j0 k l0 l1 ([] : List (S38)) true) else (zm.j0 k l0 l1 ([] : List (S38)) (decide ((l1.length : Int) > 128)))
theorem zm.zY : ∀ k,(∀ y0 y1 y2 y3,LeO (zm.j0 k y0 y1 y2 y3) (zm.j0 (k + 1) y0 y1 y2 y3)) ∧ (∀ y0 y1 y2 y3,LeO (zm.l0 k y0 y1 y2 y3) (zm.l0 (k + 1) y0 y1 y2 y3))
 | 0=>⟨fun _ _ _ _ r h=>by simp [zm.j0] at h,fun _ _ _ _ r h=>by simp [zm.l0] at h⟩
 | k + 1=>by
  obtain ⟨ih0,ih1⟩:=zm.zY k
  refine ⟨?_,?_⟩
  · intro y0 y1 y2 y3
    unfold zm.j0
    repeat' first
    | (with_reducible exact ih0 _ _ _ _)
    | (with_reducible exact ih1 _ _ _ _)
    | (with_reducible exact zt.mono _ _ _ _)
    | (with_reducible exact zr.mono _ _ _)
    | (with_reducible exact LeO.refl _)
    | (with_reducible exact LeO.none _)
    | (with_reducible refine LeO.ite ?_ ?_)
    | (with_reducible refine LeO.bind ?_ (fun _=>?_))
    | exact ih0 _ _ _ _
    | exact ih1 _ _ _ _
    | exact zt.mono _ _ _ _
    | exact zr.mono _ _ _
    | exact LeO.none _
    | refine LeO.ite ?_ ?_
    | refine LeO.bind ?_ (fun _=>?_)
  · intro y0 y1 y2 y3
    unfold zm.l0
    repeat' first
    | (with_reducible exact ih0 _ _ _ _)
    | (with_reducible exact ih1 _ _ _ _)
    | (with_reducible exact zt.mono _ _ _ _)
    | (with_reducible exact zr.mono _ _ _)
    | (with_reducible exact LeO.refl _)
    | (with_reducible exact LeO.none _)
    | (with_reducible refine LeO.ite ?_ ?_)
    | (with_reducible refine LeO.bind ?_ (fun _=>?_))
    | exact ih0 _ _ _ _
    | exact ih1 _ _ _ _
    | exact zt.mono _ _ _ _
    | exact zr.mono _ _ _
    | exact LeO.none _
    | refine LeO.ite ?_ ?_
    | refine LeO.bind ?_ (fun _=>?_)
theorem zm.mono : ∀ a0 a1 k,LeO (zm.f k a0 a1) (zm.f (k + 1) a0 a1):=by
 intro a0 a1 k
 obtain ⟨ih0,ih1⟩:=zm.zY k
 unfold zm.f
 repeat' first
  | (with_reducible exact ih0 _ _ _ _)
  | (with_reducible exact ih1 _ _ _ _)
  | (with_reducible exact zt.mono _ _ _ _)
  | (with_reducible exact zr.mono _ _ _)
  | (with_reducible exact LeO.refl _)
  | (with_reducible exact LeO.none _)
  | (with_reducible refine LeO.ite ?_ ?_)
  | (with_reducible refine LeO.bind ?_ (fun _=>?_))
  | exact ih0 _ _ _ _
  | exact ih1 _ _ _ _
  | exact zt.mono _ _ _ _
  | exact zr.mono _ _ _
  | exact LeO.none _
  | refine LeO.ite ?_ ?_
  | refine LeO.bind ?_ (fun _=>?_)
set_option maxHeartbeats 8000000 in
set_option maxRecDepth 100000 in
theorem zm.calls (k : Nat) (A0 : Option Addr) (c0 : Nat) (l0 : List (S38)) (A1 : Option Addr) (c1 : Nat) (l1 : List (S38)) (r1 : List (S38)) (r2 : Int) (w : World) (hr0 : Kd.C k38 w A0 l0.length l0) (hc0 : l0.length ≤ c0) (hr1 : Kd.C k38 w A1 l1.length l1) (hc1 : l1.length ≤ c1) (h : zm.f k l0 l1 = some (r1,r2)) :
 Calls Try.prog 18 #[.slice A0 l0.length c0,.slice A1 l1.length c1] w fun e w'=>∃ v0_ : Value,e = .returned (.tuple #[v0_,.int .i64 r2]) ∧ Kd.R k38 38 w' w.heap.size (fun _=>True) v0_ r1 ∧ Below w.heap.size w w':=by
 have hu38:=Try.underlying38
 have HR0:=z1.mk hr0
 have HC0:=z1.mk hc0
 clear hr0 hc0
 have HR1:=z1.mk hr1
 have HC1:=z1.mk hc1
 clear hr1 hc1
 have HB:=z1.mk (Below.refl w.heap.size w)
 have H : (if (l0.length : Int) > 128 then (zm.j0 k l0 l1 ([] : List (S38)) true) else (zm.j0 k l0 l1 ([] : List (S38)) (decide ((l1.length : Int) > 128)))) = some (r1,r2):=h
 clear h
 have HC3:=z1.mk H
 clear H
 go_enter Try.func18,Try.ntmps18
 go_upto_region 2 with (fail)
 go_cut [15] (fun v15 wc=>∃ (kq : Nat) (x15_2 : Bool),v15 = .bool x15_2 ∧ z1 (zm.j0 kq l0 l1 ([] : List (S38)) x15_2 = some (r1,r2)) ∧ z1 (kq ≤ k) ∧ z1 (Kd.R k38 38 wc w.heap.size (fun _=>True) (.slice none 0 0) ([] : List (S38))) ∧ z1 (Below w.heap.size w wc))
 case first =>
  have H:=HC3.out
  clear HC3
  by_cases c4 : (l0.length : Int) > 128
  rotate_left
  · rw [if_neg c4] at H
    have c4b0 : decide (128 < (l0.length : Int)) = false:=decide_eq_false c4
    have c4b1 : decide (128 < l0.length) = false:=decide_eq_false zz86
    clear c4
    (first|rw [c4b0]|(simp only [zH,zI];rw [c4b0])|skip)
    have H':=z1.mk H
    clear H
    go_wp2
    go_meet
    case rel=>exact ⟨_,(decide ((l1.length : Int) > 128)),zz82,H',⟨by first|omega|exact Nat.le_refl _⟩,⟨by first|exact Kd.z2e _ _ _ _ _|exact Kd.z2t _ _ _ _ _|exact Kd.z2w _ _ _ _ _|exact Kd.z2u _ _ _ _ _|exact Kd.z2v _ _ _ _ _⟩,⟨by repeat (first|(with_reducible first|exact HB.out|apply zd|apply z3|apply zc)|exact HB.out)⟩⟩
  rw [if_pos c4] at H
  have c4b0 : decide (128 < (l0.length : Int)) = true:=decide_eq_true c4
  have c4b1 : decide (128 < l0.length) = true:=decide_eq_true zz86
  clear c4
  (first|rw [c4b0]|(simp only [zH,zI];rw [c4b0])|skip)
  have H':=z1.mk H
  clear H
  go_wp2
  go_meet
  case rel=>exact ⟨_,(true),zz82,H',⟨by first|omega|exact Nat.le_refl _⟩,⟨by first|exact Kd.z2e _ _ _ _ _|exact Kd.z2t _ _ _ _ _|exact Kd.z2w _ _ _ _ _|exact Kd.z2u _ _ _ _ _|exact Kd.z2v _ _ _ _ _⟩,⟨by repeat (first|(with_reducible first|exact HB.out|apply zd|apply z3|apply zc)|exact HB.out)⟩⟩
 case rest =>
  clear HC3
  (try clear c1);(try clear p2);(try clear c4);(try clear c4b0);(try clear c4b1)
  obtain ⟨kq,x15_2,rfl,HA,HJ2,HO_6,HB⟩:=hcut
  cases kq with
  | zero=>exact absurd HA.out (by simp [zm.j0])
  | succ kj2 =>
   have H:=HA.out
   clear HA
   simp only [zm.j0] at H
   by_cases c5 : x15_2 = true
   · subst c5
     have H1 : (some (([] : List (S38)),1)) = some (r1,r2):=by rw [if_pos rfl] at H;exact H
     clear H
     have H:=H1
     clear H1
     simp only [Option.some.injEq,Prod.mk.injEq] at H
     obtain ⟨rfl,rfl⟩:=H
     go_wp2
     go_ret2
     exact ⟨_,by first|rfl|(simp [zi,zj] <;> rfl)|(simp [*,zi,zj] <;> rfl),by first|exact Kd.z2e _ _ _ _ _|exact Kd.z2t _ _ _ _ _|exact Kd.z2w _ _ _ _ _|exact Kd.z2u _ _ _ _ _|exact Kd.z2v _ _ _ _ _,by repeat (first|(with_reducible first|exact HB.out|apply zd|apply z3|apply zc)|exact HB.out)⟩
   replace c5:=Bool.eq_false_iff.mpr c5
   subst c5
   have H1 : ((zr.f kj2 l0 (l1.length : Int)).bind fun t101=>(if t101 = true then (zm.l0 kj2 l0 l1 ([] : List (S38)) 0) else (some (([] : List (S38)),6)))) = some (r1,r2):=by rw [if_neg (show ¬ (false = true) by decide)] at H;exact H
   clear H
   have H:=H1
   clear H1
   replace H:=Option.bind_eq_some_iff.mp H
   obtain ⟨t101,A60,H⟩:=H
   replace H : (if t101 = true then (zm.l0 kj2 l0 l1 ([] : List (S38)) 0) else (some (([] : List (S38)),6))) = some (r1,r2):=H
   have A6:=z1.mk A60
   clear A60
   by_cases c7 : t101 = true
   rotate_left
   · replace c7:=Bool.eq_false_iff.mpr c7
     subst c7
     have H1 : (some (([] : List (S38)),6)) = some (r1,r2):=by rw [if_neg (show ¬ (false = true) by decide)] at H;exact H
     clear H
     have H:=H1
     clear H1
     simp only [Option.some.injEq,Prod.mk.injEq] at H
     obtain ⟨rfl,rfl⟩:=H
     go_wp2_with (first|((with_reducible refine zo (f:=45) rfl ?_);refine goesL_ (some 19) rfl rfl Try.func45 zz84 rfl #[.slice A0 l0.length c0,.int .i64 (l1.length : Int)] rfl zz45 ?_;(with_reducible refine (zr.calls kj2 _ _ l0 (l1.length : Int) false _ ?side1 ?side2 A6.out).mono ?_);(case side1=>repeat (first|exact (Kd.z1A HR0.out HB.out)|(with_reducible refine Kd.z15 ?_ _)|(with_reducible refine Kd.z16 ?_ _)|(with_reducible refine Kd.z1m ?_)));(case side2=>exact HC0.out);rintro e w15 ⟨rfl,hb⟩;refine ⟨_,rfl,?_⟩;have n0_:=z1.mk (Kd.zs zz74 hb);have n1_:=z1.mk (ze zz47 hb);clear HO_6;clear HB;have HO_6:=n0_;have HB:=n1_;clear n0_ n1_;(try clear hb);(try clear hb2);(try clear hk);(try clear hi)))
     go_ret2
     exact ⟨_,by first|rfl|(simp [zi,zj] <;> rfl)|(simp [*,zi,zj] <;> rfl),by first|exact Kd.z2e _ _ _ _ _|exact Kd.z2t _ _ _ _ _|exact Kd.z2w _ _ _ _ _|exact Kd.z2u _ _ _ _ _|exact Kd.z2v _ _ _ _ _,by repeat (first|(with_reducible first|exact HB.out|apply zd|apply z3|apply zc)|exact HB.out)⟩
   subst c7
   have H1 : (zm.l0 kj2 l0 l1 ([] : List (S38)) 0) = some (r1,r2):=by rw [if_pos rfl] at H;exact H
   clear H
   have H:=H1
   clear H1
   have H':=z1.mk H
   clear H
   go_wp2_with (first|((with_reducible refine zo (f:=45) rfl ?_);refine goesL_ (some 19) rfl rfl Try.func45 zz84 rfl #[.slice A0 l0.length c0,.int .i64 (l1.length : Int)] rfl zz45 ?_;(with_reducible refine (zr.calls kj2 _ _ l0 (l1.length : Int) true _ ?side1 ?side2 A6.out).mono ?_);(case side1=>repeat (first|exact (Kd.z1A HR0.out HB.out)|(with_reducible refine Kd.z15 ?_ _)|(with_reducible refine Kd.z16 ?_ _)|(with_reducible refine Kd.z1m ?_)));(case side2=>exact HC0.out);rintro e w8 ⟨rfl,hb⟩;refine ⟨_,rfl,?_⟩;have n0_:=z1.mk (Kd.zs zz74 hb);have n1_:=z1.mk (ze zz47 hb);clear HO_6;clear HB;have HO_6:=n0_;have HB:=n1_;clear n0_ n1_;(try clear hb);(try clear hb2);(try clear hk);(try clear hi)))
   go_loopg [6,7] kj2 (fun kq v6 v7 w'=>∃ (x6_2 : List (S38)) (x7_2 : Int),v7 = .int .i64 x7_2 ∧ z1 (zm.l0 kq l0 l1 x6_2 x7_2 = some (r1,r2)) ∧ z1 (kq ≤ kj2) ∧ z1 (Kd.R k38 38 w' w.heap.size (fun _=>True) v6 x6_2) ∧ z1 (Below w.heap.size w w'))
   case atStart=>exact ⟨(([] : List (S38))),(0),zz82,H',⟨Nat.le_refl _⟩,⟨by (with_reducible repeat (first|apply Kd.zL|apply Kd.zM|apply Kd.zS));exact HO_6.out⟩,⟨by repeat (first|(with_reducible first|exact HB.out|apply zd|apply z3|apply zc)|exact HB.out)⟩⟩
   case round =>
    clear H'
    (try clear c1);(try clear p2);(try clear c4);(try clear c4b0);(try clear c4b1);(try clear c5);(try clear c7);(try clear p2)
    obtain ⟨x6_2,x7_2,rfl,HA,HK2,HO_6,HB⟩:=hrel
    cases gk with
    | zero=>exact absurd HA.out (by simp [zm.l0])
    | succ k2 =>
     have H:=HA.out
     clear HA
     simp only [zm.l0] at H
     by_cases c9 : x7_2 < (l0.length : Int)
     rotate_left
     · rw [if_neg c9] at H
       have c9b0 : decide (x7_2 < (l0.length : Int)) = false:=decide_eq_false c9
       clear c9
       simp only [Option.some.injEq,Prod.mk.injEq] at H
       obtain ⟨rfl,rfl⟩:=H
       go_wp2
       go_ret2
       exact ⟨_,by first|rfl|(simp [zi,zj] <;> rfl)|(simp [*,zi,zj] <;> rfl),by (with_reducible repeat (first|apply Kd.zL|apply Kd.zM|apply Kd.zS));exact HO_6.out,by repeat (first|(with_reducible first|exact HB.out|apply zd|apply z3|apply zc)|exact HB.out)⟩
     rw [if_pos c9] at H
     have c9b0 : decide (x7_2 < (l0.length : Int)) = true:=decide_eq_true c9
     clear c9
     by_cases c10 : 0 ≤ x7_2
     rotate_left
     · rw [if_neg c10] at H
       exact absurd H zz87
     rw [if_pos c10] at H
     have c10b0 : decide (0 ≤ x7_2) = true:=decide_eq_true c10
     clear c10
     replace H:=Option.bind_eq_some_iff.mp H
     obtain ⟨⟨t103,t104⟩,A110,H⟩:=H
     replace H : (if x6_2.length < 8796093022208 then (zm.l0 k2 l0 l1 (x6_2 ++ [(⟨t103,t104⟩ : S38)]) (wrap64 (x7_2 + 1))) else (none)) = some (r1,r2):=H
     have A11:=z1.mk A110
     clear A110
     by_cases c12 : x6_2.length < 8796093022208
     rotate_left
     · rw [if_neg c12] at H
       exact absurd H zz87
     rw [if_pos c12] at H
     have LMc12:=z1.mk c12
     clear c12
     obtain ⟨y105,hy105⟩ : ∃ y_ : List (S38),y_ = (x6_2 ++ [(⟨t103,t104⟩ : S38)]):=⟨_,rfl⟩
     replace H : (zm.l0 k2 l0 l1 y105 (wrap64 (x7_2 + 1))) = some (r1,r2):=by first|(rw [hy105];with_reducible exact H)|(have H2_:=(Option.bind_some _ _).symm.trans H;rw [hy105];with_reducible exact H2_)|(have H2_:=(Option.bind_some _ _).symm.trans H;with_reducible exact H2_)|with_reducible exact H|(rw [hy105];exact H)|exact H
     have Ny105:=z1.mk hy105
     clear hy105
     have H':=z1.mk H
     clear H
     have p102 : 0 ≤ (x7_2 : Int):=of_decide_eq_true zz81
     have q102 : x7_2 < (l0.length : Int):=of_decide_eq_true zz81
     obtain ⟨ad102,e102,hx102_0,hx102_1⟩:=z3b HR0.out x7_2 p102 q102
     cases e102
     replace hx102_0:=(HB.out.cell (World.block_lt_of_cell? w _ hx102_0)).trans hx102_0
     replace hx102_1:=(HB.out.cell (World.block_lt_of_cell? w _ hx102_1)).trans hx102_1
     replace p102:=eq_true p102
     replace q102:=eq_true q102
     go_wp2_with (first|((with_reducible refine zo (f:=52) rfl ?_);refine goesL_ (some 33) rfl rfl Try.func52 zz84 rfl #[.slice A1 l1.length c1,.agg #[.int .u64 ((z1r l0 x7_2).f0),.int .u64 ((z1r l0 x7_2).f1)]] rfl zz45 ?_;(with_reducible refine (zt.calls k2 _ _ l1 ((z1r l0 x7_2).f0) ((z1r l0 x7_2).f1) t103 t104 _ ?side1 ?side2 A11.out).mono ?_);(case side1=>repeat (first|exact (Kd.z1A HR1.out HB.out)|(with_reducible refine Kd.z15 ?_ _)|(with_reducible refine Kd.z16 ?_ _)|(with_reducible refine Kd.z1m ?_)));(case side2=>exact HC1.out);rintro e w13 ⟨rfl,hb⟩;refine ⟨_,rfl,?_⟩;have n0_:=z1.mk (Kd.zs zz74 hb);have n1_:=z1.mk (ze zz47 hb);clear HO_6;clear HB;have HO_6:=n0_;have HB:=n1_;clear n0_ n1_;(try clear hb);(try clear hb2);(try clear hk);(try clear hi))|((with_reducible refine z1H (b:=.append) (xs:=#[.tmp 27,.tmp 34]) rfl ?_);(try (refine z1n zz88 ?_;dsimp only));at_builtin;refine Kd.z2b k38 (w0:=w) w.heap.size rfl (.tmp 27) (.tmp 34) 27 38 (.agg #[(.int .u64 0),(.int .u64 0)]) 16 rfl Try.underlying27 info38 rfl zz85 zz86 u6 x6_2 (⟨t103,t104⟩ : S38) [.int .u64 t103,.int .u64 t104] (fun _=>True) (fun _=>False) rfl rfl ?aP (fun _ hk=>hk.elim) ?aF ?aO ?aB ?aS ?aL ?_;(case aP=>exact z4Y _ _ _ (⟨t103,t104⟩ : S38));(case aB=>exact zz47);(case aF=>exact (fun _ _=>trivial));(case aO=>exact zz74);(case aS=>exact (zf zz47));(case aL=>have:=LMc12.out;omega);intro v106 w14 ho hb hg hat;rw [← Ny105.out] at ho;have n0_:=z1.mk (hb);have n1_:=z1.mk (ho);clear HB;clear HO_6;have HB:=n0_;have HO107:=n1_;clear n0_ n1_;clear ho hb hg hat))
     go_roundg k2
     case measure=>have:=HJ2.out;have:=HK2.out;omega
     case rel=>exact ⟨(y105),(wrap64 (x7_2 + 1)),zz82,H',⟨by have:=HJ2.out;have:=HK2.out;omega⟩,⟨by (with_reducible repeat (first|apply Kd.zL|apply Kd.zM|apply Kd.zS));exact HO107.out⟩,⟨by repeat (first|(with_reducible first|exact HB.out|apply zd|apply z3|apply zc)|exact HB.out)⟩⟩
end Go.Proofs.Ytnhbdhgbmjcjdaa.P

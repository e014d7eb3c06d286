/- Own text: merged by wip/tools/pack.py out of what the law RingCounts reaches. -/
import Derived.Test.YtklkmflhnljbdaaMRingCountsb
import Derived.Test.YtklkmflhnljbdaaMRingCountsc
import Derived.Test.YtklkmflhnljbdaaMRingCountsd
import Derived.Test.YtklkmflhnljbdaaMRingCountse
namespace Go.Proofs.Ytklkmflhnljbdaa.P
open Go.RowKit Go.Proofs.YtklkmflhnljbdaaW.PrintWords Go.Proofs.YtklkmflhnljbdaaW.PrintLast Go.Proofs.YtklkmflhnljbdaaW.PrintMore
attribute [local go_sem] z17 z19 z1m z1n zU zV z18 z1a   -- for this text's walks alone
set_option linter.unusedVariables false
set_option linter.unusedSimpArgs false
mutual
def zk.l0 : Nat → Int → Int → Int → Int → Int → Int → Int → Option (Int × Int)
 | 0,_,_,_,_,_,_,_=>none
 | k + 1,x6,x102000,x102001,x103000,x103001,x105000,x105001=>if x6 < 128 then ((z1i.f k x103000 x103001 x6).bind fun t105=>(if t105 = true then (zk.l1 k x6 0 x102000 x102001 x103000 x103001 x105000 x105001 x102000 x102001) else (zk.l0 k (wrap64 (x6 + 1)) x102000 x102001 x103000 x103001 x105000 x105001))) else (some (x105000,x105001))
def zk.l1 : Nat → Int → Int → Int → Int → Int → Int → Int → Int → Int → Int → Option (Int × Int)
 | 0,_,_,_,_,_,_,_,_,_,_=>none
 | k + 1,x6,x8,x102000,x102001,x103000,x103001,x105000,x105001,x107000,x107001=>if x8 < 7 then (if 0 ≤ (IntKind.u64.wrap (x8)) then (if (Go.bits .and .i64 (shr .i64 x6 (IntKind.u64.wrap (x8))) 1) = 1 then ((zA.f k x8 x107000 x107001).bind fun bt107=>(zk.l1 k x6 (wrap64 (x8 + 1)) x102000 x102001 x103000 x103001 x105000 x105001 bt107.1 bt107.2)) else (zk.l1 k x6 (wrap64 (x8 + 1)) x102000 x102001 x103000 x103001 x105000 x105001 x107000 x107001)) else (none)) else ((z1u.f x105000 x105001 x107000 x107001).bind fun bt109=>(zk.l0 k (wrap64 (x6 + 1)) x102000 x102001 x103000 x103001 bt109.1 bt109.2))
end
def zk.f (k : Nat) (a0_0 : Int) (a0_1 : Int) (a1_0 : Int) (a1_1 : Int) : Option (Int × Int):=zk.l0 k 0 a0_0 a0_1 a1_0 a1_1 0 0
theorem zk.z1b : ∀ k,(∀ y0 y1 y2 y3 y4 y5 y6,LeO (zk.l0 k y0 y1 y2 y3 y4 y5 y6) (zk.l0 (k + 1) y0 y1 y2 y3 y4 y5 y6)) ∧ (∀ y0 y1 y2 y3 y4 y5 y6 y7 y8 y9,LeO (zk.l1 k y0 y1 y2 y3 y4 y5 y6 y7 y8 y9) (zk.l1 (k + 1) y0 y1 y2 y3 y4 y5 y6 y7 y8 y9))
 | 0=>⟨fun _ _ _ _ _ _ _ r h=>by simp [zk.l0] at h,fun _ _ _ _ _ _ _ _ _ _ r h=>by simp [zk.l1] at h⟩
 | k + 1=>by
  obtain ⟨ih0,ih1⟩:=zk.z1b k
  refine ⟨?_,?_⟩
  · intro y0 y1 y2 y3 y4 y5 y6
    unfold zk.l0
    repeat' first
    | (with_reducible exact ih0 _ _ _ _ _ _ _)
    | (with_reducible exact ih1 _ _ _ _ _ _ _ _ _ _)
    | (with_reducible exact z1i.mono _ _ _ _)
    | (with_reducible exact zA.mono _ _ _ _)
    | (with_reducible exact LeO.refl _)
    | (with_reducible exact LeO.none _)
    | (with_reducible refine LeO.ite ?_ ?_)
    | (with_reducible refine LeO.bind ?_ (fun _=>?_))
    | exact ih0 _ _ _ _ _ _ _
    | exact ih1 _ _ _ _ _ _ _ _ _ _
    | exact z1i.mono _ _ _ _
    | exact zA.mono _ _ _ _
    | exact LeO.none _
    | refine LeO.ite ?_ ?_
    | refine LeO.bind ?_ (fun _=>?_)
  · intro y0 y1 y2 y3 y4 y5 y6 y7 y8 y9
    unfold zk.l1
    repeat' first
    | (with_reducible exact ih0 _ _ _ _ _ _ _)
    | (with_reducible exact ih1 _ _ _ _ _ _ _ _ _ _)
    | (with_reducible exact z1i.mono _ _ _ _)
    | (with_reducible exact zA.mono _ _ _ _)
    | (with_reducible exact LeO.refl _)
    | (with_reducible exact LeO.none _)
    | (with_reducible refine LeO.ite ?_ ?_)
    | (with_reducible refine LeO.bind ?_ (fun _=>?_))
    | exact ih0 _ _ _ _ _ _ _
    | exact ih1 _ _ _ _ _ _ _ _ _ _
    | exact z1i.mono _ _ _ _
    | exact zA.mono _ _ _ _
    | exact LeO.none _
    | refine LeO.ite ?_ ?_
    | refine LeO.bind ?_ (fun _=>?_)
theorem zk.mono : ∀ a0 a1 a2 a3 k,LeO (zk.f k a0 a1 a2 a3) (zk.f (k + 1) a0 a1 a2 a3):=by
 intro a0 a1 a2 a3 k
 obtain ⟨ih0,ih1⟩:=zk.z1b k
 unfold zk.f
 repeat' first
  | (with_reducible exact ih0 _ _ _ _ _ _ _)
  | (with_reducible exact ih1 _ _ _ _ _ _ _ _ _ _)
  | (with_reducible exact z1i.mono _ _ _ _)
  | (with_reducible exact zA.mono _ _ _ _)
  | (with_reducible exact LeO.refl _)
  | (with_reducible exact LeO.none _)
  | (with_reducible refine LeO.ite ?_ ?_)
  | (with_reducible refine LeO.bind ?_ (fun _=>?_))
  | exact ih0 _ _ _ _ _ _ _
  | exact ih1 _ _ _ _ _ _ _ _ _ _
  | exact z1i.mono _ _ _ _
  | exact zA.mono _ _ _ _
  | exact LeO.none _
  | refine LeO.ite ?_ ?_
  | refine LeO.bind ?_ (fun _=>?_)
set_option maxHeartbeats 8000000 in
set_option maxRecDepth 100000 in
theorem zk.calls (k : Nat) (a0_0 : Int) (a0_1 : Int) (a1_0 : Int) (a1_1 : Int) (r1 : Int) (r2 : Int) (w : World) (h : zk.f k a0_0 a0_1 a1_0 a1_1 = some (r1,r2)) :
 Calls Try.prog 67 #[.agg #[.int .u64 a0_0,.int .u64 a0_1],.agg #[.int .u64 a1_0,.int .u64 a1_1]] w fun e w'=>e = .returned (.agg #[.int .u64 r1,.int .u64 r2]) ∧ Below w.heap.size w w':=by
 have hu48:=Try.underlying48
 have HB:=z4.mk (Below.refl w.heap.size w)
 have H : (zk.l0 k 0 a0_0 a0_1 a1_0 a1_1 0 0) = some (r1,r2):=h
 clear h
 have H':=z4.mk H
 clear H
 go_enter Try.func67,Try.ntmps67
 go_wp2_with (first|((with_reducible refine zr (N:=2) rfl ?_);refine zy ?hg (N:=2) ?hd (cs:=#[.int .u64 a0_0,.int .u64 a0_1]) (t:=48) ?hr ?_;(case hd=>rfl);(case hg=>rfl);(case hr=>first|(go_simp;done)|(go_simp;rfl));intro gb101 hg w3 hbox hb;have n0_:=z4.mk (z9 zz45 hb);have n1_:=z4.mk (hbox);have n2_:=z4.mk ((by rw [hg];exact (ze zz45) : w.heap.size ≤ gb101));have n3_:=z4.mk ((by rw [hg];exact (ze zz45) : w.heap.size ≤ gb101));clear HB;have HB:=n0_;have BK101:=n1_;have GW101:=n2_;have GE101:=n3_;clear n0_ n1_ n2_ n3_;clear hb hbox hg)|((with_reducible refine zr (N:=3) rfl ?_);refine zy ?hg (N:=3) ?hd (cs:=#[.int .u64 a1_0,.int .u64 a1_1]) (t:=48) ?hr ?_;(case hd=>rfl);(case hg=>rfl);(case hr=>first|(go_simp;done)|(go_simp;rfl));intro gb102 hg w4 hbox hb;have n0_:=z4.mk (zh (g:=gb101) (o:=.cells #[.int .u64 a0_0,.int .u64 a0_1] 48 (0,0)) zz46 hb);have n1_:=z4.mk (z9 zz40 hb);have n2_:=z4.mk (hbox);have n3_:=z4.mk ((by rw [hg];exact (ze zz40) : w.heap.size ≤ gb102));have n4_:=z4.mk ((by rw [hg];exact (ze zz40) : w.heap.size ≤ gb102));have n5_:=z4.mk ((by rw [hg];exact Nat.ne_of_lt (zO (g:=gb101) (o:=.cells #[.int .u64 a0_0,.int .u64 a0_1] 48 (0,0)) zz46) : gb101 ≠ gb102));have n6_:=z4.mk ((by rw [hg];exact Nat.ne_of_gt (zO (g:=gb101) (o:=.cells #[.int .u64 a0_0,.int .u64 a0_1] 48 (0,0)) zz46) : gb102 ≠ gb101));clear BK101;clear HB;have BK101:=n0_;have HB:=n1_;have BK102:=n2_;have GW102:=n3_;have GE102:=n4_;have NB101_102:=n5_;have NB102_101:=n6_;clear n0_ n1_ n2_ n3_ n4_ n5_ n6_;clear hb hbox hg)|((with_reducible refine zr (N:=4) rfl ?_);refine zy ?hg (N:=4) ?hd (cs:=#[.int .u64 0,.int .u64 0]) (t:=48) ?hr ?_;(case hd=>rfl);(case hg=>rfl);(case hr=>first|(go_simp;done)|(go_simp;rfl));intro gb103 hg w5 hbox hb;have n0_:=z4.mk (zh (g:=gb101) (o:=.cells #[.int .u64 a0_0,.int .u64 a0_1] 48 (0,0)) zz46 hb);have n1_:=z4.mk (zh (g:=gb102) (o:=.cells #[.int .u64 a1_0,.int .u64 a1_1] 48 (0,0)) zz47 hb);have n2_:=z4.mk (z9 zz33 hb);have n3_:=z4.mk (hbox);have n4_:=z4.mk ((by rw [hg];exact (ze zz33) : w.heap.size ≤ gb103));have n5_:=z4.mk ((by rw [hg];exact (ze zz33) : w.heap.size ≤ gb103));have n6_:=z4.mk ((by rw [hg];exact Nat.ne_of_lt (zO (g:=gb101) (o:=.cells #[.int .u64 a0_0,.int .u64 a0_1] 48 (0,0)) zz46) : gb101 ≠ gb103));have n7_:=z4.mk ((by rw [hg];exact Nat.ne_of_gt (zO (g:=gb101) (o:=.cells #[.int .u64 a0_0,.int .u64 a0_1] 48 (0,0)) zz46) : gb103 ≠ gb101));have n8_:=z4.mk ((by rw [hg];exact Nat.ne_of_lt (zO (g:=gb102) (o:=.cells #[.int .u64 a1_0,.int .u64 a1_1] 48 (0,0)) zz47) : gb102 ≠ gb103));have n9_:=z4.mk ((by rw [hg];exact Nat.ne_of_gt (zO (g:=gb102) (o:=.cells #[.int .u64 a1_0,.int .u64 a1_1] 48 (0,0)) zz47) : gb103 ≠ gb102));clear BK101;clear BK102;clear HB;have BK101:=n0_;have BK102:=n1_;have HB:=n2_;have BK103:=n3_;have GW103:=n4_;have GE103:=n5_;have NB101_103:=n6_;have NB103_101:=n7_;have NB102_103:=n8_;have NB103_102:=n9_;clear n0_ n1_ n2_ n3_ n4_ n5_ n6_ n7_ n8_ n9_;clear hb hbox hg)|((with_reducible refine zr (N:=5) rfl ?_);refine zy ?hg (N:=5) ?hd (cs:=#[.int .u64 0,.int .u64 0]) (t:=48) ?hr ?_;(case hd=>rfl);(case hg=>rfl);(case hr=>first|(go_simp;done)|(go_simp;rfl));intro gb104 hg w6 hbox hb;have n0_:=z4.mk (zh (g:=gb101) (o:=.cells #[.int .u64 a0_0,.int .u64 a0_1] 48 (0,0)) zz46 hb);have n1_:=z4.mk (zh (g:=gb102) (o:=.cells #[.int .u64 a1_0,.int .u64 a1_1] 48 (0,0)) zz47 hb);have n2_:=z4.mk (zh (g:=gb103) (o:=.cells #[.int .u64 0,.int .u64 0] 48 (0,0)) zz48 hb);have n3_:=z4.mk (z9 zz30 hb);have n4_:=z4.mk (hbox);have n5_:=z4.mk ((by rw [hg];exact (ze zz30) : w.heap.size ≤ gb104));have n6_:=z4.mk ((by rw [hg];exact (ze zz30) : w.heap.size ≤ gb104));have n7_:=z4.mk ((by rw [hg];exact Nat.ne_of_lt (zO (g:=gb101) (o:=.cells #[.int .u64 a0_0,.int .u64 a0_1] 48 (0,0)) zz46) : gb101 ≠ gb104));have n8_:=z4.mk ((by rw [hg];exact Nat.ne_of_gt (zO (g:=gb101) (o:=.cells #[.int .u64 a0_0,.int .u64 a0_1] 48 (0,0)) zz46) : gb104 ≠ gb101));have n9_:=z4.mk ((by rw [hg];exact Nat.ne_of_lt (zO (g:=gb102) (o:=.cells #[.int .u64 a1_0,.int .u64 a1_1] 48 (0,0)) zz47) : gb102 ≠ gb104));have n10_:=z4.mk ((by rw [hg];exact Nat.ne_of_gt (zO (g:=gb102) (o:=.cells #[.int .u64 a1_0,.int .u64 a1_1] 48 (0,0)) zz47) : gb104 ≠ gb102));have n11_:=z4.mk ((by rw [hg];exact Nat.ne_of_lt (zO (g:=gb103) (o:=.cells #[.int .u64 0,.int .u64 0] 48 (0,0)) zz48) : gb103 ≠ gb104));have n12_:=z4.mk ((by rw [hg];exact Nat.ne_of_gt (zO (g:=gb103) (o:=.cells #[.int .u64 0,.int .u64 0] 48 (0,0)) zz48) : gb104 ≠ gb103));clear BK101;clear BK102;clear BK103;clear HB;have BK101:=n0_;have BK102:=n1_;have BK103:=n2_;have HB:=n3_;have BK104:=n4_;have GW104:=n5_;have GE104:=n6_;have NB101_104:=n7_;have NB104_101:=n8_;have NB102_104:=n9_;have NB104_102:=n10_;have NB103_104:=n11_;have NB104_103:=n12_;clear n0_ n1_ n2_ n3_ n4_ n5_ n6_ n7_ n8_ n9_ n10_ n11_ n12_;clear hb hbox hg))
 go_loopg [6] k (fun kq v6 w'=>∃ (x6_1 : Int) (x105000_1 : Int) (x105001_1 : Int),v6 = .int .i64 x6_1 ∧ z4 (zk.l0 kq x6_1 a0_0 a0_1 a1_0 a1_1 x105000_1 x105001_1 = some (r1,r2)) ∧ z4 (kq ≤ k) ∧ z4 (w'.heap[gb101]? = some (.cells #[.int .u64 a0_0,.int .u64 a0_1] 48 (0,0))) ∧ z4 (w'.heap[gb102]? = some (.cells #[.int .u64 a1_0,.int .u64 a1_1] 48 (0,0))) ∧ z4 (w'.heap[gb103]? = some (.cells #[.int .u64 0,.int .u64 0] 48 (0,0))) ∧ z4 (w'.heap[gb104]? = some (.cells #[.int .u64 x105000_1,.int .u64 x105001_1] 48 (0,0))) ∧ z4 (Below w.heap.size w w'))
 case atStart=>exact ⟨(0),(0),(0),zz81,H',⟨Nat.le_refl _⟩,⟨by (with_reducible repeat (first|refine z8 ?_ _|refine zb ?_|refine z7 ?_ _));exact BK101.out⟩,⟨by (with_reducible repeat (first|refine z8 ?_ _|refine zb ?_|refine z7 ?_ _));exact BK102.out⟩,⟨by (with_reducible repeat (first|refine z8 ?_ _|refine zb ?_|refine z7 ?_ _));exact BK103.out⟩,⟨by (with_reducible repeat (first|refine z8 ?_ _|refine zb ?_|refine z7 ?_ _));exact BK104.out⟩,⟨by repeat (first|(with_reducible first|exact HB.out|apply zg|apply z6|apply zc|refine zd ?_ GE101.out|refine zd ?_ GE102.out|refine zd ?_ GE103.out|refine zd ?_ GE104.out)|exact HB.out)⟩⟩
 case round =>
  clear H'
  (try clear p2);(try clear c6)
  obtain ⟨x6_1,x105000_1,x105001_1,rfl,HA,HK1,BK101,BK102,BK103,BK104,HB⟩:=hrel
  cases gk with
  | zero=>exact absurd HA.out (by simp [zk.l0])
  | succ k1 =>
   have H:=HA.out
   clear HA
   simp only [zk.l0] at H
   by_cases c7 : x6_1 < 128
   rotate_left
   · rw [if_neg c7] at H
     have c7b0 : decide (x6_1 < 128) = false:=decide_eq_false c7
     clear c7
     simp only [Option.some.injEq,Prod.mk.injEq] at H
     obtain ⟨rfl,rfl⟩:=H
     have hnb54:=NB104_101.out
     have hnc54:=NB101_104.out
     have hnb55:=NB104_102.out
     have hnc55:=NB102_104.out
     have hnb56:=NB104_103.out
     have hnc56:=NB103_104.out
     have hcz57_0 : wr.cell? ⟨gb104,0,none⟩ = some (.int .u64 x105000_1):=(zf BK104.out 0).trans rfl
     have hcz57_1 : wr.cell? ⟨gb104,1,none⟩ = some (.int .u64 x105001_1):=(zf BK104.out 1).trans rfl
     have hfz57_0:=za BK104.out 0
     have hfz57_1:=za BK104.out 1
     have hnb58:=NB103_101.out
     have hnc58:=NB101_103.out
     have hnb59:=NB103_102.out
     have hnc59:=NB102_103.out
     have hcz60_0 : wr.cell? ⟨gb103,0,none⟩ = some (.int .u64 0):=(zf BK103.out 0).trans rfl
     have hcz60_1 : wr.cell? ⟨gb103,1,none⟩ = some (.int .u64 0):=(zf BK103.out 1).trans rfl
     have hfz60_0:=za BK103.out 0
     have hfz60_1:=za BK103.out 1
     go_wp2
     refine bodyPost_ret (results_cell_row rfl _ _ gb103 48 #[.int .u64 x105000_1,.int .u64 x105001_1] (0,0) _ rfl (by (with_reducible repeat (first|refine z8 ?_ _|refine zb ?_|refine z7 ?_ _));refine zX (cs:=#[.int .u64 x105000_1,.int .u64 0]) ?_ 1 _ rfl;(with_reducible repeat (first|refine z8 ?_ _|refine zb ?_|refine z7 ?_ _));refine zX (cs:=#[.int .u64 0,.int .u64 0]) ?_ 0 _ rfl;(with_reducible repeat (first|refine z8 ?_ _|refine zb ?_|refine z7 ?_ _));exact BK103.out) Try.underlying48 rfl zz84) rfl ?_
     exact ⟨by first|rfl|(simp [zi,zj] <;> rfl)|(simp [*,zi,zj] <;> rfl),by repeat (first|(with_reducible first|exact HB.out|apply zg|apply z6|apply zc|refine zd ?_ GE101.out|refine zd ?_ GE102.out|refine zd ?_ GE103.out|refine zd ?_ GE104.out)|exact HB.out)⟩
   rw [if_pos c7] at H
   have c7b0 : decide (x6_1 < 128) = true:=decide_eq_true c7
   clear c7
   replace H:=Option.bind_eq_some_iff.mp H
   obtain ⟨t105,A80,H⟩:=H
   replace H : (if t105 = true then (zk.l1 k1 x6_1 0 a0_0 a0_1 a1_0 a1_1 x105000_1 x105001_1 a0_0 a0_1) else (zk.l0 k1 (wrap64 (x6_1 + 1)) a0_0 a0_1 a1_0 a1_1 x105000_1 x105001_1)) = some (r1,r2):=H
   have A8:=z4.mk A80
   clear A80
   by_cases c9 : t105 = true
   rotate_left
   · replace c9:=Bool.eq_false_iff.mpr c9
     subst c9
     have H1 : (zk.l0 k1 (wrap64 (x6_1 + 1)) a0_0 a0_1 a1_0 a1_1 x105000_1 x105001_1) = some (r1,r2):=by rw [if_neg (show ¬ (false = true) by decide)] at H;exact H
     clear H
     have H:=H1
     clear H1
     have H':=z4.mk H
     clear H
     have hnb49:=NB102_101.out
     have hnc49:=NB101_102.out
     have hnb50:=NB102_103.out
     have hnc50:=NB103_102.out
     have hnb51:=NB102_104.out
     have hnc51:=NB104_102.out
     have hcz52_0 : wr.cell? ⟨gb102,0,none⟩ = some (.int .u64 a1_0):=(zf BK102.out 0).trans rfl
     have hcz52_1 : wr.cell? ⟨gb102,1,none⟩ = some (.int .u64 a1_1):=(zf BK102.out 1).trans rfl
     have hfz52_0:=za BK102.out 0
     have hfz52_1:=za BK102.out 1
     go_wp2_with (first|((with_reducible refine zl (f:=72) rfl ?_);refine goesL_ (some 15) rfl rfl Try.func72 zz84 rfl #[.agg #[.int .u64 a1_0,.int .u64 a1_1],.int .i64 x6_1] rfl zz44 ?_;(with_reducible refine (z1i.calls k1 a1_0 a1_1 x6_1 false _ A8.out).mono ?_);rintro e w53 ⟨rfl,hb⟩;refine ⟨_,rfl,?_⟩;have n0_:=z4.mk (zh (g:=gb101) (o:=.cells #[.int .u64 a0_0,.int .u64 a0_1] 48 (0,0)) zz46 hb);have n1_:=z4.mk (zh (g:=gb102) (o:=.cells #[.int .u64 a1_0,.int .u64 a1_1] 48 (0,0)) zz47 hb);have n2_:=z4.mk (zh (g:=gb103) (o:=.cells #[.int .u64 0,.int .u64 0] 48 (0,0)) zz48 hb);have n3_:=z4.mk (zh (g:=gb104) (o:=.cells #[.int .u64 x105000_1,.int .u64 x105001_1] 48 (0,0)) zz53 hb);have n4_:=z4.mk (z9 zz27 hb);clear BK101;clear BK102;clear BK103;clear BK104;clear HB;have BK101:=n0_;have BK102:=n1_;have BK103:=n2_;have BK104:=n3_;have HB:=n4_;clear n0_ n1_ n2_ n3_ n4_;(try clear hb);(try clear hb2);(try clear hk);(try clear hi)))
     go_roundg k1
     case measure=>have:=HK1.out;omega
     case rel=>exact ⟨(wrap64 (x6_1 + 1)),(x105000_1),(x105001_1),zz81,H',⟨by have:=HK1.out;omega⟩,⟨by (with_reducible repeat (first|refine z8 ?_ _|refine zb ?_|refine z7 ?_ _));exact BK101.out⟩,⟨by (with_reducible repeat (first|refine z8 ?_ _|refine zb ?_|refine z7 ?_ _));exact BK102.out⟩,⟨by (with_reducible repeat (first|refine z8 ?_ _|refine zb ?_|refine z7 ?_ _));exact BK103.out⟩,⟨by (with_reducible repeat (first|refine z8 ?_ _|refine zb ?_|refine z7 ?_ _));exact BK104.out⟩,⟨by repeat (first|(with_reducible first|exact HB.out|apply zg|apply z6|apply zc|refine zd ?_ GE101.out|refine zd ?_ GE102.out|refine zd ?_ GE103.out|refine zd ?_ GE104.out)|exact HB.out)⟩⟩
   subst c9
   have H1 : (zk.l1 k1 x6_1 0 a0_0 a0_1 a1_0 a1_1 x105000_1 x105001_1 a0_0 a0_1) = some (r1,r2):=by rw [if_pos rfl] at H;exact H
   clear H
   have H:=H1
   clear H1
   have H':=z4.mk H
   clear H
   have hnb10:=NB102_101.out
   have hnc10:=NB101_102.out
   have hnb11:=NB102_103.out
   have hnc11:=NB103_102.out
   have hnb12:=NB102_104.out
   have hnc12:=NB104_102.out
   have hcz13_0 : wr.cell? ⟨gb102,0,none⟩ = some (.int .u64 a1_0):=(zf BK102.out 0).trans rfl
   have hcz13_1 : wr.cell? ⟨gb102,1,none⟩ = some (.int .u64 a1_1):=(zf BK102.out 1).trans rfl
   have hfz13_0:=za BK102.out 0
   have hfz13_1:=za BK102.out 1
   go_wp2_with (first|((with_reducible refine zl (f:=72) rfl ?_);refine goesL_ (some 15) rfl rfl Try.func72 zz84 rfl #[.agg #[.int .u64 a1_0,.int .u64 a1_1],.int .i64 x6_1] rfl zz44 ?_;(with_reducible refine (z1i.calls k1 a1_0 a1_1 x6_1 true _ A8.out).mono ?_);rintro e w14 ⟨rfl,hb⟩;refine ⟨_,rfl,?_⟩;have n0_:=z4.mk (zh (g:=gb101) (o:=.cells #[.int .u64 a0_0,.int .u64 a0_1] 48 (0,0)) zz46 hb);have n1_:=z4.mk (zh (g:=gb102) (o:=.cells #[.int .u64 a1_0,.int .u64 a1_1] 48 (0,0)) zz47 hb);have n2_:=z4.mk (zh (g:=gb103) (o:=.cells #[.int .u64 0,.int .u64 0] 48 (0,0)) zz48 hb);have n3_:=z4.mk (zh (g:=gb104) (o:=.cells #[.int .u64 x105000_1,.int .u64 x105001_1] 48 (0,0)) zz53 hb);have n4_:=z4.mk (z9 zz27 hb);clear BK101;clear BK102;clear BK103;clear BK104;clear HB;have BK101:=n0_;have BK102:=n1_;have BK103:=n2_;have BK104:=n3_;have HB:=n4_;clear n0_ n1_ n2_ n3_ n4_;(try clear hb);(try clear hb2);(try clear hk);(try clear hi);have hnb15:=NB101_103.out;have hnc15:=NB103_101.out;have hnb16:=NB101_104.out;have hnc16:=NB104_101.out;have hcz17_0 : w14.cell? ⟨gb101,0,none⟩ = some (.int .u64 a0_0):=(zf BK101.out 0).trans rfl;have hcz17_1 : w14.cell? ⟨gb101,1,none⟩ = some (.int .u64 a0_1):=(zf BK101.out 1).trans rfl;have hfz17_0:=za BK101.out 0;have hfz17_1:=za BK101.out 1)|((with_reducible refine zr (N:=7) rfl ?_);refine zy ?hg (N:=7) ?hd (cs:=#[.int .u64 0,.int .u64 0]) (t:=48) ?hr ?_;(case hd=>rfl);(case hg=>rfl);(case hr=>first|(go_simp;done)|(go_simp;rfl));intro gb106 hg w18 hbox hb;have n0_:=z4.mk (zh (g:=gb101) (o:=.cells #[.int .u64 a0_0,.int .u64 a0_1] 48 (0,0)) zz46 hb);have n1_:=z4.mk (zh (g:=gb102) (o:=.cells #[.int .u64 a1_0,.int .u64 a1_1] 48 (0,0)) zz47 hb);have n2_:=z4.mk (zh (g:=gb103) (o:=.cells #[.int .u64 0,.int .u64 0] 48 (0,0)) zz48 hb);have n3_:=z4.mk (zh (g:=gb104) (o:=.cells #[.int .u64 x105000_1,.int .u64 x105001_1] 48 (0,0)) zz53 hb);have n4_:=z4.mk (z9 zz27 hb);have n5_:=z4.mk (hbox);have n6_:=z4.mk ((by rw [hg];exact (ze zz27) : w.heap.size ≤ gb106));have n7_:=z4.mk ((by rw [hg];exact (ze zz27) : w.heap.size ≤ gb106));have n8_:=z4.mk ((by rw [hg];exact Nat.ne_of_lt (zO (g:=gb101) (o:=.cells #[.int .u64 a0_0,.int .u64 a0_1] 48 (0,0)) zz46) : gb101 ≠ gb106));have n9_:=z4.mk ((by rw [hg];exact Nat.ne_of_gt (zO (g:=gb101) (o:=.cells #[.int .u64 a0_0,.int .u64 a0_1] 48 (0,0)) zz46) : gb106 ≠ gb101));have n10_:=z4.mk ((by rw [hg];exact Nat.ne_of_lt (zO (g:=gb102) (o:=.cells #[.int .u64 a1_0,.int .u64 a1_1] 48 (0,0)) zz47) : gb102 ≠ gb106));have n11_:=z4.mk ((by rw [hg];exact Nat.ne_of_gt (zO (g:=gb102) (o:=.cells #[.int .u64 a1_0,.int .u64 a1_1] 48 (0,0)) zz47) : gb106 ≠ gb102));have n12_:=z4.mk ((by rw [hg];exact Nat.ne_of_lt (zO (g:=gb103) (o:=.cells #[.int .u64 0,.int .u64 0] 48 (0,0)) zz48) : gb103 ≠ gb106));have n13_:=z4.mk ((by rw [hg];exact Nat.ne_of_gt (zO (g:=gb103) (o:=.cells #[.int .u64 0,.int .u64 0] 48 (0,0)) zz48) : gb106 ≠ gb103));have n14_:=z4.mk ((by rw [hg];exact Nat.ne_of_lt (zO (g:=gb104) (o:=.cells #[.int .u64 x105000_1,.int .u64 x105001_1] 48 (0,0)) zz53) : gb104 ≠ gb106));have n15_:=z4.mk ((by rw [hg];exact Nat.ne_of_gt (zO (g:=gb104) (o:=.cells #[.int .u64 x105000_1,.int .u64 x105001_1] 48 (0,0)) zz53) : gb106 ≠ gb104));clear BK101;clear BK102;clear BK103;clear BK104;clear HB;have BK101:=n0_;have BK102:=n1_;have BK103:=n2_;have BK104:=n3_;have HB:=n4_;have BK106:=n5_;have GW106:=n6_;have GE106:=n7_;have NB101_106:=n8_;have NB106_101:=n9_;have NB102_106:=n10_;have NB106_102:=n11_;have NB103_106:=n12_;have NB106_103:=n13_;have NB104_106:=n14_;have NB106_104:=n15_;clear n0_ n1_ n2_ n3_ n4_ n5_ n6_ n7_ n8_ n9_ n10_ n11_ n12_ n13_ n14_ n15_;clear hb hbox hg;have hnb19:=NB106_101.out;have hnc19:=NB101_106.out;have hnb20:=NB106_102.out;have hnc20:=NB102_106.out;have hnb21:=NB106_103.out;have hnc21:=NB103_106.out;have hnb22:=NB106_104.out;have hnc22:=NB104_106.out;have hcz23_0 : w18.cell? ⟨gb106,0,none⟩ = some (.int .u64 0):=(zf BK106.out 0).trans rfl;have hcz23_1 : w18.cell? ⟨gb106,1,none⟩ = some (.int .u64 0):=(zf BK106.out 1).trans rfl;have hfz23_0:=za BK106.out 0;have hfz23_1:=za BK106.out 1))
   go_loopg [8] k1 (fun kq v8 w'=>∃ (x8_2 : Int) (x107000_2 : Int) (x107001_2 : Int),v8 = .int .i64 x8_2 ∧ z4 (zk.l1 kq x6_1 x8_2 a0_0 a0_1 a1_0 a1_1 x105000_1 x105001_1 x107000_2 x107001_2 = some (r1,r2)) ∧ z4 (kq ≤ k1) ∧ z4 (w'.heap[gb101]? = some (.cells #[.int .u64 a0_0,.int .u64 a0_1] 48 (0,0))) ∧ z4 (w'.heap[gb102]? = some (.cells #[.int .u64 a1_0,.int .u64 a1_1] 48 (0,0))) ∧ z4 (w'.heap[gb103]? = some (.cells #[.int .u64 0,.int .u64 0] 48 (0,0))) ∧ z4 (w'.heap[gb104]? = some (.cells #[.int .u64 x105000_1,.int .u64 x105001_1] 48 (0,0))) ∧ z4 (w'.heap[gb106]? = some (.cells #[.int .u64 x107000_2,.int .u64 x107001_2] 48 (0,0))) ∧ z4 (Below w.heap.size w w'))
   case atStart=>exact ⟨(0),(a0_0),(a0_1),zz81,H',⟨Nat.le_refl _⟩,⟨by (with_reducible repeat (first|refine z8 ?_ _|refine zb ?_|refine z7 ?_ _));refine zW ?_ NB101_106.out _;(with_reducible repeat (first|refine z8 ?_ _|refine zb ?_|refine z7 ?_ _));refine zW ?_ NB101_106.out _;(with_reducible repeat (first|refine z8 ?_ _|refine zb ?_|refine z7 ?_ _));exact BK101.out⟩,⟨by (with_reducible repeat (first|refine z8 ?_ _|refine zb ?_|refine z7 ?_ _));refine zW ?_ NB102_106.out _;(with_reducible repeat (first|refine z8 ?_ _|refine zb ?_|refine z7 ?_ _));refine zW ?_ NB102_106.out _;(with_reducible repeat (first|refine z8 ?_ _|refine zb ?_|refine z7 ?_ _));exact BK102.out⟩,⟨by (with_reducible repeat (first|refine z8 ?_ _|refine zb ?_|refine z7 ?_ _));refine zW ?_ NB103_106.out _;(with_reducible repeat (first|refine z8 ?_ _|refine zb ?_|refine z7 ?_ _));refine zW ?_ NB103_106.out _;(with_reducible repeat (first|refine z8 ?_ _|refine zb ?_|refine z7 ?_ _));exact BK103.out⟩,⟨by (with_reducible repeat (first|refine z8 ?_ _|refine zb ?_|refine z7 ?_ _));refine zW ?_ NB104_106.out _;(with_reducible repeat (first|refine z8 ?_ _|refine zb ?_|refine z7 ?_ _));refine zW ?_ NB104_106.out _;(with_reducible repeat (first|refine z8 ?_ _|refine zb ?_|refine z7 ?_ _));exact BK104.out⟩,⟨by (with_reducible repeat (first|refine z8 ?_ _|refine zb ?_|refine z7 ?_ _));refine zX (cs:=#[.int .u64 a0_0,.int .u64 0]) ?_ 1 _ rfl;(with_reducible repeat (first|refine z8 ?_ _|refine zb ?_|refine z7 ?_ _));refine zX (cs:=#[.int .u64 0,.int .u64 0]) ?_ 0 _ rfl;(with_reducible repeat (first|refine z8 ?_ _|refine zb ?_|refine z7 ?_ _));exact BK106.out⟩,⟨by repeat (first|(with_reducible first|exact HB.out|apply zg|apply z6|apply zc|refine zd ?_ GE101.out|refine zd ?_ GE102.out|refine zd ?_ GE103.out|refine zd ?_ GE104.out|refine zd ?_ GE106.out)|exact HB.out)⟩⟩
   case round =>
    clear H'
    (try clear c1);(try clear c2);(try clear p2);(try clear c6);(try clear p6);(try clear c7);(try clear c7b0);(try clear c9);(try clear c10);(try clear c11);(try clear c12);(try clear c15);(try clear c16);(try clear c19);(try clear c20);(try clear c21);(try clear c22);(try clear hcz13_0);(try clear hcz13_1);(try clear hcz17_0);(try clear hcz17_1);(try clear hcz23_0);(try clear hcz23_1);(try clear hfz13_0);(try clear hfz13_1);(try clear hfz17_0);(try clear hfz17_1);(try clear hfz23_0);(try clear hfz23_1);(try clear p2)
    obtain ⟨x8_2,x107000_2,x107001_2,rfl,HA,HK2,BK101,BK102,BK103,BK104,BK106,HB⟩:=hrel
    cases gk with
    | zero=>exact absurd HA.out (by simp [zk.l1])
    | succ k2 =>
     have H:=HA.out
     clear HA
     simp only [zk.l1] at H
     by_cases c24 : x8_2 < 7
     rotate_left
     · rw [if_neg c24] at H
       have c24b0 : decide (x8_2 < 7) = false:=decide_eq_false c24
       clear c24
       replace H:=Option.bind_eq_some_iff.mp H
       obtain ⟨⟨t109,t110⟩,A370,H⟩:=H
       replace H : (zk.l0 k2 (wrap64 (x6_1 + 1)) a0_0 a0_1 a1_0 a1_1 t109 t110) = some (r1,r2):=H
       have A37:=z4.mk A370
       clear A370
       have H':=z4.mk H
       clear H
       have hnb38:=NB104_101.out
       have hnc38:=NB101_104.out
       have hnb39:=NB104_102.out
       have hnc39:=NB102_104.out
       have hnb40:=NB104_103.out
       have hnc40:=NB103_104.out
       have hnb41:=NB104_106.out
       have hnc41:=NB106_104.out
       have hcz42_0 : wr.cell? ⟨gb104,0,none⟩ = some (.int .u64 x105000_1):=(zf BK104.out 0).trans rfl
       have hcz42_1 : wr.cell? ⟨gb104,1,none⟩ = some (.int .u64 x105001_1):=(zf BK104.out 1).trans rfl
       have hfz42_0:=za BK104.out 0
       have hfz42_1:=za BK104.out 1
       have hnb43:=NB106_101.out
       have hnc43:=NB101_106.out
       have hnb44:=NB106_102.out
       have hnc44:=NB102_106.out
       have hnb45:=NB106_103.out
       have hnc45:=NB103_106.out
       have hcz46_0 : wr.cell? ⟨gb106,0,none⟩ = some (.int .u64 x107000_2):=(zf BK106.out 0).trans rfl
       have hcz46_1 : wr.cell? ⟨gb106,1,none⟩ = some (.int .u64 x107001_2):=(zf BK106.out 1).trans rfl
       have hfz46_0:=za BK106.out 0
       have hfz46_1:=za BK106.out 1
       go_wp2_with (first|((with_reducible refine zl (f:=64) rfl ?_);refine goesL_ (some 33) rfl rfl Try.func64 zz84 rfl #[.agg #[.int .u64 x105000_1,.int .u64 x105001_1],.agg #[.int .u64 x107000_2,.int .u64 x107001_2]] rfl zz44 ?_;(with_reducible refine (z1u.calls x105000_1 x105001_1 x107000_2 x107001_2 t109 t110 _ A37.out).mono ?_);rintro e w47 ⟨rfl,hb⟩;refine ⟨_,rfl,?_⟩;have n0_:=z4.mk (zh (g:=gb101) (o:=.cells #[.int .u64 a0_0,.int .u64 a0_1] 48 (0,0)) zz46 hb);have n1_:=z4.mk (zh (g:=gb102) (o:=.cells #[.int .u64 a1_0,.int .u64 a1_1] 48 (0,0)) zz47 hb);have n2_:=z4.mk (zh (g:=gb103) (o:=.cells #[.int .u64 0,.int .u64 0] 48 (0,0)) zz48 hb);have n3_:=z4.mk (zh (g:=gb104) (o:=.cells #[.int .u64 x105000_1,.int .u64 x105001_1] 48 (0,0)) zz53 hb);have n4_:=z4.mk (zh (g:=gb106) (o:=.cells #[.int .u64 x107000_2,.int .u64 x107001_2] 48 (0,0)) zz51 hb);have n5_:=z4.mk (z9 zz24 hb);clear BK101;clear BK102;clear BK103;clear BK104;clear BK106;clear HB;have BK101:=n0_;have BK102:=n1_;have BK103:=n2_;have BK104:=n3_;have BK106:=n4_;have HB:=n5_;clear n0_ n1_ n2_ n3_ n4_ n5_;(try clear hb);(try clear hb2);(try clear hk);(try clear hi);have hcz48_0 : w47.cell? ⟨gb104,0,none⟩ = some (.int .u64 x105000_1):=(zf BK104.out 0).trans rfl;have hcz48_1 : w47.cell? ⟨gb104,1,none⟩ = some (.int .u64 x105001_1):=(zf BK104.out 1).trans rfl;have hfz48_0:=za BK104.out 0;have hfz48_1:=za BK104.out 1))
       go_roundg k2
       case measure=>have:=HK1.out;have:=HK2.out;omega
       case rel=>exact ⟨(wrap64 (x6_1 + 1)),(t109),(t110),zz81,H',⟨by have:=HK1.out;have:=HK2.out;omega⟩,⟨by (with_reducible repeat (first|refine z8 ?_ _|refine zb ?_|refine z7 ?_ _));refine zW ?_ NB101_104.out _;(with_reducible repeat (first|refine z8 ?_ _|refine zb ?_|refine z7 ?_ _));refine zW ?_ NB101_104.out _;(with_reducible repeat (first|refine z8 ?_ _|refine zb ?_|refine z7 ?_ _));exact BK101.out⟩,⟨by (with_reducible repeat (first|refine z8 ?_ _|refine zb ?_|refine z7 ?_ _));refine zW ?_ NB102_104.out _;(with_reducible repeat (first|refine z8 ?_ _|refine zb ?_|refine z7 ?_ _));refine zW ?_ NB102_104.out _;(with_reducible repeat (first|refine z8 ?_ _|refine zb ?_|refine z7 ?_ _));exact BK102.out⟩,⟨by (with_reducible repeat (first|refine z8 ?_ _|refine zb ?_|refine z7 ?_ _));refine zW ?_ NB103_104.out _;(with_reducible repeat (first|refine z8 ?_ _|refine zb ?_|refine z7 ?_ _));refine zW ?_ NB103_104.out _;(with_reducible repeat (first|refine z8 ?_ _|refine zb ?_|refine z7 ?_ _));exact BK103.out⟩,⟨by (with_reducible repeat (first|refine z8 ?_ _|refine zb ?_|refine z7 ?_ _));refine zX (cs:=#[.int .u64 t109,.int .u64 x105001_1]) ?_ 1 _ rfl;(with_reducible repeat (first|refine z8 ?_ _|refine zb ?_|refine z7 ?_ _));refine zX (cs:=#[.int .u64 x105000_1,.int .u64 x105001_1]) ?_ 0 _ rfl;(with_reducible repeat (first|refine z8 ?_ _|refine zb ?_|refine z7 ?_ _));exact BK104.out⟩,⟨by repeat (first|(with_reducible first|exact HB.out|apply zg|apply z6|apply zc|refine zd ?_ GE101.out|refine zd ?_ GE102.out|refine zd ?_ GE103.out|refine zd ?_ GE104.out|refine zd ?_ GE106.out)|exact HB.out)⟩⟩
     rw [if_pos c24] at H
     have c24b0 : decide (x8_2 < 7) = true:=decide_eq_true c24
     clear c24
     obtain ⟨ji25,hji25⟩ : ∃ j_ : Int,(IntKind.u64.wrap (x8_2)) = j_:=⟨_,rfl⟩
     replace H : (if 0 ≤ (ji25) then (if (Go.bits .and .i64 (shr .i64 x6_1 (ji25)) 1) = 1 then ((zA.f k2 x8_2 x107000_2 x107001_2).bind fun bt107=>(zk.l1 k2 x6_1 (wrap64 (x8_2 + 1)) a0_0 a0_1 a1_0 a1_1 x105000_1 x105001_1 bt107.1 bt107.2)) else (zk.l1 k2 x6_1 (wrap64 (x8_2 + 1)) a0_0 a0_1 a1_0 a1_1 x105000_1 x105001_1 x107000_2 x107001_2)) else (none)) = some (r1,r2):=by first|(rw [hji25] at H;exact H)|(simp only [hji25] at H ⊢;exact H)
     by_cases c26 : 0 ≤ (ji25)
     rotate_left
     · rw [if_neg c26] at H
       exact absurd H zz87
     rw [if_pos c26] at H
     have c26b0:=eq_true c26
     have c26b1 : decide (0 ≤ (ji25)) = true:=decide_eq_true c26
     clear c26
     obtain ⟨ji27,hji27⟩ : ∃ j_ : Int,(shr .i64 x6_1 (ji25)) = j_:=⟨_,rfl⟩
     replace H : (if (Go.bits .and .i64 (ji27) 1) = 1 then ((zA.f k2 x8_2 x107000_2 x107001_2).bind fun bt107=>(zk.l1 k2 x6_1 (wrap64 (x8_2 + 1)) a0_0 a0_1 a1_0 a1_1 x105000_1 x105001_1 bt107.1 bt107.2)) else (zk.l1 k2 x6_1 (wrap64 (x8_2 + 1)) a0_0 a0_1 a1_0 a1_1 x105000_1 x105001_1 x107000_2 x107001_2)) = some (r1,r2):=by first|(rw [hji27] at H;exact H)|(simp only [hji27] at H ⊢;exact H)
     have hji27_ : (x6_1 / 2 ^ min (ji25).toNat 64) = ji27:=hji27
     have hji27z : (ji25) ≤ 64 → (x6_1 / 2 ^ (ji25).toNat) = ji27:=z2K hji27
     by_cases c28 : (Go.bits .and .i64 (ji27) 1) = 1
     rotate_left
     · rw [if_neg c28] at H
       have c28b0 : ((Go.bits .and .i64 (ji27) 1) == 1) = false:=beq_eq_false_iff_ne.mpr c28
       have c28b1 : ((Go.bits .and .i64 (ji27) 1) != 1) = true:=bne_iff_ne.mpr c28
       have H':=z4.mk H
       clear H
       go_wp2
       go_roundg k2
       case measure=>have:=HK1.out;have:=HK2.out;omega
       case rel=>exact ⟨(wrap64 (x8_2 + 1)),(x107000_2),(x107001_2),zz81,H',⟨by have:=HK1.out;have:=HK2.out;omega⟩,⟨by (with_reducible repeat (first|refine z8 ?_ _|refine zb ?_|refine z7 ?_ _));exact BK101.out⟩,⟨by (with_reducible repeat (first|refine z8 ?_ _|refine zb ?_|refine z7 ?_ _));exact BK102.out⟩,⟨by (with_reducible repeat (first|refine z8 ?_ _|refine zb ?_|refine z7 ?_ _));exact BK103.out⟩,⟨by (with_reducible repeat (first|refine z8 ?_ _|refine zb ?_|refine z7 ?_ _));exact BK104.out⟩,⟨by (with_reducible repeat (first|refine z8 ?_ _|refine zb ?_|refine z7 ?_ _));exact BK106.out⟩,⟨by repeat (first|(with_reducible first|exact HB.out|apply zg|apply z6|apply zc|refine zd ?_ GE101.out|refine zd ?_ GE102.out|refine zd ?_ GE103.out|refine zd ?_ GE104.out|refine zd ?_ GE106.out)|exact HB.out)⟩⟩
     rw [if_pos c28] at H
     have c28b0 : ((Go.bits .and .i64 (ji27) 1) == 1) = true:=beq_iff_eq.mpr c28
     have c28b1 : ((Go.bits .and .i64 (ji27) 1) != 1) = false:=bne_eq_false_iff_eq.mpr c28
     clear c28
     replace H:=Option.bind_eq_some_iff.mp H
     obtain ⟨⟨t107,t108⟩,A290,H⟩:=H
     replace H : (zk.l1 k2 x6_1 (wrap64 (x8_2 + 1)) a0_0 a0_1 a1_0 a1_1 x105000_1 x105001_1 t107 t108) = some (r1,r2):=H
     have A29:=z4.mk A290
     clear A290
     have H':=z4.mk H
     clear H
     have hnb30:=NB106_101.out
     have hnc30:=NB101_106.out
     have hnb31:=NB106_102.out
     have hnc31:=NB102_106.out
     have hnb32:=NB106_103.out
     have hnc32:=NB103_106.out
     have hnb33:=NB106_104.out
     have hnc33:=NB104_106.out
     have hcz34_0 : wr.cell? ⟨gb106,0,none⟩ = some (.int .u64 x107000_2):=(zf BK106.out 0).trans rfl
     have hcz34_1 : wr.cell? ⟨gb106,1,none⟩ = some (.int .u64 x107001_2):=(zf BK106.out 1).trans rfl
     have hfz34_0:=za BK106.out 0
     have hfz34_1:=za BK106.out 1
     go_wp2_with (first|((with_reducible refine zl (f:=99) rfl ?_);refine goesL_ (some 30) rfl rfl Try.func99 zz84 rfl #[.int .i64 x8_2,.agg #[.int .u64 x107000_2,.int .u64 x107001_2]] rfl zz44 ?_;(with_reducible refine (zA.calls k2 x8_2 x107000_2 x107001_2 t107 t108 _ A29.out).mono ?_);rintro e w35 ⟨rfl,hb⟩;refine ⟨_,rfl,?_⟩;have n0_:=z4.mk (zh (g:=gb101) (o:=.cells #[.int .u64 a0_0,.int .u64 a0_1] 48 (0,0)) zz46 hb);have n1_:=z4.mk (zh (g:=gb102) (o:=.cells #[.int .u64 a1_0,.int .u64 a1_1] 48 (0,0)) zz47 hb);have n2_:=z4.mk (zh (g:=gb103) (o:=.cells #[.int .u64 0,.int .u64 0] 48 (0,0)) zz48 hb);have n3_:=z4.mk (zh (g:=gb104) (o:=.cells #[.int .u64 x105000_1,.int .u64 x105001_1] 48 (0,0)) zz53 hb);have n4_:=z4.mk (zh (g:=gb106) (o:=.cells #[.int .u64 x107000_2,.int .u64 x107001_2] 48 (0,0)) zz51 hb);have n5_:=z4.mk (z9 zz24 hb);clear BK101;clear BK102;clear BK103;clear BK104;clear BK106;clear HB;have BK101:=n0_;have BK102:=n1_;have BK103:=n2_;have BK104:=n3_;have BK106:=n4_;have HB:=n5_;clear n0_ n1_ n2_ n3_ n4_ n5_;(try clear hb);(try clear hb2);(try clear hk);(try clear hi);have hcz36_0 : w35.cell? ⟨gb106,0,none⟩ = some (.int .u64 x107000_2):=(zf BK106.out 0).trans rfl;have hcz36_1 : w35.cell? ⟨gb106,1,none⟩ = some (.int .u64 x107001_2):=(zf BK106.out 1).trans rfl;have hfz36_0:=za BK106.out 0;have hfz36_1:=za BK106.out 1))
     go_roundg k2
     case measure=>have:=HK1.out;have:=HK2.out;omega
     case rel=>exact ⟨(wrap64 (x8_2 + 1)),(t107),(t108),zz81,H',⟨by have:=HK1.out;have:=HK2.out;omega⟩,⟨by (with_reducible repeat (first|refine z8 ?_ _|refine zb ?_|refine z7 ?_ _));refine zW ?_ NB101_106.out _;(with_reducible repeat (first|refine z8 ?_ _|refine zb ?_|refine z7 ?_ _));refine zW ?_ NB101_106.out _;(with_reducible repeat (first|refine z8 ?_ _|refine zb ?_|refine z7 ?_ _));exact BK101.out⟩,⟨by (with_reducible repeat (first|refine z8 ?_ _|refine zb ?_|refine z7 ?_ _));refine zW ?_ NB102_106.out _;(with_reducible repeat (first|refine z8 ?_ _|refine zb ?_|refine z7 ?_ _));refine zW ?_ NB102_106.out _;(with_reducible repeat (first|refine z8 ?_ _|refine zb ?_|refine z7 ?_ _));exact BK102.out⟩,⟨by (with_reducible repeat (first|refine z8 ?_ _|refine zb ?_|refine z7 ?_ _));refine zW ?_ NB103_106.out _;(with_reducible repeat (first|refine z8 ?_ _|refine zb ?_|refine z7 ?_ _));refine zW ?_ NB103_106.out _;(with_reducible repeat (first|refine z8 ?_ _|refine zb ?_|refine z7 ?_ _));exact BK103.out⟩,⟨by (with_reducible repeat (first|refine z8 ?_ _|refine zb ?_|refine z7 ?_ _));refine zW ?_ NB104_106.out _;(with_reducible repeat (first|refine z8 ?_ _|refine zb ?_|refine z7 ?_ _));refine zW ?_ NB104_106.out _;(with_reducible repeat (first|refine z8 ?_ _|refine zb ?_|refine z7 ?_ _));exact BK104.out⟩,⟨by (with_reducible repeat (first|refine z8 ?_ _|refine zb ?_|refine z7 ?_ _));refine zX (cs:=#[.int .u64 t107,.int .u64 x107001_2]) ?_ 1 _ rfl;(with_reducible repeat (first|refine z8 ?_ _|refine zb ?_|refine z7 ?_ _));refine zX (cs:=#[.int .u64 x107000_2,.int .u64 x107001_2]) ?_ 0 _ rfl;(with_reducible repeat (first|refine z8 ?_ _|refine zb ?_|refine z7 ?_ _));exact BK106.out⟩,⟨by repeat (first|(with_reducible first|exact HB.out|apply zg|apply z6|apply zc|refine zd ?_ GE101.out|refine zd ?_ GE102.out|refine zd ?_ GE103.out|refine zd ?_ GE104.out|refine zd ?_ GE106.out)|exact HB.out)⟩⟩
end Go.Proofs.Ytklkmflhnljbdaa.P
/- The document's product of elements is the tower's. Own text. -/
namespace Go.Proofs.Ytklkmflhnljbdaa.Sp
open Go.RowKit Go.Proofs.YtklkmflhnljbdaaW.PrintWords Go.Proofs.YtklkmflhnljbdaaW.PrintMore Go.Proofs.Ytklkmflhnljbdaa.P Go.Proofs.Ytklkmflhnljbdaa.Ar Go.Proofs.Ytklkmflhnljbdaa.Tw
set_option linter.unusedVariables false
set_option linter.unusedSimpArgs false
theorem z7j : ∀ j : Nat, j < 6 → z1h.f (j : Int) = some ((M j 6 : Nat) : Int) := by decide +kernel
theorem tw_lt {j v : Nat} (hj : j ≤ 6) (hv : v < Q 6) : tw 6 j v < Q 6 := by rw [tw_eq hj hv]; exact z1B _
theorem shlw (a w : Nat) (hw : w ≤ 64) : shl .u64 (a : Int) (w : Int) = (((a * 2 ^ w) % 2 ^ 64 : Nat) : Int) := by
  unfold shl
  have h64 : IntKind.u64.bits = 64 := rfl
  rw [h64, Int.toNat_natCast, Nat.min_eq_left hw]
  have hc : ((a : Int) * 2 ^ w) = ((a * 2 ^ w : Nat) : Int) := by simp
  rw [hc]
  simp [IntKind.wrap, IntKind.bits, IntKind.signed]
theorem z34 : ∀ (j : Nat), j ≤ 6 → ∀ (v : Nat), v < Q 6 → Ev (fun k => zp.f k ((j : Int) - 1) (v : Int)) ((tw 6 j v : Nat) : Int) := by
  intro j
  induction j with
  | zero =>
    intro _ v hv
    have h0 : (((0 : Nat) : Int) - 1) < 0 := by decide
    refine Ev.step (fun k => by rw [zp.f]) (Ev.pos h0 ?_)
    exact Ev.ret' rfl
  | succ j ih =>
    intro hj v hv
    have h32 := z2j (n := j) (by omega)
    have hw : IntKind.u64.wrap (((j + 1 : Nat) : Int) - 1) = (j : Int) := by rw [z2N (by omega) (by omega)]; omega
    have hw2 : wrap64 (((j + 1 : Nat) : Int) - 1 - 1) = (j : Int) - 1 := by rw [z28 (by omega) (by omega)]; omega
    have hj1 : (((j + 1 : Nat) : Int) - 1) = (j : Int) := by omega
    have hQ6 : Q 6 = 2 ^ 64 := rfl
    have hM : M j 6 < 2 ^ 64 := by rw [← hQ6]; exact M_lt_Q (by omega)
    have hd : v / 2 ^ 2 ^ j < 2 ^ 64 := Nat.lt_of_le_of_lt (Nat.div_le_self _ _) hv
    have hhi : (v / 2 ^ 2 ^ j) &&& M j 6 < 2 ^ 64 := Nat.and_lt_two_pow _ hM
    have hlo : v &&& M j 6 < 2 ^ 64 := Nat.and_lt_two_pow _ hM
    have hrec := ih (by omega) _ hhi
    have htw : tw 6 j ((v / 2 ^ 2 ^ j) &&& M j 6) < 2 ^ 64 := tw_lt (by omega) hhi
    rw [hj1] at hw hw2 ⊢
    refine Ev.step (fun k => by rw [zp.f]) (Ev.neg (by omega) ?_)
    simp only [hw]
    refine Ev.pos (Int.natCast_nonneg _) (Ev.bnd0 (z7j j (by omega)) (Ev.bnd0 (z7j j (by omega)) ?_))
    simp only [z33 j (by omega), z56 v (2 ^ j) (by omega), z2A _ _ hd hM, z2A _ _ hv hM, hw2]
    refine Ev.bnd hrec (Ev.ret' ?_)
    rw [z29 _ _ hlo htw, shlw _ _ (by omega), z6c _ _ (Nat.mod_lt _ (by decide)) hhi]
    rfl
/-- The generator of a level, as an element of the greatest one. -/
def gE (m : Nat) : E := of 7 (val (gen m))
theorem tw_hi {j : Nat} (hj : j ≤ 6) (x : T 6) : tw 6 j (val x) = val (of 6 (val (gen j)) * x) := by rw [tw_eq hj (z1B x), z27]
theorem Times_ev (j : Nat) (hj : j ≤ 6) (x : E) : Ev (fun k => zA.f k (j : Int) (hi x) (lo x)) (hi (gE (j + 1) * x), lo (gE (j + 1) * x)) := by
  unfold zA.f
  by_cases c : j < 6
  · refine Ev.pos (by omega) ?_
    have h1 := z34 (j + 1) (by omega) (val x.1) (z1B x.1)
    have h2 := z34 (j + 1) (by omega) (val x.2) (z1B x.2)
    rw [show (((j + 1 : Nat) : Int) - 1) = (j : Int) by omega] at h1 h2
    refine Ev.bnd h1 (Ev.bnd h2 (Ev.ret' ?_))
    have e : gE (j + 1) = up (of 6 (val (gen (j + 1)))) := z5o (Nat.lt_of_lt_of_le (z5l (j + 1)) (z3j (by omega)))
    rw [e, z3E, tw_hi (by omega), tw_hi (by omega)]; rfl
  · have : j = 6 := by omega
    subst this
    refine Ev.neg (by decide) ?_
    have h1 := z34 6 (by omega) (val x.1) (z1B x.1)
    refine Ev.bnd h1 (Ev.ret' ?_)
    have e : gE 7 = gen 7 := z27 _
    have ev : of 6 (val (gen 6)) = gen 6 := z27 _
    rw [tw_hi (by omega), e, ev]
    unfold hi lo
    rw [z29 _ _ (z1B _) (z1B _), ← z1U]
    have m1 : (gen 7 * x).1 = x.2 + gen 6 * x.1 := by rw [z2a, z2u, z2C, one_mul, zero_mul, one_mul, add_zero]
    have m2 : (gen 7 * x).2 = x.1 := by rw [z2f, z2u, z2C, one_mul, zero_mul, zero_add]
    rw [m1, m2]
/-- The element with one bit. -/
def bitE (n : Nat) : E := of 7 (2 ^ n)
theorem z5I {n : Nat} (hn : n < 128) : hi (bitE n) = (if n < 64 then 0 else ((2 ^ (n - 64) : Nat) : Int)) ∧ lo (bitE n) = (if n < 64 then ((2 ^ n : Nat) : Int) else 0) := by
  unfold bitE hi lo
  rw [z2n, z2k, z2r]
  have hQ : Q 6 = 2 ^ 64 := rfl
  by_cases c : n < 64
  · have h1 : 2 ^ n < Q 6 := by rw [hQ]; exact Nat.pow_lt_pow_right (by decide) c
    rw [if_pos c, if_pos c, Nat.div_eq_of_lt h1, Nat.mod_eq_of_lt h1, z2l _ _ h1, z31, z1N]; exact ⟨rfl, rfl⟩
  · have e : 2 ^ n = 2 ^ (n - 64) * Q 6 + 0 := by rw [hQ, ← Nat.pow_add, Nat.add_zero]; congr 1; omega
    have h2 : 2 ^ (n - 64) < Q 6 := by rw [hQ]; exact Nat.pow_lt_pow_right (by decide) (by omega)
    rw [if_neg c, if_neg c, e, z3a (z2G 6), z3b (z2G 6), z2l _ _ h2, z31, z1N]; exact ⟨rfl, rfl⟩
theorem z7t (n : Nat) (hn : n < 128) : Ev (fun k => zN.f k (n : Int)) (hi (bitE n), lo (bitE n)) := by
  obtain ⟨h1, h2⟩ := z5I hn
  unfold zN.f
  refine Ev.neg (by omega) ?_
  rw [decide_eq_false (show ¬ ((n : Int) > 127) by omega), h1, h2]
  refine Ev.step (fun k => by rw [zN.j0]) (Ev.neg (by decide) ?_)
  by_cases c : n < 64
  · rw [if_pos c, if_pos c]
    refine Ev.neg (by omega) ?_
    rw [z2N (by omega) (by omega)]
    exact Ev.pos (Int.natCast_nonneg _) (Ev.ret' (by rw [z33 n (by omega)]))
  · rw [if_neg c, if_neg c]
    refine Ev.pos (by omega) ?_
    have e : IntKind.u64.wrap (wrap64 ((n : Int) - 64)) = ((n - 64 : Nat) : Int) := by
      rw [z28 (by omega) (by omega), z2N (by omega) (by omega)]; omega
    rw [e]
    exact Ev.pos (Int.natCast_nonneg _) (Ev.ret' (by rw [z33 (n - 64) (by omega)]))
theorem z4G (x n : Nat) : (x &&& 2 ^ n ≠ 0) ↔ x.testBit n = true := by
  constructor
  · intro h
    cases hb : x.testBit n with
    | true => rfl
    | false =>
      exfalso; apply h
      apply Nat.eq_of_testBit_eq
      intro i
      rw [Nat.testBit_and, Nat.zero_testBit]
      by_cases e : i = n
      · subst e; rw [hb, Bool.false_and]
      · rw [Nat.testBit_two_pow_of_ne (by omega), Bool.and_false]
  · intro h e
    have := congrArg (fun z => z.testBit n) e
    simp only [Nat.testBit_and, Nat.testBit_two_pow_self, Bool.and_true, Nat.zero_testBit] at this
    rw [h] at this; cases this
theorem hasBits (x : E) (n : Nat) (hn : n < 128) : ((Go.bits .or .u64 (Go.bits .and .u64 (lo x) (lo (bitE n))) (Go.bits .and .u64 (hi x) (hi (bitE n)))) != 0) = (val x).testBit n := by
  obtain ⟨h1, h2⟩ := z5I hn
  have hx1 := z1B x.1
  have hx2 := z1B x.2
  have hQ : Q 6 = 2 ^ 64 := rfl
  rw [hQ] at hx1 hx2
  have hv : val x = 2 ^ 64 * val x.1 + val x.2 := by rw [z1V, hQ, Nat.mul_comm]
  rw [h1, h2, hv]
  unfold hi lo
  by_cases c : n < 64
  · rw [if_pos c, if_pos c]
    have hp : 2 ^ n < 2 ^ 64 := Nat.pow_lt_pow_right (by decide) c
    have z : (0 : Int) = ((0 : Nat) : Int) := rfl
    rw [z, z2A _ _ hx2 hp, z2A _ _ hx1 (by decide), z6c _ _ (Nat.and_lt_two_pow _ hp) (Nat.and_lt_two_pow _ (by decide)), Nat.and_zero, Nat.or_zero]
    rw [Nat.testBit_two_pow_mul_add _ hx2, if_pos c, Bool.eq_iff_iff, ← z4G, bne_iff_ne]
    exact ⟨fun h e => h (by rw [e]), fun h e => h (by exact_mod_cast e)⟩
  · rw [if_neg c, if_neg c]
    have hp : 2 ^ (n - 64) < 2 ^ 64 := Nat.pow_lt_pow_right (by decide) (by omega)
    have z : (0 : Int) = ((0 : Nat) : Int) := rfl
    rw [z, z2A _ _ hx1 hp, z2A _ _ hx2 (by decide), z6c _ _ (Nat.and_lt_two_pow _ (by decide)) (Nat.and_lt_two_pow _ hp), Nat.and_zero, Nat.zero_or]
    rw [Nat.testBit_two_pow_mul_add _ hx2, if_neg c, Bool.eq_iff_iff, ← z4G, bne_iff_ne]
    exact ⟨fun h e => h (by rw [e]), fun h e => h (by exact_mod_cast e)⟩
theorem Has_ev (x : E) (n : Nat) (hn : n < 128) : Ev (fun k => z1i.f k (hi x) (lo x) (n : Int)) ((val x).testBit n) := by
  unfold z1i.f
  exact Ev.bnd (z7t n hn) (Ev.ret' (hasBits x n hn))
theorem and_one (n j : Nat) (hn : n < 2 ^ 63) (hj : j ≤ 64) : Go.bits .and .i64 (shr .i64 (n : Int) (j : Int)) 1 = (((n / 2 ^ j) % 2 : Nat) : Int) := by
  rw [shr_i64 n j hj]
  have := z5f (n / 2 ^ j) 1 (Nat.lt_of_le_of_lt (Nat.div_le_self _ _) hn) (by decide)
  simpa using this
theorem prod_l1 (a b acc : E) (n : Nat) (hn : n < 128) {R : Int × Int} (hk : Ev (fun k => zk.l0 k ((n + 1 : Nat) : Int) (hi a) (lo a) (hi b) (lo b) (hi (acc + gp 7 7 n * a)) (lo (acc + gp 7 7 n * a))) R) :
    ∀ (d j : Nat), j + d = 7 → Ev (fun k => zk.l1 k (n : Int) (j : Int) (hi a) (lo a) (hi b) (lo b) (hi acc) (lo acc) (hi (gp 7 j n * a)) (lo (gp 7 j n * a))) R := by
  intro d
  induction d with
  | zero =>
    intro j hj
    have : j = 7 := by omega
    subst this
    refine Ev.step (fun k => by rw [zk.l1]) (Ev.neg (by decide) (Ev.bnd0 (z4k acc _) ?_))
    simp only [z1M hn (by decide)]
    exact hk
  | succ d ih =>
    intro j hj
    have hu : IntKind.u64.wrap (j : Int) = (j : Int) := z2N (by omega) (by omega)
    have hih := ih (j + 1) (by omega)
    refine Ev.step (fun k => by rw [zk.l1]) (Ev.pos (by omega) ?_)
    simp only [hu, and_one n j (Nat.lt_trans hn (by decide)) (by omega), z1M (show j < 7 by omega) (by decide)]
    refine Ev.pos (Int.natCast_nonneg _) ?_
    have hgp : gp 7 (j + 1) n = (if n.testBit j then of 7 (val (gen (j + 1))) else 1) * gp 7 j n := rfl
    have htb : n.testBit j = decide ((n / 2 ^ j) % 2 = 1) := by rw [Nat.testBit_eq_decide_div_mod_eq]
    by_cases c : (n / 2 ^ j) % 2 = 1
    · refine Ev.pos (by omega) (Ev.bnd (Times_ev j (by omega) _) ?_)
      rw [hgp, htb, decide_eq_true c, if_pos rfl, mul_assoc] at hih
      exact hih
    · refine Ev.neg (by omega) ?_
      rw [hgp, htb, decide_eq_false c, if_neg (by decide), one_mul] at hih
      exact hih
theorem prod_l0 (a b : E) : ∀ (d n : Nat), n + d = 128 → Ev (fun k => zk.l0 k (n : Int) (hi a) (lo a) (hi b) (lo b) (hi (of 7 (val b % 2 ^ n) * a)) (lo (of 7 (val b % 2 ^ n) * a))) (hi (b * a), lo (b * a)) := by
  intro d
  induction d with
  | zero =>
    intro n hn
    have : n = 128 := by omega
    subst this
    have hb : val b % 2 ^ 128 = val b := Nat.mod_eq_of_lt (by have := z1B b; rw [z5E] at this; exact this)
    rw [hb, z27]
    exact Ev.step (fun k => by rw [zk.l0]) (Ev.neg (by decide) (Ev.ret _))
  | succ d ih =>
    intro n hn
    have hn' : n < 128 := by omega
    have hih := ih (n + 1) (by omega)
    rw [bits_sum (val b) n (z1B b) (by simpa using hn')] at hih
    refine Ev.step (fun k => by rw [zk.l0]) (Ev.pos (by omega) (Ev.bnd (Has_ev b n hn') ?_))
    cases c : (val b).testBit n with
    | true =>
      refine Ev.pos rfl ?_
      rw [c, if_pos rfl, add_mul, ← gp_bit 7 n (by simpa using hn')] at hih
      have := prod_l1 a b _ n hn' hih 7 0 (by omega)
      have e0 : gp 7 0 n * a = a := one_mul a
      rw [e0] at this
      exact this
    | false =>
      refine Ev.neg (by decide) ?_
      rw [c, if_neg (by decide), add_zero] at hih
      simp only [z1M hn' (by decide)]
      exact hih
theorem z3z (x y : E) : Ev (fun k => zk.f k (hi x) (lo x) (hi y) (lo y)) (hi (x * y), lo (x * y)) := by
  unfold zk.f
  have := prod_l0 x y 128 0 (by decide)
  rw [Nat.pow_zero, Nat.mod_one, z31, zero_mul, z2Z, z30, mul_comm y x] at this
  exact this
end Go.Proofs.Ytklkmflhnljbdaa.Sp
/- Lists of elements: which are of a level, the same ones, the document's. Own text. -/
namespace Go.Proofs.Ytklkmflhnljbdaa.Sp
open Go.RowKit Go.Proofs.YtklkmflhnljbdaaW.PrintWords Go.Proofs.YtklkmflhnljbdaaW.PrintMore Go.Proofs.Ytklkmflhnljbdaa.P Go.Proofs.Ytklkmflhnljbdaa.Ar Go.Proofs.Ytklkmflhnljbdaa.Tw
set_option linter.unusedVariables false
set_option linter.unusedSimpArgs false
/-- Is there such a level? -/
def LvS (L : Int) : Prop := 0 ≤ L ∧ L ≤ 7
instance (L : Int) : Decidable (LvS L) := by unfold LvS; infer_instance
theorem z3Y {L : Int} (h : ¬ LvS L) : Ev (fun k => zC.f k L) 0 := by
  unfold zC.f
  by_cases h0 : L < 0
  · exact Ev.pos h0 (Ev.step (fun k => by rw [zC.j0]) (Ev.pos rfl (Ev.ret _)))
  · rw [decide_eq_true (show L > 7 by unfold LvS at h; omega)]
    exact Ev.neg h0 (Ev.step (fun k => by rw [zC.j0]) (Ev.pos rfl (Ev.ret _)))
theorem z5a {L : Int} (h : LvS L) : ∃ v, v ≠ 0 ∧ Ev (fun k => zC.f k L) v := by
  obtain ⟨h0, h7⟩ := h
  obtain ⟨l, rfl⟩ := Int.eq_ofNat_of_zero_le h0
  have hstep : ∀ v, Ev (fun k => zC.j0 k (l : Int) false) v → Ev (fun k => zC.f k (l : Int)) v := by
    intro v hv
    unfold zC.f
    rw [decide_eq_false (show ¬ ((l : Int) > 7) by omega)]
    exact Ev.neg (by omega) hv
  by_cases c : (l : Int) ≤ 3
  · exact ⟨1, by decide, hstep 1 (Ev.step (fun k => by rw [zC.j0]) (Ev.neg (by decide) (Ev.pos c (Ev.ret _))))⟩
  · have e : wrap64 ((l : Int) - 3) = ((l - 3 : Nat) : Int) := by rw [z28 (by omega) (by omega)]; omega
    refine ⟨((2 ^ (l - 3) : Nat) : Int), by have := Nat.two_pow_pos (l - 3); omega, hstep _ (Ev.step (fun k => by rw [zC.j0]) (Ev.neg (by decide) (Ev.neg c ?_)))⟩
    rw [e]
    exact Ev.pos (Int.natCast_nonneg _) (Ev.ret' (z32 (l - 3) (by omega)))
theorem rdL (l : Nat) (h : l ≤ 7) : rd ([1, 2, 4, 8, 16, 32, 64, 128] : List Int) (l : Int) = ((2 ^ l : Nat) : Int) := by
  have : ∀ m, m ≤ 7 → rd ([1, 2, 4, 8, 16, 32, 64, 128] : List Int) ((m : Nat) : Int) = ((2 ^ m : Nat) : Int) := by decide
  exact this l h
theorem z43 (a n : Nat) (ha : a < 2 ^ 64) (hn : n ≤ 64) : Go.bits .and .u64 (shr .u64 (a : Int) (n : Int)) 1 = if a.testBit n then 1 else 0 := by
  rw [z56 a n hn]
  have hd : a / 2 ^ n < 2 ^ 64 := Nat.lt_of_le_of_lt (Nat.div_le_self _ _) ha
  rw [show (1 : Int) = ((1 : Nat) : Int) from rfl, z2A _ 1 hd (by decide), Nat.and_one_is_mod, Nat.testBit_eq_decide_div_mod_eq]
  by_cases c : a / 2 ^ n % 2 = 1
  · rw [c]; simp
  · rw [show a / 2 ^ n % 2 = 0 by omega]; simp
theorem z7u (x : E) (n : Nat) (hn : n < 128) : z1T.f (hi x) (lo x) (n : Int) = some (if (val x).testBit n then 1 else 0) := by
  have hx1 := z1B x.1
  have hx2 := z1B x.2
  have hQ : Q 6 = 2 ^ 64 := rfl
  rw [hQ] at hx1 hx2
  have hv : val x = 2 ^ 64 * val x.1 + val x.2 := by rw [z1V, hQ, Nat.mul_comm]
  unfold z1T.f
  rw [hv, Nat.testBit_two_pow_mul_add _ hx2]
  unfold hi lo
  by_cases c : n < 64
  · have e : IntKind.u64.wrap (n : Int) = (n : Int) := z2N (by omega) (by omega)
    rw [if_neg (by omega), e, if_pos (Int.natCast_nonneg _), z43 _ _ hx2 (by omega), if_pos c]
  · have e : IntKind.u64.wrap (wrap64 ((n : Int) - 64)) = ((n - 64 : Nat) : Int) := by
      rw [z28 (by omega) (by omega), z2N (by omega) (by omega)]; omega
    rw [if_pos (by omega), e, if_pos (Int.natCast_nonneg _), z43 _ _ hx1 (by omega), if_neg c]
theorem refOf_l0 (x : E) : ∀ (d n : Nat), n + d = 128 → Ev (fun k => zw.l0 k (n : Int) (hi x) (lo x)) (decide (val x < 2 ^ n)) := by
  intro d
  induction d with
  | zero =>
    intro n hn
    have : n = 128 := by omega
    subst this
    have := z1B x; rw [z5E] at this
    rw [decide_eq_true this]
    exact Ev.step (fun k => by rw [zw.l0]) (Ev.neg (by decide) (Ev.ret _))
  | succ d ih =>
    intro n hn
    have hn' : n < 128 := by omega
    refine Ev.step (fun k => by rw [zw.l0]) (Ev.pos (by omega) (Ev.bnd0 (z7u x n hn') ?_))
    simp only [z1M hn' (show 128 ≤ 4611686018427387904 by decide)]
    cases c : (val x).testBit n with
    | true =>
      refine Ev.pos (by simp) (Ev.ret' ?_)
      symm; rw [decide_eq_false_iff_not]
      intro h; rw [Nat.testBit_lt_two_pow h] at c; cases c
    | false =>
      refine Ev.neg (by simp) ?_
      have hih := ih (n + 1) (by omega)
      have e : decide (val x < 2 ^ (n + 1)) = decide (val x < 2 ^ n) := by
        rw [decide_eq_decide]
        constructor
        · intro h
          apply Nat.lt_pow_two_of_testBit
          intro i hi
          by_cases e : i = n
          · rw [e]; exact c
          · exact Nat.testBit_lt_two_pow (Nat.lt_of_lt_of_le h (Nat.pow_le_pow_right (by decide) (by omega)))
        · intro h; exact Nat.lt_of_lt_of_le h (Nat.pow_le_pow_right (by decide) (by omega))
      rw [← e]; exact hih
theorem refOf_ev (L : Int) (x : E) : Ev (fun k => zw.f k L (hi x) (lo x)) (decide (OfS L x)) := by
  unfold zw.f
  refine Ev.bnd0 (a := ([1, 2, 4, 8, 16, 32, 64, 128] : List Int)) rfl ?_
  by_cases h0 : L < 0
  · refine Ev.pos h0 (Ev.step (fun k => by rw [zw.j0]) (Ev.pos rfl (Ev.ret' ?_)))
    symm; rw [decide_eq_false_iff_not]; rintro ⟨h, _⟩; omega
  refine Ev.neg h0 ?_
  by_cases h7 : L > 7
  · rw [decide_eq_true h7]
    refine Ev.step (fun k => by rw [zw.j0]) (Ev.pos rfl (Ev.ret' ?_))
    symm; rw [decide_eq_false_iff_not]; rintro ⟨_, h, _⟩; omega
  rw [decide_eq_false h7]
  obtain ⟨l, rfl⟩ := Int.eq_ofNat_of_zero_le (show 0 ≤ L by omega)
  refine Ev.step (fun k => by rw [zw.j0]) (Ev.neg (by decide) (Ev.pos (Int.natCast_nonneg _) (Ev.pos (by simp; omega) ?_)))
  rw [rdL l (by omega)]
  have hp : 2 ^ l ≤ 128 := Nat.pow_le_pow_right (n := 2) (by decide) (show l ≤ 7 by omega)
  have := refOf_l0 x (128 - 2 ^ l) (2 ^ l) (by omega)
  have e : decide (val x < 2 ^ 2 ^ l) = decide (OfS (l : Int) x) := by
    rw [decide_eq_decide]; unfold OfS InL Q; rw [Int.toNat_natCast]
    exact ⟨fun h => ⟨by omega, by omega, h⟩, fun h => h.2.2⟩
  rw [← e]; exact this
/-- All of a level. -/
def AllS (L : Int) (X : List E) : Prop := ∀ x ∈ X, OfS L x
instance (L : Int) (X : List E) : Decidable (AllS L X) := by unfold AllS; infer_instance
theorem z6Q {L : Int} {X : List E} {i : Nat} (h : i < X.length) : AllS L (X.drop i) ↔ OfS L (X.getD i 0) ∧ AllS L (X.drop (i + 1)) := by
  rw [List.drop_eq_getElem_cons h]
  have : X.getD i 0 = X[i] := by rw [List.getD_eq_getElem?_getD, List.getElem?_eq_getElem h]; rfl
  rw [this]
  exact List.forall_mem_cons
theorem All_l0 (L : Int) (X : List E) (hX : X.length ≤ 1000000) : ∀ (d i : Nat), i + d = X.length → Ev (fun k => zn.l0 k L (X.map toR) (i : Int)) (decide (AllS L (X.drop i))) := by
  intro d
  induction d with
  | zero =>
    intro i hi
    refine Ev.step (fun k => by rw [zn.l0]) (Ev.neg (by rw [List.length_map]; omega) (Ev.ret' ?_))
    symm; rw [decide_eq_true_eq, List.drop_eq_nil_of_le (by omega)]
    intro x hx; cases hx
  | succ d ih =>
    intro i hi
    have hi' : i < X.length := by omega
    refine Ev.step (fun k => by rw [zn.l0]) (Ev.pos (by rw [List.length_map]; omega) (Ev.pos (Int.natCast_nonneg _) ?_))
    simp only [rdR, z6j, z6k, z1M hi' (show X.length ≤ 4611686018427387904 by omega)]
    refine Ev.bnd (refOf_ev L _) ?_
    have hd := z6Q (L := L) hi'
    by_cases c : OfS L (X.getD i 0)
    · refine Ev.pos (decide_eq_true c) ((ih (i + 1) (by omega)).eqn ?_)
      rw [decide_eq_decide, hd]; exact ⟨fun h => ⟨c, h⟩, fun h => h.2⟩
    · refine Ev.neg (by simpa using c) (Ev.ret' ?_)
      symm; rw [decide_eq_false_iff_not, hd]; exact fun h => c h.1
theorem z6J (L : Int) (X : List E) (hX : X.length ≤ 1000000) : Ev (fun k => zn.f k L (X.map toR)) (decide (AllS L X)) := All_l0 L X hX X.length 0 (by omega)
theorem z51 {α β : Type} (f : α → β) (X : List α) (d : α) (i : Nat) (h : i < X.length) : (X.take (i + 1)).map f = (X.take i).map f ++ [f (X.getD i d)] := by
  rw [List.take_succ_eq_append_getElem h, List.map_append]
  have : X.getD i d = X[i] := by rw [List.getD_eq_getElem?_getD, List.getElem?_eq_getElem h]; rfl
  rw [this]; rfl
theorem Ref_l0 (X : List E) (hX : X.length ≤ 1000000) : ∀ (d i : Nat), i + d = X.length → Ev (fun k => zu.l0 k (X.map toS) ((X.take i).map toR) (i : Int)) (X.map toR) := by
  intro d
  induction d with
  | zero =>
    intro i hi
    refine Ev.step (fun k => by rw [zu.l0]) (Ev.neg (by rw [List.length_map]; omega) (Ev.ret' ?_))
    rw [List.take_of_length_le (by omega)]
  | succ d ih =>
    intro i hi
    have hi' : i < X.length := by omega
    refine Ev.step (fun k => by rw [zu.l0]) (Ev.pos (by rw [List.length_map]; omega) (Ev.pos (Int.natCast_nonneg _) (Ev.pos (by rw [List.length_map, List.length_take]; omega) ?_)))
    simp only [rdS, z2L, z2M, z1M hi' (show X.length ≤ 4611686018427387904 by omega)]
    have hih := ih (i + 1) (by omega)
    rw [z51 toR X 0 i hi'] at hih
    exact hih
theorem Ref_ev (X : List E) (hX : X.length ≤ 1000000) : Ev (fun k => zu.f k (X.map toS)) (X.map toR) := Ref_l0 X hX X.length 0 (by omega)
theorem Same_l0 (X Y : List E) (hl : X.length = Y.length) (hX : X.length ≤ 1000000) : ∀ (d i : Nat), i + d = X.length → (∀ j, j < i → X.getD j 0 = Y.getD j 0) → Ev (fun k => zt.l0 k (X.map toS) (Y.map toR) (i : Int)) (decide (X = Y)) := by
  intro d
  induction d with
  | zero =>
    intro i hi h
    refine Ev.step (fun k => by rw [zt.l0]) (Ev.neg (by rw [List.length_map]; omega) (Ev.ret' ?_))
    symm; rw [decide_eq_true_eq]
    apply List.ext_getElem hl
    intro j h1 h2
    have := h j (by omega)
    simpa [List.getD_eq_getElem?_getD, h1, h2] using this
  | succ d ih =>
    intro i hid h
    have hi' : i < X.length := by omega
    refine Ev.step (fun k => by rw [zt.l0]) (Ev.pos (by rw [List.length_map]; omega) (Ev.pos (Int.natCast_nonneg _) (Ev.pos (by rw [List.length_map]; omega) ?_)))
    simp only [rdS, rdR, z2L, z2M, z6j, z6k, z1M hi' (show X.length ≤ 4611686018427387904 by omega)]
    by_cases c : X.getD i 0 = Y.getD i 0
    · refine Ev.neg (by rw [c]; simp) (ih (i + 1) (by omega) (fun j hj => ?_))
      by_cases e : j = i
      · rw [e]; exact c
      · exact h j (by omega)
    · refine Ev.pos ?_ (Ev.ret' ?_)
      · simp only [Bool.or_eq_true, Bool.not_eq_true', beq_eq_false_iff_ne]
        by_cases e : hi (X.getD i 0) = hi (Y.getD i 0)
        · right; intro e2; exact c (z63 e e2)
        · left; exact e
      · symm; rw [decide_eq_false_iff_not]
        rintro rfl; exact c rfl
theorem Same_ev (X Y : List E) (hX : X.length ≤ 1000000) : Ev (fun k => zt.f k (X.map toS) (Y.map toR)) (decide (X = Y)) := by
  unfold zt.f
  by_cases h : X.length = Y.length
  · exact Ev.pos (by rw [List.length_map, List.length_map]; omega) (Same_l0 X Y h hX X.length 0 (by omega) (fun j hj => by omega))
  · refine Ev.neg (by rw [List.length_map, List.length_map]; omega) (Ev.ret' ?_)
    symm; rw [decide_eq_false_iff_not]
    rintro rfl; exact h rfl
/-- The same element? as the program asks. -/
theorem z76 (x y : E) : (hi x == hi y && (lo x == lo y)) = decide (x = y) := by
  rw [Bool.eq_iff_iff, Bool.and_eq_true, beq_iff_eq, beq_iff_eq, decide_eq_true_eq]
  exact ⟨fun h => z63 h.1 h.2, fun h => by rw [h]; exact ⟨rfl, rfl⟩⟩
theorem eq_none (x : E) : (hi x == 0 && (lo x == 0)) = decide (x = 0) := by
  rw [← z76, z2Z, z30]
end Go.Proofs.Ytklkmflhnljbdaa.Sp
namespace Go.Proofs.Ytklkmflhnljbdaa.P
open Go.RowKit Go.Proofs.YtklkmflhnljbdaaW.PrintWords Go.Proofs.YtklkmflhnljbdaaW.PrintLast Go.Proofs.YtklkmflhnljbdaaW.PrintMore
attribute [local go_sem] z17 z19 z1m z1n zU zV z18 z1a   -- for this text's walks alone
set_option linter.unusedVariables false
set_option linter.unusedSimpArgs false
def zP.l0 : Nat → List Bool → Int → Int → Int → Int → Option (List Bool)
 | 0,_,_,_,_,_=>none
 | k + 1,x5,x13,x14,x102000,x102001=>if x14 < x13 then ((zT.f k x14).bind fun bt103=>(if x5.length < 140737488355328 then (zP.l0 k (x5 ++ [((Go.bits .or .u64 (Go.bits .and .u64 x102001 bt103.2) (Go.bits .and .u64 x102000 bt103.1)) != 0)]) x13 (wrap64 (x14 + 1)) x102000 x102001) else (none))) else (some x5)
def zP.f (k : Nat) (a0 : Int) (a1_0 : Int) (a1_1 : Int) : Option (List Bool):=(zJ.f k a0 a1_0 a1_1).bind fun t102=>(if t102 = true then (if 0 ≤ a0 then (zP.l0 k ([] : List Bool) (shl .i64 1 a0) 0 a1_0 a1_1) else (none)) else (some ([] : List Bool)))
theorem zP.z1b : ∀ k,(∀ y0 y1 y2 y3 y4,LeO (zP.l0 k y0 y1 y2 y3 y4) (zP.l0 (k + 1) y0 y1 y2 y3 y4))
 | 0=>fun _ _ _ _ _ r h=>by simp [zP.l0] at h
 | k + 1=>by
  have ih0:=zP.z1b k
  · intro y0 y1 y2 y3 y4
    unfold zP.l0
    repeat' first
    | (with_reducible exact ih0 _ _ _ _ _)
    | (with_reducible exact zJ.mono _ _ _ _)
    | (with_reducible exact zT.mono _ _)
    | (with_reducible exact LeO.refl _)
    | (with_reducible exact LeO.none _)
    | (with_reducible refine LeO.ite ?_ ?_)
    | (with_reducible refine LeO.bind ?_ (fun _=>?_))
    | exact ih0 _ _ _ _ _
    | exact zJ.mono _ _ _ _
    | exact zT.mono _ _
    | exact LeO.none _
    | refine LeO.ite ?_ ?_
    | refine LeO.bind ?_ (fun _=>?_)
theorem zP.mono : ∀ a0 a1 a2 k,LeO (zP.f k a0 a1 a2) (zP.f (k + 1) a0 a1 a2):=by
 intro a0 a1 a2 k
 have ih0:=zP.z1b k
 unfold zP.f
 repeat' first
  | (with_reducible exact ih0 _ _ _ _ _)
  | (with_reducible exact zJ.mono _ _ _ _)
  | (with_reducible exact zT.mono _ _)
  | (with_reducible exact LeO.refl _)
  | (with_reducible exact LeO.none _)
  | (with_reducible refine LeO.ite ?_ ?_)
  | (with_reducible refine LeO.bind ?_ (fun _=>?_))
  | exact ih0 _ _ _ _ _
  | exact zJ.mono _ _ _ _
  | exact zT.mono _ _
  | exact LeO.none _
  | refine LeO.ite ?_ ?_
  | refine LeO.bind ?_ (fun _=>?_)
set_option maxHeartbeats 8000000 in
set_option maxRecDepth 100000 in
theorem zP.calls (k : Nat) (a0 : Int) (a1_0 : Int) (a1_1 : Int) (r : List Bool) (w : World) (h : zP.f k a0 a1_0 a1_1 = some r) :
 Calls Try.prog 127 #[.int .i64 a0,.agg #[.int .u64 a1_0,.int .u64 a1_1]] w fun e w'=>∃ v0_ : Value,e = .returned (v0_) ∧ Kd.R Kd.bool 4 w' w.heap.size (fun _=>True) v0_ r ∧ Below w.heap.size w w':=by
 have hu37:=Try.underlying37
 have HB:=z4.mk (Below.refl w.heap.size w)
 have H : ((zJ.f k a0 a1_0 a1_1).bind fun t102=>(if t102 = true then (if 0 ≤ a0 then (zP.l0 k ([] : List Bool) (shl .i64 1 a0) 0 a1_0 a1_1) else (none)) else (some ([] : List Bool)))) = some r:=h
 clear h
 replace H:=Option.bind_eq_some_iff.mp H
 obtain ⟨t102,A30,H⟩:=H
 replace H : (if t102 = true then (if 0 ≤ a0 then (zP.l0 k ([] : List Bool) (shl .i64 1 a0) 0 a1_0 a1_1) else (none)) else (some ([] : List Bool))) = some r:=H
 have A3:=z4.mk A30
 clear A30
 by_cases c4 : t102 = true
 rotate_left
 · replace c4:=Bool.eq_false_iff.mpr c4
   subst c4
   have H1 : (some ([] : List Bool)) = some r:=by rw [if_neg (show ¬ (false = true) by decide)] at H;exact H
   clear H
   have H:=H1
   clear H1
   obtain rfl:=Option.some.inj H
   go_enter Try.func127,Try.ntmps127
   go_wp2_with (first|((with_reducible refine zr (N:=3) rfl ?_);refine zy ?hg (N:=3) ?hd (cs:=#[.int .u64 a1_0,.int .u64 a1_1]) (t:=37) ?hr ?_;(case hd=>rfl);(case hg=>rfl);(case hr=>first|(go_simp;done)|(go_simp;rfl));intro gb101 hg w19 hbox hb;have n0_:=z4.mk (z9 zz45 hb);have n1_:=z4.mk (hbox);have n2_:=z4.mk ((by rw [hg];exact (ze zz45) : w.heap.size ≤ gb101));have n3_:=z4.mk ((by rw [hg];exact (ze zz45) : w.heap.size ≤ gb101));clear HB;have HB:=n0_;have BK101:=n1_;have GW101:=n2_;have GE101:=n3_;clear n0_ n1_ n2_ n3_;clear hb hbox hg;have hcz20_0 : w19.cell? ⟨gb101,0,none⟩ = some (.int .u64 a1_0):=(zf BK101.out 0).trans rfl;have hcz20_1 : w19.cell? ⟨gb101,1,none⟩ = some (.int .u64 a1_1):=(zf BK101.out 1).trans rfl;have hfz20_0:=za BK101.out 0;have hfz20_1:=za BK101.out 1)|((with_reducible refine zl (f:=82) rfl ?_);refine goesL_ (some 10) rfl rfl Try.func82 zz84 rfl #[.int .i64 a0,.agg #[.int .u64 a1_0,.int .u64 a1_1]] rfl zz44 ?_;(with_reducible refine (zJ.calls k a0 a1_0 a1_1 false _ A3.out).mono ?_);rintro e w21 ⟨rfl,hb⟩;refine ⟨_,rfl,?_⟩;have n0_:=z4.mk (zh (g:=gb101) (o:=.cells #[.int .u64 a1_0,.int .u64 a1_1] 37 (0,0)) zz46 hb);have n1_:=z4.mk (z9 zz40 hb);clear BK101;clear HB;have BK101:=n0_;have HB:=n1_;clear n0_ n1_;(try clear hb);(try clear hb2);(try clear hk);(try clear hi)))
   go_ret
   exact ⟨_,by first|rfl|(simp [zi,zj] <;> rfl)|(simp [*,zi,zj] <;> rfl),by first|exact Kd.z3e _ _ _ _ _|exact Kd.z3N _ _ _ _ _|exact Kd.z3Q _ _ _ _ _|exact Kd.z3O _ _ _ _ _|exact Kd.z3P _ _ _ _ _,by repeat (first|(with_reducible first|exact HB.out|apply zg|apply z6|apply zc|refine zd ?_ GE101.out)|exact HB.out)⟩
 subst c4
 have H1 : (if 0 ≤ a0 then (zP.l0 k ([] : List Bool) (shl .i64 1 a0) 0 a1_0 a1_1) else (none)) = some r:=by rw [if_pos rfl] at H;exact H
 clear H
 have H:=H1
 clear H1
 by_cases c5 : 0 ≤ a0
 rotate_left
 · rw [if_neg c5] at H
   exact absurd H zz87
 rw [if_pos c5] at H
 have c5b0:=eq_true c5
 have c5b1 : decide (0 ≤ a0) = true:=decide_eq_true c5
 clear c5
 obtain ⟨ji6,hji6⟩ : ∃ j_ : Int,(shl .i64 1 a0) = j_:=⟨_,rfl⟩
 replace H : (zP.l0 k ([] : List Bool) ji6 0 a1_0 a1_1) = some r:=by first|(rw [hji6] at H;exact H)|(simp only [hji6] at H ⊢;exact H)
 (try rw [hji6] at A3)
 have hji6_ : (IntKind.i64.wrap (1 * 2 ^ min a0.toNat 64)) = ji6:=hji6
 have hji6z : a0 ≤ 64 → (IntKind.i64.wrap (1 * 2 ^ a0.toNat)) = ji6:=z1L hji6
 have hji6u : (IntKind.i64.wrap (2 ^ min a0.toNat 64)) = ji6:=by have h_:=hji6_;rw [Int.one_mul] at h_;exact h_
 have hji6v : a0 ≤ 64 → (IntKind.i64.wrap (2 ^ a0.toNat)) = ji6:=fun hle_=>by have h_:=hji6z hle_;rw [Int.one_mul] at h_;exact h_
 have hji6y : (wrap64 (1 * 2 ^ min a0.toNat 64)) = ji6:=(zY _).symm.trans hji6_
 have hji6x : a0 ≤ 64 → (wrap64 (1 * 2 ^ a0.toNat)) = ji6:=fun h_=>(zY _).symm.trans (hji6z h_)
 have H':=z4.mk H
 clear H
 go_enter Try.func127,Try.ntmps127
 go_wp2_with (first|((with_reducible refine zr (N:=3) rfl ?_);refine zy ?hg (N:=3) ?hd (cs:=#[.int .u64 a1_0,.int .u64 a1_1]) (t:=37) ?hr ?_;(case hd=>rfl);(case hg=>rfl);(case hr=>first|(go_simp;done)|(go_simp;rfl));intro gb101 hg w7 hbox hb;have n0_:=z4.mk (z9 zz45 hb);have n1_:=z4.mk (hbox);have n2_:=z4.mk ((by rw [hg];exact (ze zz45) : w.heap.size ≤ gb101));have n3_:=z4.mk ((by rw [hg];exact (ze zz45) : w.heap.size ≤ gb101));clear HB;have HB:=n0_;have BK101:=n1_;have GW101:=n2_;have GE101:=n3_;clear n0_ n1_ n2_ n3_;clear hb hbox hg;have hcz8_0 : w7.cell? ⟨gb101,0,none⟩ = some (.int .u64 a1_0):=(zf BK101.out 0).trans rfl;have hcz8_1 : w7.cell? ⟨gb101,1,none⟩ = some (.int .u64 a1_1):=(zf BK101.out 1).trans rfl;have hfz8_0:=za BK101.out 0;have hfz8_1:=za BK101.out 1)|((with_reducible refine zl (f:=82) rfl ?_);refine goesL_ (some 10) rfl rfl Try.func82 zz84 rfl #[.int .i64 a0,.agg #[.int .u64 a1_0,.int .u64 a1_1]] rfl zz44 ?_;(with_reducible refine (zJ.calls k a0 a1_0 a1_1 true _ A3.out).mono ?_);rintro e w9 ⟨rfl,hb⟩;refine ⟨_,rfl,?_⟩;have n0_:=z4.mk (zh (g:=gb101) (o:=.cells #[.int .u64 a1_0,.int .u64 a1_1] 37 (0,0)) zz46 hb);have n1_:=z4.mk (z9 zz40 hb);clear BK101;clear HB;have BK101:=n0_;have HB:=n1_;clear n0_ n1_;(try clear hb);(try clear hb2);(try clear hk);(try clear hi)))
 go_loopg [5,14] k (fun kq v5 v14 w'=>∃ (x5_1 : List Bool) (x14_1 : Int),v14 = .int .i64 x14_1 ∧ z4 (zP.l0 kq x5_1 ji6 x14_1 a1_0 a1_1 = some r) ∧ z4 (kq ≤ k) ∧ z4 (Kd.R Kd.bool 4 w' w.heap.size (fun _=>True) v5 x5_1) ∧ z4 (w'.heap[gb101]? = some (.cells #[.int .u64 a1_0,.int .u64 a1_1] 37 (0,0))) ∧ z4 (Below w.heap.size w w'))
 case atStart=>exact ⟨(([] : List Bool)),(0),zz81,H',⟨Nat.le_refl _⟩,⟨by first|exact Kd.z3e _ _ _ _ _|exact Kd.z3N _ _ _ _ _|exact Kd.z3Q _ _ _ _ _|exact Kd.z3O _ _ _ _ _|exact Kd.z3P _ _ _ _ _⟩,⟨by (with_reducible repeat (first|refine z8 ?_ _|refine zb ?_|refine z7 ?_ _));exact BK101.out⟩,⟨by repeat (first|(with_reducible first|exact HB.out|apply zg|apply z6|apply zc|refine zd ?_ GE101.out)|exact HB.out)⟩⟩
 case round =>
  clear H'
  (try clear c1);(try clear p2);(try clear c4);(try clear c5);(try clear c5b0);(try clear c5b1);(try clear p6);(try clear c8);(try clear hcz8_0);(try clear hcz8_1);(try clear hfz8_0);(try clear hfz8_1)
  obtain ⟨x5_1,x14_1,rfl,HA,HK1,HO_5,BK101,HB⟩:=hrel
  cases gk with
  | zero=>exact absurd HA.out (by simp [zP.l0])
  | succ k1 =>
   have H:=HA.out
   clear HA
   simp only [zP.l0] at H
   by_cases c10 : x14_1 < ji6
   rotate_left
   · rw [if_neg c10] at H
     have c10b0 : decide (x14_1 < ji6) = false:=decide_eq_false c10
     clear c10
     obtain rfl:=Option.some.inj H
     go_wp2
     go_ret
     exact ⟨_,by first|rfl|(simp [zi,zj] <;> rfl)|(simp only [← hji6];first|rfl|(simp [zi,zj] <;> rfl))|(simp [*,zi,zj] <;> rfl),by (with_reducible repeat (first|apply Kd.zH|apply Kd.zI|apply Kd.zS));exact HO_5.out,by repeat (first|(with_reducible first|exact HB.out|apply zg|apply z6|apply zc|refine zd ?_ GE101.out)|exact HB.out)⟩
   rw [if_pos c10] at H
   have c10b0 : decide (x14_1 < ji6) = true:=decide_eq_true c10
   clear c10
   replace H:=Option.bind_eq_some_iff.mp H
   obtain ⟨⟨t103,t104⟩,A110,H⟩:=H
   replace H : (if x5_1.length < 140737488355328 then (zP.l0 k1 (x5_1 ++ [((Go.bits .or .u64 (Go.bits .and .u64 a1_1 t104) (Go.bits .and .u64 a1_0 t103)) != 0)]) ji6 (wrap64 (x14_1 + 1)) a1_0 a1_1) else (none)) = some r:=H
   have A11:=z4.mk A110
   clear A110
   by_cases c12 : x5_1.length < 140737488355328
   rotate_left
   · rw [if_neg c12] at H
     exact absurd H zz87
   rw [if_pos c12] at H
   have LMc12:=z4.mk c12
   clear c12
   obtain ⟨y106,hy106⟩ : ∃ y_ : List Bool,y_ = (x5_1 ++ [((Go.bits .or .u64 (Go.bits .and .u64 a1_1 t104) (Go.bits .and .u64 a1_0 t103)) != 0)]):=⟨_,rfl⟩
   replace H : (zP.l0 k1 y106 ji6 (wrap64 (x14_1 + 1)) a1_0 a1_1) = some r:=by first|(rw [hy106];with_reducible exact H)|(have H2_:=(Option.bind_some _ _).symm.trans H;rw [hy106];with_reducible exact H2_)|(have H2_:=(Option.bind_some _ _).symm.trans H;with_reducible exact H2_)|with_reducible exact H|(rw [hy106];exact H)|exact H
   have Ny106:=z4.mk hy106
   clear hy106
   have H':=z4.mk H
   clear H
   go_wp2_with (first|((with_reducible refine zl (f:=96) rfl ?_);refine goesL_ (some 18) rfl rfl Try.func96 zz84 rfl #[.int .i64 x14_1] rfl zz44 ?_;(with_reducible refine (zT.calls k1 x14_1 t103 t104 _ A11.out).mono ?_);rintro e w13 ⟨rfl,hb⟩;refine ⟨_,rfl,?_⟩;have n0_:=z4.mk (Kd.zx zz65 hb);have n1_:=z4.mk (zh (g:=gb101) (o:=.cells #[.int .u64 a1_0,.int .u64 a1_1] 37 (0,0)) zz46 hb);have n2_:=z4.mk (z9 zz40 hb);clear HO_5;clear BK101;clear HB;have HO_5:=n0_;have BK101:=n1_;have HB:=n2_;clear n0_ n1_ n2_;(try clear hb);(try clear hb2);(try clear hk);(try clear hi))|((with_reducible refine zr (N:=7) rfl ?_);refine zy ?hg (N:=7) ?hd (cs:=#[.int .u64 0,.int .u64 0]) (t:=37) ?hr ?_;(case hd=>rfl);(case hg=>rfl);(case hr=>first|(go_simp;done)|(go_simp;rfl));intro gb105 hg w14 hbox hb;have n0_:=z4.mk (Kd.zx zz65 hb);have n1_:=z4.mk (zh (g:=gb101) (o:=.cells #[.int .u64 a1_0,.int .u64 a1_1] 37 (0,0)) zz46 hb);have n2_:=z4.mk (z9 zz40 hb);have n3_:=z4.mk (hbox);have n4_:=z4.mk ((by rw [hg];exact (ze zz40) : w.heap.size ≤ gb105));have n5_:=z4.mk ((by rw [hg];exact (ze zz40) : w.heap.size ≤ gb105));have n6_:=z4.mk ((by rw [hg];exact Nat.ne_of_lt (zO (g:=gb101) (o:=.cells #[.int .u64 a1_0,.int .u64 a1_1] 37 (0,0)) zz46) : gb101 ≠ gb105));have n7_:=z4.mk ((by rw [hg];exact Nat.ne_of_gt (zO (g:=gb101) (o:=.cells #[.int .u64 a1_0,.int .u64 a1_1] 37 (0,0)) zz46) : gb105 ≠ gb101));clear HO_5;clear BK101;clear HB;have HO_5:=n0_;have BK101:=n1_;have HB:=n2_;have BK105:=n3_;have GW105:=n4_;have GE105:=n5_;have NB101_105:=n6_;have NB105_101:=n7_;clear n0_ n1_ n2_ n3_ n4_ n5_ n6_ n7_;clear hb hbox hg;have hnb15:=NB105_101.out;have hnc15:=NB101_105.out;have hcz16_0 : w14.cell? ⟨gb105,0,none⟩ = some (.int .u64 0):=(zf BK105.out 0).trans rfl;have hcz16_1 : w14.cell? ⟨gb105,1,none⟩ = some (.int .u64 0):=(zf BK105.out 1).trans rfl;have hfz16_0:=za BK105.out 0;have hfz16_1:=za BK105.out 1;have hcz17_0 : w14.cell? ⟨gb101,0,none⟩ = some (.int .u64 a1_0):=(zf BK101.out 0).trans rfl;have hcz17_1 : w14.cell? ⟨gb101,1,none⟩ = some (.int .u64 a1_1):=(zf BK101.out 1).trans rfl;have hfz17_0:=za BK101.out 0;have hfz17_1:=za BK101.out 1)|((with_reducible refine z2q (b:=.append) (xs:=#[.tmp 19,.tmp 32]) rfl ?_);at_builtin;refine Kd.z3R Kd.bool (w0:=w) w.heap.size rfl (.tmp 19) (.tmp 32) 22 4 (.bool false) 1 rfl Try.underlying22 info4 rfl zz85 zz86 u5 x5_1 ((Go.bits .or .u64 (Go.bits .and .u64 a1_1 t104) (Go.bits .and .u64 a1_0 t103)) != 0) [.bool ((Go.bits .or .u64 (Go.bits .and .u64 a1_1 t104) (Go.bits .and .u64 a1_0 t103)) != 0)] (fun _=>True) (fun _=>False) rfl (by first|(go_simp;done)|(go_simp;rfl)) ?aP (fun _ hk=>hk.elim) ?aF ?aO ?aB ?aS ?aL ?_;(case aP=>exact rfl);(case aB=>exact zz37);(case aF=>exact (fun _ _=>trivial));(case aO=>exact (by (with_reducible repeat (first|apply Kd.zH|apply Kd.zI|apply Kd.zS));exact Kd.z12 (Kd.z1O (p:=⟨gb105,1,none⟩) (Kd.z1O (p:=⟨gb105,0,none⟩) (Kd.z5G HO_5.out BK105.out zz85) (fun _ hk=>hk.2) (.int .u64 t103)) (fun _ hk=>hk.2) (.int .u64 t104)) (fun _ hk=>trivial)));(case aS=>exact (ze zz37));(case aL=>have:=LMc12.out;omega);intro v107 w18 ho hb hg hat;rw [← Ny106.out] at ho;have n0_:=z4.mk (z2h (g:=gb101) (o:=.cells #[.int .u64 a1_0,.int .u64 a1_1] 37 (0,0)) zz9 hg (Kd.R_ne HO_5.out BK101.out zz85));have n1_:=z4.mk (z2h (g:=gb105) (o:=.cells #[.int .u64 t103,.int .u64 t104] 37 (0,0)) (by (with_reducible repeat (first|refine z8 ?_ _|refine zb ?_|refine z7 ?_ _));refine zX (cs:=#[.int .u64 t103,.int .u64 0]) ?_ 1 _ rfl;(with_reducible repeat (first|refine z8 ?_ _|refine zb ?_|refine z7 ?_ _));refine zX (cs:=#[.int .u64 0,.int .u64 0]) ?_ 0 _ rfl;(with_reducible repeat (first|refine z8 ?_ _|refine zb ?_|refine z7 ?_ _));exact BK105.out) hg (Kd.R_ne HO_5.out BK105.out zz85));have n2_:=z4.mk (hb);have n3_:=z4.mk (ho);clear BK101;clear BK105;clear HB;clear HO_5;have BK101:=n0_;have BK105:=n1_;have HB:=n2_;have HO108:=n3_;clear n0_ n1_ n2_ n3_;clear ho hb hg hat))
   go_roundg k1
   case measure=>have:=HK1.out;omega
   case rel=>exact ⟨(y106),(wrap64 (x14_1 + 1)),zz81,H',⟨by have:=HK1.out;omega⟩,⟨by (with_reducible repeat (first|apply Kd.zH|apply Kd.zI|apply Kd.zS));exact HO108.out⟩,⟨by (with_reducible repeat (first|refine z8 ?_ _|refine zb ?_|refine z7 ?_ _));exact BK101.out⟩,⟨by repeat (first|(with_reducible first|exact HB.out|apply zg|apply z6|apply zc|refine zd ?_ GE101.out|refine zd ?_ GE105.out)|exact HB.out)⟩⟩
end Go.Proofs.Ytklkmflhnljbdaa.P
/- The bits of an element as the program tells them. Own text. -/
namespace Go.Proofs.Ytklkmflhnljbdaa.Sp
open Go.RowKit Go.Proofs.YtklkmflhnljbdaaW.PrintWords Go.Proofs.YtklkmflhnljbdaaW.PrintMore Go.Proofs.Ytklkmflhnljbdaa.P Go.Proofs.Ytklkmflhnljbdaa.Ar Go.Proofs.Ytklkmflhnljbdaa.Tw
set_option linter.unusedVariables false
theorem z2T (n : Nat) (hn : n < 128) : Ev (fun k => zT.f k (n : Int)) (hi (bitE n), lo (bitE n)) := by
  obtain ⟨h1, h2⟩ := z5I hn
  unfold zT.f
  refine Ev.pos (by omega) ?_
  by_cases c : n < 64
  · rw [if_pos c] at h1 h2
    rw [h1, h2, decide_eq_true (show (n : Int) < 64 by omega)]
    refine Ev.step (fun k => by rw [zT.j0]) (Ev.pos rfl (Ev.pos (Int.natCast_nonneg _) (Ev.ret' ?_)))
    rw [z33 n (by omega)]
  · rw [if_neg c] at h1 h2
    rw [h1, h2, decide_eq_false (show ¬ (n : Int) < 64 by omega)]
    have e : wrap64 ((n : Int) - 64) = ((n - 64 : Nat) : Int) := by rw [z28 (by omega) (by omega)]; omega
    refine Ev.step (fun k => by rw [zT.j0]) (Ev.neg (by decide) (Ev.pos (by omega) (Ev.pos (by omega) ?_)))
    rw [e]
    exact Ev.pos (Int.natCast_nonneg _) (Ev.ret' (by rw [z33 (n - 64) (by omega)]))
def bitsL (x : E) (n : Nat) : List Bool := (List.range n).map fun i => (val x).testBit i
theorem z5B (x : E) (N : Nat) (hN : N ≤ 128) : ∀ (d n : Nat), n + d = N → Ev (fun k => zP.l0 k (bitsL x n) (N : Int) (n : Int) (hi x) (lo x)) (bitsL x N) := by
  intro d
  induction d with
  | zero =>
    intro n hn
    have : n = N := by omega
    subst this
    exact Ev.step (fun k => by rw [zP.l0]) (Ev.neg (by omega) (Ev.ret _))
  | succ d ih =>
    intro n hn
    have hn' : n < N := by omega
    have hih := ih (n + 1) (by omega)
    have hs : bitsL x (n + 1) = bitsL x n ++ [(val x).testBit n] := by unfold bitsL; rw [List.range_succ, List.map_append]; rfl
    have hl : (bitsL x n).length < 140737488355328 := by unfold bitsL; rw [List.length_map, List.length_range]; omega
    rw [hs] at hih
    refine Ev.step (fun k => by rw [zP.l0]) (Ev.pos (by omega) (Ev.bnd (z2T n (by omega)) ?_))
    refine Ev.pos hl ?_
    simp only [hasBits x n (show n < 128 by omega), z1M hn' (show N ≤ 4611686018427387904 by omega)]
    exact hih
theorem z3L {l : Nat} (hl : l ≤ 7) (x : E) (hx : OfS (l : Int) x) : Ev (fun k => zP.f k (l : Int) (hi x) (lo x)) (bitsL x (2 ^ l)) := by
  unfold zP.f
  refine Ev.bnd (z4z (l : Int) x) (Ev.pos (decide_eq_true hx) (Ev.pos (Int.natCast_nonneg _) ?_))
  rw [z32 l (by omega)]
  exact z5B x (2 ^ l) (Nat.pow_le_pow_right (n := 2) (by decide) hl) (2 ^ l) 0 (Nat.zero_add _)
end Go.Proofs.Ytklkmflhnljbdaa.Sp
namespace Go.Proofs.Ytklkmflhnljbdaa.P
open Go.RowKit Go.Proofs.YtklkmflhnljbdaaW.PrintWords Go.Proofs.YtklkmflhnljbdaaW.PrintLast Go.Proofs.YtklkmflhnljbdaaW.PrintMore
attribute [local go_sem] z17 z19 z1m z1n zU zV z18 z1a   -- for this text's walks alone
set_option linter.unusedVariables false
set_option linter.unusedSimpArgs false
def zG.l0 : Nat → Int → Int → Int → Option (Int)
 | 0,_,_,_=>none
 | k + 1,x0,x3,x4=>if x4 < x0 then (zG.l0 k x0 (wrap64 (2 * x3)) (wrap64 (x4 + 1))) else (some x3)
def zG.f (k : Nat) (a0 : Int) : Option (Int):=zG.l0 k a0 1 0
theorem zG.z1b : ∀ k,(∀ y0 y1 y2,LeO (zG.l0 k y0 y1 y2) (zG.l0 (k + 1) y0 y1 y2))
 | 0=>fun _ _ _ r h=>by simp [zG.l0] at h
 | k + 1=>by
  have ih0:=zG.z1b k
  · intro y0 y1 y2
    unfold zG.l0
    repeat' first
    | (with_reducible exact ih0 _ _ _)
    | (with_reducible exact LeO.refl _)
    | (with_reducible exact LeO.none _)
    | (with_reducible refine LeO.ite ?_ ?_)
    | (with_reducible refine LeO.bind ?_ (fun _=>?_))
    | exact ih0 _ _ _
    | exact LeO.none _
    | refine LeO.ite ?_ ?_
    | refine LeO.bind ?_ (fun _=>?_)
theorem zG.mono : ∀ a0 k,LeO (zG.f k a0) (zG.f (k + 1) a0):=by
 intro a0 k
 have ih0:=zG.z1b k
 unfold zG.f
 repeat' first
  | (with_reducible exact ih0 _ _ _)
  | (with_reducible exact LeO.refl _)
  | (with_reducible exact LeO.none _)
  | (with_reducible refine LeO.ite ?_ ?_)
  | (with_reducible refine LeO.bind ?_ (fun _=>?_))
  | exact ih0 _ _ _
  | exact LeO.none _
  | refine LeO.ite ?_ ?_
  | refine LeO.bind ?_ (fun _=>?_)
set_option maxHeartbeats 8000000 in
set_option maxRecDepth 100000 in
theorem zG.calls (k : Nat) (a0 : Int) (r : Int) (w : World) (h : zG.f k a0 = some r) :
 Calls Try.prog 49 #[.int .i64 a0] w fun e w'=>e = .returned (.int .i64 r) ∧ Drawn0 w w':=by
 have H : (zG.l0 k a0 1 0) = some r:=h
 clear h
 have H':=z4.mk H
 clear H
 go_enter Try.func49,Try.ntmps49
 go_wp2
 go_loopg [3,4] k (fun kq v3 v4 w'=>∃ (x3_1 : Int) (x4_1 : Int),v3 = .int .i64 x3_1 ∧ v4 = .int .i64 x4_1 ∧ z4 (zG.l0 kq a0 x3_1 x4_1 = some r) ∧ z4 (kq ≤ k) ∧ Drawn0 w w')
 case atStart=>exact ⟨(1),(0),zz81,zz81,H',⟨Nat.le_refl _⟩,by repeat (first|exact Drawn0.refl _|apply Drawn0.step)⟩
 case round =>
  clear H'
  obtain ⟨x3_1,x4_1,rfl,rfl,HA,HK1,⟨m1,rfl⟩⟩:=hrel
  cases gk with
  | zero=>exact absurd HA.out (by simp [zG.l0])
  | succ k1 =>
   have H:=HA.out
   clear HA
   simp only [zG.l0] at H
   by_cases c2 : x4_1 < a0
   rotate_left
   · rw [if_neg c2] at H
     have c2b0 : decide (x4_1 < a0) = false:=decide_eq_false c2
     clear c2
     obtain rfl:=Option.some.inj H
     go_wp2
     go_ret
     exact ⟨by first|rfl|(simp;done)|(simp [*];done),by repeat (first|exact Drawn0.refl _|apply Drawn0.step)⟩
   rw [if_pos c2] at H
   have c2b0 : decide (x4_1 < a0) = true:=decide_eq_true c2
   clear c2
   have H':=z4.mk H
   clear H
   go_wp2
   go_roundg k1
   case measure=>have:=HK1.out;omega
   case rel=>exact ⟨(wrap64 (2 * x3_1)),(wrap64 (x4_1 + 1)),zz81,zz81,H',⟨by have:=HK1.out;omega⟩,by repeat (first|exact Drawn0.refl _|apply Drawn0.step)⟩
end Go.Proofs.Ytklkmflhnljbdaa.P
/- Powers of two as the document's Two tells them. Own text. -/
namespace Go.Proofs.Ytklkmflhnljbdaa.Sp
open Go.RowKit Go.Proofs.YtklkmflhnljbdaaW.PrintWords Go.Proofs.YtklkmflhnljbdaaW.PrintMore Go.Proofs.Ytklkmflhnljbdaa.P Go.Proofs.Ytklkmflhnljbdaa.Ar
set_option linter.unusedVariables false
set_option linter.unusedSimpArgs false
theorem z7s {n : Nat} (h : n ≤ 61) : 2 ^ n ≤ 2305843009213693952 := by
  have : (2 : Nat) ^ n ≤ 2 ^ 61 := Nat.pow_le_pow_right (by decide) h
  simpa using this
theorem two_l0 (n : Nat) (h : n ≤ 61) : ∀ d i, i + d = n → Ev (fun k => zG.l0 k (n : Int) ((2 ^ i : Nat) : Int) (i : Int)) ((2 ^ n : Nat) : Int) := by
  intro d
  induction d with
  | zero =>
    intro i hi
    have hi : i = n := by omega
    subst hi
    exact Ev.step (fun k => by rw [zG.l0]) (Ev.neg (by omega) (Ev.ret _))
  | succ d ih =>
    intro i hi
    refine Ev.step (fun k => by rw [zG.l0]) (Ev.pos (by omega) ?_)
    have h1 := z7s (n := i) (by omega)
    have e1 : wrap64 (2 * ((2 ^ i : Nat) : Int)) = ((2 ^ (i + 1) : Nat) : Int) := by
      rw [Nat.pow_succ]
      generalize 2 ^ i = p at h1 ⊢
      rw [z28 (by omega) (by omega)]; omega
    have e2 : wrap64 ((i : Int) + 1) = ((i + 1 : Nat) : Int) := by rw [z28 (by omega) (by omega)]; omega
    rw [e1, e2]
    exact ih (i + 1) (by omega)
theorem two_ev (n : Nat) (h : n ≤ 61) : Ev (fun k => zG.f k (n : Int)) ((2 ^ n : Nat) : Int) := two_l0 n h n 0 (by omega)
end Go.Proofs.Ytklkmflhnljbdaa.Sp
namespace Go.Proofs.Ytklkmflhnljbdaa.P
open Go.RowKit Go.Proofs.YtklkmflhnljbdaaW.PrintWords Go.Proofs.YtklkmflhnljbdaaW.PrintLast Go.Proofs.YtklkmflhnljbdaaW.PrintMore
attribute [local go_sem] z17 z19 z1m z1n zU zV z18 z1a   -- for this text's walks alone
set_option linter.unusedVariables false
set_option linter.unusedSimpArgs false
def z1C.f (k : Nat) (a0 : Int) : Option (Int):=(zC.f k a0).bind fun t101=>(if t101 = 0 then (some 0) else (if 0 ≤ a0 then (some (shl .i64 1 a0)) else (none)))
theorem z1C.mono : ∀ a0 k,LeO (z1C.f k a0) (z1C.f (k + 1) a0):=by
 intro a0 k
 unfold z1C.f
 repeat' first
  | (with_reducible exact zC.mono _ _)
  | (with_reducible exact LeO.refl _)
  | (with_reducible exact LeO.none _)
  | (with_reducible refine LeO.ite ?_ ?_)
  | (with_reducible refine LeO.bind ?_ (fun _=>?_))
  | exact zC.mono _ _
  | exact LeO.none _
  | refine LeO.ite ?_ ?_
  | refine LeO.bind ?_ (fun _=>?_)
set_option maxHeartbeats 8000000 in
set_option maxRecDepth 100000 in
theorem z1C.calls (k : Nat) (a0 : Int) (r : Int) (w : World) (h : z1C.f k a0 = some r) :
 Calls Try.prog 102 #[.int .i64 a0] w fun e w'=>e = .returned (.int .i64 r) ∧ Drawn0 w w':=by
 have H : ((zC.f k a0).bind fun t101=>(if t101 = 0 then (some 0) else (if 0 ≤ a0 then (some (shl .i64 1 a0)) else (none)))) = some r:=h
 clear h
 replace H:=Option.bind_eq_some_iff.mp H
 obtain ⟨t101,A20,H⟩:=H
 replace H : (if t101 = 0 then (some 0) else (if 0 ≤ a0 then (some (shl .i64 1 a0)) else (none))) = some r:=H
 have A2:=z4.mk A20
 clear A20
 by_cases c3 : t101 = 0
 · rw [if_pos c3] at H
   have c3b0 : (t101 == 0) = true:=beq_iff_eq.mpr c3
   have c3b1 : (t101 != 0) = false:=bne_eq_false_iff_eq.mpr c3
   clear c3
   obtain rfl:=Option.some.inj H
   go_enter Try.func102,Try.ntmps102
   go_wp2_with (first|((with_reducible refine zl (f:=75) rfl ?_);refine goesL_ (some 4) rfl rfl Try.func75 zz84 rfl #[.int .i64 a0] rfl zz44 ?_;(with_reducible refine (zC.calls k a0 t101 _ A2.out).mono ?_);rintro e w' ⟨rfl,⟨nd,rfl⟩⟩;refine ⟨_,rfl,?_⟩))
   go_ret
   exact ⟨by first|rfl|(simp;done)|(simp [*];done),by repeat (first|exact Drawn0.refl _|apply Drawn0.step)⟩
 rw [if_neg c3] at H
 have c3b0 : (t101 == 0) = false:=beq_eq_false_iff_ne.mpr c3
 have c3b1 : (t101 != 0) = true:=bne_iff_ne.mpr c3
 by_cases c4 : 0 ≤ a0
 rotate_left
 · rw [if_neg c4] at H
   exact absurd H zz87
 rw [if_pos c4] at H
 have c4b0:=eq_true c4
 have c4b1 : decide (0 ≤ a0) = true:=decide_eq_true c4
 clear c4
 obtain ⟨ji5,hji5⟩ : ∃ j_ : Int,(shl .i64 1 a0) = j_:=⟨_,rfl⟩
 replace H : (some ji5) = some r:=by first|(rw [hji5] at H;exact H)|(simp only [hji5] at H ⊢;exact H)
 (try rw [hji5] at A2)
 have hji5_ : (IntKind.i64.wrap (1 * 2 ^ min a0.toNat 64)) = ji5:=hji5
 have hji5z : a0 ≤ 64 → (IntKind.i64.wrap (1 * 2 ^ a0.toNat)) = ji5:=z1L hji5
 have hji5u : (IntKind.i64.wrap (2 ^ min a0.toNat 64)) = ji5:=by have h_:=hji5_;rw [Int.one_mul] at h_;exact h_
 have hji5v : a0 ≤ 64 → (IntKind.i64.wrap (2 ^ a0.toNat)) = ji5:=fun hle_=>by have h_:=hji5z hle_;rw [Int.one_mul] at h_;exact h_
 have hji5y : (wrap64 (1 * 2 ^ min a0.toNat 64)) = ji5:=(zY _).symm.trans hji5_
 have hji5x : a0 ≤ 64 → (wrap64 (1 * 2 ^ a0.toNat)) = ji5:=fun h_=>(zY _).symm.trans (hji5z h_)
 obtain rfl:=Option.some.inj H
 go_enter Try.func102,Try.ntmps102
 go_wp2_with (first|((with_reducible refine zl (f:=75) rfl ?_);refine goesL_ (some 4) rfl rfl Try.func75 zz84 rfl #[.int .i64 a0] rfl zz44 ?_;(with_reducible refine (zC.calls k a0 t101 _ A2.out).mono ?_);rintro e w' ⟨rfl,⟨nd,rfl⟩⟩;refine ⟨_,rfl,?_⟩))
 go_ret
 exact ⟨by first|rfl|(simp;done)|(simp only [← hji5] <;> (first|rfl|simp))|(simp [*];done),by repeat (first|exact Drawn0.refl _|apply Drawn0.step)⟩
end Go.Proofs.Ytklkmflhnljbdaa.P
namespace Go.Proofs.Ytklkmflhnljbdaa.P
open Go.RowKit Go.Proofs.YtklkmflhnljbdaaW.PrintWords Go.Proofs.YtklkmflhnljbdaaW.PrintLast Go.Proofs.YtklkmflhnljbdaaW.PrintMore
attribute [local go_sem] z17 z19 z1m z1n zU zV z18 z1a   -- for this text's walks alone
set_option linter.unusedVariables false
set_option linter.unusedSimpArgs false
def z11.l0 : Nat → List (S37) → List Bool → Int → Int → Option ((List (S37)))
 | 0,_,_,_,_=>none
 | k + 1,x5,x17,x18,x19=>if x19 < x18 then (if 0 ≤ x19 then (if x19 < (x17.length : Int) then (if rdOf false x17 x19 = true then ((z1Z.f).bind fun bt111=>(if x19 < (x5.length : Int) then (z11.l0 k (x5.set (x19 : Int).toNat (⟨bt111.1,bt111.2⟩ : S37)) x17 x18 (wrap64 (x19 + 1))) else (none))) else (z11.l0 k x5 x17 x18 (wrap64 (x19 + 1)))) else (none)) else (none)) else (some x5)
def z11.f (k : Nat) (a0 : Int) (a1_0 : Int) (a1_1 : Int) : Option ((List (S37))):=(zJ.f k a0 a1_0 a1_1).bind fun t102=>(if t102 = true then ((z1C.f k a0).bind fun t103=>(if 0 ≤ t103 then (if (t103 : Int).toNat ≤ 17592186044416 then ((zP.f k a0 a1_0 a1_1).bind fun t107=>(z11.l0 k (List.replicate (t103 : Int).toNat z37) t107 (t107.length : Int) 0)) else (none)) else (none))) else (some ([] : List (S37))))
theorem z11.z1b : ∀ k,(∀ y0 y1 y2 y3,LeO (z11.l0 k y0 y1 y2 y3) (z11.l0 (k + 1) y0 y1 y2 y3))
 | 0=>fun _ _ _ _ r h=>by simp [z11.l0] at h
 | k + 1=>by
  have ih0:=z11.z1b k
  · intro y0 y1 y2 y3
    unfold z11.l0
    repeat' first
    | (with_reducible exact ih0 _ _ _ _)
    | (with_reducible exact zJ.mono _ _ _ _)
    | (with_reducible exact z1C.mono _ _)
    | (with_reducible exact zP.mono _ _ _ _)
    | (with_reducible exact LeO.refl _)
    | (with_reducible exact LeO.none _)
    | (with_reducible refine LeO.ite ?_ ?_)
    | (with_reducible refine LeO.bind ?_ (fun _=>?_))
    | exact ih0 _ _ _ _
    | exact zJ.mono _ _ _ _
    | exact z1C.mono _ _
    | exact zP.mono _ _ _ _
    | exact LeO.none _
    | refine LeO.ite ?_ ?_
    | refine LeO.bind ?_ (fun _=>?_)
theorem z11.mono : ∀ a0 a1 a2 k,LeO (z11.f k a0 a1 a2) (z11.f (k + 1) a0 a1 a2):=by
 intro a0 a1 a2 k
 have ih0:=z11.z1b k
 unfold z11.f
 repeat' first
  | (with_reducible exact ih0 _ _ _ _)
  | (with_reducible exact zJ.mono _ _ _ _)
  | (with_reducible exact z1C.mono _ _)
  | (with_reducible exact zP.mono _ _ _ _)
  | (with_reducible exact LeO.refl _)
  | (with_reducible exact LeO.none _)
  | (with_reducible refine LeO.ite ?_ ?_)
  | (with_reducible refine LeO.bind ?_ (fun _=>?_))
  | exact ih0 _ _ _ _
  | exact zJ.mono _ _ _ _
  | exact z1C.mono _ _
  | exact zP.mono _ _ _ _
  | exact LeO.none _
  | refine LeO.ite ?_ ?_
  | refine LeO.bind ?_ (fun _=>?_)
set_option maxHeartbeats 8000000 in
set_option maxRecDepth 100000 in
theorem z11.calls (k : Nat) (a0 : Int) (a1_0 : Int) (a1_1 : Int) (r : List (S37)) (w : World) (h : z11.f k a0 a1_0 a1_1 = some r) :
 Calls Try.prog 126 #[.int .i64 a0,.agg #[.int .u64 a1_0,.int .u64 a1_1]] w fun e w'=>∃ v0_ : Value,e = .returned (v0_) ∧ Kd.R k37 37 w' w.heap.size (fun _=>True) v0_ r ∧ Below w.heap.size w w':=by
 have hu37:=Try.underlying37
 have HB:=z4.mk (Below.refl w.heap.size w)
 have H : ((zJ.f k a0 a1_0 a1_1).bind fun t102=>(if t102 = true then ((z1C.f k a0).bind fun t103=>(if 0 ≤ t103 then (if (t103 : Int).toNat ≤ 17592186044416 then ((zP.f k a0 a1_0 a1_1).bind fun t107=>(z11.l0 k (List.replicate (t103 : Int).toNat z37) t107 (t107.length : Int) 0)) else (none)) else (none))) else (some ([] : List (S37))))) = some r:=h
 clear h
 replace H:=Option.bind_eq_some_iff.mp H
 obtain ⟨t102,A30,H⟩:=H
 replace H : (if t102 = true then ((z1C.f k a0).bind fun t103=>(if 0 ≤ t103 then (if (t103 : Int).toNat ≤ 17592186044416 then ((zP.f k a0 a1_0 a1_1).bind fun t107=>(z11.l0 k (List.replicate (t103 : Int).toNat z37) t107 (t107.length : Int) 0)) else (none)) else (none))) else (some ([] : List (S37)))) = some r:=H
 have A3:=z4.mk A30
 clear A30
 by_cases c4 : t102 = true
 rotate_left
 · replace c4:=Bool.eq_false_iff.mpr c4
   subst c4
   have H1 : (some ([] : List (S37))) = some r:=by rw [if_neg (show ¬ (false = true) by decide)] at H;exact H
   clear H
   have H:=H1
   clear H1
   obtain rfl:=Option.some.inj H
   go_enter Try.func126,Try.ntmps126
   go_wp2_with (first|((with_reducible refine zr (N:=3) rfl ?_);refine zy ?hg (N:=3) ?hd (cs:=#[.int .u64 a1_0,.int .u64 a1_1]) (t:=37) ?hr ?_;(case hd=>rfl);(case hg=>rfl);(case hr=>first|(go_simp;done)|(go_simp;rfl));intro gb101 hg w28 hbox hb;have n0_:=z4.mk (z9 zz45 hb);have n1_:=z4.mk (hbox);have n2_:=z4.mk ((by rw [hg];exact (ze zz45) : w.heap.size ≤ gb101));have n3_:=z4.mk ((by rw [hg];exact (ze zz45) : w.heap.size ≤ gb101));clear HB;have HB:=n0_;have BK101:=n1_;have GW101:=n2_;have GE101:=n3_;clear n0_ n1_ n2_ n3_;clear hb hbox hg;have hcz29_0 : w28.cell? ⟨gb101,0,none⟩ = some (.int .u64 a1_0):=(zf BK101.out 0).trans rfl;have hcz29_1 : w28.cell? ⟨gb101,1,none⟩ = some (.int .u64 a1_1):=(zf BK101.out 1).trans rfl;have hfz29_0:=za BK101.out 0;have hfz29_1:=za BK101.out 1)|((with_reducible refine zl (f:=82) rfl ?_);refine goesL_ (some 10) rfl rfl Try.func82 zz84 rfl #[.int .i64 a0,.agg #[.int .u64 a1_0,.int .u64 a1_1]] rfl zz44 ?_;(with_reducible refine (zJ.calls k a0 a1_0 a1_1 false _ A3.out).mono ?_);rintro e w30 ⟨rfl,hb⟩;refine ⟨_,rfl,?_⟩;have n0_:=z4.mk (zh (g:=gb101) (o:=.cells #[.int .u64 a1_0,.int .u64 a1_1] 37 (0,0)) zz46 hb);have n1_:=z4.mk (z9 zz40 hb);clear BK101;clear HB;have BK101:=n0_;have HB:=n1_;clear n0_ n1_;(try clear hb);(try clear hb2);(try clear hk);(try clear hi)))
   go_ret
   exact ⟨_,by first|rfl|(simp [zi,zj] <;> rfl)|(simp [*,zi,zj] <;> rfl),by first|exact Kd.z3e _ _ _ _ _|exact Kd.z3N _ _ _ _ _|exact Kd.z3Q _ _ _ _ _|exact Kd.z3O _ _ _ _ _|exact Kd.z3P _ _ _ _ _,by repeat (first|(with_reducible first|exact HB.out|apply zg|apply z6|apply zc|refine zd ?_ GE101.out)|exact HB.out)⟩
 subst c4
 have H1 : ((z1C.f k a0).bind fun t103=>(if 0 ≤ t103 then (if (t103 : Int).toNat ≤ 17592186044416 then ((zP.f k a0 a1_0 a1_1).bind fun t107=>(z11.l0 k (List.replicate (t103 : Int).toNat z37) t107 (t107.length : Int) 0)) else (none)) else (none))) = some r:=by rw [if_pos rfl] at H;exact H
 clear H
 have H:=H1
 clear H1
 replace H:=Option.bind_eq_some_iff.mp H
 obtain ⟨t103,A50,H⟩:=H
 replace H : (if 0 ≤ t103 then (if (t103 : Int).toNat ≤ 17592186044416 then ((zP.f k a0 a1_0 a1_1).bind fun t107=>(z11.l0 k (List.replicate (t103 : Int).toNat z37) t107 (t107.length : Int) 0)) else (none)) else (none)) = some r:=H
 have A5:=z4.mk A50
 clear A50
 by_cases c6 : 0 ≤ t103
 rotate_left
 · rw [if_neg c6] at H
   exact absurd H zz87
 rw [if_pos c6] at H
 have c6b0:=eq_true c6
 have c6b1 : decide (0 ≤ t103) = true:=decide_eq_true c6
 clear c6
 by_cases c7 : (t103 : Int).toNat ≤ 17592186044416
 rotate_left
 · rw [if_neg c7] at H
   exact absurd H zz87
 rw [if_pos c7] at H
 have c7b0:=eq_true c7
 have c7b1 : decide ((t103 : Int).toNat ≤ 17592186044416) = true:=decide_eq_true c7
 clear c7
 obtain ⟨y104,hy104⟩ : ∃ y_ : List (S37),y_ = (List.replicate (t103 : Int).toNat z37):=⟨_,rfl⟩
 replace H : ((zP.f k a0 a1_0 a1_1).bind fun t107=>(z11.l0 k y104 t107 (t107.length : Int) 0)) = some r:=by first|(rw [hy104];with_reducible exact H)|(have H2_:=(Option.bind_some _ _).symm.trans H;rw [hy104];with_reducible exact H2_)|(have H2_:=(Option.bind_some _ _).symm.trans H;with_reducible exact H2_)|with_reducible exact H|(rw [hy104];exact H)|exact H
 have Ny104:=z4.mk hy104
 clear hy104
 replace H:=Option.bind_eq_some_iff.mp H
 obtain ⟨t107,A80,H⟩:=H
 replace H : (z11.l0 k y104 t107 (t107.length : Int) 0) = some r:=H
 have A8:=z4.mk A80
 clear A80
 have H':=z4.mk H
 clear H
 go_enter Try.func126,Try.ntmps126
 go_wp2_with (first|((with_reducible refine zr (N:=3) rfl ?_);refine zy ?hg (N:=3) ?hd (cs:=#[.int .u64 a1_0,.int .u64 a1_1]) (t:=37) ?hr ?_;(case hd=>rfl);(case hg=>rfl);(case hr=>first|(go_simp;done)|(go_simp;rfl));intro gb101 hg w9 hbox hb;have n0_:=z4.mk (z9 zz45 hb);have n1_:=z4.mk (hbox);have n2_:=z4.mk ((by rw [hg];exact (ze zz45) : w.heap.size ≤ gb101));have n3_:=z4.mk ((by rw [hg];exact (ze zz45) : w.heap.size ≤ gb101));clear HB;have HB:=n0_;have BK101:=n1_;have GW101:=n2_;have GE101:=n3_;clear n0_ n1_ n2_ n3_;clear hb hbox hg;have hcz10_0 : w9.cell? ⟨gb101,0,none⟩ = some (.int .u64 a1_0):=(zf BK101.out 0).trans rfl;have hcz10_1 : w9.cell? ⟨gb101,1,none⟩ = some (.int .u64 a1_1):=(zf BK101.out 1).trans rfl;have hfz10_0:=za BK101.out 0;have hfz10_1:=za BK101.out 1)|((with_reducible refine zl (f:=82) rfl ?_);refine goesL_ (some 10) rfl rfl Try.func82 zz84 rfl #[.int .i64 a0,.agg #[.int .u64 a1_0,.int .u64 a1_1]] rfl zz44 ?_;(with_reducible refine (zJ.calls k a0 a1_0 a1_1 true _ A3.out).mono ?_);rintro e w11 ⟨rfl,hb⟩;refine ⟨_,rfl,?_⟩;have n0_:=z4.mk (zh (g:=gb101) (o:=.cells #[.int .u64 a1_0,.int .u64 a1_1] 37 (0,0)) zz46 hb);have n1_:=z4.mk (z9 zz40 hb);clear BK101;clear HB;have BK101:=n0_;have HB:=n1_;clear n0_ n1_;(try clear hb);(try clear hb2);(try clear hk);(try clear hi))|((with_reducible refine zl (f:=102) rfl ?_);refine goesL_ (some 13) rfl rfl Try.func102 zz84 rfl #[.int .i64 a0] rfl zz44 ?_;(with_reducible refine (z1C.calls k a0 t103 _ A5.out).mono ?_);rintro e w' ⟨rfl,⟨nd,rfl⟩⟩;refine ⟨_,rfl,?_⟩)|((with_reducible refine zr (N:=14) rfl ?_);refine Kd.z5W k37 _ 37 rfl (N:=14) rfl 101 _ _ rfl t103 rfl rfl Try.underlying101 (.agg #[(.int .u64 0),(.int .u64 0)]) 16 info37 rfl zz85 zz86 z37 (ok:=fun _=>True) (okp:=fun _=>True) (z1K _ _ _ z37 ) (fun _ hk=>hk) trivial (of_decide_eq_true zz80) (Nat.le_trans (Nat.mul_le_mul_right _ (of_decide_eq_true zz80 : t103.toNat ≤ 17592186044416)) zz86) (Below.refl _ _) (Nat.le_refl _) ?_;intro v105 w12 ho13 hb hg_ hnew_;clear hg_ hnew_;(first|rw [← Ny104.out] at ho13|(simp only [Int.reduceToNat] at ho13;rw [← Ny104.out] at ho13));have n0_:=z4.mk (Kd.z1e (Kd.z2c ho13 (g:=gb101) (o:=.cells #[.int .u64 a1_0,.int .u64 a1_1] 37 (0,0)) zz46) (ze zz40));have n1_:=z4.mk (zh (g:=gb101) (o:=.cells #[.int .u64 a1_0,.int .u64 a1_1] 37 (0,0)) zz46 hb);have n2_:=z4.mk (z9 zz40 hb);clear BK101;clear HB;have HO106:=n0_;have BK101:=n1_;have HB:=n2_;clear n0_ n1_ n2_;clear hb ho13;have hcz14_0 : w12.cell? ⟨gb101,0,none⟩ = some (.int .u64 a1_0):=(zf BK101.out 0).trans rfl;have hcz14_1 : w12.cell? ⟨gb101,1,none⟩ = some (.int .u64 a1_1):=(zf BK101.out 1).trans rfl;have hfz14_0:=za BK101.out 0;have hfz14_1:=za BK101.out 1)|((with_reducible refine zl (f:=127) rfl ?_);refine goesL_ (some 17) rfl rfl Try.func127 zz84 rfl #[.int .i64 a0,.agg #[.int .u64 a1_0,.int .u64 a1_1]] rfl zz44 ?_;(with_reducible refine (zP.calls k a0 a1_0 a1_1 t107 _ A8.out).mono ?_);rintro e w15 ⟨v108,rfl,ho0,hb⟩;refine ⟨_,rfl,?_⟩;have n0_:=z4.mk (Kd.zx zz55 hb);have n1_:=z4.mk (Kd.z1e ho0 (ze zz40));have n2_:=z4.mk (zh (g:=gb101) (o:=.cells #[.int .u64 a1_0,.int .u64 a1_1] 37 (0,0)) zz46 hb);have n3_:=z4.mk (z9 zz40 hb);clear HO106;clear BK101;clear HB;have HO106:=n0_;have HO109:=n1_;have BK101:=n2_;have HB:=n3_;clear n0_ n1_ n2_ n3_;(try clear hb);(try clear hb2);(try clear hk);(try clear hi);(try clear ho0);obtain ⟨Ao16,co16,eo16⟩:=Kd.z1j HO109.out;subst eo16))
 go_loopg [19] k (fun kq v19 w'=>∃ (x5_1 : List (S37)) (x19_1 : Int) (x102000_1 : Int) (x102001_1 : Int),v19 = .int .i64 x19_1 ∧ z4 (z11.l0 kq x5_1 t107 (t107.length : Int) x19_1 = some r) ∧ z4 (kq ≤ k) ∧ z4 (Kd.R k37 37 w' w.heap.size (fun k_=>k_ ≠ gb101) v105 x5_1) ∧ z4 (Kd.R Kd.bool 4 w' w.heap.size (fun _=>True) (.slice Ao16 t107.length co16) t107) ∧ z4 (w'.heap[gb101]? = some (.cells #[.int .u64 x102000_1,.int .u64 x102001_1] 37 (0,0))) ∧ z4 (Below w.heap.size w w'))
 case atStart=>exact ⟨(y104),(0),(a1_0),(a1_1),zz81,H',⟨Nat.le_refl _⟩,⟨by (with_reducible repeat (first|apply Kd.zH|apply Kd.zI|apply Kd.zS));exact Kd.z12 HO106.out (fun _ hk=>hk.2)⟩,⟨by (with_reducible repeat (first|apply Kd.zH|apply Kd.zI|apply Kd.zS));exact HO109.out⟩,⟨by (with_reducible repeat (first|refine z8 ?_ _|refine zb ?_|refine z7 ?_ _));exact BK101.out⟩,⟨by repeat (first|(with_reducible first|exact HB.out|apply zg|apply z6|apply zc|refine zd ?_ GE101.out)|exact HB.out)⟩⟩
 case round =>
  clear H'
  (try clear c1);(try clear p2);(try clear c4);(try clear c6);(try clear c6b0);(try clear c6b1);(try clear c7);(try clear c7b0);(try clear c7b1);(try clear c8);(try clear c10);(try clear c12);(try clear hcz10_0);(try clear hcz10_1);(try clear hcz14_0);(try clear hcz14_1);(try clear hfz10_0);(try clear hfz10_1);(try clear hfz14_0);(try clear hfz14_1)
  obtain ⟨x5_1,x19_1,x102000_1,x102001_1,rfl,HA,HK1,HO_5,HO_17,BK101,HB⟩:=hrel
  cases gk with
  | zero=>exact absurd HA.out (by simp [z11.l0])
  | succ k1 =>
   have H:=HA.out
   clear HA
   simp only [z11.l0] at H
   by_cases c17 : x19_1 < (t107.length : Int)
   rotate_left
   · rw [if_neg c17] at H
     have c17b0 : decide (x19_1 < (t107.length : Int)) = false:=decide_eq_false c17
     clear c17
     obtain rfl:=Option.some.inj H
     go_wp2
     go_ret
     exact ⟨_,by first|rfl|(simp [zi,zj] <;> rfl)|(simp [*,zi,zj] <;> rfl),by (with_reducible repeat (first|apply Kd.zH|apply Kd.zI|apply Kd.zS));exact Kd.z12 HO_5.out (fun _ hk=>trivial),by repeat (first|(with_reducible first|exact HB.out|apply zg|apply z6|apply zc|refine zd ?_ GE101.out)|exact HB.out)⟩
   rw [if_pos c17] at H
   have c17b0 : decide (x19_1 < (t107.length : Int)) = true:=decide_eq_true c17
   clear c17
   by_cases c18 : 0 ≤ x19_1
   rotate_left
   · rw [if_neg c18] at H
     exact absurd H zz87
   rw [if_pos c18] at H
   have c18b0 : decide (0 ≤ x19_1) = true:=decide_eq_true c18
   clear c18
   by_cases c19 : x19_1 < (t107.length : Int)
   rotate_left
   · rw [if_neg c19] at H
     exact absurd H zz87
   rw [if_pos c19] at H
   have c19b0 : decide (x19_1 < (t107.length : Int)) = true:=decide_eq_true c19
   clear c19
   obtain ⟨bq20,hbq20⟩ : ∃ b_ : Bool,b_ = (rdOf false t107 x19_1):=⟨_,rfl⟩
   replace H : (if bq20 = true then ((z1Z.f).bind fun bt111=>(if x19_1 < (x5_1.length : Int) then (z11.l0 k1 (x5_1.set (x19_1 : Int).toNat (⟨bt111.1,bt111.2⟩ : S37)) t107 (t107.length : Int) (wrap64 (x19_1 + 1))) else (none))) else (z11.l0 k1 x5_1 t107 (t107.length : Int) (wrap64 (x19_1 + 1)))) = some r:=by rw [← hbq20] at H;exact H
   have Nbq20:=z4.mk hbq20
   clear hbq20
   by_cases c21 : bq20 = true
   rotate_left
   · replace c21:=Bool.eq_false_iff.mpr c21
     subst c21
     have H1 : (z11.l0 k1 x5_1 t107 (t107.length : Int) (wrap64 (x19_1 + 1))) = some r:=by rw [if_neg (show ¬ (false = true) by decide)] at H;exact H
     clear H
     have H:=H1
     clear H1
     have H':=z4.mk H
     clear H
     have p110 : 0 ≤ (x19_1 : Int):=of_decide_eq_true zz80
     have q110 : x19_1 < (t107.length : Int):=of_decide_eq_true zz80
     obtain ⟨ad110,e110,hx110_0⟩:=Kd.z3C (Kd.zv HO_17.out).2.2 x19_1 p110 q110
     (try rw [← Nbq20.out] at hx110_0)
     cases e110
     replace p110:=eq_true p110
     replace q110:=eq_true q110
     go_wp2
     go_roundg k1
     case measure=>have:=HK1.out;omega
     case rel=>exact ⟨(x5_1),(wrap64 (x19_1 + 1)),(x102000_1),(x102001_1),zz81,H',⟨by have:=HK1.out;omega⟩,⟨by (with_reducible repeat (first|apply Kd.zH|apply Kd.zI|apply Kd.zS));exact HO_5.out⟩,⟨by (with_reducible repeat (first|apply Kd.zH|apply Kd.zI|apply Kd.zS));exact HO_17.out⟩,⟨by (with_reducible repeat (first|refine z8 ?_ _|refine zb ?_|refine z7 ?_ _));exact BK101.out⟩,⟨by repeat (first|(with_reducible first|exact HB.out|apply zg|apply z6|apply zc|refine zd ?_ GE101.out)|exact HB.out)⟩⟩
   subst c21
   have H1 : ((z1Z.f).bind fun bt111=>(if x19_1 < (x5_1.length : Int) then (z11.l0 k1 (x5_1.set (x19_1 : Int).toNat (⟨bt111.1,bt111.2⟩ : S37)) t107 (t107.length : Int) (wrap64 (x19_1 + 1))) else (none))) = some r:=by rw [if_pos rfl] at H;exact H
   clear H
   have H:=H1
   clear H1
   replace H:=Option.bind_eq_some_iff.mp H
   obtain ⟨⟨t111,t112⟩,A220,H⟩:=H
   replace H : (if x19_1 < (x5_1.length : Int) then (z11.l0 k1 (x5_1.set (x19_1 : Int).toNat (⟨t111,t112⟩ : S37)) t107 (t107.length : Int) (wrap64 (x19_1 + 1))) else (none)) = some r:=H
   have A22:=z4.mk A220
   clear A220
   by_cases c23 : x19_1 < (x5_1.length : Int)
   rotate_left
   · rw [if_neg c23] at H
     exact absurd H zz87
   rw [if_pos c23] at H
   have c23b0 : decide (x19_1 < (x5_1.length : Int)) = true:=decide_eq_true c23
   clear c23
   obtain ⟨y113,hy113⟩ : ∃ y_ : List (S37),y_ = (x5_1.set (x19_1 : Int).toNat (⟨t111,t112⟩ : S37)):=⟨_,rfl⟩
   replace H : (z11.l0 k1 y113 t107 (t107.length : Int) (wrap64 (x19_1 + 1))) = some r:=by first|(rw [hy113];with_reducible exact H)|(have H2_:=(Option.bind_some _ _).symm.trans H;rw [hy113];with_reducible exact H2_)|(have H2_:=(Option.bind_some _ _).symm.trans H;with_reducible exact H2_)|with_reducible exact H|(rw [hy113];exact H)|exact H
   have Ny113:=z4.mk hy113
   clear hy113
   have H':=z4.mk H
   clear H
   have p110 : 0 ≤ (x19_1 : Int):=of_decide_eq_true zz80
   have q110 : x19_1 < (t107.length : Int):=of_decide_eq_true zz80
   obtain ⟨ad110,e110,hx110_0⟩:=Kd.z3C (Kd.zv HO_17.out).2.2 x19_1 p110 q110
   (try rw [← Nbq20.out] at hx110_0)
   cases e110
   replace p110:=eq_true p110
   replace q110:=eq_true q110
   go_wp2_with (first|((with_reducible refine zl (f:=93) rfl ?_);refine goesL_ (some 27) rfl rfl Try.func93 zz84 rfl #[] rfl zz44 ?_;(with_reducible refine (z1Z.calls  t111 t112 _ A22.out).mono ?_);rintro e w25 ⟨rfl,hb⟩;refine ⟨_,rfl,?_⟩;have n0_:=z4.mk (Kd.zx zz65 hb);have n1_:=z4.mk (Kd.zx zz64 hb);have n2_:=z4.mk (zh (g:=gb101) (o:=.cells #[.int .u64 x102000_1,.int .u64 x102001_1] 37 (0,0)) zz46 hb);have n3_:=z4.mk (z9 zz40 hb);clear HO_5;clear HO_17;clear BK101;clear HB;have HO_5:=n0_;have HO_17:=n1_;have BK101:=n2_;have HB:=n3_;clear n0_ n1_ n2_ n3_;(try clear hb);(try clear hb2);(try clear hk);(try clear hi);have p24 : 0 ≤ (x19_1 : Int):=of_decide_eq_true zz80;have q24 : (x19_1 : Int) < ((x5_1.length : Int) : Int):=of_decide_eq_true zz80;obtain ⟨go24,co24,eo24,gb24,gl24,cl24,HG24⟩:=Kd.z4F HO_5.out zz86;(first|cases eo24|(injection eo24 with ea_ en_ ec_;(first|subst ea_|(injection ea_ with ea_;subst ea_));subst ec_;clear en_));have GB24:=z4.mk gb24;have GG24:=z4.mk HG24;clear gb24 gl24 HG24;obtain ⟨ce24,hcl24,hM24,hcc24,hfr24⟩:=Kd.z2U HO_5.out z37 (x19_1 : Int) p24 q24;obtain rfl:=z22 hM24;have hx24_0 : w25.cell? ⟨go24,(x19_1 : Int).toNat * 2,none⟩ = some (.int .u64 ((rd_T37 x5_1 x19_1).f0)):=hcc24 0 _ rfl;have hx24_1 : w25.cell? ⟨go24,(x19_1 : Int).toNat * 2 + 1,none⟩ = some (.int .u64 ((rd_T37 x5_1 x19_1).f1)):=hcc24 1 _ rfl;have hf24_0 : w25.frozen? ⟨go24,(x19_1 : Int).toNat * 2,none⟩ = false:=hfr24 0;have hf24_1 : w25.frozen? ⟨go24,(x19_1 : Int).toNat * 2 + 1,none⟩ = false:=hfr24 1;clear hcl24 hcc24 hfr24 hM24;replace p24:=eq_true p24;replace q24:=eq_true q24;have HX26:=z4.mk (show Kd.R k37 37 w25 w.heap.size (fun k_=>k_ ≠ gb101) (.slice (some ⟨go24,0,none⟩) x5_1.length co24) x5_1 from zz65);obtain ⟨ce26,hcl26,hM26,hcc26,hfr26⟩:=Kd.z2U HX26.out z37 (x19_1 : Int) (of_decide_eq_true zz80) (by have h_ : (x19_1 : Int) < ((x5_1.length : Int) : Int):=of_decide_eq_true zz80;first|exact h_|(have e_:=(Kd.zv HO_5.out).1;omega)|simpa using h_);obtain rfl:=z22 hM26;have HP26:=Kd.z6r HX26.out (x19_1 : Int) (of_decide_eq_true zz80) (by have h_ : (x19_1 : Int) < ((x5_1.length : Int) : Int):=of_decide_eq_true zz80;first|exact h_|(have e_:=(Kd.zv HO_5.out).1;omega)|simpa using h_) (seg:=[.int .u64 t111,.int .u64 t112]) (j:=0) hcl26 hcc26 (show 2 ≤ 2 from by decide) (x':=(⟨t111,t112⟩ : S37)) (z1K _ _ _ (⟨t111,t112⟩ : S37) ) (fun _ hk=>hk);have hx26_0:=hcc26 0 _ rfl;(try simp only [show (k37).sz = 2 from rfl,Nat.mul_one,Nat.add_zero] at hx26_0);have hf26_0:=hfr26 0;(try simp only [show (k37).sz = 2 from rfl,Nat.mul_one,Nat.add_zero] at hf26_0);have hx26_1:=hcc26 1 _ rfl;(try simp only [show (k37).sz = 2 from rfl,Nat.mul_one,Nat.add_zero] at hx26_1);have hf26_1:=hfr26 1;(try simp only [show (k37).sz = 2 from rfl,Nat.mul_one,Nat.add_zero] at hf26_1);clear hcl26 hcc26 hfr26 hM26)|((with_reducible refine z4N (t:=37) (p:=28) rfl ?_);refine z4m (t:=37) (p:=28) (v:=?vo_w27) (w1:=((w25.setCell ⟨go24,(x19_1 : Int).toNat * 2,none⟩ (.int .u64 t111)).setCell ⟨go24,(x19_1 : Int).toNat * 2 + 1,none⟩ (.int .u64 t112))) ?hg ?ho ?hn ?hr ?_;(case ho=>rfl);(case hg=>rfl);(case hn=>rfl);(case hr=>first|(go_simp;done)|(go_simp;rfl));intro w27 hw;have hg : w25.grownBy w27 (some go24):=(by rw [hw];exact HP26.2);have hp_ : Kd.R k37 37 w27 w.heap.size (fun k_=>k_ ≠ gb101) (.slice (some ⟨go24,0,none⟩) x5_1.length co24) y113:=(by rw [hw,Ny113.out];exact HP26.1);clear HP26;have n0_:=z4.mk (hp_);have n1_:=z4.mk (Kd.R_over' (v:=(.slice (some ⟨go24,0,none⟩) x5_1.length co24)) zz64 (Kd.R_typed HO_5.out) zz85 hg);have n2_:=z4.mk (z2h (g:=gb101) (o:=.cells #[.int .u64 x102000_1,.int .u64 x102001_1] 37 (0,0)) zz46 hg (Kd.z2H HO_5.out (fun _ hk=>hk)));have n3_:=z4.mk ((by rw [hw];exact zd (zd (HB.out) GB24.out) GB24.out : Below w.heap.size w w27));clear HO_5;clear HO_17;clear BK101;clear HB;have HO_5:=n0_;have HO_17:=n1_;have BK101:=n2_;have HB:=n3_;clear n0_ n1_ n2_ n3_;clear hg hw hp_))
   go_roundg k1
   case measure=>have:=HK1.out;omega
   case rel=>exact ⟨(y113),(wrap64 (x19_1 + 1)),(x102000_1),(x102001_1),zz81,H',⟨by have:=HK1.out;omega⟩,⟨by (with_reducible repeat (first|apply Kd.zH|apply Kd.zI|apply Kd.zS));exact HO_5.out⟩,⟨by (with_reducible repeat (first|apply Kd.zH|apply Kd.zI|apply Kd.zS));exact HO_17.out⟩,⟨by (with_reducible repeat (first|refine z8 ?_ _|refine zb ?_|refine z7 ?_ _));exact BK101.out⟩,⟨by repeat (first|(with_reducible first|exact HB.out|apply zg|apply z6|apply zc|refine zd ?_ GE101.out)|exact HB.out)⟩⟩
end Go.Proofs.Ytklkmflhnljbdaa.P
namespace Go.Proofs.Ytklkmflhnljbdaa.P
open Go.RowKit Go.Proofs.YtklkmflhnljbdaaW.PrintWords Go.Proofs.YtklkmflhnljbdaaW.PrintLast Go.Proofs.YtklkmflhnljbdaaW.PrintMore
attribute [local go_sem] z17 z19 z1m z1n zU zV z18 z1a   -- for this text's walks alone
set_option linter.unusedVariables false
set_option linter.unusedSimpArgs false
def z2s.f (k : Nat) (a0 : Int) : Option ((List (S37))):=(z1Z.f).bind fun bt101=>((z11.f k a0 bt101.1 bt101.2).bind fun t103=>(some t103))
theorem z2s.mono : ∀ a0 k,LeO (z2s.f k a0) (z2s.f (k + 1) a0):=by
 intro a0 k
 unfold z2s.f
 repeat' first
  | (with_reducible exact z11.mono _ _ _ _)
  | (with_reducible exact LeO.refl _)
  | (with_reducible exact LeO.none _)
  | (with_reducible refine LeO.ite ?_ ?_)
  | (with_reducible refine LeO.bind ?_ (fun _=>?_))
  | exact z11.mono _ _ _ _
  | exact LeO.none _
  | refine LeO.ite ?_ ?_
  | refine LeO.bind ?_ (fun _=>?_)
set_option maxHeartbeats 8000000 in
set_option maxRecDepth 100000 in
theorem z2s.calls (k : Nat) (a0 : Int) (r : List (S37)) (w : World) (h : z2s.f k a0 = some r) :
 Calls Try.prog 105 #[.int .i64 a0] w fun e w'=>∃ v0_ : Value,e = .returned (v0_) ∧ Kd.R k37 37 w' w.heap.size (fun _=>True) v0_ r ∧ Below w.heap.size w w':=by
 have HB:=z4.mk (Below.refl w.heap.size w)
 have H : ((z1Z.f).bind fun bt101=>((z11.f k a0 bt101.1 bt101.2).bind fun t103=>(some t103))) = some r:=h
 clear h
 replace H:=Option.bind_eq_some_iff.mp H
 obtain ⟨⟨t101,t102⟩,A20,H⟩:=H
 replace H : ((z11.f k a0 t101 t102).bind fun t103=>(some t103)) = some r:=H
 have A2:=z4.mk A20
 clear A20
 replace H:=Option.bind_eq_some_iff.mp H
 obtain ⟨t103,A30,H⟩:=H
 replace H : (some t103) = some r:=H
 have A3:=z4.mk A30
 clear A30
 obtain rfl:=Option.some.inj H
 go_enter Try.func105,Try.ntmps105
 go_wp2_with (first|((with_reducible refine zl (f:=93) rfl ?_);refine goesL_ (some 4) rfl rfl Try.func93 zz84 rfl #[] rfl zz44 ?_;(with_reducible refine (z1Z.calls  t101 t102 _ A2.out).mono ?_);rintro e w4 ⟨rfl,hb⟩;refine ⟨_,rfl,?_⟩;have n0_:=z4.mk (z9 zz45 hb);clear HB;have HB:=n0_;clear n0_;(try clear hb);(try clear hb2);(try clear hk);(try clear hi))|((with_reducible refine zl (f:=126) rfl ?_);refine goesL_ (some 5) rfl rfl Try.func126 zz84 rfl #[.int .i64 a0,.agg #[.int .u64 t101,.int .u64 t102]] rfl zz44 ?_;(with_reducible refine (z11.calls k a0 t101 t102 t103 _ A3.out).mono ?_);rintro e w5 ⟨v104,rfl,ho0,hb⟩;refine ⟨_,rfl,?_⟩;have n0_:=z4.mk (Kd.z1e ho0 (ze zz45));have n1_:=z4.mk (z9 zz45 hb);clear HB;have HO105:=n0_;have HB:=n1_;clear n0_ n1_;(try clear hb);(try clear hb2);(try clear hk);(try clear hi);(try clear ho0)))
 go_ret
 exact ⟨_,by first|rfl|(simp [zi,zj] <;> rfl)|(simp [*,zi,zj] <;> rfl),by (with_reducible repeat (first|apply Kd.zH|apply Kd.zI|apply Kd.zS));exact HO105.out,by repeat (first|(with_reducible first|exact HB.out|apply zg|apply z6|apply zc)|exact HB.out)⟩
end Go.Proofs.Ytklkmflhnljbdaa.P
/- Pairs of elements: what is on the left, on the right, and the document's pairs. Own text. -/
namespace Go.Proofs.Ytklkmflhnljbdaa.Sp
open Go.RowKit Go.Proofs.YtklkmflhnljbdaaW.PrintWords Go.Proofs.YtklkmflhnljbdaaW.PrintMore Go.Proofs.Ytklkmflhnljbdaa.P Go.Proofs.Ytklkmflhnljbdaa.Ar Go.Proofs.Ytklkmflhnljbdaa.Tw
set_option linter.unusedVariables false
/-- The pair of x and y: y beside each bit that x has. -/
def pick (b : Bool) (y : E) : E := if b then y else 0
theorem z1I (y : E) : pick true y = y := if_pos rfl
theorem z1p (y : E) : pick false y = 0 := if_neg Bool.false_ne_true
def pairX (n : Nat) (x y : E) : List E := (List.range n).map fun i => pick ((val x).testBit i) y
theorem z2g (n : Nat) (x y : E) : (pairX n x y).length = n := by simp [pairX]
theorem z2P {α : Type} (f : Nat → α) (d : α) (n i : Nat) (h : i < n) : ((List.range n).map f).getD i d = f i := by
  rw [List.getD_eq_getElem?_getD, List.getElem?_map, List.getElem?_range h]; rfl
theorem z5O {α : Type} (f : Nat → α) (n : Nat) : (List.range (n + 1)).map f = (List.range n).map f ++ [f n] := by
  rw [List.range_succ, List.map_append]; rfl
theorem z6B (n : Nat) (x y : E) (i : Nat) (h : i < n) : (pairX n x y).getD i 0 = pick ((val x).testBit i) y := z2P (fun i => pick ((val x).testBit i) y) 0 n i h
theorem z6C (n : Nat) (x y : E) : pairX (n + 1) x y = pairX n x y ++ [pick ((val x).testBit n) y] := z5O _ n
theorem w128 {l : Nat} (hl : l ≤ 7) : 2 ^ l ≤ 128 := Nat.pow_le_pow_right (n := 2) (by decide) hl
theorem size_in {l : Nat} (hl : l ≤ 7) : Ev (fun k => z1C.f k (l : Int)) ((2 ^ l : Nat) : Int) := by
  obtain ⟨v, hv, ev⟩ := z5a (L := (l : Int)) ⟨by omega, by omega⟩
  unfold z1C.f
  refine Ev.bnd ev (Ev.neg hv (Ev.pos (Int.natCast_nonneg _) (Ev.ret' ?_)))
  exact z32 l (by omega)
theorem size_out {L : Int} (h : ¬ LvS L) : Ev (fun k => z1C.f k L) 0 := by
  unfold z1C.f
  exact Ev.bnd (z3Y h) (Ev.pos rfl (Ev.ret _))
theorem lv_of {L : Int} {x : E} (h : OfS L x) : LvS L := ⟨h.1, h.2.1⟩
theorem left_l0 (x : E) (n : Nat) (hn : n ≤ 128) : ∀ (d i : Nat), i + d = n → Ev (fun k => z11.l0 k ((pairX i x 1 ++ List.replicate (n - i) 0).map toS) (bitsL x n) (n : Int) (i : Int)) ((pairX n x 1).map toS) := by
  intro d
  induction d with
  | zero =>
    intro i hid
    have : i = n := by omega
    subst this
    rw [Nat.sub_self, List.replicate_zero, List.append_nil]
    exact Ev.step (fun k => by rw [z11.l0]) (Ev.neg (by omega) (Ev.ret _))
  | succ d ih =>
    intro i hid
    have hi' : i < n := by omega
    have hih := ih (i + 1) (by omega)
    have hlb : (bitsL x n).length = n := by unfold bitsL; simp
    have hb : (bitsL x n).getD i false = (val x).testBit i := z2P _ false n i hi'
    have hp := z6C i x 1
    have hr : List.replicate (n - i) (0 : E) = 0 :: List.replicate (n - (i + 1)) 0 := by rw [show n - i = (n - (i + 1)) + 1 by omega, List.replicate_succ]
    have c3 : (i : Int) < (((pairX i x 1 ++ List.replicate (n - i) (0 : E)).map toS).length : Int) := by
      rw [List.length_map, List.length_append, z2g, List.length_replicate]; omega
    refine Ev.step (fun k => by rw [z11.l0]) (Ev.pos (by omega) (Ev.pos (Int.natCast_nonneg _) (Ev.pos (by rw [hlb]; omega) ?_)))
    simp only [z5P, hb, z1M hi' (show n ≤ 4611686018427387904 by omega)]
    cases c : (val x).testBit i with
    | true =>
      refine Ev.pos rfl (Ev.bnd0 z6M (Ev.pos c3 ?_))
      have e : ((pairX i x 1 ++ List.replicate (n - i) (0 : E)).map toS).set (i : Int).toNat (⟨hi 1, lo 1⟩ : S37) = (pairX (i + 1) x 1 ++ List.replicate (n - (i + 1)) 0).map toS := by
        have : (⟨hi 1, lo 1⟩ : S37) = toS 1 := rfl
        rw [Int.toNat_natCast, this, ← List.map_set, hr, hp, c, z1I, List.append_assoc]
        congr 1
        rw [List.set_append_right _ _ (by rw [z2g]; exact Nat.le_refl _), z2g, Nat.sub_self, List.set_cons_zero]; rfl
      rw [e]; exact hih
    | false =>
      refine Ev.neg (by decide) ?_
      rw [hp, c, z1p, List.append_assoc] at hih
      rw [hr]; exact hih
theorem z3V (n : Nat) : List.replicate n z37 = (List.replicate n (0 : E)).map toS := by rw [List.map_replicate, z6l]
/-- What stands on the left: x beside 1. -/
def leftO (L : Int) (x : E) : List E := if OfS L x then pairX (2 ^ L.toNat) x 1 else []
def rightO (L : Int) (x : E) : List E := if OfS L x then pairX (2 ^ L.toNat) 1 x else []
theorem Left_ev (L : Int) (x : E) : Ev (fun k => z11.f k L (hi x) (lo x)) ((leftO L x).map toS) := by
  unfold z11.f
  refine Ev.bnd (z4z L x) ?_
  by_cases c : OfS L x
  · obtain ⟨l, rfl⟩ := Int.eq_ofNat_of_zero_le c.1
    have hl : l ≤ 7 := by have := c.2.1; omega
    have h128 := w128 hl
    have e : leftO (l : Int) x = pairX (2 ^ l) x 1 := by unfold leftO; rw [if_pos c, Int.toNat_natCast]
    rw [e]
    have c128 : (((2 ^ l : Nat) : Int)).toNat ≤ 17592186044416 := by rw [Int.toNat_natCast]; exact Nat.le_trans h128 (by decide)
    refine Ev.pos (decide_eq_true c) ?_
    refine Ev.bnd (size_in hl) ?_
    refine Ev.pos (Int.natCast_nonneg _) ?_
    refine Ev.pos c128 ?_
    refine Ev.bnd (z3L hl x c) ?_
    have hlb : (bitsL x (2 ^ l)).length = 2 ^ l := by unfold bitsL; simp
    rw [hlb, z3V, Int.toNat_natCast]
    exact left_l0 x (2 ^ l) h128 (2 ^ l) 0 (Nat.zero_add _)
  · have e : leftO L x = [] := if_neg c
    rw [e]
    exact Ev.neg (by simpa using c) (Ev.ret _)
theorem One_ev (L : Int) : Ev (fun k => z2s.f k L) ((leftO L 1).map toS) := by
  unfold z2s.f
  exact Ev.bnd0 z6M (Ev.bnd (Left_ev L 1) (Ev.ret _))
theorem one_bit (i : Nat) : (val (1 : E)).testBit i = decide (i = 0) := by
  rw [z2F, show (1 : Nat) = 2 ^ 0 from rfl, Nat.testBit_two_pow]
  simp [eq_comm]
theorem pairX_one (n : Nat) (x : E) (hn : 0 < n) : pairX n 1 x = (List.replicate n (0 : E)).set 0 x := by
  apply List.ext_getElem
  · rw [z2g]; simp
  · intro i h1 h2
    rw [z2g] at h1
    have e1 : (pairX n 1 x)[i] = (pairX n 1 x).getD i 0 := by rw [List.getD_eq_getElem?_getD, List.getElem?_eq_getElem (by rw [z2g]; exact h1)]; rfl
    rw [e1, z6B n 1 x i h1, one_bit, List.getElem_set]
    by_cases c : i = 0
    · subst c; simp [z1I]
    · rw [decide_eq_false c, z1p, if_neg (fun h => c h.symm), List.getElem_replicate]
end Go.Proofs.Ytklkmflhnljbdaa.Sp
/- Sums of elements, weights and values of tables; lists of elements. Own text; nothing of the program in it. -/
namespace Go.Proofs.Ytklkmflhnljbdaa.Sp
open Go.RowKit Go.Proofs.YtklkmflhnljbdaaW.PrintWords Go.Proofs.YtklkmflhnljbdaaW.PrintMore Go.Proofs.Ytklkmflhnljbdaa.P Go.Proofs.Ytklkmflhnljbdaa.Ar Go.Proofs.Ytklkmflhnljbdaa.Tw
set_option linter.unusedVariables false
set_option linter.unusedSimpArgs false
/-- Sums. -/
def sumN (f : Nat → E) : Nat → E
  | 0 => 0
  | n + 1 => sumN f n + f n
theorem z1F {f g : Nat → E} : ∀ n, (∀ i, i < n → f i = g i) → sumN f n = sumN g n
  | 0, _ => rfl
  | n + 1, h => by rw [sumN, sumN, z1F n (fun i hi => h i (by omega)), h n (by omega)]
theorem z2S (f g : Nat → E) : ∀ n, sumN (fun i => f i + g i) n = sumN f n + sumN g n
  | 0 => (add_zero _).symm
  | n + 1 => by
    rw [sumN, sumN, sumN, z2S f g n]
    simp only [add_assoc, z1X]
theorem z6i (c : E) (f : Nat → E) : ∀ n, sumN (fun i => c * f i) n = c * sumN f n
  | 0 => (mul_zero _).symm
  | n + 1 => by rw [sumN, sumN, z6i c f n, mul_add]
theorem z4p : ∀ n, sumN (fun _ => (0 : E)) n = 0
  | 0 => rfl
  | n + 1 => by rw [sumN, z4p n, add_zero]
theorem z4n (f : Nat → E) : ∀ n, sumN f (2 * n) = sumN (fun i => f (2 * i) + f (2 * i + 1)) n
  | 0 => rfl
  | n + 1 => by
    rw [show 2 * (n + 1) = 2 * n + 1 + 1 by omega, sumN, sumN, sumN, z4n f n, add_assoc]
theorem z4R (f : Nat → E) (m : Nat) : ∀ n, sumN f (m + n) = sumN f m + sumN (fun i => f (m + i)) n
  | 0 => (add_zero _).symm
  | n + 1 => by rw [← Nat.add_assoc, sumN, sumN, z4R f m n, add_assoc]
/-- A corner's weight at a point. -/
def weight : List E → Nat → E
  | [], _ => 1
  | p :: ps, i => (if i % 2 = 1 then p else 1 + p) * weight ps (i / 2)
/-- A table's value at a point. -/
def value (X P : List E) : E := sumN (fun i => X.getD i 0 * weight P i) X.length
/-- A table bound in its first variable. -/
def first (r : E) (X : List E) : List E := (List.range (X.length / 2)).map fun i => X.getD (2 * i) 0 + r * (X.getD (2 * i) 0 + X.getD (2 * i + 1) 0)
def firsts : List E → List E → List E
  | [], X => X
  | r :: rs, X => firsts rs (first r X)
theorem z2Y (r : E) (X : List E) : (first r X).length = X.length / 2 := by simp [first]
theorem z6y (r : E) (X : List E) (i : Nat) (h : i < X.length / 2) : (first r X).getD i 0 = X.getD (2 * i) 0 + r * (X.getD (2 * i) 0 + X.getD (2 * i + 1) 0) := by
  rw [List.getD_eq_getElem?_getD]; simp [first, h]
theorem z6v (a b r : E) : a + r * (a + b) = (1 + r) * a + r * b := by
  rw [add_mul, one_mul, mul_add, add_assoc]
theorem z5S (X : List E) (r : E) (P : List E) (h : X.length = 2 * (X.length / 2)) : value X (r :: P) = value (first r X) P := by
  unfold value
  rw [z2Y]
  conv => lhs; rw [h]
  rw [z4n]
  apply z1F
  intro i hi
  rw [z6y r X i hi, weight, weight, if_neg (by omega), if_pos (by omega), show 2 * i / 2 = i by omega, show (2 * i + 1) / 2 = i by omega, z6v]
  rw [← mul_assoc, ← mul_assoc, mul_comm (X.getD (2 * i) 0), mul_comm (X.getD (2 * i + 1) 0), ← add_mul]
theorem pow_len {X : List E} {k : Nat} (h : X.length = 2 ^ (k + 1)) : X.length = 2 * (X.length / 2) := by rw [h, Nat.pow_succ]; omega
theorem z3n : ∀ (R X : List E) (k : Nat), X.length = 2 ^ k → R.length ≤ k → (firsts R X).length = 2 ^ (k - R.length)
  | [], X, k, h, _ => by rw [firsts, h]; rfl
  | r :: rs, X, k, h, hk => by
    rw [List.length_cons] at hk
    obtain ⟨k', rfl⟩ : ∃ k', k = k' + 1 := ⟨k - 1, by omega⟩
    rw [firsts, z3n rs (first r X) k' (by rw [z2Y, h, Nat.pow_succ]; omega) (by omega), List.length_cons]
    congr 1; omega
theorem z3M : ∀ (R X P : List E) (k : Nat), X.length = 2 ^ k → R.length ≤ k → value X (R ++ P) = value (firsts R X) P
  | [], X, P, k, _, _ => rfl
  | r :: rs, X, P, k, h, hk => by
    rw [List.length_cons] at hk
    obtain ⟨k', rfl⟩ : ∃ k', k = k' + 1 := ⟨k - 1, by omega⟩
    rw [List.cons_append, z5S X r (rs ++ P) (pow_len h), firsts]
    exact z3M rs (first r X) P k' (by rw [z2Y, h, Nat.pow_succ]; omega) (by omega)
theorem z7D {X : List E} (h : X.length = 1) : value X [] = X.getD 0 0 := by
  unfold value; rw [h, sumN, sumN, zero_add, weight, mul_one]
theorem value_eq (X P : List E) (h : X.length = 2 ^ P.length) : value X P = (firsts P X).getD 0 0 := by
  have := z3M P X [] P.length h (Nat.le_refl _)
  rw [List.append_nil] at this
  rw [this, z7D (by rw [z3n P X P.length h (Nat.le_refl _), Nat.sub_self, Nat.pow_zero])]

/-- k of 2^k, as both tell it. -/
theorem map_set {α β : Type} (f : α → β) (X : List α) (i : Nat) (x : α) : (X.map f).set i (f x) = (X.set i x).map f := by rw [List.map_set]
theorem z5A (x : E) : (⟨hi x, lo x⟩ : S37) = toS x := rfl
theorem toR_mk (x : E) : (⟨hi x, lo x⟩ : S48) = toR x := rfl
theorem z4X {X : List E} {i : Nat} (h : i < X.length) (x : E) : (X.set i x).getD i 0 = x := by
  rw [List.getD_eq_getElem?_getD, List.getElem?_set_self h]; rfl
theorem getD_set_ne {X : List E} {i j : Nat} (h : i ≠ j) (x : E) : (X.set i x).getD j 0 = X.getD j 0 := by
  rw [List.getD_eq_getElem?_getD, List.getD_eq_getElem?_getD, List.getElem?_set_ne h]
theorem z3m {X Y : List E} (hl : X.length = Y.length) (h : ∀ i, i < X.length → X.getD i 0 = Y.getD i 0) : X = Y := by
  apply List.ext_getElem hl
  intro j h1 h2
  have := h j h1
  simpa [List.getD_eq_getElem?_getD, h1, h2] using this
theorem getD_take {X : List E} {i m : Nat} (h : i < m) : (X.take m).getD i 0 = X.getD i 0 := by
  rw [List.getD_eq_getElem?_getD, List.getD_eq_getElem?_getD, List.getElem?_take_of_lt h]
theorem z2t {l : Nat} {X : List E} (h : AllS (l : Int) X) (i : Nat) : InL l (X.getD i 0) := by
  rw [List.getD_eq_getElem?_getD]
  by_cases c : i < X.length
  · rw [List.getElem?_eq_getElem c]
    have := (h _ (List.getElem_mem c)).2.2
    rw [Int.toNat_natCast] at this; exact this
  · rw [List.getElem?_eq_none (by omega)]; exact z4Z l
theorem allS_first {l : Nat} (hl : l ≤ 7) {X : List E} {r : E} (hX : AllS (l : Int) X) (hr : InL l r) : AllS (l : Int) (first r X) := by
  intro x hx
  unfold first at hx
  rw [List.mem_map] at hx
  obtain ⟨i, _, rfl⟩ := hx
  refine ⟨by omega, by omega, ?_⟩
  rw [Int.toNat_natCast]
  exact z4Y (z2t hX _) (z4a hl hr (z4Y (z2t hX _) (z2t hX _)))
theorem half_len (n : Nat) (h : n ≤ 1000000) : wrap64 ((n : Int) / 2) = ((n / 2 : Nat) : Int) := by rw [z28 (by omega) (by omega)]; omega
theorem w64_dbl {i : Nat} (h : i ≤ 1000000) : wrap64 (2 * (i : Int)) = ((2 * i : Nat) : Int) := by rw [z28 (by omega) (by omega)]; omega
end Go.Proofs.Ytklkmflhnljbdaa.Sp
/- Sums of pairs of elements: bits of elements are sums, and a pair times an element on the left is the pair of the product. Own text; nothing of the program in it. -/
namespace Go.Proofs.Ytklkmflhnljbdaa.Sp
open Go.RowKit Go.Proofs.YtklkmflhnljbdaaW.PrintWords Go.Proofs.YtklkmflhnljbdaaW.PrintMore Go.Proofs.Ytklkmflhnljbdaa.P Go.Proofs.Ytklkmflhnljbdaa.Ar Go.Proofs.Ytklkmflhnljbdaa.Tw
set_option linter.unusedVariables false
theorem z3U (b : Bool) (y z : E) : pick b (y + z) = pick b y + pick b z := by
  cases b
  · rw [z1p, z1p, z1p, add_zero]
  · rw [z1I, z1I, z1I]
theorem z54 (b : Bool) (y z : E) : pick b (y * z) = pick b y * z := by
  cases b
  · rw [z1p, z1p, zero_mul]
  · rw [z1I, z1I]
theorem z5t (b : Bool) : pick b (0 : E) = 0 := by
  cases b
  · exact z1p _
  · exact z1I _
theorem pick_xor (a b : Bool) (y : E) : pick (a ^^ b) y = pick a y + pick b y := by
  cases a <;> cases b
  · show pick false y = _; rw [z1p, add_zero]
  · show pick true y = _; rw [z1p, z1I, zero_add]
  · show pick true y = _; rw [z1p, z1I, add_zero]
  · show pick false y = _; rw [z1p, z1I, z21]
theorem z7r (a b : Bool) (y : E) : pick a (pick b y) = pick b (pick a y) := by
  cases a <;> cases b <;> simp only [z1I, z1p]
/-- Has an element the bit? -/
def hasB (x : E) (k : Nat) : Bool := (val x).testBit k
theorem hasB_add (x y : E) (k : Nat) : hasB (x + y) k = (hasB x k ^^ hasB y k) := by
  unfold hasB; rw [z1U, Nat.testBit_xor]
theorem z5m (k : Nat) : hasB 0 k = false := by unfold hasB; rw [z1N, Nat.zero_testBit]
/-- What the bit k of z picks of y is a sum in z. -/
theorem z3r (x z y : E) (k : Nat) : pick (hasB (x + z) k) y = pick (hasB x k) y + pick (hasB z k) y := by rw [hasB_add, pick_xor]
theorem z3s (f : Nat → E) (y : E) (k : Nat) : ∀ n, pick (hasB (sumN f n) k) y = sumN (fun u => pick (hasB (f u) k) y) n
  | 0 => by rw [sumN, sumN, z5m, z1p]
  | n + 1 => by rw [sumN, sumN, z3r, z3s f y k n]
theorem z4A (b : Bool) (x y : E) (k : Nat) : pick (hasB (pick b x) k) y = pick b (pick (hasB x k) y) := by
  cases b
  · rw [z1p, z1p, z5m, z1p]
  · rw [z1I, z1I]
theorem z6e (b : Bool) (f : Nat → E) : ∀ n, pick b (sumN f n) = sumN (fun u => pick b (f u)) n
  | 0 => z5t b
  | n + 1 => by rw [sumN, sumN, z3U, z6e b f n]
theorem z4o (c : E) (f : Nat → E) (n : Nat) : sumN (fun i => f i * c) n = sumN f n * c := by
  rw [mul_comm, ← z6i]
  exact z1F n (fun i _ => mul_comm _ _)
theorem z5z (f : Nat → Nat → E) (n : Nat) : ∀ m, sumN (fun i => sumN (fun j => f i j) m) n = sumN (fun j => sumN (fun i => f i j) n) m
  | 0 => z4p n
  | m + 1 => by
    rw [sumN, ← z5z f n m, ← z2S]
    exact z1F n (fun i _ => rfl)
theorem sumN_one (f : Nat → E) (n i : Nat) (hi : i < n) (h : ∀ j, j < n → j ≠ i → f j = 0) : sumN f n = f i := by
  induction n with
  | zero => omega
  | succ n ih =>
    rw [sumN]
    by_cases c : i = n
    · subst c
      have : sumN f i = 0 := by
        rw [z1F (g := fun _ => 0) i (fun j hj => h j (by omega) (by omega))]; exact z4p i
      rw [this, zero_add]
    · rw [ih (by omega) (fun j hj hne => h j (by omega) hne), h n (by omega) (fun e => c e.symm), add_zero]
theorem z3W {n : Nat} (hn : n < 128) : val (bitE n) = 2 ^ n := by
  unfold bitE
  exact z2l 7 _ (by rw [z5E]; exact Nat.pow_lt_pow_right (by decide) hn)
theorem z6m (b : Bool) (x : E) : val (pick b x) = if b then val x else 0 := by
  cases b
  · rw [z1p, z1N]; rfl
  · rw [z1I]; rfl
/-- An element is the sum of its bits. -/
theorem z3F (x : E) : ∀ n, n ≤ 128 → val (sumN (fun u => pick (hasB x u) (bitE u)) n) = val x % 2 ^ n
  | 0, _ => by rw [sumN, z1N, Nat.pow_zero, Nat.mod_one]
  | n + 1, h => by
    rw [sumN, z1U, z3F x n (by omega), z6m, z3W (by omega)]
    apply Nat.eq_of_testBit_eq
    intro j
    rw [Nat.testBit_xor, Nat.testBit_mod_two_pow, Nat.testBit_mod_two_pow]
    show _ = _
    unfold hasB
    generalize val x = v
    by_cases c : j = n
    · subst c
      cases hb : v.testBit j with
      | true => rw [if_pos rfl, Nat.testBit_two_pow_self]; simp
      | false => rw [if_neg Bool.false_ne_true, Nat.zero_testBit]; simp
    · have h2 : (if v.testBit n then 2 ^ n else 0 : Nat).testBit j = false := by
        cases v.testBit n with
        | true => rw [if_pos rfl, Nat.testBit_two_pow]; simp; omega
        | false => rw [if_neg Bool.false_ne_true, Nat.zero_testBit]
      rw [h2, Bool.xor_false]
      have : decide (j < n + 1) = decide (j < n) := by rw [decide_eq_decide]; omega
      rw [this]
theorem expand {l : Nat} (hl : l ≤ 7) {x : E} (hx : InL l x) : sumN (fun u => pick (hasB x u) (bitE u)) (2 ^ l) = x := by
  apply z2E
  rw [z3F x (2 ^ l) (w128 hl)]
  exact Nat.mod_eq_of_lt hx
theorem z6T {l u : Nat} (hl : l ≤ 7) (hu : u < 2 ^ l) : InL l (bitE u) := by
  unfold InL Q
  rw [z3W (Nat.lt_of_lt_of_le hu (w128 hl))]
  exact Nat.pow_lt_pow_right (by decide) hu
theorem bitE_zero : bitE 0 = 1 := by
  apply z2E; rw [z3W (by decide), z2F]
/-- The bits of a product are sums of those of the products of bits. -/
theorem has_mul {l : Nat} (hl : l ≤ 7) {x : E} (hx : InL l x) (a y : E) (k : Nat) : sumN (fun u => pick (hasB x u) (pick (hasB (bitE u * a) k) y)) (2 ^ l) = pick (hasB (x * a) k) y := by
  have h1 : x * a = sumN (fun u => pick (hasB x u) (bitE u * a)) (2 ^ l) := by
    conv => lhs; rw [← expand hl hx]
    rw [← z4o]
    exact z1F _ (fun u _ => (z54 _ _ _).symm)
  rw [h1, z3s]
  exact z1F _ (fun u _ => (z4A _ _ _ _).symm)
/-- Part k of a tensor times an element on the left, its parts times another one. -/
def actT (n : Nat) (t : Nat → E) (a p : E) (k : Nat) : E := sumN (fun u => pick (hasB (bitE u * a) k) (t u * p)) n
theorem z6O {l : Nat} (hl : l ≤ 7) {x : E} (hx : InL l x) (y a p : E) (k : Nat) : actT (2 ^ l) (fun u => pick (hasB x u) y) a p k = pick (hasB (x * a) k) (y * p) := by
  unfold actT
  rw [← has_mul hl hx a (y * p) k]
  exact z1F _ (fun u _ => by rw [← z54, z7r])
theorem actT_congr (n : Nat) {t s : Nat → E} (a p : E) (k : Nat) (h : ∀ u, u < n → t u = s u) : actT n t a p k = actT n s a p k := by
  unfold actT; exact z1F _ (fun u hu => by rw [h u hu])
theorem actT_sum (n m : Nat) (t : Nat → Nat → E) (a p : E) (k : Nat) : actT n (fun u => sumN (fun i => t i u) m) a p k = sumN (fun i => actT n (t i) a p k) m := by
  unfold actT
  rw [z5z (fun i u => pick (hasB (bitE u * a) k) (t i u * p)) m n]
  exact z1F _ (fun u _ => by rw [← z4o, z6e])
theorem actT_add (n : Nat) (t s : Nat → E) (a p : E) (k : Nat) : actT n (fun u => t u + s u) a p k = actT n t a p k + actT n s a p k := by
  unfold actT
  rw [← z2S]
  exact z1F _ (fun u _ => by rw [add_mul, z3U])
theorem z5N {l : Nat} {x : E} (b : Bool) (h : InL l x) : InL l (pick b x) := by
  cases b
  · rw [z1p]; exact z4Z l
  · rw [z1I]; exact h
theorem z57 {l : Nat} (f : Nat → E) : ∀ n, (∀ i, i < n → InL l (f i)) → InL l (sumN f n)
  | 0, _ => z4Z l
  | n + 1, h => by rw [sumN]; exact z4Y (z57 f n (fun i hi => h i (by omega))) (h n (by omega))
theorem actT_in {l : Nat} (hl : l ≤ 7) (n : Nat) (t : Nat → E) (a p : E) (k : Nat) (ht : ∀ u, u < n → InL l (t u)) (hp : InL l p) : InL l (actT n t a p k) :=
  z57 _ n (fun u hu => z5N _ (z4a hl (ht u hu) hp))
/-- Weights, variable by variable from behind. -/
theorem z36 {l : Nat} (hl : l ≤ 7) : ∀ (P : List E) (i : Nat), (∀ p ∈ P, InL l p) → InL l (weight P i)
  | [], i, _ => z7c l
  | p :: ps, i, h => by
    have hp := h p List.mem_cons_self
    rw [weight]
    refine z4a hl ?_ (z36 hl ps (i / 2) (fun q hq => h q (List.mem_cons_of_mem _ hq)))
    split
    · exact hp
    · exact z4Y (z7c l) hp
theorem z3i (p : E) : ∀ (P : List E) (i : Nat), weight (P ++ [p]) i = weight P i * (if i / 2 ^ P.length % 2 = 1 then p else 1 + p)
  | [], i => by
    show weight (p :: []) i = weight [] i * _
    rw [weight, weight, weight, mul_one, one_mul]
    simp
  | q :: Q, i => by
    show weight (q :: (Q ++ [p])) i = weight (q :: Q) i * _
    rw [weight, weight, z3i p Q (i / 2), mul_assoc, Nat.div_div_eq_div_mul, List.length_cons, Nat.pow_succ, Nat.mul_comm 2]
theorem z4u (b : Nat) : ∀ (P : List E) (i : Nat), i < 2 ^ P.length → weight P (2 ^ P.length * b + i) = weight P i
  | [], i, _ => rfl
  | q :: Q, i, h => by
    rw [List.length_cons, Nat.pow_succ] at h
    have e1 : (2 ^ (q :: Q).length * b + i) % 2 = i % 2 := by
      rw [List.length_cons, Nat.pow_succ, Nat.mul_comm (2 ^ Q.length) 2, Nat.mul_assoc]; omega
    have e2 : (2 ^ (q :: Q).length * b + i) / 2 = 2 ^ Q.length * b + i / 2 := by
      rw [List.length_cons, Nat.pow_succ, Nat.mul_comm (2 ^ Q.length) 2, Nat.mul_assoc]; omega
    rw [weight, weight, e1, e2, z4u b Q (i / 2) (by omega)]
theorem z3G (p : E) (P : List E) (i : Nat) (h : i < 2 ^ P.length) : weight (P ++ [p]) i = weight P i * (1 + p) := by
  rw [z3i, Nat.div_eq_of_lt h]; rfl
theorem z4v (p : E) (P : List E) (i : Nat) (h : i < 2 ^ P.length) : weight (P ++ [p]) (2 ^ P.length + i) = weight P i * p := by
  have h0 := z4u 1 P i h
  rw [Nat.mul_one] at h0
  have e : (2 ^ P.length + i) / 2 ^ P.length % 2 = 1 := by
    rw [Nat.add_div_left _ (Nat.two_pow_pos _), Nat.div_eq_of_lt h]
  rw [z3i, h0, e]; rfl
/-- How alike two points are, part by part. -/
def alikeX (P R : List E) (k : Nat) : E := sumN (fun i => pick (hasB (weight P i) k) (weight R i)) (2 ^ P.length)
theorem alikeX_nil (k : Nat) : alikeX [] [] k = pick (hasB 1 k) 1 := by
  unfold alikeX
  show sumN _ 1 = _
  rw [sumN, sumN, zero_add]; rfl
theorem alikeX_snoc {l : Nat} (hl : l ≤ 7) (P R : List E) (p r : E) (hP : ∀ x ∈ P, InL l x) (hlen : P.length = R.length) (k : Nat) :
    alikeX (P ++ [p]) (R ++ [r]) k = alikeX P R k + actT (2 ^ l) (alikeX P R) p 1 k + alikeX P R k * r := by
  have e1 : actT (2 ^ l) (alikeX P R) p 1 k = sumN (fun i => pick (hasB (weight P i * p) k) (weight R i)) (2 ^ P.length) := by
    unfold alikeX
    rw [actT_sum]
    exact z1F _ (fun i _ => by rw [z6O hl (z36 hl P i hP), mul_one])
  have e2 : alikeX P R k * r = sumN (fun i => pick (hasB (weight P i) k) (weight R i * r)) (2 ^ P.length) := by
    unfold alikeX
    rw [← z4o]
    exact z1F _ (fun i _ => (z54 _ _ _).symm)
  rw [e1, e2]
  unfold alikeX
  rw [← z2S, ← z2S, List.length_append, List.length_singleton, Nat.pow_succ, Nat.mul_two, z4R, ← z2S]
  apply z1F
  intro i hi
  have hi' : i < 2 ^ R.length := by rw [← hlen]; exact hi
  rw [z3G p P i hi, z4v p P i hi, z3G r R i hi', show 2 ^ P.length + i = 2 ^ R.length + i by rw [hlen], z4v r R i hi']
  generalize weight P i = w
  generalize weight R i = v
  rw [mul_add, mul_add, mul_one, mul_one, z3r, z3U, z3U]
  generalize pick (hasB w k) v = a
  generalize pick (hasB (w * p) k) v = b
  generalize pick (hasB w k) (v * r) = c
  generalize pick (hasB (w * p) k) (v * r) = d
  have : a + c + (b + d) + d = a + b + c := by
    rw [add_assoc (a + c), add_assoc b d d, z21, add_zero, add_assoc a c b, add_comm c b, ← add_assoc]
  exact this
end Go.Proofs.Ytklkmflhnljbdaa.Sp
namespace Go.Proofs.Ytklkmflhnljbdaa.P
open Go.RowKit Go.Proofs.YtklkmflhnljbdaaW.PrintWords Go.Proofs.YtklkmflhnljbdaaW.PrintLast Go.Proofs.YtklkmflhnljbdaaW.PrintMore
attribute [local go_sem] z17 z19 z1m z1n zU zV z18 z1a   -- for this text's walks alone
set_option linter.unusedVariables false
set_option linter.unusedSimpArgs false
attribute [local go_sem high] eqA37
mutual
def zs.l0 : Nat → Int → List (S37) → List (S37) → Int → Int → Int → Int → Int → Int → Option ((List (S37)))
 | 0,_,_,_,_,_,_,_,_,_=>none
 | k + 1,x0,x1,x15,x16,x17,x102000,x102001,x103000,x103001=>if x17 < x16 then (if 0 ≤ x17 then (if x17 < (x15.length : Int) then ((zM.f k x0 ((rd_T37 x15 x17).f0) ((rd_T37 x15 x17).f1) x103000 x103001).bind fun bt105=>(if (bt105.1 == 0 && (bt105.2 == 0)) = true then (zs.l0 k x0 x1 x15 x16 (wrap64 (x17 + 1)) x102000 x102001 x103000 x103001) else ((zT.f k x17).bind fun bt108=>((zM.f k x0 bt108.1 bt108.2 x102000 x102001).bind fun bt110=>((zP.f k x0 bt110.1 bt110.2).bind fun t112=>(zs.l1 k x0 x1 x15 x16 x17 t112 (t112.length : Int) 0 x102000 x102001 x103000 x103001 bt105.1 bt105.2)))))) else (none)) else (none)) else (some x1)
def zs.l1 : Nat → Int → List (S37) → List (S37) → Int → Int → List Bool → Int → Int → Int → Int → Int → Int → Int → Int → Option ((List (S37)))
 | 0,_,_,_,_,_,_,_,_,_,_,_,_,_,_=>none
 | k + 1,x0,x1,x15,x16,x17,x35,x36,x37,x102000,x102001,x103000,x103001,x108000,x108001=>if x37 < x36 then (if 0 ≤ x37 then (if x37 < (x35.length : Int) then (if rdOf false x35 x37 = true then (if x37 < (x1.length : Int) then ((z1t.f ((rd_T37 x1 x37).f0) ((rd_T37 x1 x37).f1) x108000 x108001).bind fun bt117=>(zs.l1 k x0 (x1.set (x37 : Int).toNat (⟨bt117.1,bt117.2⟩ : S37)) x15 x16 x17 x35 x36 (wrap64 (x37 + 1)) x102000 x102001 x103000 x103001 x108000 x108001)) else (none)) else (zs.l1 k x0 x1 x15 x16 x17 x35 x36 (wrap64 (x37 + 1)) x102000 x102001 x103000 x103001 x108000 x108001)) else (none)) else (none)) else (zs.l0 k x0 x1 x15 x16 (wrap64 (x17 + 1)) x102000 x102001 x103000 x103001)
end
def zs.f (k : Nat) (a0 : Int) (l1 : List (S37)) (l2 : List (S37)) (a3_0 : Int) (a3_1 : Int) (a4_0 : Int) (a4_1 : Int) : Option ((List (S37))):=zs.l0 k a0 l1 l2 (l2.length : Int) 0 a3_0 a3_1 a4_0 a4_1
theorem zs.z1b : ∀ k,(∀ y0 y1 y2 y3 y4 y5 y6 y7 y8,LeO (zs.l0 k y0 y1 y2 y3 y4 y5 y6 y7 y8) (zs.l0 (k + 1) y0 y1 y2 y3 y4 y5 y6 y7 y8)) ∧ (∀ y0 y1 y2 y3 y4 y5 y6 y7 y8 y9 y10 y11 y12 y13,LeO (zs.l1 k y0 y1 y2 y3 y4 y5 y6 y7 y8 y9 y10 y11 y12 y13) (zs.l1 (k + 1) y0 y1 y2 y3 y4 y5 y6 y7 y8 y9 y10 y11 y12 y13))
 | 0=>⟨fun _ _ _ _ _ _ _ _ _ r h=>by simp [zs.l0] at h,fun _ _ _ _ _ _ _ _ _ _ _ _ _ _ r h=>by simp [zs.l1] at h⟩
 | k + 1=>by
  obtain ⟨ih0,ih1⟩:=zs.z1b k
  refine ⟨?_,?_⟩
  · intro y0 y1 y2 y3 y4 y5 y6 y7 y8
    unfold zs.l0
    repeat' first
    | (with_reducible exact ih0 _ _ _ _ _ _ _ _ _)
    | (with_reducible exact ih1 _ _ _ _ _ _ _ _ _ _ _ _ _ _)
    | (with_reducible exact zT.mono _ _)
    | (with_reducible exact zP.mono _ _ _ _)
    | (with_reducible exact zM.mono _ _ _ _ _ _)
    | (with_reducible exact LeO.refl _)
    | (with_reducible exact LeO.none _)
    | (with_reducible refine LeO.ite ?_ ?_)
    | (with_reducible refine LeO.bind ?_ (fun _=>?_))
    | exact ih0 _ _ _ _ _ _ _ _ _
    | exact ih1 _ _ _ _ _ _ _ _ _ _ _ _ _ _
    | exact zT.mono _ _
    | exact zP.mono _ _ _ _
    | exact zM.mono _ _ _ _ _ _
    | exact LeO.none _
    | refine LeO.ite ?_ ?_
    | refine LeO.bind ?_ (fun _=>?_)
  · intro y0 y1 y2 y3 y4 y5 y6 y7 y8 y9 y10 y11 y12 y13
    unfold zs.l1
    repeat' first
    | (with_reducible exact ih0 _ _ _ _ _ _ _ _ _)
    | (with_reducible exact ih1 _ _ _ _ _ _ _ _ _ _ _ _ _ _)
    | (with_reducible exact zT.mono _ _)
    | (with_reducible exact zP.mono _ _ _ _)
    | (with_reducible exact zM.mono _ _ _ _ _ _)
    | (with_reducible exact LeO.refl _)
    | (with_reducible exact LeO.none _)
    | (with_reducible refine LeO.ite ?_ ?_)
    | (with_reducible refine LeO.bind ?_ (fun _=>?_))
    | exact ih0 _ _ _ _ _ _ _ _ _
    | exact ih1 _ _ _ _ _ _ _ _ _ _ _ _ _ _
    | exact zT.mono _ _
    | exact zP.mono _ _ _ _
    | exact zM.mono _ _ _ _ _ _
    | exact LeO.none _
    | refine LeO.ite ?_ ?_
    | refine LeO.bind ?_ (fun _=>?_)
theorem zs.mono : ∀ a0 a1 a2 a3 a4 a5 a6 k,LeO (zs.f k a0 a1 a2 a3 a4 a5 a6) (zs.f (k + 1) a0 a1 a2 a3 a4 a5 a6):=by
 intro a0 a1 a2 a3 a4 a5 a6 k
 obtain ⟨ih0,ih1⟩:=zs.z1b k
 unfold zs.f
 repeat' first
  | (with_reducible exact ih0 _ _ _ _ _ _ _ _ _)
  | (with_reducible exact ih1 _ _ _ _ _ _ _ _ _ _ _ _ _ _)
  | (with_reducible exact zT.mono _ _)
  | (with_reducible exact zP.mono _ _ _ _)
  | (with_reducible exact zM.mono _ _ _ _ _ _)
  | (with_reducible exact LeO.refl _)
  | (with_reducible exact LeO.none _)
  | (with_reducible refine LeO.ite ?_ ?_)
  | (with_reducible refine LeO.bind ?_ (fun _=>?_))
  | exact ih0 _ _ _ _ _ _ _ _ _
  | exact ih1 _ _ _ _ _ _ _ _ _ _ _ _ _ _
  | exact zT.mono _ _
  | exact zP.mono _ _ _ _
  | exact zM.mono _ _ _ _ _ _
  | exact LeO.none _
  | refine LeO.ite ?_ ?_
  | refine LeO.bind ?_ (fun _=>?_)
def zs.T6 : Bool × List (List Nat × List Nat):=(true,[([],[]),([],[]),([],[]),([2],[2]),([],[]),([1,3,4,3],[1,3,4]),([0,5,5],[0,5]),([6],[6]),([],[])])
def zs.B6 : List Nat:=[0,0,0,4,0,30,63,127,0]
theorem zs.tab6 : rtab .any (opsOf Try.f107 6) = zs.T6:=by kernel_rfl
theorem zs.bits6 : waitsOk zs.T6.2 zs.B6 = true:=by kernel_rfl
def zs.T10 : Bool × List (List Nat × List Nat):=(true,[([],[]),([],[]),([],[]),([],[]),([2,3],[2,3]),([4],[4]),([],[]),([5,6],[5,6]),([0,1,0,1,2,3,4,5,6,7],[0,1]),([8,7,7,0,1,2,3,4,5,6,7],[7,8])])
def zs.B10 : List Nat:=[0,0,0,0,12,28,0,124,255,511]
theorem zs.tab10 : rtab .any (opsOf Try.f107 10) = zs.T10:=by kernel_rfl
theorem zs.bits10 : waitsOk zs.T10.2 zs.B10 = true:=by kernel_rfl
set_option maxHeartbeats 8000000 in
set_option maxRecDepth 100000 in
theorem zs.calls (k : Nat) (a0 : Int) (P1_ : Nat → Prop) (u9000_ : Value) (l1 : List (S37)) (A2 : Option Addr) (c2 : Nat) (l2 : List (S37)) (a3_0 : Int) (a3_1 : Int) (a4_0 : Int) (a4_1 : Int) (r : List (S37)) (w0 w : World) (hB : Below w0.heap.size w0 w) (ho1 : Kd.R k37 37 w w0.heap.size P1_ u9000_ l1) (hr2 : ∀ W_,Kept w W_ (fun k_=>P1_ k_) → Kd.C k37 W_ A2 l2.length l2) (hc2 : l2.length ≤ c2) (h : zs.f k a0 l1 l2 a3_0 a3_1 a4_0 a4_1 = some r) :
 Calls Try.prog 107 #[.int .i64 a0,u9000_,.slice A2 l2.length c2,.agg #[.int .u64 a3_0,.int .u64 a3_1],.agg #[.int .u64 a4_0,.int .u64 a4_1]] w fun e w'=>e = .returned (.tuple #[]) ∧ Kd.R k37 37 w' w0.heap.size (fun k_=>(P1_ k_ ∨ w.heap.size ≤ k_)) u9000_ r ∧ Below w0.heap.size w0 w' ∧ Kept w w' (fun k_=>P1_ k_):=by
 have hu37:=Try.underlying37
 have HO1:=z4.mk (show Kd.R k37 37 w w0.heap.size (fun k_=>(P1_ k_ ∨ w.heap.size ≤ k_)) u9000_ l1 from Kd.z12 ho1 (fun k_ hk=>(.inl hk)))
 have HR2:=z4.mk hr2
 have HC2:=z4.mk hc2
 clear hr2 hc2
 have HK:=z4.mk (Kept.refl w (fun k_=>P1_ k_))
 have HW0:=z4.mk hB.size
 have HB:=z4.mk hB
 clear hB
 have H : (zs.l0 k a0 l1 l2 (l2.length : Int) 0 a3_0 a3_1 a4_0 a4_1) = some r:=h
 clear h
 have H':=z4.mk H
 clear H
 go_enter Try.func107,Try.ntmps107
 go_wp2_with (first|((with_reducible refine zr (N:=8) rfl ?_);refine zy ?hg (N:=8) ?hd (cs:=#[.int .u64 a3_0,.int .u64 a3_1]) (t:=37) ?hr ?_;(case hd=>rfl);(case hg=>rfl);(case hr=>first|(go_simp;done)|(go_simp;rfl));intro gb101 hg w6 hbox hb;have n0_:=z4.mk (Kd.zx (Kd.z1r zz71 gb101 (Nat.le_of_eq hg.symm)) hb);have n1_:=z4.mk (Kept.below (S:=(fun k_=>P1_ k_)) (by repeat (first|(with_reducible first|exact HK.out|apply Kept.alloc|apply Kept.drewN|apply Kept.drew)|exact HK.out)) hb);have n2_:=z4.mk (z9 zz45 hb);have n3_:=z4.mk (hbox);have n4_:=z4.mk ((by rw [hg];exact (by first|exact HK.out.1|exact (show Kept w _ (fun k_=>P1_ k_) from by repeat (first|(with_reducible first|exact HK.out|apply Kept.alloc|apply Kept.drewN|apply Kept.drew)|exact HK.out)).1) : w.heap.size ≤ gb101));have n5_:=z4.mk ((by rw [hg];exact (ze zz45) : w0.heap.size ≤ gb101));clear HO1;clear HK;clear HB;have HO1:=n0_;have HK:=n1_;have HB:=n2_;have BK101:=n3_;have GW101:=n4_;have GE101:=n5_;clear n0_ n1_ n2_ n3_ n4_ n5_;clear hb hbox hg)|((with_reducible refine zr (N:=9) rfl ?_);refine zy ?hg (N:=9) ?hd (cs:=#[.int .u64 a4_0,.int .u64 a4_1]) (t:=37) ?hr ?_;(case hd=>rfl);(case hg=>rfl);(case hr=>first|(go_simp;done)|(go_simp;rfl));intro gb102 hg w7 hbox hb;have n0_:=z4.mk (Kd.zx (Kd.z1r zz71 gb102 (Nat.le_of_eq hg.symm)) hb);have n1_:=z4.mk (zh (g:=gb101) (o:=.cells #[.int .u64 a3_0,.int .u64 a3_1] 37 (0,0)) zz46 hb);have n2_:=z4.mk (Kept.below (S:=(fun k_=>P1_ k_)) (by repeat (first|(with_reducible first|exact HK.out|apply Kept.alloc|apply Kept.drewN|apply Kept.drew|refine Kept.setCell ?_ (.inr GW101.out) _)|exact HK.out)) hb);have n3_:=z4.mk (z9 zz40 hb);have n4_:=z4.mk (hbox);have n5_:=z4.mk ((by rw [hg];exact (by first|exact HK.out.1|exact (show Kept w _ (fun k_=>P1_ k_) from by repeat (first|(with_reducible first|exact HK.out|apply Kept.alloc|apply Kept.drewN|apply Kept.drew|refine Kept.setCell ?_ (.inr GW101.out) _)|exact HK.out)).1) : w.heap.size ≤ gb102));have n6_:=z4.mk ((by rw [hg];exact (ze zz40) : w0.heap.size ≤ gb102));have n7_:=z4.mk ((by rw [hg];exact Nat.ne_of_lt (zO (g:=gb101) (o:=.cells #[.int .u64 a3_0,.int .u64 a3_1] 37 (0,0)) zz46) : gb101 ≠ gb102));have n8_:=z4.mk ((by rw [hg];exact Nat.ne_of_gt (zO (g:=gb101) (o:=.cells #[.int .u64 a3_0,.int .u64 a3_1] 37 (0,0)) zz46) : gb102 ≠ gb101));clear HO1;clear BK101;clear HK;clear HB;have HO1:=n0_;have BK101:=n1_;have HK:=n2_;have HB:=n3_;have BK102:=n4_;have GW102:=n5_;have GE102:=n6_;have NB101_102:=n7_;have NB102_101:=n8_;clear n0_ n1_ n2_ n3_ n4_ n5_ n6_ n7_ n8_;clear hb hbox hg))
 go_loopg [17] k (fun kq v17 w'=>∃ (x1_1 : List (S37)) (x17_1 : Int) (x102000_1 : Int) (x102001_1 : Int) (x103000_1 : Int) (x103001_1 : Int),v17 = .int .i64 x17_1 ∧ z4 (zs.l0 kq a0 x1_1 l2 (l2.length : Int) x17_1 x102000_1 x102001_1 x103000_1 x103001_1 = some r) ∧ z4 (kq ≤ k) ∧ z4 (Kd.R k37 37 w' w0.heap.size (fun k_=>(P1_ k_ ∨ w.heap.size ≤ k_) ∧ k_ ≠ gb101 ∧ k_ ≠ gb102) u9000_ x1_1) ∧ z4 (w'.heap[gb101]? = some (.cells #[.int .u64 x102000_1,.int .u64 x102001_1] 37 (0,0))) ∧ z4 (w'.heap[gb102]? = some (.cells #[.int .u64 x103000_1,.int .u64 x103001_1] 37 (0,0))) ∧ z4 (Kept w w' (fun k_=>P1_ k_)) ∧ z4 (Below w0.heap.size w0 w'))
 case atStart=>exact ⟨(l1),(0),(a3_0),(a3_1),(a4_0),(a4_1),zz81,H',⟨Nat.le_refl _⟩,⟨by (with_reducible repeat (first|apply Kd.zH|apply Kd.zI|apply Kd.zS));exact Kd.z12 HO1.out (fun _ hk=>⟨hk.1.1,⟨hk.1.2,hk.2⟩⟩)⟩,⟨by (with_reducible repeat (first|refine z8 ?_ _|refine zb ?_|refine z7 ?_ _));exact BK101.out⟩,⟨by (with_reducible repeat (first|refine z8 ?_ _|refine zb ?_|refine z7 ?_ _));exact BK102.out⟩,⟨by repeat (first|(with_reducible first|exact HK.out|apply Kept.alloc|apply Kept.drewN|apply Kept.drew|refine Kept.setCell ?_ (.inr GW101.out) _|refine Kept.setCell ?_ (.inr GW102.out) _)|exact HK.out)⟩,⟨by repeat (first|(with_reducible first|exact HB.out|apply zg|apply z6|apply zc|refine zd ?_ GE101.out|refine zd ?_ GE102.out)|exact HB.out)⟩⟩
 case round =>
  clear H'
  (try clear c1);(try clear c2);(try clear p2)
  obtain ⟨x1_1,x17_1,x102000_1,x102001_1,x103000_1,x103001_1,rfl,HA,HK1,HO_1,BK101,BK102,HK,HB⟩:=hrel
  cases gk with
  | zero=>exact absurd HA.out (by simp [zs.l0])
  | succ k1 =>
   have H:=HA.out
   clear HA
   simp only [zs.l0] at H
   by_cases c8 : x17_1 < (l2.length : Int)
   rotate_left
   · rw [if_neg c8] at H
     have c8b0 : decide (x17_1 < (l2.length : Int)) = false:=decide_eq_false c8
     clear c8
     obtain rfl:=Option.some.inj H
     go_wp2
     first|go_end0|((try simp only [Exit.inBlock,Exit.then]);refine bodyPost_ret (results_none rfl _ _ _) rfl ?_)
     exact ⟨by first|rfl|(simp [zi,zj] <;> rfl)|(simp [*,zi,zj] <;> rfl),by (with_reducible repeat (first|apply Kd.zH|apply Kd.zI|apply Kd.zS));exact Kd.z12 HO_1.out (fun _ hk=>hk.1),by repeat (first|(with_reducible first|exact HB.out|apply zg|apply z6|apply zc|refine zd ?_ GE101.out|refine zd ?_ GE102.out)|exact HB.out),by repeat (first|(with_reducible first|exact HK.out|apply Kept.alloc|apply Kept.drewN|apply Kept.drew|refine Kept.setCell ?_ (.inr GW101.out) _|refine Kept.setCell ?_ (.inr GW102.out) _)|exact HK.out)⟩
   rw [if_pos c8] at H
   have c8b0 : decide (x17_1 < (l2.length : Int)) = true:=decide_eq_true c8
   clear c8
   by_cases c9 : 0 ≤ x17_1
   rotate_left
   · rw [if_neg c9] at H
     exact absurd H zz87
   rw [if_pos c9] at H
   have c9b0 : decide (0 ≤ x17_1) = true:=decide_eq_true c9
   clear c9
   by_cases c10 : x17_1 < (l2.length : Int)
   rotate_left
   · rw [if_neg c10] at H
     exact absurd H zz87
   rw [if_pos c10] at H
   have c10b0 : decide (x17_1 < (l2.length : Int)) = true:=decide_eq_true c10
   clear c10
   replace H:=Option.bind_eq_some_iff.mp H
   obtain ⟨⟨t105,t106⟩,A110,H⟩:=H
   replace H : (if (t105 == 0 && (t106 == 0)) = true then (zs.l0 k1 a0 x1_1 l2 (l2.length : Int) (wrap64 (x17_1 + 1)) x102000_1 x102001_1 x103000_1 x103001_1) else ((zT.f k1 x17_1).bind fun bt108=>((zM.f k1 a0 bt108.1 bt108.2 x102000_1 x102001_1).bind fun bt110=>((zP.f k1 a0 bt110.1 bt110.2).bind fun t112=>(zs.l1 k1 a0 x1_1 l2 (l2.length : Int) x17_1 t112 (t112.length : Int) 0 x102000_1 x102001_1 x103000_1 x103001_1 t105 t106))))) = some r:=H
   have A11:=z4.mk A110
   clear A110
   by_cases c12 : (t105 == 0 && (t106 == 0)) = true
   · rw [if_pos c12] at H
     have c12b0 : (t105 == 0 && (t106 == 0)) = true:=c12
     (try (have c12b1 : decide (t105 = 0 && (t106 == 0)) = true:=by simpa using c12))
     (try (have c12b2 : (t105 == 0 && (t106 == 0)) = true:=by simpa using c12))
     clear c12
     have H':=z4.mk H
     clear H
     have p103 : 0 ≤ (x17_1 : Int):=of_decide_eq_true zz80
     have q103 : x17_1 < (l2.length : Int):=of_decide_eq_true zz80
     obtain ⟨ad103,e103,hx103_0,hx103_1⟩:=z1Y (Kd.z4E HR2.out HK.out) x17_1 p103 q103
     cases e103
     replace p103:=eq_true p103
     replace q103:=eq_true q103
     go_wp2_with (first|((with_reducible refine zr (N:=11) rfl ?_);refine zy ?hg (N:=11) ?hd (cs:=#[.int .u64 0,.int .u64 0]) (t:=37) ?hr ?_;(case hd=>rfl);(case hg=>rfl);(case hr=>first|(go_simp;done)|(go_simp;rfl));intro gb104 hg w13 hbox hb;have n0_:=z4.mk (Kd.zx (Kd.z1r zz70 gb104 (Nat.le_of_eq hg.symm)) hb);have n1_:=z4.mk (zh (g:=gb101) (o:=.cells #[.int .u64 x102000_1,.int .u64 x102001_1] 37 (0,0)) zz46 hb);have n2_:=z4.mk (zh (g:=gb102) (o:=.cells #[.int .u64 x103000_1,.int .u64 x103001_1] 37 (0,0)) zz47 hb);have n3_:=z4.mk (Kept.below (S:=(fun k_=>P1_ k_)) zz32 hb);have n4_:=z4.mk (z9 zz33 hb);have n5_:=z4.mk (hbox);have n6_:=z4.mk ((by rw [hg];exact zz25 : w.heap.size ≤ gb104));have n7_:=z4.mk ((by rw [hg];exact (ze zz33) : w0.heap.size ≤ gb104));have n8_:=z4.mk ((by rw [hg];exact Nat.ne_of_lt (zO (g:=gb101) (o:=.cells #[.int .u64 x102000_1,.int .u64 x102001_1] 37 (0,0)) zz46) : gb101 ≠ gb104));have n9_:=z4.mk ((by rw [hg];exact Nat.ne_of_gt (zO (g:=gb101) (o:=.cells #[.int .u64 x102000_1,.int .u64 x102001_1] 37 (0,0)) zz46) : gb104 ≠ gb101));have n10_:=z4.mk ((by rw [hg];exact Nat.ne_of_lt (zO (g:=gb102) (o:=.cells #[.int .u64 x103000_1,.int .u64 x103001_1] 37 (0,0)) zz47) : gb102 ≠ gb104));have n11_:=z4.mk ((by rw [hg];exact Nat.ne_of_gt (zO (g:=gb102) (o:=.cells #[.int .u64 x103000_1,.int .u64 x103001_1] 37 (0,0)) zz47) : gb104 ≠ gb102));clear HO_1;clear BK101;clear BK102;clear HK;clear HB;have HO_1:=n0_;have BK101:=n1_;have BK102:=n2_;have HK:=n3_;have HB:=n4_;have BK104:=n5_;have GW104:=n6_;have GE104:=n7_;have NB101_104:=n8_;have NB104_101:=n9_;have NB102_104:=n10_;have NB104_102:=n11_;clear n0_ n1_ n2_ n3_ n4_ n5_ n6_ n7_ n8_ n9_ n10_ n11_;clear hb hbox hg;have hnb14:=NB104_101.out;have hnc14:=NB101_104.out;have hnb15:=NB104_102.out;have hnc15:=NB102_104.out;have hcz16_0 : w13.cell? ⟨gb104,0,none⟩ = some (.int .u64 0):=(zf BK104.out 0).trans rfl;have hcz16_1 : w13.cell? ⟨gb104,1,none⟩ = some (.int .u64 0):=(zf BK104.out 1).trans rfl;have hfz16_0:=za BK104.out 0;have hfz16_1:=za BK104.out 1;have hnb17:=NB102_101.out;have hnc17:=NB101_102.out;have hcz18_0 : w13.cell? ⟨gb102,0,none⟩ = some (.int .u64 x103000_1):=(zf BK102.out 0).trans rfl;have hcz18_1 : w13.cell? ⟨gb102,1,none⟩ = some (.int .u64 x103001_1):=(zf BK102.out 1).trans rfl;have hfz18_0:=za BK102.out 0;have hfz18_1:=za BK102.out 1)|((with_reducible refine zl (f:=86) rfl ?_);refine goesL_ (some 25) rfl rfl Try.func86 zz84 rfl #[.int .i64 a0,.agg #[.int .u64 ((rd_T37 l2 x17_1).f0),.int .u64 ((rd_T37 l2 x17_1).f1)],.agg #[.int .u64 x103000_1,.int .u64 x103001_1]] rfl zz44 ?_;(with_reducible refine (zM.calls k1 a0 ((rd_T37 l2 x17_1).f0) ((rd_T37 l2 x17_1).f1) x103000_1 x103001_1 t105 t106 _ A11.out).mono ?_);rintro e w19 ⟨rfl,hb⟩;refine ⟨_,rfl,?_⟩;have n0_:=z4.mk (Kd.zx zz17 hb);have n1_:=z4.mk (zh (g:=gb101) (o:=.cells #[.int .u64 x102000_1,.int .u64 x102001_1] 37 (0,0)) zz13 hb);have n2_:=z4.mk (zh (g:=gb102) (o:=.cells #[.int .u64 x103000_1,.int .u64 x103001_1] 37 (0,0)) zz14 hb);have n3_:=z4.mk (zh (g:=gb104) (o:=.cells #[.int .u64 ((rd_T37 l2 x17_1).f0),.int .u64 ((rd_T37 l2 x17_1).f1)] 37 (0,0)) zz3 hb);have n4_:=z4.mk (Kept.below (S:=(fun k_=>P1_ k_)) zz29 hb);have n5_:=z4.mk (z9 zz31 hb);clear HO_1;clear BK101;clear BK102;clear BK104;clear HK;clear HB;have HO_1:=n0_;have BK101:=n1_;have BK102:=n2_;have BK104:=n3_;have HK:=n4_;have HB:=n5_;clear n0_ n1_ n2_ n3_ n4_ n5_;(try clear hb);(try clear hb2);(try clear hk);(try clear hi))|((with_reducible refine zr (N:=12) rfl ?_);refine zy ?hg (N:=12) ?hd (cs:=#[.int .u64 0,.int .u64 0]) (t:=37) ?hr ?_;(case hd=>rfl);(case hg=>rfl);(case hr=>first|(go_simp;done)|(go_simp;rfl));intro gb107 hg w20 hbox hb;have n0_:=z4.mk (Kd.zx (Kd.z1r zz70 gb107 (Nat.le_of_eq hg.symm)) hb);have n1_:=z4.mk (zh (g:=gb101) (o:=.cells #[.int .u64 x102000_1,.int .u64 x102001_1] 37 (0,0)) zz46 hb);have n2_:=z4.mk (zh (g:=gb102) (o:=.cells #[.int .u64 x103000_1,.int .u64 x103001_1] 37 (0,0)) zz47 hb);have n3_:=z4.mk (zh (g:=gb104) (o:=.cells #[.int .u64 ((rd_T37 l2 x17_1).f0),.int .u64 ((rd_T37 l2 x17_1).f1)] 37 (0,0)) zz53 hb);have n4_:=z4.mk (Kept.below (S:=(fun k_=>P1_ k_)) zz29 hb);have n5_:=z4.mk (z9 zz31 hb);have n6_:=z4.mk (hbox);have n7_:=z4.mk ((by rw [hg];exact zz21 : w.heap.size ≤ gb107));have n8_:=z4.mk ((by rw [hg];exact (ze zz31) : w0.heap.size ≤ gb107));have n9_:=z4.mk ((by rw [hg];exact Nat.ne_of_lt (zO (g:=gb101) (o:=.cells #[.int .u64 x102000_1,.int .u64 x102001_1] 37 (0,0)) zz46) : gb101 ≠ gb107));have n10_:=z4.mk ((by rw [hg];exact Nat.ne_of_gt (zO (g:=gb101) (o:=.cells #[.int .u64 x102000_1,.int .u64 x102001_1] 37 (0,0)) zz46) : gb107 ≠ gb101));have n11_:=z4.mk ((by rw [hg];exact Nat.ne_of_lt (zO (g:=gb102) (o:=.cells #[.int .u64 x103000_1,.int .u64 x103001_1] 37 (0,0)) zz47) : gb102 ≠ gb107));have n12_:=z4.mk ((by rw [hg];exact Nat.ne_of_gt (zO (g:=gb102) (o:=.cells #[.int .u64 x103000_1,.int .u64 x103001_1] 37 (0,0)) zz47) : gb107 ≠ gb102));have n13_:=z4.mk ((by rw [hg];exact Nat.ne_of_lt (zO (g:=gb104) (o:=.cells #[.int .u64 ((rd_T37 l2 x17_1).f0),.int .u64 ((rd_T37 l2 x17_1).f1)] 37 (0,0)) zz53) : gb104 ≠ gb107));have n14_:=z4.mk ((by rw [hg];exact Nat.ne_of_gt (zO (g:=gb104) (o:=.cells #[.int .u64 ((rd_T37 l2 x17_1).f0),.int .u64 ((rd_T37 l2 x17_1).f1)] 37 (0,0)) zz53) : gb107 ≠ gb104));clear HO_1;clear BK101;clear BK102;clear BK104;clear HK;clear HB;have HO_1:=n0_;have BK101:=n1_;have BK102:=n2_;have BK104:=n3_;have HK:=n4_;have HB:=n5_;have BK107:=n6_;have GW107:=n7_;have GE107:=n8_;have NB101_107:=n9_;have NB107_101:=n10_;have NB102_107:=n11_;have NB107_102:=n12_;have NB104_107:=n13_;have NB107_104:=n14_;clear n0_ n1_ n2_ n3_ n4_ n5_ n6_ n7_ n8_ n9_ n10_ n11_ n12_ n13_ n14_;clear hb hbox hg;have hnb21:=NB107_101.out;have hnc21:=NB101_107.out;have hnb22:=NB107_102.out;have hnc22:=NB102_107.out;have hnb23:=NB107_104.out;have hnc23:=NB104_107.out;have hcz24_0 : w20.cell? ⟨gb107,0,none⟩ = some (.int .u64 0):=(zf BK107.out 0).trans rfl;have hcz24_1 : w20.cell? ⟨gb107,1,none⟩ = some (.int .u64 0):=(zf BK107.out 1).trans rfl;have hfz24_0:=za BK107.out 0;have hfz24_1:=za BK107.out 1))
     go_roundg k1
     case measure=>have:=HK1.out;omega
     case rel=>exact ⟨(x1_1),(wrap64 (x17_1 + 1)),(x102000_1),(x102001_1),(x103000_1),(x103001_1),zz81,H',⟨by have:=HK1.out;omega⟩,⟨by (with_reducible repeat (first|apply Kd.zH|apply Kd.zI|apply Kd.zS));exact Kd.z12 (Kd.z1O (p:=⟨gb107,1,none⟩) (Kd.z1O (p:=⟨gb107,0,none⟩) (Kd.z12 HO_1.out (fun k_ hk=>(⟨hk,hk.2⟩ : _ ∧ k_ ≠ gb107))) (fun _ hk=>hk.2) (.int .u64 t105)) (fun _ hk=>hk.2) (.int .u64 t106)) (fun _ hk=>⟨hk.1.1.1.1,⟨hk.1.1.1.2.1,hk.1.1.1.2.2⟩⟩)⟩,⟨by (with_reducible repeat (first|refine z8 ?_ _|refine zb ?_|refine z7 ?_ _));refine zW ?_ NB101_107.out _;(with_reducible repeat (first|refine z8 ?_ _|refine zb ?_|refine z7 ?_ _));refine zW ?_ NB101_107.out _;(with_reducible repeat (first|refine z8 ?_ _|refine zb ?_|refine z7 ?_ _));exact BK101.out⟩,⟨by (with_reducible repeat (first|refine z8 ?_ _|refine zb ?_|refine z7 ?_ _));refine zW ?_ NB102_107.out _;(with_reducible repeat (first|refine z8 ?_ _|refine zb ?_|refine z7 ?_ _));refine zW ?_ NB102_107.out _;(with_reducible repeat (first|refine z8 ?_ _|refine zb ?_|refine z7 ?_ _));exact BK102.out⟩,⟨by repeat (first|(with_reducible first|exact HK.out|apply Kept.alloc|apply Kept.drewN|apply Kept.drew|refine Kept.setCell ?_ (.inr GW101.out) _|refine Kept.setCell ?_ (.inr GW102.out) _|refine Kept.setCell ?_ (.inr GW104.out) _|refine Kept.setCell ?_ (.inr GW107.out) _)|exact HK.out)⟩,⟨by repeat (first|(with_reducible first|exact HB.out|apply zg|apply z6|apply zc|refine zd ?_ GE101.out|refine zd ?_ GE102.out|refine zd ?_ GE104.out|refine zd ?_ GE107.out)|exact HB.out)⟩⟩
   rw [if_neg c12] at H
   have c12b0 : (t105 == 0 && (t106 == 0)) = false:=by simpa using c12
   (try (have c12b1 : decide (t105 = 0 && (t106 == 0)) = false:=by simpa using c12))
   (try (have c12b2 : (t105 == 0 && (t106 == 0)) = false:=by simpa using c12))
   (try (have c12b3 : ¬ (t105 = 0 && (t106 == 0)):=by simpa using c12))
   clear c12
   replace H:=Option.bind_eq_some_iff.mp H
   obtain ⟨⟨t108,t109⟩,A250,H⟩:=H
   replace H : ((zM.f k1 a0 t108 t109 x102000_1 x102001_1).bind fun bt110=>((zP.f k1 a0 bt110.1 bt110.2).bind fun t112=>(zs.l1 k1 a0 x1_1 l2 (l2.length : Int) x17_1 t112 (t112.length : Int) 0 x102000_1 x102001_1 x103000_1 x103001_1 t105 t106))) = some r:=H
   have A25:=z4.mk A250
   clear A250
   replace H:=Option.bind_eq_some_iff.mp H
   obtain ⟨⟨t110,t111⟩,A260,H⟩:=H
   replace H : ((zP.f k1 a0 t110 t111).bind fun t112=>(zs.l1 k1 a0 x1_1 l2 (l2.length : Int) x17_1 t112 (t112.length : Int) 0 x102000_1 x102001_1 x103000_1 x103001_1 t105 t106)) = some r:=H
   have A26:=z4.mk A260
   clear A260
   replace H:=Option.bind_eq_some_iff.mp H
   obtain ⟨t112,A270,H⟩:=H
   replace H : (zs.l1 k1 a0 x1_1 l2 (l2.length : Int) x17_1 t112 (t112.length : Int) 0 x102000_1 x102001_1 x103000_1 x103001_1 t105 t106) = some r:=H
   have A27:=z4.mk A270
   clear A270
   have H':=z4.mk H
   clear H
   have p103 : 0 ≤ (x17_1 : Int):=of_decide_eq_true zz80
   have q103 : x17_1 < (l2.length : Int):=of_decide_eq_true zz80
   obtain ⟨ad103,e103,hx103_0,hx103_1⟩:=z1Y (Kd.z4E HR2.out HK.out) x17_1 p103 q103
   cases e103
   replace p103:=eq_true p103
   replace q103:=eq_true q103
   try go_wp2_with (first|((with_reducible refine zr (N:=11) rfl ?_);refine zy ?hg (N:=11) ?hd (cs:=#[.int .u64 0,.int .u64 0]) (t:=37) ?hr ?_;(case hd=>rfl);(case hg=>rfl);(case hr=>first|(go_simp;done)|(go_simp;rfl));intro gb104 hg w28 hbox hb;have n0_:=z4.mk (Kd.zx (Kd.z1r zz70 gb104 (Nat.le_of_eq hg.symm)) hb);have n1_:=z4.mk (zh (g:=gb101) (o:=.cells #[.int .u64 x102000_1,.int .u64 x102001_1] 37 (0,0)) zz46 hb);have n2_:=z4.mk (zh (g:=gb102) (o:=.cells #[.int .u64 x103000_1,.int .u64 x103001_1] 37 (0,0)) zz47 hb);have n3_:=z4.mk (Kept.below (S:=(fun k_=>P1_ k_)) zz32 hb);have n4_:=z4.mk (z9 zz33 hb);have n5_:=z4.mk (hbox);have n6_:=z4.mk ((by rw [hg];exact zz25 : w.heap.size ≤ gb104));have n7_:=z4.mk ((by rw [hg];exact (ze zz33) : w0.heap.size ≤ gb104));have n8_:=z4.mk ((by rw [hg];exact Nat.ne_of_lt (zO (g:=gb101) (o:=.cells #[.int .u64 x102000_1,.int .u64 x102001_1] 37 (0,0)) zz46) : gb101 ≠ gb104));have n9_:=z4.mk ((by rw [hg];exact Nat.ne_of_gt (zO (g:=gb101) (o:=.cells #[.int .u64 x102000_1,.int .u64 x102001_1] 37 (0,0)) zz46) : gb104 ≠ gb101));have n10_:=z4.mk ((by rw [hg];exact Nat.ne_of_lt (zO (g:=gb102) (o:=.cells #[.int .u64 x103000_1,.int .u64 x103001_1] 37 (0,0)) zz47) : gb102 ≠ gb104));have n11_:=z4.mk ((by rw [hg];exact Nat.ne_of_gt (zO (g:=gb102) (o:=.cells #[.int .u64 x103000_1,.int .u64 x103001_1] 37 (0,0)) zz47) : gb104 ≠ gb102));clear HO_1;clear BK101;clear BK102;clear HK;clear HB;have HO_1:=n0_;have BK101:=n1_;have BK102:=n2_;have HK:=n3_;have HB:=n4_;have BK104:=n5_;have GW104:=n6_;have GE104:=n7_;have NB101_104:=n8_;have NB104_101:=n9_;have NB102_104:=n10_;have NB104_102:=n11_;clear n0_ n1_ n2_ n3_ n4_ n5_ n6_ n7_ n8_ n9_ n10_ n11_;clear hb hbox hg;have hnb29:=NB104_101.out;have hnc29:=NB101_104.out;have hnb30:=NB104_102.out;have hnc30:=NB102_104.out;have hcz31_0 : w28.cell? ⟨gb104,0,none⟩ = some (.int .u64 0):=(zf BK104.out 0).trans rfl;have hcz31_1 : w28.cell? ⟨gb104,1,none⟩ = some (.int .u64 0):=(zf BK104.out 1).trans rfl;have hfz31_0:=za BK104.out 0;have hfz31_1:=za BK104.out 1;have hnb32:=NB102_101.out;have hnc32:=NB101_102.out;have hcz33_0 : w28.cell? ⟨gb102,0,none⟩ = some (.int .u64 x103000_1):=(zf BK102.out 0).trans rfl;have hcz33_1 : w28.cell? ⟨gb102,1,none⟩ = some (.int .u64 x103001_1):=(zf BK102.out 1).trans rfl;have hfz33_0:=za BK102.out 0;have hfz33_1:=za BK102.out 1)|((with_reducible refine zl (f:=86) rfl ?_);refine goesL_ (some 25) rfl rfl Try.func86 zz84 rfl #[.int .i64 a0,.agg #[.int .u64 ((rd_T37 l2 x17_1).f0),.int .u64 ((rd_T37 l2 x17_1).f1)],.agg #[.int .u64 x103000_1,.int .u64 x103001_1]] rfl zz44 ?_;(with_reducible refine (zM.calls k1 a0 ((rd_T37 l2 x17_1).f0) ((rd_T37 l2 x17_1).f1) x103000_1 x103001_1 t105 t106 _ A11.out).mono ?_);rintro e w34 ⟨rfl,hb⟩;refine ⟨_,rfl,?_⟩;have n0_:=z4.mk (Kd.zx zz17 hb);have n1_:=z4.mk (zh (g:=gb101) (o:=.cells #[.int .u64 x102000_1,.int .u64 x102001_1] 37 (0,0)) zz13 hb);have n2_:=z4.mk (zh (g:=gb102) (o:=.cells #[.int .u64 x103000_1,.int .u64 x103001_1] 37 (0,0)) zz14 hb);have n3_:=z4.mk (zh (g:=gb104) (o:=.cells #[.int .u64 ((rd_T37 l2 x17_1).f0),.int .u64 ((rd_T37 l2 x17_1).f1)] 37 (0,0)) zz3 hb);have n4_:=z4.mk (Kept.below (S:=(fun k_=>P1_ k_)) zz29 hb);have n5_:=z4.mk (z9 zz31 hb);clear HO_1;clear BK101;clear BK102;clear BK104;clear HK;clear HB;have HO_1:=n0_;have BK101:=n1_;have BK102:=n2_;have BK104:=n3_;have HK:=n4_;have HB:=n5_;clear n0_ n1_ n2_ n3_ n4_ n5_;(try clear hb);(try clear hb2);(try clear hk);(try clear hi))|((with_reducible refine zr (N:=12) rfl ?_);refine zy ?hg (N:=12) ?hd (cs:=#[.int .u64 0,.int .u64 0]) (t:=37) ?hr ?_;(case hd=>rfl);(case hg=>rfl);(case hr=>first|(go_simp;done)|(go_simp;rfl));intro gb107 hg w35 hbox hb;have n0_:=z4.mk (Kd.zx (Kd.z1r zz70 gb107 (Nat.le_of_eq hg.symm)) hb);have n1_:=z4.mk (zh (g:=gb101) (o:=.cells #[.int .u64 x102000_1,.int .u64 x102001_1] 37 (0,0)) zz46 hb);have n2_:=z4.mk (zh (g:=gb102) (o:=.cells #[.int .u64 x103000_1,.int .u64 x103001_1] 37 (0,0)) zz47 hb);have n3_:=z4.mk (zh (g:=gb104) (o:=.cells #[.int .u64 ((rd_T37 l2 x17_1).f0),.int .u64 ((rd_T37 l2 x17_1).f1)] 37 (0,0)) zz53 hb);have n4_:=z4.mk (Kept.below (S:=(fun k_=>P1_ k_)) zz29 hb);have n5_:=z4.mk (z9 zz31 hb);have n6_:=z4.mk (hbox);have n7_:=z4.mk ((by rw [hg];exact zz21 : w.heap.size ≤ gb107));have n8_:=z4.mk ((by rw [hg];exact (ze zz31) : w0.heap.size ≤ gb107));have n9_:=z4.mk ((by rw [hg];exact Nat.ne_of_lt (zO (g:=gb101) (o:=.cells #[.int .u64 x102000_1,.int .u64 x102001_1] 37 (0,0)) zz46) : gb101 ≠ gb107));have n10_:=z4.mk ((by rw [hg];exact Nat.ne_of_gt (zO (g:=gb101) (o:=.cells #[.int .u64 x102000_1,.int .u64 x102001_1] 37 (0,0)) zz46) : gb107 ≠ gb101));have n11_:=z4.mk ((by rw [hg];exact Nat.ne_of_lt (zO (g:=gb102) (o:=.cells #[.int .u64 x103000_1,.int .u64 x103001_1] 37 (0,0)) zz47) : gb102 ≠ gb107));have n12_:=z4.mk ((by rw [hg];exact Nat.ne_of_gt (zO (g:=gb102) (o:=.cells #[.int .u64 x103000_1,.int .u64 x103001_1] 37 (0,0)) zz47) : gb107 ≠ gb102));have n13_:=z4.mk ((by rw [hg];exact Nat.ne_of_lt (zO (g:=gb104) (o:=.cells #[.int .u64 ((rd_T37 l2 x17_1).f0),.int .u64 ((rd_T37 l2 x17_1).f1)] 37 (0,0)) zz53) : gb104 ≠ gb107));have n14_:=z4.mk ((by rw [hg];exact Nat.ne_of_gt (zO (g:=gb104) (o:=.cells #[.int .u64 ((rd_T37 l2 x17_1).f0),.int .u64 ((rd_T37 l2 x17_1).f1)] 37 (0,0)) zz53) : gb107 ≠ gb104));clear HO_1;clear BK101;clear BK102;clear BK104;clear HK;clear HB;have HO_1:=n0_;have BK101:=n1_;have BK102:=n2_;have BK104:=n3_;have HK:=n4_;have HB:=n5_;have BK107:=n6_;have GW107:=n7_;have GE107:=n8_;have NB101_107:=n9_;have NB107_101:=n10_;have NB102_107:=n11_;have NB107_102:=n12_;have NB104_107:=n13_;have NB107_104:=n14_;clear n0_ n1_ n2_ n3_ n4_ n5_ n6_ n7_ n8_ n9_ n10_ n11_ n12_ n13_ n14_;clear hb hbox hg;have hnb36:=NB107_101.out;have hnc36:=NB101_107.out;have hnb37:=NB107_102.out;have hnc37:=NB102_107.out;have hnb38:=NB107_104.out;have hnc38:=NB104_107.out;have hcz39_0 : w35.cell? ⟨gb107,0,none⟩ = some (.int .u64 0):=(zf BK107.out 0).trans rfl;have hcz39_1 : w35.cell? ⟨gb107,1,none⟩ = some (.int .u64 0):=(zf BK107.out 1).trans rfl;have hfz39_0:=za BK107.out 0;have hfz39_1:=za BK107.out 1))
   have n0_ : z4 (Kd.R k37 37 ((w35.setCell ⟨gb107,0,none⟩ (.int .u64 t105)).setCell ⟨gb107,1,none⟩ (.int .u64 t106)) w0.heap.size (fun k_=>(P1_ k_ ∨ w.heap.size ≤ k_) ∧ k_ ≠ gb101 ∧ k_ ≠ gb102 ∧ k_ ≠ gb104 ∧ k_ ≠ gb107) u9000_ x1_1):=⟨by (with_reducible repeat (first|apply Kd.zH|apply Kd.zI|apply Kd.zS));exact Kd.z12 (Kd.z1O (p:=⟨gb107,1,none⟩) (Kd.z1O (p:=⟨gb107,0,none⟩) (Kd.z12 HO_1.out (fun k_ hk=>(⟨hk,hk.2⟩ : _ ∧ k_ ≠ gb107))) (fun _ hk=>hk.2) (.int .u64 t105)) (fun _ hk=>hk.2) (.int .u64 t106)) (fun _ hk=>⟨hk.1.1.1.1,⟨hk.1.1.1.2.1,⟨hk.1.1.1.2.2,⟨hk.1.1.2,hk.1.2⟩⟩⟩⟩)⟩
   have n1_ : z4 (((w35.setCell ⟨gb107,0,none⟩ (.int .u64 t105)).setCell ⟨gb107,1,none⟩ (.int .u64 t106)).heap[gb101]? = some (.cells #[.int .u64 x102000_1,.int .u64 x102001_1] 37 (0,0))):=⟨by (with_reducible repeat (first|refine z8 ?_ _|refine zb ?_|refine z7 ?_ _));refine zW ?_ NB101_107.out _;(with_reducible repeat (first|refine z8 ?_ _|refine zb ?_|refine z7 ?_ _));refine zW ?_ NB101_107.out _;(with_reducible repeat (first|refine z8 ?_ _|refine zb ?_|refine z7 ?_ _));exact BK101.out⟩
   have n2_ : z4 (((w35.setCell ⟨gb107,0,none⟩ (.int .u64 t105)).setCell ⟨gb107,1,none⟩ (.int .u64 t106)).heap[gb102]? = some (.cells #[.int .u64 x103000_1,.int .u64 x103001_1] 37 (0,0))):=⟨by (with_reducible repeat (first|refine z8 ?_ _|refine zb ?_|refine z7 ?_ _));refine zW ?_ NB102_107.out _;(with_reducible repeat (first|refine z8 ?_ _|refine zb ?_|refine z7 ?_ _));refine zW ?_ NB102_107.out _;(with_reducible repeat (first|refine z8 ?_ _|refine zb ?_|refine z7 ?_ _));exact BK102.out⟩
   have n3_ : z4 (((w35.setCell ⟨gb107,0,none⟩ (.int .u64 t105)).setCell ⟨gb107,1,none⟩ (.int .u64 t106)).heap[gb104]? = some (.cells #[.int .u64 ((rd_T37 l2 x17_1).f0),.int .u64 ((rd_T37 l2 x17_1).f1)] 37 (0,0))):=⟨by (with_reducible repeat (first|refine z8 ?_ _|refine zb ?_|refine z7 ?_ _));refine zW ?_ NB104_107.out _;(with_reducible repeat (first|refine z8 ?_ _|refine zb ?_|refine z7 ?_ _));refine zW ?_ NB104_107.out _;(with_reducible repeat (first|refine z8 ?_ _|refine zb ?_|refine z7 ?_ _));exact BK104.out⟩
   have n4_ : z4 (((w35.setCell ⟨gb107,0,none⟩ (.int .u64 t105)).setCell ⟨gb107,1,none⟩ (.int .u64 t106)).heap[gb107]? = some (.cells #[.int .u64 t105,.int .u64 t106] 37 (0,0))):=⟨by (with_reducible repeat (first|refine z8 ?_ _|refine zb ?_|refine z7 ?_ _));refine zX (cs:=#[.int .u64 t105,.int .u64 0]) ?_ 1 _ rfl;(with_reducible repeat (first|refine z8 ?_ _|refine zb ?_|refine z7 ?_ _));refine zX (cs:=#[.int .u64 0,.int .u64 0]) ?_ 0 _ rfl;(with_reducible repeat (first|refine z8 ?_ _|refine zb ?_|refine z7 ?_ _));exact BK107.out⟩
   have n5_ : z4 (Kept w ((w35.setCell ⟨gb107,0,none⟩ (.int .u64 t105)).setCell ⟨gb107,1,none⟩ (.int .u64 t106)) (fun k_=>P1_ k_)):=⟨by repeat (first|(with_reducible first|exact HK.out|apply Kept.alloc|apply Kept.drewN|apply Kept.drew|refine Kept.setCell ?_ (.inr GW101.out) _|refine Kept.setCell ?_ (.inr GW102.out) _|refine Kept.setCell ?_ (.inr GW104.out) _|refine Kept.setCell ?_ (.inr GW107.out) _)|exact HK.out)⟩
   have n6_ : z4 (Below w0.heap.size w0 ((w35.setCell ⟨gb107,0,none⟩ (.int .u64 t105)).setCell ⟨gb107,1,none⟩ (.int .u64 t106))):=⟨by repeat (first|(with_reducible first|exact HB.out|apply zg|apply z6|apply zc|refine zd ?_ GE101.out|refine zd ?_ GE102.out|refine zd ?_ GE104.out|refine zd ?_ GE107.out)|exact HB.out)⟩
   (try clear HO_1)
   (try clear BK101)
   (try clear BK102)
   (try clear BK104)
   (try clear BK107)
   (try clear HK)
   (try clear HB)
   generalize ((w35.setCell ⟨gb107,0,none⟩ (.int .u64 t105)).setCell ⟨gb107,1,none⟩ (.int .u64 t106)) = w40 at n0_ n1_ n2_ n3_ n4_ n5_ n6_ ⊢
   have HO_1:=n0_
   have BK101:=n1_
   have BK102:=n2_
   have BK104:=n3_
   have BK107:=n4_
   have HK:=n5_
   have HB:=n6_
   clear n0_ n1_ n2_ n3_ n4_ n5_ n6_
   have n0_:=z4.mk (Kd.zS HO_1.out)
   have n1_:=z4.mk (zb BK101.out)
   have n2_:=z4.mk (zb BK102.out)
   have n3_:=z4.mk (zb BK104.out)
   have n4_:=z4.mk (zb BK107.out)
   have n5_:=z4.mk (Kept.drew HK.out)
   have n6_:=z4.mk (zc HB.out)
   clear HO_1
   clear BK101
   clear BK102
   clear BK104
   clear BK107
   clear HK
   clear HB
   have HO_1:=n0_
   have BK101:=n1_
   have BK102:=n2_
   have BK104:=n3_
   have BK107:=n4_
   have HK:=n5_
   have HB:=n6_
   clear n0_ n1_ n2_ n3_ n4_ n5_ n6_
   refine start_ (n:=9) (S:=fun w'=>w'.cell? ⟨gb101,0,none⟩ = some (.int .u64 x102000_1) ∧ w'.cell? ⟨gb101,1,none⟩ = some (.int .u64 x102001_1)) (ds:=[]) #[false,false,false,false,false,false,false,false,false] zz84 rfl rfl ⟨(zf BK101.out 0).trans rfl,(zf BK101.out 1).trans rfl⟩ (fun hHeld=>?_);refine z2e zs.tab6 zs.bits6 (fun HT_ HW_=>?_)
   generalize w40.drew = w41 at HO_1 BK101 BK102 BK104 BK107 HK HB hHeld ⊢
   refine pure_ (i:=0) (N:=some 29) (v:=?_) (a':=?_) #[true,false,false,false,false,false,false,false,false] rfl rfl (z1v HT_.out zz84) (fun _ _ _ h=>h) (Or.inl ⟨by rfl,?_⟩) ?_ ?_
   rotate_left
   · intro w'
     go_simp
     with_reducible rfl
   rotate_left
   · simp only [Act.put,List.setIfInBounds_toArray,List.set_cons_zero,List.set_cons_succ,zY,z16]
     rfl
   refine pure_ (i:=1) (N:=some 30) (v:=?_) (a':=?_) #[true,true,false,false,false,false,false,false,false] rfl rfl (z1v HT_.out zz84) (fun _ _ _ h=>h) (Or.inl ⟨by rfl,?_⟩) ?_ ?_
   rotate_left
   · intro w'
     go_simp
     with_reducible rfl
   rotate_left
   · simp only [Act.put,List.setIfInBounds_toArray,List.set_cons_zero,List.set_cons_succ,zY,z16]
     rfl
   refine pure_ (i:=2) (N:=some 31) (v:=?_) (a':=?_) #[true,true,true,false,false,false,false,false,false] rfl rfl (z1v HT_.out zz84) (fun _ _ _ h=>h) (Or.inl ⟨by rfl,?_⟩) ?_ ?_
   rotate_left
   · intro w'
     go_simp
     with_reducible rfl
   rotate_left
   · simp only [Act.put,List.setIfInBounds_toArray,List.set_cons_zero,List.set_cons_succ,zY,z16]
     rfl
   refine pure_ (i:=8) (N:=some 37) (v:=?_) (a':=?_) #[true,true,true,false,false,false,false,false,true] rfl rfl (z1v HT_.out zz84) (fun _ _ _ h=>h) (Or.inl ⟨by rfl,?_⟩) ?_ ?_
   rotate_left
   · intro w'
     go_simp
     with_reducible rfl
   rotate_left
   · simp only [Act.put,List.setIfInBounds_toArray,List.set_cons_zero,List.set_cons_succ,zY,z16]
     rfl
   refine take_ (i:=4) (N:=some 33) (v:=?_) (a':=?_) #[true,true,true,false,true,false,false,false,true] rfl rfl (z1S HT_.out HW_.out zz84) (fun _ _ _ h=>h) (Or.inl ⟨by rfl,?_⟩) hHeld ?_ ?_
   rotate_left
   · rintro w' ⟨s0,s1⟩
     go_simp
     with_reducible rfl
   rotate_left
   · simp only [Act.put,List.setIfInBounds_toArray,List.set_cons_zero,List.set_cons_succ,zY,z16]
     rfl
   refine one_ (i:=3) (N:=some 32) #[true,true,true,true,true,false,false,false,true] rfl rfl (z20 HT_.out zz84) zz85 (fun K hK=>?_)
   refine goes_ Try.func96 zz84 rfl #[.int .i64 x17_1] zz88 rfl rfl zz44 ?_
   with_reducible refine (zT.calls k1 x17_1 t108 t109 _ A25.out).mono ?_
   rintro e w42 ⟨rfl,hb⟩
   refine ⟨_,rfl,?_⟩
   have n0_:=z4.mk (Kd.zx zz70 hb)
   have n1_:=z4.mk (zh (g:=gb101) (o:=.cells #[.int .u64 x102000_1,.int .u64 x102001_1] 37 (0,0)) zz46 hb)
   have n2_:=z4.mk (zh (g:=gb102) (o:=.cells #[.int .u64 x103000_1,.int .u64 x103001_1] 37 (0,0)) zz47 hb)
   have n3_:=z4.mk (zh (g:=gb104) (o:=.cells #[.int .u64 ((rd_T37 l2 x17_1).f0),.int .u64 ((rd_T37 l2 x17_1).f1)] 37 (0,0)) zz53 hb)
   have n4_:=z4.mk (zh (g:=gb107) (o:=.cells #[.int .u64 t105,.int .u64 t106] 37 (0,0)) zz54 hb)
   have n5_:=z4.mk (Kept.below (S:=(fun k_=>P1_ k_)) zz23 hb)
   have n6_:=z4.mk (z9 zz28 hb)
   clear HO_1
   clear BK101
   clear BK102
   clear BK104
   clear BK107
   clear HK
   clear HB
   have HO_1:=n0_
   have BK101:=n1_
   have BK102:=n2_
   have BK104:=n3_
   have BK107:=n4_
   have HK:=n5_
   have HB:=n6_
   clear n0_ n1_ n2_ n3_ n4_ n5_ n6_
   (try clear hb)
   (try clear hb2)
   (try clear hk)
   (try clear hi)
   refine hK.out _ _ ⟨(zf BK101.out 0).trans rfl,(zf BK101.out 1).trans rfl⟩ (fun hHeld=>?_)
   clear hK K
   refine norm_ (a':=?_) ?_ ?_
   rotate_left
   · show Act.put _ (some 32) _ = _
     simp only [Act.put,List.setIfInBounds_toArray,List.set_cons_zero,List.set_cons_succ,zY,z16]
     rfl
   refine one_ (i:=5) (N:=some 34) #[true,true,true,true,true,true,false,false,true] rfl rfl (z20 HT_.out zz84) zz85 (fun K hK=>?_)
   refine goes_ Try.func86 zz84 rfl #[.int .i64 a0,.agg #[.int .u64 t108,.int .u64 t109],.agg #[.int .u64 x102000_1,.int .u64 x102001_1]] zz88 rfl rfl zz44 ?_
   with_reducible refine (zM.calls k1 a0 t108 t109 x102000_1 x102001_1 t110 t111 _ A26.out).mono ?_
   rintro e w43 ⟨rfl,hb⟩
   refine ⟨_,rfl,?_⟩
   have n0_:=z4.mk (Kd.zx zz70 hb)
   have n1_:=z4.mk (zh (g:=gb101) (o:=.cells #[.int .u64 x102000_1,.int .u64 x102001_1] 37 (0,0)) zz46 hb)
   have n2_:=z4.mk (zh (g:=gb102) (o:=.cells #[.int .u64 x103000_1,.int .u64 x103001_1] 37 (0,0)) zz47 hb)
   have n3_:=z4.mk (zh (g:=gb104) (o:=.cells #[.int .u64 ((rd_T37 l2 x17_1).f0),.int .u64 ((rd_T37 l2 x17_1).f1)] 37 (0,0)) zz53 hb)
   have n4_:=z4.mk (zh (g:=gb107) (o:=.cells #[.int .u64 t105,.int .u64 t106] 37 (0,0)) zz54 hb)
   have n5_:=z4.mk (Kept.below (S:=(fun k_=>P1_ k_)) zz23 hb)
   have n6_:=z4.mk (z9 zz28 hb)
   clear HO_1
   clear BK101
   clear BK102
   clear BK104
   clear BK107
   clear HK
   clear HB
   have HO_1:=n0_
   have BK101:=n1_
   have BK102:=n2_
   have BK104:=n3_
   have BK107:=n4_
   have HK:=n5_
   have HB:=n6_
   clear n0_ n1_ n2_ n3_ n4_ n5_ n6_
   (try clear hb)
   (try clear hb2)
   (try clear hk)
   (try clear hi)
   refine hK.out _ _ ⟨(zf BK101.out 0).trans rfl,(zf BK101.out 1).trans rfl⟩ (fun hHeld=>?_)
   clear hK K
   refine norm_ (a':=?_) ?_ ?_
   rotate_left
   · show Act.put _ (some 34) _ = _
     simp only [Act.put,List.setIfInBounds_toArray,List.set_cons_zero,List.set_cons_succ,zY,z16]
     rfl
   refine one_ (i:=6) (N:=some 35) #[true,true,true,true,true,true,true,false,true] rfl rfl (z20 HT_.out zz84) zz85 (fun K hK=>?_)
   refine goes_ Try.func127 zz84 rfl #[.int .i64 a0,.agg #[.int .u64 t110,.int .u64 t111]] zz88 rfl rfl zz44 ?_
   with_reducible refine (zP.calls k1 a0 t110 t111 t112 _ A27.out).mono ?_
   rintro e w44 ⟨v113,rfl,ho0,hb⟩
   refine ⟨_,rfl,?_⟩
   have n0_:=z4.mk (Kd.zx zz70 hb)
   have n1_:=z4.mk (Kd.z1e (Kd.R_newM (M:=fun k_=>(P1_ k_ ∨ w.heap.size ≤ k_)) ho0 (by first|exact HK.out.1|exact (show Kept w _ (fun k_=>P1_ k_) from by repeat (first|(with_reducible first|exact HK.out|apply Kept.alloc|apply Kept.drewN|apply Kept.drew|refine Kept.setCell ?_ (.inr GW101.out) _|refine Kept.setCell ?_ (.inr GW102.out) _|refine Kept.setCell ?_ (.inr GW104.out) _|refine Kept.setCell ?_ (.inr GW107.out) _)|exact HK.out)).1) (fun k_ h_=>.inr h_)) (ze zz28))
   have n2_:=z4.mk (zh (g:=gb101) (o:=.cells #[.int .u64 x102000_1,.int .u64 x102001_1] 37 (0,0)) zz46 hb)
   have n3_:=z4.mk (zh (g:=gb102) (o:=.cells #[.int .u64 x103000_1,.int .u64 x103001_1] 37 (0,0)) zz47 hb)
   have n4_:=z4.mk (zh (g:=gb104) (o:=.cells #[.int .u64 ((rd_T37 l2 x17_1).f0),.int .u64 ((rd_T37 l2 x17_1).f1)] 37 (0,0)) zz53 hb)
   have n5_:=z4.mk (zh (g:=gb107) (o:=.cells #[.int .u64 t105,.int .u64 t106] 37 (0,0)) zz54 hb)
   have n6_:=z4.mk (Kept.below (S:=(fun k_=>P1_ k_)) zz23 hb)
   have n7_:=z4.mk (z9 zz28 hb)
   clear HO_1
   clear BK101
   clear BK102
   clear BK104
   clear BK107
   clear HK
   clear HB
   have HO_1:=n0_
   have HO114:=n1_
   have BK101:=n2_
   have BK102:=n3_
   have BK104:=n4_
   have BK107:=n5_
   have HK:=n6_
   have HB:=n7_
   clear n0_ n1_ n2_ n3_ n4_ n5_ n6_ n7_
   (try clear hb)
   (try clear hb2)
   (try clear hk)
   (try clear hi)
   (try clear ho0)
   obtain ⟨Ao45,co45,eo45⟩:=Kd.z1j HO114.out
   (first|subst eo45|(injection eo45 with f1_ f2_ f3_;have f4_:=f1_.symm;have f5_:=f3_.symm;clear f1_ f2_ f3_;subst f4_;subst f5_))
   refine hK.out _ _ ⟨(zf BK101.out 0).trans rfl,(zf BK101.out 1).trans rfl⟩ (fun hHeld=>?_)
   clear hK K
   refine norm_ (a':=?_) ?_ ?_
   rotate_left
   · show Act.put _ (some 35) _ = _
     simp only [Act.put,List.setIfInBounds_toArray,List.set_cons_zero,List.set_cons_succ,zY,z16]
     rfl
   refine pure_ (i:=7) (N:=some 36) (v:=?_) (a':=?_) #[true,true,true,true,true,true,true,true,true] rfl rfl (z1v HT_.out zz84) (fun _ _ _ h=>h) (Or.inl ⟨by rfl,?_⟩) ?_ ?_
   rotate_left
   · intro w'
     go_simp
     with_reducible rfl
   rotate_left
   · simp only [Act.put,List.setIfInBounds_toArray,List.set_cons_zero,List.set_cons_succ,zY,z16]
     rfl
   refine done_ (z2B HT_.out zz84) ?_
   try go_wp2
   go_loopg [37] k1 (fun kq v37 w'=>∃ (x1_2 : List (S37)) (x37_2 : Int) (x102000_2 : Int) (x102001_2 : Int) (x103000_2 : Int) (x103001_2 : Int) (x105000_2 : Int) (x105001_2 : Int) (x108000_2 : Int) (x108001_2 : Int),v37 = .int .i64 x37_2 ∧ z4 (zs.l1 kq a0 x1_2 l2 (l2.length : Int) x17_1 t112 (t112.length : Int) x37_2 x102000_2 x102001_2 x103000_2 x103001_2 x108000_2 x108001_2 = some r) ∧ z4 (kq ≤ k1) ∧ z4 (Kd.R k37 37 w' w0.heap.size (fun k_=>(P1_ k_ ∨ w.heap.size ≤ k_) ∧ k_ ≠ gb101 ∧ k_ ≠ gb102 ∧ k_ ≠ gb104 ∧ k_ ≠ gb107) u9000_ x1_2) ∧ z4 (Kd.R Kd.bool 4 w' w0.heap.size (fun k_=>(P1_ k_ ∨ w.heap.size ≤ k_)) (.slice Ao45 t112.length co45) t112) ∧ z4 (w'.heap[gb101]? = some (.cells #[.int .u64 x102000_2,.int .u64 x102001_2] 37 (0,0))) ∧ z4 (w'.heap[gb102]? = some (.cells #[.int .u64 x103000_2,.int .u64 x103001_2] 37 (0,0))) ∧ z4 (w'.heap[gb104]? = some (.cells #[.int .u64 x105000_2,.int .u64 x105001_2] 37 (0,0))) ∧ z4 (w'.heap[gb107]? = some (.cells #[.int .u64 x108000_2,.int .u64 x108001_2] 37 (0,0))) ∧ z4 (Kept w w' (fun k_=>P1_ k_)) ∧ z4 (Below w0.heap.size w0 w'))
   case atStart=>exact ⟨(x1_1),(0),(x102000_1),(x102001_1),(x103000_1),(x103001_1),((rd_T37 l2 x17_1).f0),((rd_T37 l2 x17_1).f1),(t105),(t106),zz81,H',⟨Nat.le_refl _⟩,⟨by (with_reducible repeat (first|apply Kd.zH|apply Kd.zI|apply Kd.zS));exact HO_1.out⟩,⟨by (with_reducible repeat (first|apply Kd.zH|apply Kd.zI|apply Kd.zS));exact Kd.z12 HO114.out (fun _ hk=>hk.1)⟩,⟨by (with_reducible repeat (first|refine z8 ?_ _|refine zb ?_|refine z7 ?_ _));exact BK101.out⟩,⟨by (with_reducible repeat (first|refine z8 ?_ _|refine zb ?_|refine z7 ?_ _));exact BK102.out⟩,⟨by (with_reducible repeat (first|refine z8 ?_ _|refine zb ?_|refine z7 ?_ _));exact BK104.out⟩,⟨by (with_reducible repeat (first|refine z8 ?_ _|refine zb ?_|refine z7 ?_ _));exact BK107.out⟩,⟨by repeat (first|(with_reducible first|exact HK.out|apply Kept.alloc|apply Kept.drewN|apply Kept.drew|refine Kept.setCell ?_ (.inr GW101.out) _|refine Kept.setCell ?_ (.inr GW102.out) _|refine Kept.setCell ?_ (.inr GW104.out) _|refine Kept.setCell ?_ (.inr GW107.out) _)|exact HK.out)⟩,⟨by repeat (first|(with_reducible first|exact HB.out|apply zg|apply z6|apply zc|refine zd ?_ GE101.out|refine zd ?_ GE102.out|refine zd ?_ GE104.out|refine zd ?_ GE107.out)|exact HB.out)⟩⟩
   case round =>
    clear H'
    (try clear c1);(try clear p1);(try clear q1);(try clear hx1);(try clear c2);(try clear p2);(try clear c3);(try clear p6);(try clear c8);(try clear c8b0);(try clear c9);(try clear c9b0);(try clear c10);(try clear c10b0);(try clear p10);(try clear q10);(try clear hx10);(try clear c12);(try clear c12b0);(try clear c12b1);(try clear c12b2);(try clear c14);(try clear c15);(try clear c17);(try clear c21);(try clear c22);(try clear c23);(try clear c29);(try clear c30);(try clear c32);(try clear c36);(try clear c37);(try clear c38);(try clear hcz16_0);(try clear hcz16_1);(try clear hcz18_0);(try clear hcz18_1);(try clear hcz24_0);(try clear hcz24_1);(try clear hcz31_0);(try clear hcz31_1);(try clear hcz33_0);(try clear hcz33_1);(try clear hcz39_0);(try clear hcz39_1);(try clear hfz16_0);(try clear hfz16_1);(try clear hfz18_0);(try clear hfz18_1);(try clear hfz24_0);(try clear hfz24_1);(try clear hfz31_0);(try clear hfz31_1);(try clear hfz33_0);(try clear hfz33_1);(try clear hfz39_0);(try clear hfz39_1);(try clear hx103_0);(try clear hx103_1);(try clear p103);(try clear p2);(try clear q103)
    obtain ⟨x1_2,x37_2,x102000_2,x102001_2,x103000_2,x103001_2,x105000_2,x105001_2,x108000_2,x108001_2,rfl,HA,HK2,HO_1,HO_35,BK101,BK102,BK104,BK107,HK,HB⟩:=hrel
    cases gk with
    | zero=>exact absurd HA.out (by simp [zs.l1])
    | succ k2 =>
     have H:=HA.out
     clear HA
     simp only [zs.l1] at H
     by_cases c46 : x37_2 < (t112.length : Int)
     rotate_left
     · rw [if_neg c46] at H
       have c46b0 : decide (x37_2 < (t112.length : Int)) = false:=decide_eq_false c46
       clear c46
       have H':=z4.mk H
       clear H
       go_wp2
       go_roundg k2
       case measure=>have:=HK1.out;have:=HK2.out;omega
       case rel=>exact ⟨(x1_2),(wrap64 (x17_1 + 1)),(x102000_2),(x102001_2),(x103000_2),(x103001_2),zz81,H',⟨by have:=HK1.out;have:=HK2.out;omega⟩,⟨by (with_reducible repeat (first|apply Kd.zH|apply Kd.zI|apply Kd.zS));exact Kd.z12 HO_1.out (fun _ hk=>⟨hk.1,⟨hk.2.1,hk.2.2.1⟩⟩)⟩,⟨by (with_reducible repeat (first|refine z8 ?_ _|refine zb ?_|refine z7 ?_ _));exact BK101.out⟩,⟨by (with_reducible repeat (first|refine z8 ?_ _|refine zb ?_|refine z7 ?_ _));exact BK102.out⟩,⟨by repeat (first|(with_reducible first|exact HK.out|apply Kept.alloc|apply Kept.drewN|apply Kept.drew|refine Kept.setCell ?_ (.inr GW101.out) _|refine Kept.setCell ?_ (.inr GW102.out) _|refine Kept.setCell ?_ (.inr GW104.out) _|refine Kept.setCell ?_ (.inr GW107.out) _)|exact HK.out)⟩,⟨by repeat (first|(with_reducible first|exact HB.out|apply zg|apply z6|apply zc|refine zd ?_ GE101.out|refine zd ?_ GE102.out|refine zd ?_ GE104.out|refine zd ?_ GE107.out)|exact HB.out)⟩⟩
     rw [if_pos c46] at H
     have c46b0 : decide (x37_2 < (t112.length : Int)) = true:=decide_eq_true c46
     clear c46
     by_cases c47 : 0 ≤ x37_2
     rotate_left
     · rw [if_neg c47] at H
       exact absurd H zz87
     rw [if_pos c47] at H
     have c47b0 : decide (0 ≤ x37_2) = true:=decide_eq_true c47
     clear c47
     by_cases c48 : x37_2 < (t112.length : Int)
     rotate_left
     · rw [if_neg c48] at H
       exact absurd H zz87
     rw [if_pos c48] at H
     have c48b0 : decide (x37_2 < (t112.length : Int)) = true:=decide_eq_true c48
     clear c48
     obtain ⟨bq49,hbq49⟩ : ∃ b_ : Bool,b_ = (rdOf false t112 x37_2):=⟨_,rfl⟩
     replace H : (if bq49 = true then (if x37_2 < (x1_2.length : Int) then ((z1t.f ((rd_T37 x1_2 x37_2).f0) ((rd_T37 x1_2 x37_2).f1) x108000_2 x108001_2).bind fun bt117=>(zs.l1 k2 a0 (x1_2.set (x37_2 : Int).toNat (⟨bt117.1,bt117.2⟩ : S37)) l2 (l2.length : Int) x17_1 t112 (t112.length : Int) (wrap64 (x37_2 + 1)) x102000_2 x102001_2 x103000_2 x103001_2 x108000_2 x108001_2)) else (none)) else (zs.l1 k2 a0 x1_2 l2 (l2.length : Int) x17_1 t112 (t112.length : Int) (wrap64 (x37_2 + 1)) x102000_2 x102001_2 x103000_2 x103001_2 x108000_2 x108001_2)) = some r:=by rw [← hbq49] at H;exact H
     have Nbq49:=z4.mk hbq49
     clear hbq49
     by_cases c50 : bq49 = true
     rotate_left
     · replace c50:=Bool.eq_false_iff.mpr c50
       subst c50
       have H1 : (zs.l1 k2 a0 x1_2 l2 (l2.length : Int) x17_1 t112 (t112.length : Int) (wrap64 (x37_2 + 1)) x102000_2 x102001_2 x103000_2 x103001_2 x108000_2 x108001_2) = some r:=by rw [if_neg (show ¬ (false = true) by decide)] at H;exact H
       clear H
       have H:=H1
       clear H1
       have H':=z4.mk H
       clear H
       have p115 : 0 ≤ (x37_2 : Int):=of_decide_eq_true zz80
       have q115 : x37_2 < (t112.length : Int):=of_decide_eq_true zz80
       obtain ⟨ad115,e115,hx115_0⟩:=Kd.z3C (Kd.zv HO_35.out).2.2 x37_2 p115 q115
       (try rw [← Nbq49.out] at hx115_0)
       cases e115
       replace p115:=eq_true p115
       replace q115:=eq_true q115
       go_wp2
       go_roundg k2
       case measure=>have:=HK1.out;have:=HK2.out;omega
       case rel=>exact ⟨(x1_2),(wrap64 (x37_2 + 1)),(x102000_2),(x102001_2),(x103000_2),(x103001_2),(x105000_2),(x105001_2),(x108000_2),(x108001_2),zz81,H',⟨by have:=HK1.out;have:=HK2.out;omega⟩,⟨by (with_reducible repeat (first|apply Kd.zH|apply Kd.zI|apply Kd.zS));exact HO_1.out⟩,⟨by (with_reducible repeat (first|apply Kd.zH|apply Kd.zI|apply Kd.zS));exact HO_35.out⟩,⟨by (with_reducible repeat (first|refine z8 ?_ _|refine zb ?_|refine z7 ?_ _));exact BK101.out⟩,⟨by (with_reducible repeat (first|refine z8 ?_ _|refine zb ?_|refine z7 ?_ _));exact BK102.out⟩,⟨by (with_reducible repeat (first|refine z8 ?_ _|refine zb ?_|refine z7 ?_ _));exact BK104.out⟩,⟨by (with_reducible repeat (first|refine z8 ?_ _|refine zb ?_|refine z7 ?_ _));exact BK107.out⟩,⟨by repeat (first|(with_reducible first|exact HK.out|apply Kept.alloc|apply Kept.drewN|apply Kept.drew|refine Kept.setCell ?_ (.inr GW101.out) _|refine Kept.setCell ?_ (.inr GW102.out) _|refine Kept.setCell ?_ (.inr GW104.out) _|refine Kept.setCell ?_ (.inr GW107.out) _)|exact HK.out)⟩,⟨by repeat (first|(with_reducible first|exact HB.out|apply zg|apply z6|apply zc|refine zd ?_ GE101.out|refine zd ?_ GE102.out|refine zd ?_ GE104.out|refine zd ?_ GE107.out)|exact HB.out)⟩⟩
     subst c50
     have H1 : (if x37_2 < (x1_2.length : Int) then ((z1t.f ((rd_T37 x1_2 x37_2).f0) ((rd_T37 x1_2 x37_2).f1) x108000_2 x108001_2).bind fun bt117=>(zs.l1 k2 a0 (x1_2.set (x37_2 : Int).toNat (⟨bt117.1,bt117.2⟩ : S37)) l2 (l2.length : Int) x17_1 t112 (t112.length : Int) (wrap64 (x37_2 + 1)) x102000_2 x102001_2 x103000_2 x103001_2 x108000_2 x108001_2)) else (none)) = some r:=by rw [if_pos rfl] at H;exact H
     clear H
     have H:=H1
     clear H1
     by_cases c51 : x37_2 < (x1_2.length : Int)
     rotate_left
     · rw [if_neg c51] at H
       exact absurd H zz87
     rw [if_pos c51] at H
     have c51b0 : decide (x37_2 < (x1_2.length : Int)) = true:=decide_eq_true c51
     clear c51
     replace H:=Option.bind_eq_some_iff.mp H
     obtain ⟨⟨t117,t118⟩,A520,H⟩:=H
     replace H : (zs.l1 k2 a0 (x1_2.set (x37_2 : Int).toNat (⟨t117,t118⟩ : S37)) l2 (l2.length : Int) x17_1 t112 (t112.length : Int) (wrap64 (x37_2 + 1)) x102000_2 x102001_2 x103000_2 x103001_2 x108000_2 x108001_2) = some r:=H
     have A52:=z4.mk A520
     clear A520
     obtain ⟨y119,hy119⟩ : ∃ y_ : List (S37),y_ = (x1_2.set (x37_2 : Int).toNat (⟨t117,t118⟩ : S37)):=⟨_,rfl⟩
     replace H : (zs.l1 k2 a0 y119 l2 (l2.length : Int) x17_1 t112 (t112.length : Int) (wrap64 (x37_2 + 1)) x102000_2 x102001_2 x103000_2 x103001_2 x108000_2 x108001_2) = some r:=by first|(rw [hy119];with_reducible exact H)|(have H2_:=(Option.bind_some _ _).symm.trans H;rw [hy119];with_reducible exact H2_)|(have H2_:=(Option.bind_some _ _).symm.trans H;with_reducible exact H2_)|with_reducible exact H|(rw [hy119];exact H)|exact H
     have Ny119:=z4.mk hy119
     clear hy119
     have H':=z4.mk H
     clear H
     have p115 : 0 ≤ (x37_2 : Int):=of_decide_eq_true zz80
     have q115 : x37_2 < (t112.length : Int):=of_decide_eq_true zz80
     obtain ⟨ad115,e115,hx115_0⟩:=Kd.z3C (Kd.zv HO_35.out).2.2 x37_2 p115 q115
     (try rw [← Nbq49.out] at hx115_0)
     cases e115
     replace p115:=eq_true p115
     replace q115:=eq_true q115
     try go_wp2
     have n0_:=z4.mk (Kd.zS HO_1.out)
     have n1_:=z4.mk (Kd.zS HO_35.out)
     have n2_:=z4.mk (zb BK101.out)
     have n3_:=z4.mk (zb BK102.out)
     have n4_:=z4.mk (zb BK104.out)
     have n5_:=z4.mk (zb BK107.out)
     have n6_:=z4.mk (Kept.drew HK.out)
     have n7_:=z4.mk (zc HB.out)
     clear HO_1
     clear HO_35
     clear BK101
     clear BK102
     clear BK104
     clear BK107
     clear HK
     clear HB
     have HO_1:=n0_
     have HO_35:=n1_
     have BK101:=n2_
     have BK102:=n3_
     have BK104:=n4_
     have BK107:=n5_
     have HK:=n6_
     have HB:=n7_
     clear n0_ n1_ n2_ n3_ n4_ n5_ n6_ n7_
     obtain ⟨Ao55,co55,eo55⟩:=Kd.z1j HO_1.out
     (first|subst eo55|(injection eo55 with f1_ f2_ f3_;have f4_:=f1_.symm;have f5_:=f3_.symm;clear f1_ f2_ f3_;subst f4_;subst f5_))
     have p116 : 0 ≤ (x37_2 : Int):=of_decide_eq_true zz80
     have q116 : x37_2 < (x1_2.length : Int):=of_decide_eq_true zz80
     obtain ⟨ad116,e116,hx116_0,hx116_1⟩:=z1Y (Kd.zv HO_1.out).2.2 x37_2 p116 q116
     cases e116
     replace p116:=eq_true p116
     replace q116:=eq_true q116
     refine start_ (n:=10) (S:=fun w'=>w'.cell? ⟨gb107,0,none⟩ = some (.int .u64 x108000_2) ∧ w'.cell? ⟨gb107,1,none⟩ = some (.int .u64 x108001_2) ∧ w'.cell? (ad116.add ((x37_2).toNat * 2)) = some (.int .u64 ((rd_T37 x1_2 x37_2).f0)) ∧ w'.cell? ⟨(ad116.add ((x37_2).toNat * 2)).block,(ad116.add ((x37_2).toNat * 2)).off + 1,none⟩ = some (.int .u64 ((rd_T37 x1_2 x37_2).f1))) (ds:=[9]) #[false,false,false,false,false,false,false,false,false,false] zz84 rfl rfl ⟨(zf BK107.out 0).trans rfl,(zf BK107.out 1).trans rfl,hx116_0,hx116_1⟩ (fun hHeld=>?_);refine z2e zs.tab10 zs.bits10 (fun HT_ HW_=>?_)
     generalize wr.drew = w54 at HO_1 HO_35 BK101 BK102 BK104 BK107 HK HB hx116_0 hx116_1 hHeld ⊢
     refine pure_ (i:=0) (N:=some 43) (v:=?_) (a':=?_) #[true,false,false,false,false,false,false,false,false,false] rfl rfl (z1v HT_.out zz84) (fun _ _ _ h=>h) (Or.inl ⟨by rfl,?_⟩) ?_ ?_
     rotate_left
     · intro w'
       go_simp
       with_reducible rfl
     rotate_left
     · simp only [Act.put,List.setIfInBounds_toArray,List.set_cons_zero,List.set_cons_succ,zY,z16]
       rfl
     refine pure_ (i:=1) (N:=some 44) (v:=?_) (a':=?_) #[true,true,false,false,false,false,false,false,false,false] rfl rfl (z1v HT_.out zz84) (fun _ _ _ h=>h) (Or.inl ⟨by rfl,?_⟩) ?_ ?_
     rotate_left
     · intro w'
       go_simp
       with_reducible rfl
     rotate_left
     · simp only [Act.put,List.setIfInBounds_toArray,List.set_cons_zero,List.set_cons_succ,zY,z16]
       rfl
     refine pure_ (i:=2) (N:=some 45) (v:=?_) (a':=?_) #[true,true,true,false,false,false,false,false,false,false] rfl rfl (z1v HT_.out zz84) (fun _ _ _ h=>h) (Or.inl ⟨by rfl,?_⟩) ?_ ?_
     rotate_left
     · intro w'
       go_simp
       with_reducible rfl
     rotate_left
     · simp only [Act.put,List.setIfInBounds_toArray,List.set_cons_zero,List.set_cons_succ,zY,z16]
       rfl
     refine pure_ (i:=3) (N:=some 46) (v:=?_) (a':=?_) #[true,true,true,true,false,false,false,false,false,false] rfl rfl (z1v HT_.out zz84) (fun _ _ _ h=>h) (Or.inl ⟨by rfl,?_⟩) ?_ ?_
     rotate_left
     · intro w'
       go_simp
       with_reducible rfl
     rotate_left
     · simp only [Act.put,List.setIfInBounds_toArray,List.set_cons_zero,List.set_cons_succ,zY,z16]
       rfl
     refine pure_ (i:=4) (N:=some 47) (v:=?_) (a':=?_) #[true,true,true,true,true,false,false,false,false,false] rfl rfl (z1v HT_.out zz84) (fun _ _ _ h=>h) (Or.inl ⟨by rfl,?_⟩) ?_ ?_
     rotate_left
     · intro w'
       go_simp
       with_reducible rfl
     rotate_left
     · simp only [Act.put,List.setIfInBounds_toArray,List.set_cons_zero,List.set_cons_succ,zY,z16]
       rfl
     refine take_ (i:=5) (N:=some 48) (v:=?_) (a':=?_) #[true,true,true,true,true,true,false,false,false,false] rfl rfl (z1S HT_.out HW_.out zz84) (fun _ _ _ h=>h) (Or.inl ⟨by rfl,?_⟩) hHeld ?_ ?_
     rotate_left
     · rintro w' ⟨s0,s1,s2,s3⟩
       go_simp
       with_reducible rfl
     rotate_left
     · simp only [Act.put,List.setIfInBounds_toArray,List.set_cons_zero,List.set_cons_succ,zY,z16]
       rfl
     refine take_ (i:=6) (N:=some 49) (v:=?_) (a':=?_) #[true,true,true,true,true,true,true,false,false,false] rfl rfl (z1S HT_.out HW_.out zz84) (fun _ _ _ h=>h) (Or.inl ⟨by rfl,?_⟩) hHeld ?_ ?_
     rotate_left
     · rintro w' ⟨s0,s1,s2,s3⟩
       go_simp
       with_reducible rfl
     rotate_left
     · simp only [Act.put,List.setIfInBounds_toArray,List.set_cons_zero,List.set_cons_succ,zY,z16]
       rfl
     refine one_ (i:=7) (N:=some 50) #[true,true,true,true,true,true,true,true,false,false] rfl rfl (z20 HT_.out zz84) zz85 (fun K hK=>?_)
     refine goes_ Try.func60 zz84 rfl #[.agg #[.int .u64 ((rd_T37 x1_2 x37_2).f0),.int .u64 ((rd_T37 x1_2 x37_2).f1)],.agg #[.int .u64 x108000_2,.int .u64 x108001_2]] zz88 rfl rfl zz44 ?_
     with_reducible refine (z1t.calls ((rd_T37 x1_2 x37_2).f0) ((rd_T37 x1_2 x37_2).f1) x108000_2 x108001_2 t117 t118 _ A52.out).mono ?_
     rintro e w56 ⟨rfl,hb⟩
     have HS2_:=(hb.cell (World.block_lt_of_cell? _ _ (hHeld.2.2.1))).trans (hHeld.2.2.1)
     have HS3_:=(hb.cell (World.block_lt_of_cell? _ _ (hHeld.2.2.2))).trans (hHeld.2.2.2)
     refine ⟨_,rfl,?_⟩
     have n0_:=z4.mk (Kd.zx zz70 hb)
     have n1_:=z4.mk (Kd.zx (by (with_reducible repeat (first|apply Kd.zH|apply Kd.zI|apply Kd.zS));exact HO_35.out) hb)
     have n2_:=z4.mk (zh (g:=gb101) (o:=.cells #[.int .u64 x102000_2,.int .u64 x102001_2] 37 (0,0)) zz46 hb)
     have n3_:=z4.mk (zh (g:=gb102) (o:=.cells #[.int .u64 x103000_2,.int .u64 x103001_2] 37 (0,0)) zz47 hb)
     have n4_:=z4.mk (zh (g:=gb104) (o:=.cells #[.int .u64 x105000_2,.int .u64 x105001_2] 37 (0,0)) zz53 hb)
     have n5_:=z4.mk (zh (g:=gb107) (o:=.cells #[.int .u64 x108000_2,.int .u64 x108001_2] 37 (0,0)) zz54 hb)
     have n6_:=z4.mk (Kept.below (S:=(fun k_=>P1_ k_)) zz23 hb)
     have n7_:=z4.mk (z9 zz28 hb)
     clear HO_1
     clear HO_35
     clear BK101
     clear BK102
     clear BK104
     clear BK107
     clear HK
     clear HB
     have HO_1:=n0_
     have HO_35:=n1_
     have BK101:=n2_
     have BK102:=n3_
     have BK104:=n4_
     have BK107:=n5_
     have HK:=n6_
     have HB:=n7_
     clear n0_ n1_ n2_ n3_ n4_ n5_ n6_ n7_
     (try clear hb)
     (try clear hb2)
     (try clear hk)
     (try clear hi)
     have p53 : 0 ≤ (x37_2 : Int):=of_decide_eq_true zz80
     have q53 : (x37_2 : Int) < ((x1_2.length : Int) : Int):=of_decide_eq_true zz80
     obtain ⟨go53,co53,eo53,gb53,gl53,cl53,HG53⟩:=Kd.z4F HO_1.out zz86
     (first|cases eo53|(injection eo53 with ea_ en_ ec_;(first|subst ea_|(injection ea_ with ea_;subst ea_));subst ec_;clear en_))
     have GB53:=z4.mk gb53
     have GG53:=z4.mk HG53
     clear gb53 gl53 HG53
     have HMgo53:=z4.mk (show (P1_ go53 ∨ w.heap.size ≤ go53) from (HO_1.out.1 _ rfl).1)
     (first|simp only [z26] at hx116_0|skip)
     (first|simp only [z26] at hx116_1|skip)
     obtain ⟨ce53,hcl53,hM53,hcc53,hfr53⟩:=Kd.z2U HO_1.out z37 (x37_2 : Int) p53 q53
     obtain rfl:=z22 hM53
     have hx53_0 : World.cell? _ ⟨go53,(x37_2 : Int).toNat * 2,none⟩ = some (.int .u64 ((rd_T37 x1_2 x37_2).f0)):=hcc53 0 _ rfl
     have hx53_1 : World.cell? _ ⟨go53,(x37_2 : Int).toNat * 2 + 1,none⟩ = some (.int .u64 ((rd_T37 x1_2 x37_2).f1)):=hcc53 1 _ rfl
     have hf53_0 : World.frozen? _ ⟨go53,(x37_2 : Int).toNat * 2,none⟩ = false:=hfr53 0
     have hf53_1 : World.frozen? _ ⟨go53,(x37_2 : Int).toNat * 2 + 1,none⟩ = false:=hfr53 1
     clear hcl53 hcc53 hfr53 hM53
     replace p53:=eq_true p53
     replace q53:=eq_true q53
     obtain ⟨ce57,hcl57,hM57,hcc57,hfr57⟩:=Kd.z2U HO_1.out z37 (x37_2 : Int) (of_decide_eq_true zz80) (by have h_ : (x37_2 : Int) < ((x1_2.length : Int) : Int):=of_decide_eq_true zz80;first|exact h_|(have e_:=(Kd.zv HO_1.out).1;omega)|simpa using h_)
     obtain rfl:=z22 hM57
     have HP57:=(Kd.z6r HO_1.out (x37_2 : Int) (of_decide_eq_true zz80) (by have h_ : (x37_2 : Int) < ((x1_2.length : Int) : Int):=of_decide_eq_true zz80;first|exact h_|(have e_:=(Kd.zv HO_1.out).1;omega)|simpa using h_) (seg:=[.int .u64 t117,.int .u64 t118]) (j:=0) hcl57 hcc57 (show 2 ≤ 2 from by decide) (x':=(⟨t117,t118⟩ : S37)) (z1K _ _ _ (⟨t117,t118⟩ : S37) ) (fun _ hk=>hk)).1
     rw [← Ny119.out] at HP57
     have HQ57:=z4.mk HP57
     clear hcl57 hcc57 hfr57 hM57 HP57
     refine hK.out _ _ ⟨(zf BK107.out 0).trans rfl,(zf BK107.out 1).trans rfl,HS2_,HS3_⟩ (fun hHeld=>?_)
     clear hK K
     refine norm_ (a':=?_) ?_ ?_
     rotate_left
     · show Act.put _ (some 50) _ = _
       simp only [Act.put,List.setIfInBounds_toArray,List.set_cons_zero,List.set_cons_succ,zY,z16]
       rfl
     refine pure_ (i:=8) (N:=some 51) (v:=?_) (a':=?_) #[true,true,true,true,true,true,true,true,true,false] rfl rfl (z1v HT_.out zz84) (fun _ _ _ h=>h) (Or.inl ⟨by rfl,?_⟩) ?_ ?_
     rotate_left
     · intro w'
       go_simp
       with_reducible rfl
     rotate_left
     · simp only [Act.put,List.setIfInBounds_toArray,List.set_cons_zero,List.set_cons_succ,zY,z16]
       rfl
     refine last_ (i:=9) (N:=none) #[true,true,true,true,true,true,true,true,true,true] rfl rfl (z20 HT_.out zz84) zz85 (fun K hK=>?_)
     refine skip_ (w1:=?_) zz88 rfl ?_ ?_
     rotate_left
     · go_simp
       rfl
     refine hK.out _ _ ?_
     clear hK K
     refine done_ (z2B HT_.out zz84) ?_
     try go_wp2
     go_roundg k2
     case measure=>have:=HK1.out;have:=HK2.out;omega
     case rel=>exact ⟨(y119),(wrap64 (x37_2 + 1)),(x102000_2),(x102001_2),(x103000_2),(x103001_2),(x105000_2),(x105001_2),(x108000_2),(x108001_2),zz81,H',⟨by have:=HK1.out;have:=HK2.out;omega⟩,⟨by (with_reducible repeat (first|apply Kd.zH|apply Kd.zI|apply Kd.zS));exact HQ57.out⟩,⟨by (with_reducible repeat (first|apply Kd.zH|apply Kd.zI|apply Kd.zS));exact Kd.z12 (Kd.z1O (p:=⟨go53,(x37_2 : Int).toNat * 2 + 1,none⟩) (Kd.z1O (p:=⟨go53,(x37_2 : Int).toNat * 2,none⟩) (Kd.z5G HO_35.out GG53.out zz85) (fun _ hk=>hk.2) (.int .u64 t117)) (fun _ hk=>hk.2) (.int .u64 t118)) (fun _ hk=>hk.1)⟩,⟨by (with_reducible repeat (first|refine z8 ?_ _|refine zb ?_|refine z7 ?_ _));refine zW ?_ zz76 _;(with_reducible repeat (first|refine z8 ?_ _|refine zb ?_|refine z7 ?_ _));refine zW ?_ zz76 _;(with_reducible repeat (first|refine z8 ?_ _|refine zb ?_|refine z7 ?_ _));exact BK101.out⟩,⟨by (with_reducible repeat (first|refine z8 ?_ _|refine zb ?_|refine z7 ?_ _));refine zW ?_ zz74 _;(with_reducible repeat (first|refine z8 ?_ _|refine zb ?_|refine z7 ?_ _));refine zW ?_ zz74 _;(with_reducible repeat (first|refine z8 ?_ _|refine zb ?_|refine z7 ?_ _));exact BK102.out⟩,⟨by (with_reducible repeat (first|refine z8 ?_ _|refine zb ?_|refine z7 ?_ _));refine zW ?_ zz72 _;(with_reducible repeat (first|refine z8 ?_ _|refine zb ?_|refine z7 ?_ _));refine zW ?_ zz72 _;(with_reducible repeat (first|refine z8 ?_ _|refine zb ?_|refine z7 ?_ _));exact BK104.out⟩,⟨by (with_reducible repeat (first|refine z8 ?_ _|refine zb ?_|refine z7 ?_ _));refine zW ?_ zz73 _;(with_reducible repeat (first|refine z8 ?_ _|refine zb ?_|refine z7 ?_ _));refine zW ?_ zz73 _;(with_reducible repeat (first|refine z8 ?_ _|refine zb ?_|refine z7 ?_ _));exact BK107.out⟩,⟨by repeat (first|(with_reducible first|exact HK.out|apply Kept.alloc|apply Kept.drewN|apply Kept.drew|refine Kept.setCell ?_ HMgo53.out _|refine Kept.setCell ?_ HMgo53.out _|refine Kept.setCell ?_ (.inr GW101.out) _|refine Kept.setCell ?_ (.inr GW102.out) _|refine Kept.setCell ?_ (.inr GW104.out) _|refine Kept.setCell ?_ (.inr GW107.out) _)|exact HK.out)⟩,⟨by repeat (first|(with_reducible first|exact HB.out|apply zg|apply z6|apply zc|refine zd ?_ GB53.out|refine zd ?_ GB53.out|refine zd ?_ GE101.out|refine zd ?_ GE102.out|refine zd ?_ GE104.out|refine zd ?_ GE107.out)|exact HB.out)⟩⟩
end Go.Proofs.Ytklkmflhnljbdaa.P
/- The program's sums of pairs: a tensor times an element on the left, parts by another one, added to one. Own text. -/
namespace Go.Proofs.Ytklkmflhnljbdaa.Sp
open Go.RowKit Go.Proofs.YtklkmflhnljbdaaW.PrintWords Go.Proofs.YtklkmflhnljbdaaW.PrintMore Go.Proofs.Ytklkmflhnljbdaa.P Go.Proofs.Ytklkmflhnljbdaa.Ar Go.Proofs.Ytklkmflhnljbdaa.Tw
set_option linter.unusedVariables false
/-- A list of so many elements. -/
def tabL (n : Nat) (f : Nat → E) : List E := (List.range n).map f
theorem z15 (n : Nat) (f : Nat → E) : (tabL n f).length = n := by simp [tabL]
theorem z1P (n : Nat) (f : Nat → E) (i : Nat) (h : i < n) : (tabL n f).getD i 0 = f i := z2P f 0 n i h
theorem z1G (n : Nat) {f g : Nat → E} (h : ∀ i, i < n → f i = g i) : tabL n f = tabL n g := by
  unfold tabL
  apply List.map_congr_left
  intro i hi
  exact h i (List.mem_range.1 hi)
theorem tabL_self (X : List E) : tabL X.length (fun i => X.getD i 0) = X := by
  apply z3m (z15 _ _)
  intro i hi
  rw [z15] at hi
  exact z1P _ _ i hi
theorem z3w (n : Nat) (f g : Nat → E) (i : Nat) (hi : i < n) (hg : ∀ k, k < n → k ≠ i → g k = f k) : (tabL n f).set i (g i) = tabL n g := by
  apply z3m
  · rw [List.length_set, z15, z15]
  · intro k hk
    rw [List.length_set, z15] at hk
    rw [z1P n g k hk]
    by_cases c : i = k
    · subst c
      exact z4X (by rw [z15]; exact hi) _
    · rw [getD_set_ne c, z1P n f k hk, hg k hk (fun e => c e.symm)]
theorem z2D (n : Nat) : List.replicate n (0 : E) = tabL n (fun _ => 0) := by
  apply z3m
  · rw [List.length_replicate, z15]
  · intro i hi
    rw [List.length_replicate] at hi
    rw [z1P n _ i hi, List.getD_eq_getElem?_getD, List.getElem?_replicate, if_pos hi]; rfl
theorem z58 {l : Nat} (hl : l ≤ 7) (n : Nat) (f : Nat → E) (h : ∀ i, i < n → InL l (f i)) : AllS (l : Int) (tabL n f) := by
  intro x hx
  unfold tabL at hx
  obtain ⟨i, hi, rfl⟩ := List.mem_map.1 hx
  exact ⟨by omega, by omega, by rw [Int.toNat_natCast]; exact h i (List.mem_range.1 hi)⟩
theorem z69 {l : Nat} (hl : l ≤ 7) {x : E} (h : InL l x) : OfS (l : Int) x := ⟨by omega, by omega, by rw [Int.toNat_natCast]; exact h⟩
theorem z64 {l : Nat} {x : E} (h : OfS (l : Int) x) : InL l x := by have := h.2.2; rwa [Int.toNat_natCast] at this
/-- One product's bits, each with y, added to what there is. -/
def bitAdd (f : Nat → E) (z y : E) (i k : Nat) : E := f k + pick (decide (k < i) && hasB z k) y
theorem z45 (f : Nat → E) (z y : E) (k : Nat) : bitAdd f z y 0 k = f k := by
  unfold bitAdd
  rw [decide_eq_false (Nat.not_lt_zero k), Bool.false_and, z1p, add_zero]
theorem z3l (f : Nat → E) (z y : E) (i : Nat) : bitAdd f z y i i = f i := by
  unfold bitAdd
  rw [decide_eq_false (Nat.lt_irrefl i), Bool.false_and, z1p, add_zero]
theorem z2O (f : Nat → E) (z y : E) (i k : Nat) (h : k ≠ i) : bitAdd f z y (i + 1) k = bitAdd f z y i k := by
  unfold bitAdd
  have : decide (k < i + 1) = decide (k < i) := by rw [decide_eq_decide]; omega
  rw [this]
theorem z39 (f : Nat → E) (z y : E) (i : Nat) : bitAdd f z y (i + 1) i = f i + pick (hasB z i) y := by
  unfold bitAdd
  rw [decide_eq_true (Nat.lt_succ_self i), Bool.true_and]
theorem z4K (f : Nat → E) (z y : E) (n k : Nat) (h : k < n) : bitAdd f z y n k = f k + pick (hasB z k) y := by
  unfold bitAdd
  rw [decide_eq_true h, Bool.true_and]
theorem z6W {l : Nat} (hl : l ≤ 7) (f : Nat → E) (z y a p : E) (TS : List S37) (m u : Int) {R : List S37}
    (h : Ev (fun q => zs.l0 q (l : Int) ((tabL (2 ^ l) (fun k => f k + pick (hasB z k) y)).map toS) TS m (wrap64 (u + 1)) (hi a) (lo a) (hi p) (lo p)) R) :
    ∀ (d i : Nat), i + d = 2 ^ l → Ev (fun q => zs.l1 q (l : Int) ((tabL (2 ^ l) (bitAdd f z y i)).map toS) TS m u (bitsL z (2 ^ l)) ((2 ^ l : Nat) : Int) (i : Int) (hi a) (lo a) (hi p) (lo p) (hi y) (lo y)) R := by
  have h128 := w128 hl
  have hlb : (bitsL z (2 ^ l)).length = 2 ^ l := by unfold bitsL; simp
  intro d
  induction d with
  | zero =>
    intro i hid
    have : i = 2 ^ l := by omega
    subst this
    refine Ev.step (fun q => by rw [zs.l1]) (Ev.neg (Int.lt_irrefl _) ?_)
    rw [z1G _ (fun k hk => z4K f z y (2 ^ l) k hk)]
    exact h
  | succ d ih =>
    intro i hid
    have hi' : i < 2 ^ l := by omega
    have hih := ih (i + 1) (by omega)
    have hb : rdOf false (bitsL z (2 ^ l)) (i : Int) = hasB z i := by rw [z5P]; exact z2P _ false _ i hi'
    have hg : (tabL (2 ^ l) (bitAdd f z y i)).getD i 0 = f i := by rw [z1P _ _ i hi', z3l]
    have c3 : (i : Int) < (((tabL (2 ^ l) (bitAdd f z y i)).map toS).length : Int) := by rw [List.length_map, z15]; omega
    refine Ev.step (fun q => by rw [zs.l1]) (Ev.pos (by omega) (Ev.pos (Int.natCast_nonneg _) (Ev.pos (by rw [hlb]; omega) ?_)))
    simp only [hb, z1M hi' (show 2 ^ l ≤ 4611686018427387904 by omega)]
    cases c : hasB z i with
    | true =>
      refine Ev.pos rfl (Ev.pos c3 ?_)
      simp only [rdS, hg, z2L, z2M]
      refine Ev.bnd0 (z5d _ _) ?_
      have e : ((tabL (2 ^ l) (bitAdd f z y i)).map toS).set (i : Int).toNat (⟨hi (f i + y), lo (f i + y)⟩ : S37) = (tabL (2 ^ l) (bitAdd f z y (i + 1))).map toS := by
        rw [Int.toNat_natCast, z5A, map_set]
        have hn := z39 f z y i
        rw [c, z1I] at hn
        rw [← hn, z3w _ _ _ i hi' (fun k _ hne => z2O f z y i k hne)]
      rw [e]; exact hih
    | false =>
      refine Ev.neg Bool.false_ne_true ?_
      have e : tabL (2 ^ l) (bitAdd f z y (i + 1)) = tabL (2 ^ l) (bitAdd f z y i) := by
        apply z1G
        intro k _
        by_cases ck : k = i
        · subst ck; rw [z39, c, z1p, add_zero, z3l]
        · exact z2O f z y i k ck
      rw [← e]; exact hih
theorem z6V {l : Nat} (hl : l ≤ 7) (T : List E) (a p : E) (hT : AllS (l : Int) T) (hTl : T.length ≤ 2 ^ l) (ha : InL l a) (hp : InL l p) (f : Nat → E) :
    ∀ (d u : Nat), u + d = T.length → Ev (fun q => zs.l0 q (l : Int) ((tabL (2 ^ l) (fun k => f k + actT u (fun i => T.getD i 0) a p k)).map toS) (T.map toS) (T.length : Int) (u : Int) (hi a) (lo a) (hi p) (lo p))
      ((tabL (2 ^ l) (fun k => f k + actT T.length (fun i => T.getD i 0) a p k)).map toS) := by
  have h128 := w128 hl
  intro d
  induction d with
  | zero =>
    intro u hu
    have : u = T.length := by omega
    subst this
    exact Ev.step (fun q => by rw [zs.l0]) (Ev.neg (Int.lt_irrefl _) (Ev.ret _))
  | succ d ih =>
    intro u hu
    have hu' : u < T.length := by omega
    have hih := ih (u + 1) (by omega)
    have hw := z1M hu' (show T.length ≤ 4611686018427387904 by omega)
    have hs : ∀ k, actT (u + 1) (fun i => T.getD i 0) a p k = actT u (fun i => T.getD i 0) a p k + pick (hasB (bitE u * a) k) (T.getD u 0 * p) := fun k => by
      unfold actT; rw [sumN]
    have hf : (fun k => f k + actT (u + 1) (fun i => T.getD i 0) a p k) = fun k => (f k + actT u (fun i => T.getD i 0) a p k) + pick (hasB (bitE u * a) k) (T.getD u 0 * p) := by
      funext k; rw [hs, add_assoc]
    rw [hf] at hih
    refine Ev.step (fun q => by rw [zs.l0]) (Ev.pos (by omega) (Ev.pos (Int.natCast_nonneg _) (Ev.pos (by rw [List.length_map]; omega) ?_)))
    simp only [rdS, z2L, z2M]
    refine Ev.bnd (z5V hl (z2t hT u) hp) ?_
    simp only [eq_none]
    by_cases c : T.getD u 0 * p = 0
    · refine Ev.pos (decide_eq_true c) ?_
      rw [hw]
      have e : (fun k => (f k + actT u (fun i => T.getD i 0) a p k) + pick (hasB (bitE u * a) k) (T.getD u 0 * p)) = fun k => f k + actT u (fun i => T.getD i 0) a p k := by
        funext k; rw [c, z5t, add_zero]
      rw [e] at hih
      exact hih
    · refine Ev.neg (by rw [decide_eq_false c]; exact Bool.false_ne_true) ?_
      refine Ev.bnd (z2T u (by omega)) ?_
      have hbe := z6T hl (show u < 2 ^ l by omega)
      refine Ev.bnd (z5V hl hbe ha) ?_
      refine Ev.bnd (z3L hl (bitE u * a) (z69 hl (z4a hl hbe ha))) ?_
      have hlb : (bitsL (bitE u * a) (2 ^ l)).length = 2 ^ l := by unfold bitsL; simp
      rw [hlb]
      have e0 : tabL (2 ^ l) (fun k => f k + actT u (fun i => T.getD i 0) a p k) = tabL (2 ^ l) (bitAdd (fun k => f k + actT u (fun i => T.getD i 0) a p k) (bitE u * a) (T.getD u 0 * p) 0) :=
        z1G _ (fun k _ => (z45 (fun k => f k + actT u (fun i => T.getD i 0) a p k) (bitE u * a) (T.getD u 0 * p) k).symm)
      rw [e0]
      refine z6W hl (fun k => f k + actT u (fun i => T.getD i 0) a p k) (bitE u * a) (T.getD u 0 * p) a p _ _ _ ?_ (2 ^ l) 0 (Nat.zero_add _)
      rw [hw]
      exact hih
theorem byLeft_ev {l : Nat} (hl : l ≤ 7) (f : Nat → E) (T : List E) (a p : E) (hT : AllS (l : Int) T) (hTl : T.length ≤ 2 ^ l) (ha : InL l a) (hp : InL l p) :
    Ev (fun q => zs.f q (l : Int) ((tabL (2 ^ l) f).map toS) (T.map toS) (hi a) (lo a) (hi p) (lo p)) ((tabL (2 ^ l) (fun k => f k + actT T.length (fun i => T.getD i 0) a p k)).map toS) := by
  unfold zs.f
  rw [List.length_map]
  have := z6V hl T a p hT hTl ha hp f T.length 0 (Nat.zero_add _)
  have e : tabL (2 ^ l) (fun k => f k + actT 0 (fun i => T.getD i 0) a p k) = tabL (2 ^ l) f := z1G _ (fun k _ => by
    show f k + sumN _ 0 = f k
    rw [sumN, add_zero])
  rw [e] at this
  exact this
end Go.Proofs.Ytklkmflhnljbdaa.Sp

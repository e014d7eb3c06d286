/- Own text: merged by wip/tools/pack.py out of what the law PackvPairs reaches. -/
import Derived.Test.YtngcaphdkgihmaaMPackvPairsb
namespace Go.Proofs.Ytngcaphdkgihmaa.P
open Go.RowKit Go.Proofs.YtngcaphdkgihmaaW.PrintWords Go.Proofs.YtngcaphdkgihmaaW.PrintLast Go.Proofs.YtngcaphdkgihmaaW.PrintMore
attribute [local go_sem] zX zZ z16 z17 zT zU zY z10   -- for this text's walks alone
set_option linter.unusedVariables false
set_option linter.unusedSimpArgs false
def zO.j0 : Nat → Int → Bool → Int → Int → Int → Int → Option (Int × Int)
 | 0,_,_,_,_,_,_=>none
 | k + 1,x0,x10,x102000,x102001,x103000,x103001=>if x10 = true then (some (0,0)) else (if x0 ≤ 6 then ((zu.f k x0 x102001 x103001).bind fun t106=>(some (0,t106))) else ((zu.f k 6 x102000 x103000).bind fun t107=>((zu.f k 6 x102001 x103001).bind fun t108=>((zu.f k 6 (Go.bits .xor .u64 x102000 x102001) (Go.bits .xor .u64 x103000 x103001)).bind fun t109=>((zH.f k 6 t107).bind fun t110=>(some (Go.bits .xor .u64 (Go.bits .xor .u64 (Go.bits .xor .u64 t109 t107) t108) t110,Go.bits .xor .u64 t108 t107)))))))
def zO.f (k : Nat) (a0 : Int) (a1_0 : Int) (a1_1 : Int) (a2_0 : Int) (a2_1 : Int) : Option (Int × Int):=(zB.f k a0 a1_0 a1_1).bind fun t104=>(if t104 = true then ((zB.f k a0 a2_0 a2_1).bind fun t105=>(zO.j0 k a0 (!t105) a1_0 a1_1 a2_0 a2_1)) else (zO.j0 k a0 true a1_0 a1_1 a2_0 a2_1))
theorem zO.z12 : ∀ k,(∀ y0 y1 y2 y3 y4 y5,LeO (zO.j0 k y0 y1 y2 y3 y4 y5) (zO.j0 (k + 1) y0 y1 y2 y3 y4 y5))
 | 0=>fun _ _ _ _ _ _ r h=>by simp [zO.j0] at h
 | k + 1=>by
  have ih0:=zO.z12 k
  · intro y0 y1 y2 y3 y4 y5
    unfold zO.j0
    repeat' first
    | (with_reducible exact ih0 _ _ _ _ _ _)
    | (with_reducible exact zB.mono _ _ _ _)
    | (with_reducible exact zu.mono _ _ _ _)
    | (with_reducible exact zH.mono _ _ _)
    | (with_reducible exact LeO.refl _)
    | (with_reducible exact LeO.none _)
    | (with_reducible refine LeO.ite ?_ ?_)
    | (with_reducible refine LeO.bind ?_ (fun _=>?_))
    | exact ih0 _ _ _ _ _ _
    | exact zB.mono _ _ _ _
    | exact zu.mono _ _ _ _
    | exact zH.mono _ _ _
    | exact LeO.none _
    | refine LeO.ite ?_ ?_
    | refine LeO.bind ?_ (fun _=>?_)
theorem zO.mono : ∀ a0 a1 a2 a3 a4 k,LeO (zO.f k a0 a1 a2 a3 a4) (zO.f (k + 1) a0 a1 a2 a3 a4):=by
 intro a0 a1 a2 a3 a4 k
 have ih0:=zO.z12 k
 unfold zO.f
 repeat' first
  | (with_reducible exact ih0 _ _ _ _ _ _)
  | (with_reducible exact zB.mono _ _ _ _)
  | (with_reducible exact zu.mono _ _ _ _)
  | (with_reducible exact zH.mono _ _ _)
  | (with_reducible exact LeO.refl _)
  | (with_reducible exact LeO.none _)
  | (with_reducible refine LeO.ite ?_ ?_)
  | (with_reducible refine LeO.bind ?_ (fun _=>?_))
  | exact ih0 _ _ _ _ _ _
  | exact zB.mono _ _ _ _
  | exact zu.mono _ _ _ _
  | exact zH.mono _ _ _
  | exact LeO.none _
  | refine LeO.ite ?_ ?_
  | refine LeO.bind ?_ (fun _=>?_)
set_option maxHeartbeats 8000000 in
set_option maxRecDepth 100000 in
theorem zO.calls (k : Nat) (a0 : Int) (a1_0 : Int) (a1_1 : Int) (a2_0 : Int) (a2_1 : Int) (r1 : Int) (r2 : Int) (w : World) (h : zO.f k a0 a1_0 a1_1 a2_0 a2_1 = some (r1,r2)) :
 Calls Try.prog 41 #[.int .i64 a0,.agg #[.int .u64 a1_0,.int .u64 a1_1],.agg #[.int .u64 a2_0,.int .u64 a2_1]] w fun e w'=>e = .returned (.agg #[.int .u64 r1,.int .u64 r2]) ∧ Below w.heap.size w w':=by
 have hu51:=Try.underlying51
 have HB:=z2.mk (Below.refl w.heap.size w)
 have H : ((zB.f k a0 a1_0 a1_1).bind fun t104=>(if t104 = true then ((zB.f k a0 a2_0 a2_1).bind fun t105=>(zO.j0 k a0 (!t105) a1_0 a1_1 a2_0 a2_1)) else (zO.j0 k a0 true a1_0 a1_1 a2_0 a2_1))) = some (r1,r2):=h
 clear h
 have HC4:=z2.mk H
 clear H
 go_enter Try.func41,Try.ntmps41
 go_upto_region 1 with (first|((with_reducible refine zG (N:=4) rfl ?_);refine zC ?hg (N:=4) ?hd (cs:=#[.int .u64 a1_0,.int .u64 a1_1]) (t:=51) ?hr ?_;(case hd=>rfl);(case hg=>rfl);(case hr=>first|(go_simp;done)|(go_simp;rfl));intro gb101 hg w5 hbox hb;have n0_:=z2.mk (zd (by repeat (first|(with_reducible first|exact HB.out|apply z7|apply z1|apply z6)|exact HB.out)) hb);have n1_:=z2.mk (hbox);have n2_:=z2.mk ((by rw [hg];exact (ze (by repeat (first|(with_reducible first|exact HB.out|apply z7|apply z1|apply z6)|exact HB.out))) : w.heap.size ≤ gb101));have n3_:=z2.mk ((by rw [hg];exact (ze (by repeat (first|(with_reducible first|exact HB.out|apply z7|apply z1|apply z6)|exact HB.out))) : w.heap.size ≤ gb101));clear HB;have HB:=n0_;have BK101:=n1_;have GW101:=n2_;have GE101:=n3_;clear n0_ n1_ n2_ n3_;clear hb hbox hg)|((with_reducible refine zG (N:=5) rfl ?_);refine zC ?hg (N:=5) ?hd (cs:=#[.int .u64 a2_0,.int .u64 a2_1]) (t:=51) ?hr ?_;(case hd=>rfl);(case hg=>rfl);(case hr=>first|(go_simp;done)|(go_simp;rfl));intro gb102 hg w6 hbox hb;have n0_:=z2.mk (z9 (g:=gb101) (o:=.cells #[.int .u64 a1_0,.int .u64 a1_1] 51 (0,0)) (by (with_reducible repeat (first|refine z4 ?_ _|refine z8 ?_|refine z3 ?_ _));exact BK101.out) hb);have n1_:=z2.mk (zd (by repeat (first|(with_reducible first|exact HB.out|apply z7|apply z1|apply z6|refine z5 ?_ GE101.out)|exact HB.out)) hb);have n2_:=z2.mk (hbox);have n3_:=z2.mk ((by rw [hg];exact (ze (by repeat (first|(with_reducible first|exact HB.out|apply z7|apply z1|apply z6|refine z5 ?_ GE101.out)|exact HB.out))) : w.heap.size ≤ gb102));have n4_:=z2.mk ((by rw [hg];exact (ze (by repeat (first|(with_reducible first|exact HB.out|apply z7|apply z1|apply z6|refine z5 ?_ GE101.out)|exact HB.out))) : w.heap.size ≤ gb102));have n5_:=z2.mk ((by rw [hg];exact Nat.ne_of_lt (zI (g:=gb101) (o:=.cells #[.int .u64 a1_0,.int .u64 a1_1] 51 (0,0)) (by (with_reducible repeat (first|refine z4 ?_ _|refine z8 ?_|refine z3 ?_ _));exact BK101.out)) : gb101 ≠ gb102));have n6_:=z2.mk ((by rw [hg];exact Nat.ne_of_gt (zI (g:=gb101) (o:=.cells #[.int .u64 a1_0,.int .u64 a1_1] 51 (0,0)) (by (with_reducible repeat (first|refine z4 ?_ _|refine z8 ?_|refine z3 ?_ _));exact BK101.out)) : gb102 ≠ gb101));clear BK101;clear HB;have BK101:=n0_;have HB:=n1_;have BK102:=n2_;have GW102:=n3_;have GE102:=n4_;have NB101_102:=n5_;have NB102_101:=n6_;clear n0_ n1_ n2_ n3_ n4_ n5_ n6_;clear hb hbox hg)|((with_reducible refine zG (N:=6) rfl ?_);refine zC ?hg (N:=6) ?hd (cs:=#[.int .u64 0,.int .u64 0]) (t:=51) ?hr ?_;(case hd=>rfl);(case hg=>rfl);(case hr=>first|(go_simp;done)|(go_simp;rfl));intro gb103 hg w7 hbox hb;have n0_:=z2.mk (z9 (g:=gb101) (o:=.cells #[.int .u64 a1_0,.int .u64 a1_1] 51 (0,0)) (by (with_reducible repeat (first|refine z4 ?_ _|refine z8 ?_|refine z3 ?_ _));exact BK101.out) hb);have n1_:=z2.mk (z9 (g:=gb102) (o:=.cells #[.int .u64 a2_0,.int .u64 a2_1] 51 (0,0)) (by (with_reducible repeat (first|refine z4 ?_ _|refine z8 ?_|refine z3 ?_ _));exact BK102.out) hb);have n2_:=z2.mk (zd (by repeat (first|(with_reducible first|exact HB.out|apply z7|apply z1|apply z6|refine z5 ?_ GE101.out|refine z5 ?_ GE102.out)|exact HB.out)) hb);have n3_:=z2.mk (hbox);have n4_:=z2.mk ((by rw [hg];exact (ze (by repeat (first|(with_reducible first|exact HB.out|apply z7|apply z1|apply z6|refine z5 ?_ GE101.out|refine z5 ?_ GE102.out)|exact HB.out))) : w.heap.size ≤ gb103));have n5_:=z2.mk ((by rw [hg];exact (ze (by repeat (first|(with_reducible first|exact HB.out|apply z7|apply z1|apply z6|refine z5 ?_ GE101.out|refine z5 ?_ GE102.out)|exact HB.out))) : w.heap.size ≤ gb103));have n6_:=z2.mk ((by rw [hg];exact Nat.ne_of_lt (zI (g:=gb101) (o:=.cells #[.int .u64 a1_0,.int .u64 a1_1] 51 (0,0)) (by (with_reducible repeat (first|refine z4 ?_ _|refine z8 ?_|refine z3 ?_ _));exact BK101.out)) : gb101 ≠ gb103));have n7_:=z2.mk ((by rw [hg];exact Nat.ne_of_gt (zI (g:=gb101) (o:=.cells #[.int .u64 a1_0,.int .u64 a1_1] 51 (0,0)) (by (with_reducible repeat (first|refine z4 ?_ _|refine z8 ?_|refine z3 ?_ _));exact BK101.out)) : gb103 ≠ gb101));have n8_:=z2.mk ((by rw [hg];exact Nat.ne_of_lt (zI (g:=gb102) (o:=.cells #[.int .u64 a2_0,.int .u64 a2_1] 51 (0,0)) (by (with_reducible repeat (first|refine z4 ?_ _|refine z8 ?_|refine z3 ?_ _));exact BK102.out)) : gb102 ≠ gb103));have n9_:=z2.mk ((by rw [hg];exact Nat.ne_of_gt (zI (g:=gb102) (o:=.cells #[.int .u64 a2_0,.int .u64 a2_1] 51 (0,0)) (by (with_reducible repeat (first|refine z4 ?_ _|refine z8 ?_|refine z3 ?_ _));exact BK102.out)) : gb103 ≠ gb102));clear BK101;clear BK102;clear HB;have BK101:=n0_;have BK102:=n1_;have HB:=n2_;have BK103:=n3_;have GW103:=n4_;have GE103:=n5_;have NB101_103:=n6_;have NB103_101:=n7_;have NB102_103:=n8_;have NB103_102:=n9_;clear n0_ n1_ n2_ n3_ n4_ n5_ n6_ n7_ n8_ n9_;clear hb hbox hg))
 repeat (go_quiet (first|((with_reducible refine zG (N:=4) rfl ?_);refine zC ?hg (N:=4) ?hd (cs:=#[.int .u64 a1_0,.int .u64 a1_1]) (t:=51) ?hr ?_;(case hd=>rfl);(case hg=>rfl);(case hr=>first|(go_simp;done)|(go_simp;rfl));intro gb101 hg w5 hbox hb;have n0_:=z2.mk (zd (by repeat (first|(with_reducible first|exact HB.out|apply z7|apply z1|apply z6)|exact HB.out)) hb);have n1_:=z2.mk (hbox);have n2_:=z2.mk ((by rw [hg];exact (ze (by repeat (first|(with_reducible first|exact HB.out|apply z7|apply z1|apply z6)|exact HB.out))) : w.heap.size ≤ gb101));have n3_:=z2.mk ((by rw [hg];exact (ze (by repeat (first|(with_reducible first|exact HB.out|apply z7|apply z1|apply z6)|exact HB.out))) : w.heap.size ≤ gb101));clear HB;have HB:=n0_;have BK101:=n1_;have GW101:=n2_;have GE101:=n3_;clear n0_ n1_ n2_ n3_;clear hb hbox hg)|((with_reducible refine zG (N:=5) rfl ?_);refine zC ?hg (N:=5) ?hd (cs:=#[.int .u64 a2_0,.int .u64 a2_1]) (t:=51) ?hr ?_;(case hd=>rfl);(case hg=>rfl);(case hr=>first|(go_simp;done)|(go_simp;rfl));intro gb102 hg w6 hbox hb;have n0_:=z2.mk (z9 (g:=gb101) (o:=.cells #[.int .u64 a1_0,.int .u64 a1_1] 51 (0,0)) (by (with_reducible repeat (first|refine z4 ?_ _|refine z8 ?_|refine z3 ?_ _));exact BK101.out) hb);have n1_:=z2.mk (zd (by repeat (first|(with_reducible first|exact HB.out|apply z7|apply z1|apply z6|refine z5 ?_ GE101.out)|exact HB.out)) hb);have n2_:=z2.mk (hbox);have n3_:=z2.mk ((by rw [hg];exact (ze (by repeat (first|(with_reducible first|exact HB.out|apply z7|apply z1|apply z6|refine z5 ?_ GE101.out)|exact HB.out))) : w.heap.size ≤ gb102));have n4_:=z2.mk ((by rw [hg];exact (ze (by repeat (first|(with_reducible first|exact HB.out|apply z7|apply z1|apply z6|refine z5 ?_ GE101.out)|exact HB.out))) : w.heap.size ≤ gb102));have n5_:=z2.mk ((by rw [hg];exact Nat.ne_of_lt (zI (g:=gb101) (o:=.cells #[.int .u64 a1_0,.int .u64 a1_1] 51 (0,0)) (by (with_reducible repeat (first|refine z4 ?_ _|refine z8 ?_|refine z3 ?_ _));exact BK101.out)) : gb101 ≠ gb102));have n6_:=z2.mk ((by rw [hg];exact Nat.ne_of_gt (zI (g:=gb101) (o:=.cells #[.int .u64 a1_0,.int .u64 a1_1] 51 (0,0)) (by (with_reducible repeat (first|refine z4 ?_ _|refine z8 ?_|refine z3 ?_ _));exact BK101.out)) : gb102 ≠ gb101));clear BK101;clear HB;have BK101:=n0_;have HB:=n1_;have BK102:=n2_;have GW102:=n3_;have GE102:=n4_;have NB101_102:=n5_;have NB102_101:=n6_;clear n0_ n1_ n2_ n3_ n4_ n5_ n6_;clear hb hbox hg)|((with_reducible refine zG (N:=6) rfl ?_);refine zC ?hg (N:=6) ?hd (cs:=#[.int .u64 0,.int .u64 0]) (t:=51) ?hr ?_;(case hd=>rfl);(case hg=>rfl);(case hr=>first|(go_simp;done)|(go_simp;rfl));intro gb103 hg w7 hbox hb;have n0_:=z2.mk (z9 (g:=gb101) (o:=.cells #[.int .u64 a1_0,.int .u64 a1_1] 51 (0,0)) (by (with_reducible repeat (first|refine z4 ?_ _|refine z8 ?_|refine z3 ?_ _));exact BK101.out) hb);have n1_:=z2.mk (z9 (g:=gb102) (o:=.cells #[.int .u64 a2_0,.int .u64 a2_1] 51 (0,0)) (by (with_reducible repeat (first|refine z4 ?_ _|refine z8 ?_|refine z3 ?_ _));exact BK102.out) hb);have n2_:=z2.mk (zd (by repeat (first|(with_reducible first|exact HB.out|apply z7|apply z1|apply z6|refine z5 ?_ GE101.out|refine z5 ?_ GE102.out)|exact HB.out)) hb);have n3_:=z2.mk (hbox);have n4_:=z2.mk ((by rw [hg];exact (ze (by repeat (first|(with_reducible first|exact HB.out|apply z7|apply z1|apply z6|refine z5 ?_ GE101.out|refine z5 ?_ GE102.out)|exact HB.out))) : w.heap.size ≤ gb103));have n5_:=z2.mk ((by rw [hg];exact (ze (by repeat (first|(with_reducible first|exact HB.out|apply z7|apply z1|apply z6|refine z5 ?_ GE101.out|refine z5 ?_ GE102.out)|exact HB.out))) : w.heap.size ≤ gb103));have n6_:=z2.mk ((by rw [hg];exact Nat.ne_of_lt (zI (g:=gb101) (o:=.cells #[.int .u64 a1_0,.int .u64 a1_1] 51 (0,0)) (by (with_reducible repeat (first|refine z4 ?_ _|refine z8 ?_|refine z3 ?_ _));exact BK101.out)) : gb101 ≠ gb103));have n7_:=z2.mk ((by rw [hg];exact Nat.ne_of_gt (zI (g:=gb101) (o:=.cells #[.int .u64 a1_0,.int .u64 a1_1] 51 (0,0)) (by (with_reducible repeat (first|refine z4 ?_ _|refine z8 ?_|refine z3 ?_ _));exact BK101.out)) : gb103 ≠ gb101));have n8_:=z2.mk ((by rw [hg];exact Nat.ne_of_lt (zI (g:=gb102) (o:=.cells #[.int .u64 a2_0,.int .u64 a2_1] 51 (0,0)) (by (with_reducible repeat (first|refine z4 ?_ _|refine z8 ?_|refine z3 ?_ _));exact BK102.out)) : gb102 ≠ gb103));have n9_:=z2.mk ((by rw [hg];exact Nat.ne_of_gt (zI (g:=gb102) (o:=.cells #[.int .u64 a2_0,.int .u64 a2_1] 51 (0,0)) (by (with_reducible repeat (first|refine z4 ?_ _|refine z8 ?_|refine z3 ?_ _));exact BK102.out)) : gb103 ≠ gb102));clear BK101;clear BK102;clear HB;have BK101:=n0_;have BK102:=n1_;have HB:=n2_;have BK103:=n3_;have GW103:=n4_;have GE103:=n5_;have NB101_103:=n6_;have NB103_101:=n7_;have NB102_103:=n8_;have NB103_102:=n9_;clear n0_ n1_ n2_ n3_ n4_ n5_ n6_ n7_ n8_ n9_;clear hb hbox hg));go_upto_region 1 with (first|((with_reducible refine zG (N:=4) rfl ?_);refine zC ?hg (N:=4) ?hd (cs:=#[.int .u64 a1_0,.int .u64 a1_1]) (t:=51) ?hr ?_;(case hd=>rfl);(case hg=>rfl);(case hr=>first|(go_simp;done)|(go_simp;rfl));intro gb101 hg w5 hbox hb;have n0_:=z2.mk (zd (by repeat (first|(with_reducible first|exact HB.out|apply z7|apply z1|apply z6)|exact HB.out)) hb);have n1_:=z2.mk (hbox);have n2_:=z2.mk ((by rw [hg];exact (ze (by repeat (first|(with_reducible first|exact HB.out|apply z7|apply z1|apply z6)|exact HB.out))) : w.heap.size ≤ gb101));have n3_:=z2.mk ((by rw [hg];exact (ze (by repeat (first|(with_reducible first|exact HB.out|apply z7|apply z1|apply z6)|exact HB.out))) : w.heap.size ≤ gb101));clear HB;have HB:=n0_;have BK101:=n1_;have GW101:=n2_;have GE101:=n3_;clear n0_ n1_ n2_ n3_;clear hb hbox hg)|((with_reducible refine zG (N:=5) rfl ?_);refine zC ?hg (N:=5) ?hd (cs:=#[.int .u64 a2_0,.int .u64 a2_1]) (t:=51) ?hr ?_;(case hd=>rfl);(case hg=>rfl);(case hr=>first|(go_simp;done)|(go_simp;rfl));intro gb102 hg w6 hbox hb;have n0_:=z2.mk (z9 (g:=gb101) (o:=.cells #[.int .u64 a1_0,.int .u64 a1_1] 51 (0,0)) (by (with_reducible repeat (first|refine z4 ?_ _|refine z8 ?_|refine z3 ?_ _));exact BK101.out) hb);have n1_:=z2.mk (zd (by repeat (first|(with_reducible first|exact HB.out|apply z7|apply z1|apply z6|refine z5 ?_ GE101.out)|exact HB.out)) hb);have n2_:=z2.mk (hbox);have n3_:=z2.mk ((by rw [hg];exact (ze (by repeat (first|(with_reducible first|exact HB.out|apply z7|apply z1|apply z6|refine z5 ?_ GE101.out)|exact HB.out))) : w.heap.size ≤ gb102));have n4_:=z2.mk ((by rw [hg];exact (ze (by repeat (first|(with_reducible first|exact HB.out|apply z7|apply z1|apply z6|refine z5 ?_ GE101.out)|exact HB.out))) : w.heap.size ≤ gb102));have n5_:=z2.mk ((by rw [hg];exact Nat.ne_of_lt (zI (g:=gb101) (o:=.cells #[.int .u64 a1_0,.int .u64 a1_1] 51 (0,0)) (by (with_reducible repeat (first|refine z4 ?_ _|refine z8 ?_|refine z3 ?_ _));exact BK101.out)) : gb101 ≠ gb102));have n6_:=z2.mk ((by rw [hg];exact Nat.ne_of_gt (zI (g:=gb101) (o:=.cells #[.int .u64 a1_0,.int .u64 a1_1] 51 (0,0)) (by (with_reducible repeat (first|refine z4 ?_ _|refine z8 ?_|refine z3 ?_ _));exact BK101.out)) : gb102 ≠ gb101));clear BK101;clear HB;have BK101:=n0_;have HB:=n1_;have BK102:=n2_;have GW102:=n3_;have GE102:=n4_;have NB101_102:=n5_;have NB102_101:=n6_;clear n0_ n1_ n2_ n3_ n4_ n5_ n6_;clear hb hbox hg)|((with_reducible refine zG (N:=6) rfl ?_);refine zC ?hg (N:=6) ?hd (cs:=#[.int .u64 0,.int .u64 0]) (t:=51) ?hr ?_;(case hd=>rfl);(case hg=>rfl);(case hr=>first|(go_simp;done)|(go_simp;rfl));intro gb103 hg w7 hbox hb;have n0_:=z2.mk (z9 (g:=gb101) (o:=.cells #[.int .u64 a1_0,.int .u64 a1_1] 51 (0,0)) (by (with_reducible repeat (first|refine z4 ?_ _|refine z8 ?_|refine z3 ?_ _));exact BK101.out) hb);have n1_:=z2.mk (z9 (g:=gb102) (o:=.cells #[.int .u64 a2_0,.int .u64 a2_1] 51 (0,0)) (by (with_reducible repeat (first|refine z4 ?_ _|refine z8 ?_|refine z3 ?_ _));exact BK102.out) hb);have n2_:=z2.mk (zd (by repeat (first|(with_reducible first|exact HB.out|apply z7|apply z1|apply z6|refine z5 ?_ GE101.out|refine z5 ?_ GE102.out)|exact HB.out)) hb);have n3_:=z2.mk (hbox);have n4_:=z2.mk ((by rw [hg];exact (ze (by repeat (first|(with_reducible first|exact HB.out|apply z7|apply z1|apply z6|refine z5 ?_ GE101.out|refine z5 ?_ GE102.out)|exact HB.out))) : w.heap.size ≤ gb103));have n5_:=z2.mk ((by rw [hg];exact (ze (by repeat (first|(with_reducible first|exact HB.out|apply z7|apply z1|apply z6|refine z5 ?_ GE101.out|refine z5 ?_ GE102.out)|exact HB.out))) : w.heap.size ≤ gb103));have n6_:=z2.mk ((by rw [hg];exact Nat.ne_of_lt (zI (g:=gb101) (o:=.cells #[.int .u64 a1_0,.int .u64 a1_1] 51 (0,0)) (by (with_reducible repeat (first|refine z4 ?_ _|refine z8 ?_|refine z3 ?_ _));exact BK101.out)) : gb101 ≠ gb103));have n7_:=z2.mk ((by rw [hg];exact Nat.ne_of_gt (zI (g:=gb101) (o:=.cells #[.int .u64 a1_0,.int .u64 a1_1] 51 (0,0)) (by (with_reducible repeat (first|refine z4 ?_ _|refine z8 ?_|refine z3 ?_ _));exact BK101.out)) : gb103 ≠ gb101));have n8_:=z2.mk ((by rw [hg];exact Nat.ne_of_lt (zI (g:=gb102) (o:=.cells #[.int .u64 a2_0,.int .u64 a2_1] 51 (0,0)) (by (with_reducible repeat (first|refine z4 ?_ _|refine z8 ?_|refine z3 ?_ _));exact BK102.out)) : gb102 ≠ gb103));have n9_:=z2.mk ((by rw [hg];exact Nat.ne_of_gt (zI (g:=gb102) (o:=.cells #[.int .u64 a2_0,.int .u64 a2_1] 51 (0,0)) (by (with_reducible repeat (first|refine z4 ?_ _|refine z8 ?_|refine z3 ?_ _));exact BK102.out)) : gb103 ≠ gb102));clear BK101;clear BK102;clear HB;have BK101:=n0_;have BK102:=n1_;have HB:=n2_;have BK103:=n3_;have GW103:=n4_;have GE103:=n5_;have NB101_103:=n6_;have NB103_101:=n7_;have NB102_103:=n8_;have NB103_102:=n9_;clear n0_ n1_ n2_ n3_ n4_ n5_ n6_ n7_ n8_ n9_;clear hb hbox hg)))
 (try simp only [Act.put,List.setIfInBounds_toArray,List.set_cons_zero,List.set_cons_succ])
 go_cut [10] (fun v10 wc=>∃ (kq : Nat) (x10_3 : Bool),v10 = .bool x10_3 ∧ z2 (zO.j0 kq a0 x10_3 a1_0 a1_1 a2_0 a2_1 = some (r1,r2)) ∧ z2 (kq ≤ k) ∧ z2 (wc.heap[gb101]? = some (.cells #[.int .u64 a1_0,.int .u64 a1_1] 51 (0,0))) ∧ z2 (wc.heap[gb102]? = some (.cells #[.int .u64 a2_0,.int .u64 a2_1] 51 (0,0))) ∧ z2 (wc.heap[gb103]? = some (.cells #[.int .u64 0,.int .u64 0] 51 (0,0))) ∧ z2 (Below w.heap.size w wc))
 case first =>
  have H:=HC4.out
  clear HC4
  replace H:=Option.bind_eq_some_iff.mp H
  obtain ⟨t104,A80,H⟩:=H
  replace H : (if t104 = true then ((zB.f k a0 a2_0 a2_1).bind fun t105=>(zO.j0 k a0 (!t105) a1_0 a1_1 a2_0 a2_1)) else (zO.j0 k a0 true a1_0 a1_1 a2_0 a2_1)) = some (r1,r2):=H
  have A8:=z2.mk A80
  clear A80
  by_cases c9 : t104 = true
  rotate_left
  · replace c9:=Bool.eq_false_iff.mpr c9
    subst c9
    have H1 : (zO.j0 k a0 true a1_0 a1_1 a2_0 a2_1) = some (r1,r2):=by rw [if_neg (show ¬ (false = true) by decide)] at H;exact H
    clear H
    have H:=H1
    clear H1
    have H':=z2.mk H
    clear H
    have hnb18:=NB101_102.out
    have hnc18:=NB102_101.out
    have hnb19:=NB101_103.out
    have hnc19:=NB103_101.out
    have hcz20_0 : w7.cell? ⟨gb101,0,none⟩ = some (.int .u64 a1_0):=(za BK101.out 0).trans rfl
    have hcz20_1 : w7.cell? ⟨gb101,1,none⟩ = some (.int .u64 a1_1):=(za BK101.out 1).trans rfl
    have hfz20_0:=zb BK101.out 0
    have hfz20_1:=zb BK101.out 1
    go_wp2_with (first|(go_at_call 67;(with_reducible refine (zB.calls k a0 a1_0 a1_1 false _ A8.out).mono ?_);rintro e w21 ⟨rfl,hb⟩;have n0_:=z2.mk (z9 (g:=gb101) (o:=.cells #[.int .u64 a1_0,.int .u64 a1_1] 51 (0,0)) (by (with_reducible repeat (first|refine z4 ?_ _|refine z8 ?_|refine z3 ?_ _));exact BK101.out) hb);have n1_:=z2.mk (z9 (g:=gb102) (o:=.cells #[.int .u64 a2_0,.int .u64 a2_1] 51 (0,0)) (by (with_reducible repeat (first|refine z4 ?_ _|refine z8 ?_|refine z3 ?_ _));exact BK102.out) hb);have n2_:=z2.mk (z9 (g:=gb103) (o:=.cells #[.int .u64 0,.int .u64 0] 51 (0,0)) (by (with_reducible repeat (first|refine z4 ?_ _|refine z8 ?_|refine z3 ?_ _));exact BK103.out) hb);have n3_:=z2.mk (zd (by repeat (first|(with_reducible first|exact HB.out|apply z7|apply z1|apply z6|refine z5 ?_ GE101.out|refine z5 ?_ GE102.out|refine z5 ?_ GE103.out)|exact HB.out)) hb);clear BK101;clear BK102;clear BK103;clear HB;have BK101:=n0_;have BK102:=n1_;have BK103:=n2_;have HB:=n3_;clear n0_ n1_ n2_ n3_;(try clear hb);(try clear hb2);(try clear hk);(try clear hi)))
    repeat (go_quiet (first|(go_at_call 67;(with_reducible refine (zB.calls k a0 a1_0 a1_1 false _ A8.out).mono ?_);rintro e w21 ⟨rfl,hb⟩;have n0_:=z2.mk (z9 (g:=gb101) (o:=.cells #[.int .u64 a1_0,.int .u64 a1_1] 51 (0,0)) (by (with_reducible repeat (first|refine z4 ?_ _|refine z8 ?_|refine z3 ?_ _));exact BK101.out) hb);have n1_:=z2.mk (z9 (g:=gb102) (o:=.cells #[.int .u64 a2_0,.int .u64 a2_1] 51 (0,0)) (by (with_reducible repeat (first|refine z4 ?_ _|refine z8 ?_|refine z3 ?_ _));exact BK102.out) hb);have n2_:=z2.mk (z9 (g:=gb103) (o:=.cells #[.int .u64 0,.int .u64 0] 51 (0,0)) (by (with_reducible repeat (first|refine z4 ?_ _|refine z8 ?_|refine z3 ?_ _));exact BK103.out) hb);have n3_:=z2.mk (zd (by repeat (first|(with_reducible first|exact HB.out|apply z7|apply z1|apply z6|refine z5 ?_ GE101.out|refine z5 ?_ GE102.out|refine z5 ?_ GE103.out)|exact HB.out)) hb);clear BK101;clear BK102;clear BK103;clear HB;have BK101:=n0_;have BK102:=n1_;have BK103:=n2_;have HB:=n3_;clear n0_ n1_ n2_ n3_;(try clear hb);(try clear hb2);(try clear hk);(try clear hi)));try go_wp2_with (first|(go_at_call 67;(with_reducible refine (zB.calls k a0 a1_0 a1_1 false _ A8.out).mono ?_);rintro e w21 ⟨rfl,hb⟩;have n0_:=z2.mk (z9 (g:=gb101) (o:=.cells #[.int .u64 a1_0,.int .u64 a1_1] 51 (0,0)) (by (with_reducible repeat (first|refine z4 ?_ _|refine z8 ?_|refine z3 ?_ _));exact BK101.out) hb);have n1_:=z2.mk (z9 (g:=gb102) (o:=.cells #[.int .u64 a2_0,.int .u64 a2_1] 51 (0,0)) (by (with_reducible repeat (first|refine z4 ?_ _|refine z8 ?_|refine z3 ?_ _));exact BK102.out) hb);have n2_:=z2.mk (z9 (g:=gb103) (o:=.cells #[.int .u64 0,.int .u64 0] 51 (0,0)) (by (with_reducible repeat (first|refine z4 ?_ _|refine z8 ?_|refine z3 ?_ _));exact BK103.out) hb);have n3_:=z2.mk (zd (by repeat (first|(with_reducible first|exact HB.out|apply z7|apply z1|apply z6|refine z5 ?_ GE101.out|refine z5 ?_ GE102.out|refine z5 ?_ GE103.out)|exact HB.out)) hb);clear BK101;clear BK102;clear BK103;clear HB;have BK101:=n0_;have BK102:=n1_;have BK103:=n2_;have HB:=n3_;clear n0_ n1_ n2_ n3_;(try clear hb);(try clear hb2);(try clear hk);(try clear hi))))
    go_meet
    case rel=>exact ⟨_,(true),(by first|rfl|(simp;done)|(simp [*];done)),H',⟨by first|omega|exact Nat.le_refl _⟩,⟨by (with_reducible repeat (first|refine z4 ?_ _|refine z8 ?_|refine z3 ?_ _));exact BK101.out⟩,⟨by (with_reducible repeat (first|refine z4 ?_ _|refine z8 ?_|refine z3 ?_ _));exact BK102.out⟩,⟨by (with_reducible repeat (first|refine z4 ?_ _|refine z8 ?_|refine z3 ?_ _));exact BK103.out⟩,⟨by repeat (first|(with_reducible first|exact HB.out|apply z7|apply z1|apply z6|refine z5 ?_ GE101.out|refine z5 ?_ GE102.out|refine z5 ?_ GE103.out)|exact HB.out)⟩⟩
  subst c9
  have H1 : ((zB.f k a0 a2_0 a2_1).bind fun t105=>(zO.j0 k a0 (!t105) a1_0 a1_1 a2_0 a2_1)) = some (r1,r2):=by rw [if_pos rfl] at H;exact H
  clear H
  have H:=H1
  clear H1
  replace H:=Option.bind_eq_some_iff.mp H
  obtain ⟨t105,A100,H⟩:=H
  replace H : (zO.j0 k a0 (!t105) a1_0 a1_1 a2_0 a2_1) = some (r1,r2):=H
  have A10:=z2.mk A100
  clear A100
  have H':=z2.mk H
  clear H
  have hnb11:=NB101_102.out
  have hnc11:=NB102_101.out
  have hnb12:=NB101_103.out
  have hnc12:=NB103_101.out
  have hcz13_0 : w7.cell? ⟨gb101,0,none⟩ = some (.int .u64 a1_0):=(za BK101.out 0).trans rfl
  have hcz13_1 : w7.cell? ⟨gb101,1,none⟩ = some (.int .u64 a1_1):=(za BK101.out 1).trans rfl
  have hfz13_0:=zb BK101.out 0
  have hfz13_1:=zb BK101.out 1
  go_wp2_with (first|(go_at_call 67;(with_reducible refine (zB.calls k a0 a1_0 a1_1 true _ A8.out).mono ?_);rintro e w14 ⟨rfl,hb⟩;have n0_:=z2.mk (z9 (g:=gb101) (o:=.cells #[.int .u64 a1_0,.int .u64 a1_1] 51 (0,0)) (by (with_reducible repeat (first|refine z4 ?_ _|refine z8 ?_|refine z3 ?_ _));exact BK101.out) hb);have n1_:=z2.mk (z9 (g:=gb102) (o:=.cells #[.int .u64 a2_0,.int .u64 a2_1] 51 (0,0)) (by (with_reducible repeat (first|refine z4 ?_ _|refine z8 ?_|refine z3 ?_ _));exact BK102.out) hb);have n2_:=z2.mk (z9 (g:=gb103) (o:=.cells #[.int .u64 0,.int .u64 0] 51 (0,0)) (by (with_reducible repeat (first|refine z4 ?_ _|refine z8 ?_|refine z3 ?_ _));exact BK103.out) hb);have n3_:=z2.mk (zd (by repeat (first|(with_reducible first|exact HB.out|apply z7|apply z1|apply z6|refine z5 ?_ GE101.out|refine z5 ?_ GE102.out|refine z5 ?_ GE103.out)|exact HB.out)) hb);clear BK101;clear BK102;clear BK103;clear HB;have BK101:=n0_;have BK102:=n1_;have BK103:=n2_;have HB:=n3_;clear n0_ n1_ n2_ n3_;(try clear hb);(try clear hb2);(try clear hk);(try clear hi);have hnb15:=NB102_103.out;have hnc15:=NB103_102.out;have hcz16_0 : w14.cell? ⟨gb102,0,none⟩ = some (.int .u64 a2_0):=(za BK102.out 0).trans rfl;have hcz16_1 : w14.cell? ⟨gb102,1,none⟩ = some (.int .u64 a2_1):=(za BK102.out 1).trans rfl;have hfz16_0:=zb BK102.out 0;have hfz16_1:=zb BK102.out 1)|(go_at_call 67;(with_reducible refine (zB.calls k a0 a2_0 a2_1 t105 _ A10.out).mono ?_);rintro e w17 ⟨rfl,hb⟩;have n0_:=z2.mk (z9 (g:=gb101) (o:=.cells #[.int .u64 a1_0,.int .u64 a1_1] 51 (0,0)) (by (with_reducible repeat (first|refine z4 ?_ _|refine z8 ?_|refine z3 ?_ _));exact BK101.out) hb);have n1_:=z2.mk (z9 (g:=gb102) (o:=.cells #[.int .u64 a2_0,.int .u64 a2_1] 51 (0,0)) (by (with_reducible repeat (first|refine z4 ?_ _|refine z8 ?_|refine z3 ?_ _));exact BK102.out) hb);have n2_:=z2.mk (z9 (g:=gb103) (o:=.cells #[.int .u64 0,.int .u64 0] 51 (0,0)) (by (with_reducible repeat (first|refine z4 ?_ _|refine z8 ?_|refine z3 ?_ _));exact BK103.out) hb);have n3_:=z2.mk (zd (by repeat (first|(with_reducible first|exact HB.out|apply z7|apply z1|apply z6|refine z5 ?_ GE101.out|refine z5 ?_ GE102.out|refine z5 ?_ GE103.out)|exact HB.out)) hb);clear BK101;clear BK102;clear BK103;clear HB;have BK101:=n0_;have BK102:=n1_;have BK103:=n2_;have HB:=n3_;clear n0_ n1_ n2_ n3_;(try clear hb);(try clear hb2);(try clear hk);(try clear hi)))
  repeat (go_quiet (first|(go_at_call 67;(with_reducible refine (zB.calls k a0 a1_0 a1_1 true _ A8.out).mono ?_);rintro e w14 ⟨rfl,hb⟩;have n0_:=z2.mk (z9 (g:=gb101) (o:=.cells #[.int .u64 a1_0,.int .u64 a1_1] 51 (0,0)) (by (with_reducible repeat (first|refine z4 ?_ _|refine z8 ?_|refine z3 ?_ _));exact BK101.out) hb);have n1_:=z2.mk (z9 (g:=gb102) (o:=.cells #[.int .u64 a2_0,.int .u64 a2_1] 51 (0,0)) (by (with_reducible repeat (first|refine z4 ?_ _|refine z8 ?_|refine z3 ?_ _));exact BK102.out) hb);have n2_:=z2.mk (z9 (g:=gb103) (o:=.cells #[.int .u64 0,.int .u64 0] 51 (0,0)) (by (with_reducible repeat (first|refine z4 ?_ _|refine z8 ?_|refine z3 ?_ _));exact BK103.out) hb);have n3_:=z2.mk (zd (by repeat (first|(with_reducible first|exact HB.out|apply z7|apply z1|apply z6|refine z5 ?_ GE101.out|refine z5 ?_ GE102.out|refine z5 ?_ GE103.out)|exact HB.out)) hb);clear BK101;clear BK102;clear BK103;clear HB;have BK101:=n0_;have BK102:=n1_;have BK103:=n2_;have HB:=n3_;clear n0_ n1_ n2_ n3_;(try clear hb);(try clear hb2);(try clear hk);(try clear hi);have hnb15:=NB102_103.out;have hnc15:=NB103_102.out;have hcz16_0 : w14.cell? ⟨gb102,0,none⟩ = some (.int .u64 a2_0):=(za BK102.out 0).trans rfl;have hcz16_1 : w14.cell? ⟨gb102,1,none⟩ = some (.int .u64 a2_1):=(za BK102.out 1).trans rfl;have hfz16_0:=zb BK102.out 0;have hfz16_1:=zb BK102.out 1)|(go_at_call 67;(with_reducible refine (zB.calls k a0 a2_0 a2_1 t105 _ A10.out).mono ?_);rintro e w17 ⟨rfl,hb⟩;have n0_:=z2.mk (z9 (g:=gb101) (o:=.cells #[.int .u64 a1_0,.int .u64 a1_1] 51 (0,0)) (by (with_reducible repeat (first|refine z4 ?_ _|refine z8 ?_|refine z3 ?_ _));exact BK101.out) hb);have n1_:=z2.mk (z9 (g:=gb102) (o:=.cells #[.int .u64 a2_0,.int .u64 a2_1] 51 (0,0)) (by (with_reducible repeat (first|refine z4 ?_ _|refine z8 ?_|refine z3 ?_ _));exact BK102.out) hb);have n2_:=z2.mk (z9 (g:=gb103) (o:=.cells #[.int .u64 0,.int .u64 0] 51 (0,0)) (by (with_reducible repeat (first|refine z4 ?_ _|refine z8 ?_|refine z3 ?_ _));exact BK103.out) hb);have n3_:=z2.mk (zd (by repeat (first|(with_reducible first|exact HB.out|apply z7|apply z1|apply z6|refine z5 ?_ GE101.out|refine z5 ?_ GE102.out|refine z5 ?_ GE103.out)|exact HB.out)) hb);clear BK101;clear BK102;clear BK103;clear HB;have BK101:=n0_;have BK102:=n1_;have BK103:=n2_;have HB:=n3_;clear n0_ n1_ n2_ n3_;(try clear hb);(try clear hb2);(try clear hk);(try clear hi)));try go_wp2_with (first|(go_at_call 67;(with_reducible refine (zB.calls k a0 a1_0 a1_1 true _ A8.out).mono ?_);rintro e w14 ⟨rfl,hb⟩;have n0_:=z2.mk (z9 (g:=gb101) (o:=.cells #[.int .u64 a1_0,.int .u64 a1_1] 51 (0,0)) (by (with_reducible repeat (first|refine z4 ?_ _|refine z8 ?_|refine z3 ?_ _));exact BK101.out) hb);have n1_:=z2.mk (z9 (g:=gb102) (o:=.cells #[.int .u64 a2_0,.int .u64 a2_1] 51 (0,0)) (by (with_reducible repeat (first|refine z4 ?_ _|refine z8 ?_|refine z3 ?_ _));exact BK102.out) hb);have n2_:=z2.mk (z9 (g:=gb103) (o:=.cells #[.int .u64 0,.int .u64 0] 51 (0,0)) (by (with_reducible repeat (first|refine z4 ?_ _|refine z8 ?_|refine z3 ?_ _));exact BK103.out) hb);have n3_:=z2.mk (zd (by repeat (first|(with_reducible first|exact HB.out|apply z7|apply z1|apply z6|refine z5 ?_ GE101.out|refine z5 ?_ GE102.out|refine z5 ?_ GE103.out)|exact HB.out)) hb);clear BK101;clear BK102;clear BK103;clear HB;have BK101:=n0_;have BK102:=n1_;have BK103:=n2_;have HB:=n3_;clear n0_ n1_ n2_ n3_;(try clear hb);(try clear hb2);(try clear hk);(try clear hi);have hnb15:=NB102_103.out;have hnc15:=NB103_102.out;have hcz16_0 : w14.cell? ⟨gb102,0,none⟩ = some (.int .u64 a2_0):=(za BK102.out 0).trans rfl;have hcz16_1 : w14.cell? ⟨gb102,1,none⟩ = some (.int .u64 a2_1):=(za BK102.out 1).trans rfl;have hfz16_0:=zb BK102.out 0;have hfz16_1:=zb BK102.out 1)|(go_at_call 67;(with_reducible refine (zB.calls k a0 a2_0 a2_1 t105 _ A10.out).mono ?_);rintro e w17 ⟨rfl,hb⟩;have n0_:=z2.mk (z9 (g:=gb101) (o:=.cells #[.int .u64 a1_0,.int .u64 a1_1] 51 (0,0)) (by (with_reducible repeat (first|refine z4 ?_ _|refine z8 ?_|refine z3 ?_ _));exact BK101.out) hb);have n1_:=z2.mk (z9 (g:=gb102) (o:=.cells #[.int .u64 a2_0,.int .u64 a2_1] 51 (0,0)) (by (with_reducible repeat (first|refine z4 ?_ _|refine z8 ?_|refine z3 ?_ _));exact BK102.out) hb);have n2_:=z2.mk (z9 (g:=gb103) (o:=.cells #[.int .u64 0,.int .u64 0] 51 (0,0)) (by (with_reducible repeat (first|refine z4 ?_ _|refine z8 ?_|refine z3 ?_ _));exact BK103.out) hb);have n3_:=z2.mk (zd (by repeat (first|(with_reducible first|exact HB.out|apply z7|apply z1|apply z6|refine z5 ?_ GE101.out|refine z5 ?_ GE102.out|refine z5 ?_ GE103.out)|exact HB.out)) hb);clear BK101;clear BK102;clear BK103;clear HB;have BK101:=n0_;have BK102:=n1_;have BK103:=n2_;have HB:=n3_;clear n0_ n1_ n2_ n3_;(try clear hb);(try clear hb2);(try clear hk);(try clear hi))))
  go_meet
  case rel=>exact ⟨_,(!t105),(by first|rfl|(simp;done)|(simp [*];done)),H',⟨by first|omega|exact Nat.le_refl _⟩,⟨by (with_reducible repeat (first|refine z4 ?_ _|refine z8 ?_|refine z3 ?_ _));exact BK101.out⟩,⟨by (with_reducible repeat (first|refine z4 ?_ _|refine z8 ?_|refine z3 ?_ _));exact BK102.out⟩,⟨by (with_reducible repeat (first|refine z4 ?_ _|refine z8 ?_|refine z3 ?_ _));exact BK103.out⟩,⟨by repeat (first|(with_reducible first|exact HB.out|apply z7|apply z1|apply z6|refine z5 ?_ GE101.out|refine z5 ?_ GE102.out|refine z5 ?_ GE103.out)|exact HB.out)⟩⟩
 case rest =>
  clear HC4
  (try clear c1);(try clear p2);(try clear c4);(try clear c9);(try clear c11);(try clear c12);(try clear c15);(try clear c18);(try clear c19);(try clear hcz13_0);(try clear hcz13_1);(try clear hcz16_0);(try clear hcz16_1);(try clear hcz20_0);(try clear hcz20_1);(try clear hfz13_0);(try clear hfz13_1);(try clear hfz16_0);(try clear hfz16_1);(try clear hfz20_0);(try clear hfz20_1)
  obtain ⟨kq,x10_3,rfl,HA,HJ3,BK101,BK102,BK103,HB⟩:=hcut
  cases kq with
  | zero=>exact absurd HA.out (by simp [zO.j0])
  | succ kj3 =>
   have H:=HA.out
   clear HA
   simp only [zO.j0] at H
   by_cases c22 : x10_3 = true
   · subst c22
     have H1 : (some (0,0)) = some (r1,r2):=by rw [if_pos rfl] at H;exact H
     clear H
     have H:=H1
     clear H1
     simp only [Option.some.injEq,Prod.mk.injEq] at H
     obtain ⟨rfl,rfl⟩:=H
     have hnb23:=NB103_101.out
     have hnc23:=NB101_103.out
     have hnb24:=NB103_102.out
     have hnc24:=NB102_103.out
     have hcz25_0 : wc.cell? ⟨gb103,0,none⟩ = some (.int .u64 0):=(za BK103.out 0).trans rfl
     have hcz25_1 : wc.cell? ⟨gb103,1,none⟩ = some (.int .u64 0):=(za BK103.out 1).trans rfl
     have hfz25_0:=zb BK103.out 0
     have hfz25_1:=zb BK103.out 1
     go_wp2
     repeat (go_quiet (fail);try go_wp2)
     refine bodyPost_ret (results_cell_row rfl _ _ gb103 51 #[.int .u64 0,.int .u64 0] (0,0) _ rfl (by (with_reducible repeat (first|refine z4 ?_ _|refine z8 ?_|refine z3 ?_ _));refine zQ (cs:=#[.int .u64 0,.int .u64 0]) ?_ 1 _ rfl;(with_reducible repeat (first|refine z4 ?_ _|refine z8 ?_|refine z3 ?_ _));refine zQ (cs:=#[.int .u64 0,.int .u64 0]) ?_ 0 _ rfl;(with_reducible repeat (first|refine z4 ?_ _|refine z8 ?_|refine z3 ?_ _));exact BK103.out) Try.underlying51 rfl (by kernel_rfl)) rfl ?_
     exact ⟨by first|rfl|(simp [zl,zm] <;> rfl)|(simp [*,zl,zm] <;> rfl),by repeat (first|(with_reducible first|exact HB.out|apply z7|apply z1|apply z6|refine z5 ?_ GE101.out|refine z5 ?_ GE102.out|refine z5 ?_ GE103.out)|exact HB.out)⟩
   replace c22:=Bool.eq_false_iff.mpr c22
   subst c22
   have H1 : (if a0 ≤ 6 then ((zu.f kj3 a0 a1_1 a2_1).bind fun t106=>(some (0,t106))) else ((zu.f kj3 6 a1_0 a2_0).bind fun t107=>((zu.f kj3 6 a1_1 a2_1).bind fun t108=>((zu.f kj3 6 (Go.bits .xor .u64 a1_0 a1_1) (Go.bits .xor .u64 a2_0 a2_1)).bind fun t109=>((zH.f kj3 6 t107).bind fun t110=>(some (Go.bits .xor .u64 (Go.bits .xor .u64 (Go.bits .xor .u64 t109 t107) t108) t110,Go.bits .xor .u64 t108 t107))))))) = some (r1,r2):=by rw [if_neg (show ¬ (false = true) by decide)] at H;exact H
   clear H
   have H:=H1
   clear H1
   by_cases c26 : a0 ≤ 6
   · rw [if_pos c26] at H
     have c26b0 : decide (a0 ≤ 6) = true:=decide_eq_true c26
     clear c26
     replace H:=Option.bind_eq_some_iff.mp H
     obtain ⟨t106,A270,H⟩:=H
     replace H : (some (0,t106)) = some (r1,r2):=H
     have A27:=z2.mk A270
     clear A270
     simp only [Option.some.injEq,Prod.mk.injEq] at H
     obtain ⟨rfl,rfl⟩:=H
     have hnb28:=NB101_102.out
     have hnc28:=NB102_101.out
     have hnb29:=NB101_103.out
     have hnc29:=NB103_101.out
     have hcz30_0 : wc.cell? ⟨gb101,0,none⟩ = some (.int .u64 a1_0):=(za BK101.out 0).trans rfl
     have hcz30_1 : wc.cell? ⟨gb101,1,none⟩ = some (.int .u64 a1_1):=(za BK101.out 1).trans rfl
     have hfz30_0:=zb BK101.out 0
     have hfz30_1:=zb BK101.out 1
     have hnb31:=NB102_103.out
     have hnc31:=NB103_102.out
     have hcz32_0 : wc.cell? ⟨gb102,0,none⟩ = some (.int .u64 a2_0):=(za BK102.out 0).trans rfl
     have hcz32_1 : wc.cell? ⟨gb102,1,none⟩ = some (.int .u64 a2_1):=(za BK102.out 1).trans rfl
     have hfz32_0:=zb BK102.out 0
     have hfz32_1:=zb BK102.out 1
     go_wp2_with (first|(go_at_call 82;(with_reducible refine (zu.calls kj3 a0 a1_1 a2_1 t106 _ A27.out).mono ?_);rintro e w' ⟨rfl,⟨nd,rfl⟩⟩;(try first|exact ⟨rfl,_,World.drewN_drewN _ _ _⟩|exact ⟨rfl,_,Eq.trans (World.drewN_drewN _ _ _) (congrArg (World.drewN _) (Nat.add_assoc _ _ _))⟩);have hcz33_0 : wc.cell? ⟨gb103,0,none⟩ = some (.int .u64 0):=(za BK103.out 0).trans rfl;have hcz33_1 : wc.cell? ⟨gb103,1,none⟩ = some (.int .u64 0):=(za BK103.out 1).trans rfl;have hfz33_0:=zb BK103.out 0;have hfz33_1:=zb BK103.out 1))
     repeat (go_quiet (first|(go_at_call 82;(with_reducible refine (zu.calls kj3 a0 a1_1 a2_1 t106 _ A27.out).mono ?_);rintro e w' ⟨rfl,⟨nd,rfl⟩⟩;(try first|exact ⟨rfl,_,World.drewN_drewN _ _ _⟩|exact ⟨rfl,_,Eq.trans (World.drewN_drewN _ _ _) (congrArg (World.drewN _) (Nat.add_assoc _ _ _))⟩);have hcz33_0 : wc.cell? ⟨gb103,0,none⟩ = some (.int .u64 0):=(za BK103.out 0).trans rfl;have hcz33_1 : wc.cell? ⟨gb103,1,none⟩ = some (.int .u64 0):=(za BK103.out 1).trans rfl;have hfz33_0:=zb BK103.out 0;have hfz33_1:=zb BK103.out 1));try go_wp2_with (first|(go_at_call 82;(with_reducible refine (zu.calls kj3 a0 a1_1 a2_1 t106 _ A27.out).mono ?_);rintro e w' ⟨rfl,⟨nd,rfl⟩⟩;(try first|exact ⟨rfl,_,World.drewN_drewN _ _ _⟩|exact ⟨rfl,_,Eq.trans (World.drewN_drewN _ _ _) (congrArg (World.drewN _) (Nat.add_assoc _ _ _))⟩);have hcz33_0 : wc.cell? ⟨gb103,0,none⟩ = some (.int .u64 0):=(za BK103.out 0).trans rfl;have hcz33_1 : wc.cell? ⟨gb103,1,none⟩ = some (.int .u64 0):=(za BK103.out 1).trans rfl;have hfz33_0:=zb BK103.out 0;have hfz33_1:=zb BK103.out 1)))
     refine bodyPost_ret (results_cell_row rfl _ _ gb103 51 #[.int .u64 0,.int .u64 t106] (0,0) _ rfl (by (with_reducible repeat (first|refine z4 ?_ _|refine z8 ?_|refine z3 ?_ _));refine zQ (cs:=#[.int .u64 0,.int .u64 0]) ?_ 1 _ rfl;(with_reducible repeat (first|refine z4 ?_ _|refine z8 ?_|refine z3 ?_ _));refine zQ (cs:=#[.int .u64 0,.int .u64 0]) ?_ 0 _ rfl;(with_reducible repeat (first|refine z4 ?_ _|refine z8 ?_|refine z3 ?_ _));exact BK103.out) Try.underlying51 rfl (by kernel_rfl)) rfl ?_
     exact ⟨by first|rfl|(simp [zl,zm] <;> rfl)|(simp [*,zl,zm] <;> rfl),by repeat (first|(with_reducible first|exact HB.out|apply z7|apply z1|apply z6|refine z5 ?_ GE101.out|refine z5 ?_ GE102.out|refine z5 ?_ GE103.out)|exact HB.out)⟩
   rw [if_neg c26] at H
   have c26b0 : decide (a0 ≤ 6) = false:=decide_eq_false c26
   clear c26
   replace H:=Option.bind_eq_some_iff.mp H
   obtain ⟨t107,A340,H⟩:=H
   replace H : ((zu.f kj3 6 a1_1 a2_1).bind fun t108=>((zu.f kj3 6 (Go.bits .xor .u64 a1_0 a1_1) (Go.bits .xor .u64 a2_0 a2_1)).bind fun t109=>((zH.f kj3 6 t107).bind fun t110=>(some (Go.bits .xor .u64 (Go.bits .xor .u64 (Go.bits .xor .u64 t109 t107) t108) t110,Go.bits .xor .u64 t108 t107))))) = some (r1,r2):=H
   have A34:=z2.mk A340
   clear A340
   replace H:=Option.bind_eq_some_iff.mp H
   obtain ⟨t108,A350,H⟩:=H
   replace H : ((zu.f kj3 6 (Go.bits .xor .u64 a1_0 a1_1) (Go.bits .xor .u64 a2_0 a2_1)).bind fun t109=>((zH.f kj3 6 t107).bind fun t110=>(some (Go.bits .xor .u64 (Go.bits .xor .u64 (Go.bits .xor .u64 t109 t107) t108) t110,Go.bits .xor .u64 t108 t107)))) = some (r1,r2):=H
   have A35:=z2.mk A350
   clear A350
   replace H:=Option.bind_eq_some_iff.mp H
   obtain ⟨t109,A360,H⟩:=H
   replace H : ((zH.f kj3 6 t107).bind fun t110=>(some (Go.bits .xor .u64 (Go.bits .xor .u64 (Go.bits .xor .u64 t109 t107) t108) t110,Go.bits .xor .u64 t108 t107))) = some (r1,r2):=H
   have A36:=z2.mk A360
   clear A360
   replace H:=Option.bind_eq_some_iff.mp H
   obtain ⟨t110,A370,H⟩:=H
   replace H : (some (Go.bits .xor .u64 (Go.bits .xor .u64 (Go.bits .xor .u64 t109 t107) t108) t110,Go.bits .xor .u64 t108 t107)) = some (r1,r2):=H
   have A37:=z2.mk A370
   clear A370
   simp only [Option.some.injEq,Prod.mk.injEq] at H
   obtain ⟨rfl,rfl⟩:=H
   have hnb38:=NB101_102.out
   have hnc38:=NB102_101.out
   have hnb39:=NB101_103.out
   have hnc39:=NB103_101.out
   have hcz40_0 : wc.cell? ⟨gb101,0,none⟩ = some (.int .u64 a1_0):=(za BK101.out 0).trans rfl
   have hcz40_1 : wc.cell? ⟨gb101,1,none⟩ = some (.int .u64 a1_1):=(za BK101.out 1).trans rfl
   have hfz40_0:=zb BK101.out 0
   have hfz40_1:=zb BK101.out 1
   have hnb41:=NB102_103.out
   have hnc41:=NB103_102.out
   have hcz42_0 : wc.cell? ⟨gb102,0,none⟩ = some (.int .u64 a2_0):=(za BK102.out 0).trans rfl
   have hcz42_1 : wc.cell? ⟨gb102,1,none⟩ = some (.int .u64 a2_1):=(za BK102.out 1).trans rfl
   have hfz42_0:=zb BK102.out 0
   have hfz42_1:=zb BK102.out 1
   go_wp2_with (first|(go_at_call 82;(with_reducible refine (zu.calls kj3 6 a1_0 a2_0 t107 _ A34.out).mono ?_);rintro e w' ⟨rfl,⟨nd,rfl⟩⟩;(try first|exact ⟨rfl,_,World.drewN_drewN _ _ _⟩|exact ⟨rfl,_,Eq.trans (World.drewN_drewN _ _ _) (congrArg (World.drewN _) (Nat.add_assoc _ _ _))⟩))|(go_at_call 82;(with_reducible refine (zu.calls kj3 6 a1_1 a2_1 t108 _ A35.out).mono ?_);rintro e w' ⟨rfl,⟨nd,rfl⟩⟩;(try first|exact ⟨rfl,_,World.drewN_drewN _ _ _⟩|exact ⟨rfl,_,Eq.trans (World.drewN_drewN _ _ _) (congrArg (World.drewN _) (Nat.add_assoc _ _ _))⟩))|(go_at_call 82;(with_reducible refine (zu.calls kj3 6 (Go.bits .xor .u64 a1_0 a1_1) (Go.bits .xor .u64 a2_0 a2_1) t109 _ A36.out).mono ?_);rintro e w' ⟨rfl,⟨nd,rfl⟩⟩;(try first|exact ⟨rfl,_,World.drewN_drewN _ _ _⟩|exact ⟨rfl,_,Eq.trans (World.drewN_drewN _ _ _) (congrArg (World.drewN _) (Nat.add_assoc _ _ _))⟩))|(go_at_call 83;(with_reducible refine (zH.calls kj3 6 t107 t110 _ A37.out).mono ?_);rintro e w' ⟨rfl,⟨nd,rfl⟩⟩;(try first|exact ⟨rfl,_,World.drewN_drewN _ _ _⟩|exact ⟨rfl,_,Eq.trans (World.drewN_drewN _ _ _) (congrArg (World.drewN _) (Nat.add_assoc _ _ _))⟩);have hcz43_0 : wc.cell? ⟨gb103,0,none⟩ = some (.int .u64 0):=(za BK103.out 0).trans rfl;have hcz43_1 : wc.cell? ⟨gb103,1,none⟩ = some (.int .u64 0):=(za BK103.out 1).trans rfl;have hfz43_0:=zb BK103.out 0;have hfz43_1:=zb BK103.out 1))
   repeat (go_quiet (first|(go_at_call 82;(with_reducible refine (zu.calls kj3 6 a1_0 a2_0 t107 _ A34.out).mono ?_);rintro e w' ⟨rfl,⟨nd,rfl⟩⟩;(try first|exact ⟨rfl,_,World.drewN_drewN _ _ _⟩|exact ⟨rfl,_,Eq.trans (World.drewN_drewN _ _ _) (congrArg (World.drewN _) (Nat.add_assoc _ _ _))⟩))|(go_at_call 82;(with_reducible refine (zu.calls kj3 6 a1_1 a2_1 t108 _ A35.out).mono ?_);rintro e w' ⟨rfl,⟨nd,rfl⟩⟩;(try first|exact ⟨rfl,_,World.drewN_drewN _ _ _⟩|exact ⟨rfl,_,Eq.trans (World.drewN_drewN _ _ _) (congrArg (World.drewN _) (Nat.add_assoc _ _ _))⟩))|(go_at_call 82;(with_reducible refine (zu.calls kj3 6 (Go.bits .xor .u64 a1_0 a1_1) (Go.bits .xor .u64 a2_0 a2_1) t109 _ A36.out).mono ?_);rintro e w' ⟨rfl,⟨nd,rfl⟩⟩;(try first|exact ⟨rfl,_,World.drewN_drewN _ _ _⟩|exact ⟨rfl,_,Eq.trans (World.drewN_drewN _ _ _) (congrArg (World.drewN _) (Nat.add_assoc _ _ _))⟩))|(go_at_call 83;(with_reducible refine (zH.calls kj3 6 t107 t110 _ A37.out).mono ?_);rintro e w' ⟨rfl,⟨nd,rfl⟩⟩;(try first|exact ⟨rfl,_,World.drewN_drewN _ _ _⟩|exact ⟨rfl,_,Eq.trans (World.drewN_drewN _ _ _) (congrArg (World.drewN _) (Nat.add_assoc _ _ _))⟩);have hcz43_0 : wc.cell? ⟨gb103,0,none⟩ = some (.int .u64 0):=(za BK103.out 0).trans rfl;have hcz43_1 : wc.cell? ⟨gb103,1,none⟩ = some (.int .u64 0):=(za BK103.out 1).trans rfl;have hfz43_0:=zb BK103.out 0;have hfz43_1:=zb BK103.out 1));try go_wp2_with (first|(go_at_call 82;(with_reducible refine (zu.calls kj3 6 a1_0 a2_0 t107 _ A34.out).mono ?_);rintro e w' ⟨rfl,⟨nd,rfl⟩⟩;(try first|exact ⟨rfl,_,World.drewN_drewN _ _ _⟩|exact ⟨rfl,_,Eq.trans (World.drewN_drewN _ _ _) (congrArg (World.drewN _) (Nat.add_assoc _ _ _))⟩))|(go_at_call 82;(with_reducible refine (zu.calls kj3 6 a1_1 a2_1 t108 _ A35.out).mono ?_);rintro e w' ⟨rfl,⟨nd,rfl⟩⟩;(try first|exact ⟨rfl,_,World.drewN_drewN _ _ _⟩|exact ⟨rfl,_,Eq.trans (World.drewN_drewN _ _ _) (congrArg (World.drewN _) (Nat.add_assoc _ _ _))⟩))|(go_at_call 82;(with_reducible refine (zu.calls kj3 6 (Go.bits .xor .u64 a1_0 a1_1) (Go.bits .xor .u64 a2_0 a2_1) t109 _ A36.out).mono ?_);rintro e w' ⟨rfl,⟨nd,rfl⟩⟩;(try first|exact ⟨rfl,_,World.drewN_drewN _ _ _⟩|exact ⟨rfl,_,Eq.trans (World.drewN_drewN _ _ _) (congrArg (World.drewN _) (Nat.add_assoc _ _ _))⟩))|(go_at_call 83;(with_reducible refine (zH.calls kj3 6 t107 t110 _ A37.out).mono ?_);rintro e w' ⟨rfl,⟨nd,rfl⟩⟩;(try first|exact ⟨rfl,_,World.drewN_drewN _ _ _⟩|exact ⟨rfl,_,Eq.trans (World.drewN_drewN _ _ _) (congrArg (World.drewN _) (Nat.add_assoc _ _ _))⟩);have hcz43_0 : wc.cell? ⟨gb103,0,none⟩ = some (.int .u64 0):=(za BK103.out 0).trans rfl;have hcz43_1 : wc.cell? ⟨gb103,1,none⟩ = some (.int .u64 0):=(za BK103.out 1).trans rfl;have hfz43_0:=zb BK103.out 0;have hfz43_1:=zb BK103.out 1)))
   refine bodyPost_ret (results_cell_row rfl _ _ gb103 51 #[.int .u64 (Go.bits .xor .u64 (Go.bits .xor .u64 (Go.bits .xor .u64 t109 t107) t108) t110),.int .u64 (Go.bits .xor .u64 t108 t107)] (0,0) _ rfl (by (with_reducible repeat (first|refine z4 ?_ _|refine z8 ?_|refine z3 ?_ _));refine zQ (cs:=#[.int .u64 (Go.bits .xor .u64 (Go.bits .xor .u64 (Go.bits .xor .u64 t109 t107) t108) t110),.int .u64 0]) ?_ 1 _ rfl;(with_reducible repeat (first|refine z4 ?_ _|refine z8 ?_|refine z3 ?_ _));refine zQ (cs:=#[.int .u64 0,.int .u64 0]) ?_ 0 _ rfl;(with_reducible repeat (first|refine z4 ?_ _|refine z8 ?_|refine z3 ?_ _));exact BK103.out) Try.underlying51 rfl (by kernel_rfl)) rfl ?_
   exact ⟨by first|rfl|(simp [zl,zm] <;> rfl)|(simp [*,zl,zm] <;> rfl),by repeat (first|(with_reducible first|exact HB.out|apply z7|apply z1|apply z6|refine z5 ?_ GE101.out|refine z5 ?_ GE102.out|refine z5 ?_ GE103.out)|exact HB.out)⟩
end Go.Proofs.Ytngcaphdkgihmaa.P
namespace Go.Proofs.Ytngcaphdkgihmaa.P
open Go.RowKit Go.Proofs.YtngcaphdkgihmaaW.PrintWords Go.Proofs.YtngcaphdkgihmaaW.PrintLast Go.Proofs.YtngcaphdkgihmaaW.PrintMore
attribute [local go_sem] zX zZ z16 z17 zT zU zY z10   -- for this text's walks alone
set_option linter.unusedVariables false
set_option linter.unusedSimpArgs false
attribute [local go_sem high] eqA51
mutual
def zq.l0 : Nat → Int → List (S51) → List (S51) → Int → Int → Int → Int → Int → Int → Option ((List (S51)))
 | 0,_,_,_,_,_,_,_,_,_=>none
 | k + 1,x0,x1,x15,x16,x17,x102000,x102001,x103000,x103001=>if x17 < x16 then (if 0 ≤ x17 then (if x17 < (x15.length : Int) then ((zO.f k x0 ((zt x15 x17).f0) ((zt x15 x17).f1) x103000 x103001).bind fun bt105=>(if (bt105.1 == 0 && (bt105.2 == 0)) = true then (zq.l0 k x0 x1 x15 x16 (wrap64 (x17 + 1)) x102000 x102001 x103000 x103001) else ((zN.f k x17).bind fun bt108=>((zO.f k x0 bt108.1 bt108.2 x102000 x102001).bind fun bt110=>((zA.f k x0 bt110.1 bt110.2).bind fun t112=>(zq.l1 k x0 x1 x15 x16 x17 t112 (t112.length : Int) 0 x102000 x102001 x103000 x103001 bt105.1 bt105.2)))))) else (none)) else (none)) else (some x1)
def zq.l1 : Nat → Int → List (S51) → List (S51) → Int → Int → List Bool → Int → Int → Int → Int → Int → Int → Int → Int → Option ((List (S51)))
 | 0,_,_,_,_,_,_,_,_,_,_,_,_,_,_=>none
 | k + 1,x0,x1,x15,x16,x17,x35,x36,x37,x102000,x102001,x103000,x103001,x108000,x108001=>if x37 < x36 then (if 0 ≤ x37 then (if x37 < (x35.length : Int) then (if rdOf false x35 x37 = true then (if x37 < (x1.length : Int) then ((z1N.f ((zt x1 x37).f0) ((zt x1 x37).f1) x108000 x108001).bind fun bt117=>(zq.l1 k x0 (x1.set (x37 : Int).toNat (⟨bt117.1,bt117.2⟩ : S51)) x15 x16 x17 x35 x36 (wrap64 (x37 + 1)) x102000 x102001 x103000 x103001 x108000 x108001)) else (none)) else (zq.l1 k x0 x1 x15 x16 x17 x35 x36 (wrap64 (x37 + 1)) x102000 x102001 x103000 x103001 x108000 x108001)) else (none)) else (none)) else (zq.l0 k x0 x1 x15 x16 (wrap64 (x17 + 1)) x102000 x102001 x103000 x103001)
end
def zq.f (k : Nat) (a0 : Int) (l1 : List (S51)) (l2 : List (S51)) (a3_0 : Int) (a3_1 : Int) (a4_0 : Int) (a4_1 : Int) : Option ((List (S51))):=zq.l0 k a0 l1 l2 (l2.length : Int) 0 a3_0 a3_1 a4_0 a4_1
theorem zq.z12 : ∀ k,(∀ y0 y1 y2 y3 y4 y5 y6 y7 y8,LeO (zq.l0 k y0 y1 y2 y3 y4 y5 y6 y7 y8) (zq.l0 (k + 1) y0 y1 y2 y3 y4 y5 y6 y7 y8)) ∧ (∀ y0 y1 y2 y3 y4 y5 y6 y7 y8 y9 y10 y11 y12 y13,LeO (zq.l1 k y0 y1 y2 y3 y4 y5 y6 y7 y8 y9 y10 y11 y12 y13) (zq.l1 (k + 1) y0 y1 y2 y3 y4 y5 y6 y7 y8 y9 y10 y11 y12 y13))
 | 0=>⟨fun _ _ _ _ _ _ _ _ _ r h=>by simp [zq.l0] at h,fun _ _ _ _ _ _ _ _ _ _ _ _ _ _ r h=>by simp [zq.l1] at h⟩
 | k + 1=>by
  obtain ⟨ih0,ih1⟩:=zq.z12 k
  refine ⟨?_,?_⟩
  · intro y0 y1 y2 y3 y4 y5 y6 y7 y8
    unfold zq.l0
    repeat' first
    | (with_reducible exact ih0 _ _ _ _ _ _ _ _ _)
    | (with_reducible exact ih1 _ _ _ _ _ _ _ _ _ _ _ _ _ _)
    | (with_reducible exact zN.mono _ _)
    | (with_reducible exact zA.mono _ _ _ _)
    | (with_reducible exact zO.mono _ _ _ _ _ _)
    | (with_reducible exact LeO.refl _)
    | (with_reducible exact LeO.none _)
    | (with_reducible refine LeO.ite ?_ ?_)
    | (with_reducible refine LeO.bind ?_ (fun _=>?_))
    | exact ih0 _ _ _ _ _ _ _ _ _
    | exact ih1 _ _ _ _ _ _ _ _ _ _ _ _ _ _
    | exact zN.mono _ _
    | exact zA.mono _ _ _ _
    | exact zO.mono _ _ _ _ _ _
    | exact LeO.none _
    | refine LeO.ite ?_ ?_
    | refine LeO.bind ?_ (fun _=>?_)
  · intro y0 y1 y2 y3 y4 y5 y6 y7 y8 y9 y10 y11 y12 y13
    unfold zq.l1
    repeat' first
    | (with_reducible exact ih0 _ _ _ _ _ _ _ _ _)
    | (with_reducible exact ih1 _ _ _ _ _ _ _ _ _ _ _ _ _ _)
    | (with_reducible exact zN.mono _ _)
    | (with_reducible exact zA.mono _ _ _ _)
    | (with_reducible exact zO.mono _ _ _ _ _ _)
    | (with_reducible exact LeO.refl _)
    | (with_reducible exact LeO.none _)
    | (with_reducible refine LeO.ite ?_ ?_)
    | (with_reducible refine LeO.bind ?_ (fun _=>?_))
    | exact ih0 _ _ _ _ _ _ _ _ _
    | exact ih1 _ _ _ _ _ _ _ _ _ _ _ _ _ _
    | exact zN.mono _ _
    | exact zA.mono _ _ _ _
    | exact zO.mono _ _ _ _ _ _
    | exact LeO.none _
    | refine LeO.ite ?_ ?_
    | refine LeO.bind ?_ (fun _=>?_)
theorem zq.mono : ∀ a0 a1 a2 a3 a4 a5 a6 k,LeO (zq.f k a0 a1 a2 a3 a4 a5 a6) (zq.f (k + 1) a0 a1 a2 a3 a4 a5 a6):=by
 intro a0 a1 a2 a3 a4 a5 a6 k
 obtain ⟨ih0,ih1⟩:=zq.z12 k
 unfold zq.f
 repeat' first
  | (with_reducible exact ih0 _ _ _ _ _ _ _ _ _)
  | (with_reducible exact ih1 _ _ _ _ _ _ _ _ _ _ _ _ _ _)
  | (with_reducible exact zN.mono _ _)
  | (with_reducible exact zA.mono _ _ _ _)
  | (with_reducible exact zO.mono _ _ _ _ _ _)
  | (with_reducible exact LeO.refl _)
  | (with_reducible exact LeO.none _)
  | (with_reducible refine LeO.ite ?_ ?_)
  | (with_reducible refine LeO.bind ?_ (fun _=>?_))
  | exact ih0 _ _ _ _ _ _ _ _ _
  | exact ih1 _ _ _ _ _ _ _ _ _ _ _ _ _ _
  | exact zN.mono _ _
  | exact zA.mono _ _ _ _
  | exact zO.mono _ _ _ _ _ _
  | exact LeO.none _
  | refine LeO.ite ?_ ?_
  | refine LeO.bind ?_ (fun _=>?_)
def zq.T6 : Bool × List (List Nat × List Nat):=(true,[([],[]),([],[]),([],[]),([2],[2]),([],[]),([1,3,4,3],[1,3,4]),([0,5,5],[0,5]),([6],[6]),([],[])])
def zq.B6 : List Nat:=[0,0,0,4,0,30,63,127,0]
theorem zq.tab6 : rtab .any (opsOf Try.f101 6) = zq.T6:=by kernel_rfl
theorem zq.bits6 : waitsOk zq.T6.2 zq.B6 = true:=by kernel_rfl
def zq.T10 : Bool × List (List Nat × List Nat):=(true,[([],[]),([],[]),([],[]),([],[]),([2,3],[2,3]),([4],[4]),([],[]),([5,6],[5,6]),([0,1,0,1,2,3,4,5,6,7],[0,1]),([8,7,7,0,1,2,3,4,5,6,7],[7,8])])
def zq.B10 : List Nat:=[0,0,0,0,12,28,0,124,255,511]
theorem zq.tab10 : rtab .any (opsOf Try.f101 10) = zq.T10:=by kernel_rfl
theorem zq.bits10 : waitsOk zq.T10.2 zq.B10 = true:=by kernel_rfl
set_option maxHeartbeats 8000000 in
set_option maxRecDepth 100000 in
theorem zq.calls (k : Nat) (a0 : Int) (P1_ : Nat → Prop) (u9000_ : Value) (l1 : List (S51)) (A2 : Option Addr) (c2 : Nat) (l2 : List (S51)) (a3_0 : Int) (a3_1 : Int) (a4_0 : Int) (a4_1 : Int) (r : List (S51)) (w0 w : World) (hB : Below w0.heap.size w0 w) (ho1 : Kd.R k51 51 w w0.heap.size P1_ u9000_ l1) (hr2 : ∀ W_,Kept w W_ (fun k_=>P1_ k_) → Kd.C k51 W_ A2 l2.length l2) (hc2 : l2.length ≤ c2) (h : zq.f k a0 l1 l2 a3_0 a3_1 a4_0 a4_1 = some r) :
 Calls Try.prog 101 #[.int .i64 a0,u9000_,.slice A2 l2.length c2,.agg #[.int .u64 a3_0,.int .u64 a3_1],.agg #[.int .u64 a4_0,.int .u64 a4_1]] w fun e w'=>e = .returned (.tuple #[]) ∧ Kd.R k51 51 w' w0.heap.size (fun k_=>(P1_ k_ ∨ w.heap.size ≤ k_)) u9000_ r ∧ Below w0.heap.size w0 w' ∧ Kept w w' (fun k_=>P1_ k_):=by
 have hu51:=Try.underlying51
 have HO1:=z2.mk (show Kd.R k51 51 w w0.heap.size (fun k_=>(P1_ k_ ∨ w.heap.size ≤ k_)) u9000_ l1 from Kd.z19 ho1 (fun k_ hk=>(.inl hk)))
 have HR2:=z2.mk hr2
 have HC2:=z2.mk hc2
 clear hr2 hc2
 have HK:=z2.mk (Kept.refl w (fun k_=>P1_ k_))
 have HW0:=z2.mk hB.size
 have HB:=z2.mk hB
 clear hB
 have H : (zq.l0 k a0 l1 l2 (l2.length : Int) 0 a3_0 a3_1 a4_0 a4_1) = some r:=h
 clear h
 have H':=z2.mk H
 clear H
 go_enter Try.func101,Try.ntmps101
 go_wp2_with (first|((with_reducible refine zG (N:=8) rfl ?_);refine zC ?hg (N:=8) ?hd (cs:=#[.int .u64 a3_0,.int .u64 a3_1]) (t:=51) ?hr ?_;(case hd=>rfl);(case hg=>rfl);(case hr=>first|(go_simp;done)|(go_simp;rfl));intro gb101 hg w6 hbox hb;have n0_:=z2.mk (Kd.zx (Kd.z1P (by (with_reducible repeat (first|apply Kd.zi|apply Kd.zj|apply Kd.zo));exact HO1.out) gb101 (Nat.le_of_eq hg.symm)) hb);have n1_:=z2.mk (Kept.below (S:=(fun k_=>P1_ k_)) (by repeat (first|(with_reducible first|exact HK.out|apply Kept.alloc|apply Kept.drewN|apply Kept.drew)|exact HK.out)) hb);have n2_:=z2.mk (zd (by repeat (first|(with_reducible first|exact HB.out|apply z7|apply z1|apply z6)|exact HB.out)) hb);have n3_:=z2.mk (hbox);have n4_:=z2.mk ((by rw [hg];exact (by first|exact HK.out.1|exact (show Kept w _ (fun k_=>P1_ k_) from by repeat (first|(with_reducible first|exact HK.out|apply Kept.alloc|apply Kept.drewN|apply Kept.drew)|exact HK.out)).1) : w.heap.size ≤ gb101));have n5_:=z2.mk ((by rw [hg];exact (ze (by repeat (first|(with_reducible first|exact HB.out|apply z7|apply z1|apply z6)|exact HB.out))) : w0.heap.size ≤ gb101));clear HO1;clear HK;clear HB;have HO1:=n0_;have HK:=n1_;have HB:=n2_;have BK101:=n3_;have GW101:=n4_;have GE101:=n5_;clear n0_ n1_ n2_ n3_ n4_ n5_;clear hb hbox hg)|((with_reducible refine zG (N:=9) rfl ?_);refine zC ?hg (N:=9) ?hd (cs:=#[.int .u64 a4_0,.int .u64 a4_1]) (t:=51) ?hr ?_;(case hd=>rfl);(case hg=>rfl);(case hr=>first|(go_simp;done)|(go_simp;rfl));intro gb102 hg w7 hbox hb;have n0_:=z2.mk (Kd.zx (Kd.z1P (by (with_reducible repeat (first|apply Kd.zi|apply Kd.zj|apply Kd.zo));exact HO1.out) gb102 (Nat.le_of_eq hg.symm)) hb);have n1_:=z2.mk (z9 (g:=gb101) (o:=.cells #[.int .u64 a3_0,.int .u64 a3_1] 51 (0,0)) (by (with_reducible repeat (first|refine z4 ?_ _|refine z8 ?_|refine z3 ?_ _));exact BK101.out) hb);have n2_:=z2.mk (Kept.below (S:=(fun k_=>P1_ k_)) (by repeat (first|(with_reducible first|exact HK.out|apply Kept.alloc|apply Kept.drewN|apply Kept.drew|refine Kept.setCell ?_ (.inr GW101.out) _)|exact HK.out)) hb);have n3_:=z2.mk (zd (by repeat (first|(with_reducible first|exact HB.out|apply z7|apply z1|apply z6|refine z5 ?_ GE101.out)|exact HB.out)) hb);have n4_:=z2.mk (hbox);have n5_:=z2.mk ((by rw [hg];exact (by first|exact HK.out.1|exact (show Kept w _ (fun k_=>P1_ k_) from by repeat (first|(with_reducible first|exact HK.out|apply Kept.alloc|apply Kept.drewN|apply Kept.drew|refine Kept.setCell ?_ (.inr GW101.out) _)|exact HK.out)).1) : w.heap.size ≤ gb102));have n6_:=z2.mk ((by rw [hg];exact (ze (by repeat (first|(with_reducible first|exact HB.out|apply z7|apply z1|apply z6|refine z5 ?_ GE101.out)|exact HB.out))) : w0.heap.size ≤ gb102));have n7_:=z2.mk ((by rw [hg];exact Nat.ne_of_lt (zI (g:=gb101) (o:=.cells #[.int .u64 a3_0,.int .u64 a3_1] 51 (0,0)) (by (with_reducible repeat (first|refine z4 ?_ _|refine z8 ?_|refine z3 ?_ _));exact BK101.out)) : gb101 ≠ gb102));have n8_:=z2.mk ((by rw [hg];exact Nat.ne_of_gt (zI (g:=gb101) (o:=.cells #[.int .u64 a3_0,.int .u64 a3_1] 51 (0,0)) (by (with_reducible repeat (first|refine z4 ?_ _|refine z8 ?_|refine z3 ?_ _));exact BK101.out)) : gb102 ≠ gb101));clear HO1;clear BK101;clear HK;clear HB;have HO1:=n0_;have BK101:=n1_;have HK:=n2_;have HB:=n3_;have BK102:=n4_;have GW102:=n5_;have GE102:=n6_;have NB101_102:=n7_;have NB102_101:=n8_;clear n0_ n1_ n2_ n3_ n4_ n5_ n6_ n7_ n8_;clear hb hbox hg))
 go_loopg [17] k (fun kq v17 w'=>∃ (x1_1 : List (S51)) (x17_1 : Int) (x102000_1 : Int) (x102001_1 : Int) (x103000_1 : Int) (x103001_1 : Int),v17 = .int .i64 x17_1 ∧ z2 (zq.l0 kq a0 x1_1 l2 (l2.length : Int) x17_1 x102000_1 x102001_1 x103000_1 x103001_1 = some r) ∧ z2 (kq ≤ k) ∧ z2 (Kd.R k51 51 w' w0.heap.size (fun k_=>(P1_ k_ ∨ w.heap.size ≤ k_) ∧ k_ ≠ gb101 ∧ k_ ≠ gb102) u9000_ x1_1) ∧ z2 (w'.heap[gb101]? = some (.cells #[.int .u64 x102000_1,.int .u64 x102001_1] 51 (0,0))) ∧ z2 (w'.heap[gb102]? = some (.cells #[.int .u64 x103000_1,.int .u64 x103001_1] 51 (0,0))) ∧ z2 (Kept w w' (fun k_=>P1_ k_)) ∧ z2 (Below w0.heap.size w0 w'))
 case atStart=>exact ⟨(l1),(0),(a3_0),(a3_1),(a4_0),(a4_1),(by first|rfl|(simp;done)|(simp [*];done)),H',⟨Nat.le_refl _⟩,⟨by (with_reducible repeat (first|apply Kd.zi|apply Kd.zj|apply Kd.zo));exact Kd.z19 HO1.out (fun _ hk=>⟨hk.1.1,⟨hk.1.2,hk.2⟩⟩)⟩,⟨by (with_reducible repeat (first|refine z4 ?_ _|refine z8 ?_|refine z3 ?_ _));exact BK101.out⟩,⟨by (with_reducible repeat (first|refine z4 ?_ _|refine z8 ?_|refine z3 ?_ _));exact BK102.out⟩,⟨by repeat (first|(with_reducible first|exact HK.out|apply Kept.alloc|apply Kept.drewN|apply Kept.drew|refine Kept.setCell ?_ (.inr GW101.out) _|refine Kept.setCell ?_ (.inr GW102.out) _)|exact HK.out)⟩,⟨by repeat (first|(with_reducible first|exact HB.out|apply z7|apply z1|apply z6|refine z5 ?_ GE101.out|refine z5 ?_ GE102.out)|exact HB.out)⟩⟩
 case round =>
  clear H'
  (try clear c1);(try clear c2);(try clear p2)
  obtain ⟨x1_1,x17_1,x102000_1,x102001_1,x103000_1,x103001_1,rfl,HA,HK1,HO_1,BK101,BK102,HK,HB⟩:=hrel
  cases gk with
  | zero=>exact absurd HA.out (by simp [zq.l0])
  | succ k1 =>
   have H:=HA.out
   clear HA
   simp only [zq.l0] at H
   by_cases c8 : x17_1 < (l2.length : Int)
   rotate_left
   · rw [if_neg c8] at H
     have c8b0 : decide (x17_1 < (l2.length : Int)) = false:=decide_eq_false c8
     clear c8
     obtain rfl:=Option.some.inj H
     go_wp2
     first|go_end0|((try simp only [Exit.inBlock,Exit.then]);refine bodyPost_ret (results_none rfl _ _ _) rfl ?_)
     exact ⟨by first|rfl|(simp [zl,zm] <;> rfl)|(simp [*,zl,zm] <;> rfl),by (with_reducible repeat (first|apply Kd.zi|apply Kd.zj|apply Kd.zo));exact Kd.z19 HO_1.out (fun _ hk=>hk.1),by repeat (first|(with_reducible first|exact HB.out|apply z7|apply z1|apply z6|refine z5 ?_ GE101.out|refine z5 ?_ GE102.out)|exact HB.out),by repeat (first|(with_reducible first|exact HK.out|apply Kept.alloc|apply Kept.drewN|apply Kept.drew|refine Kept.setCell ?_ (.inr GW101.out) _|refine Kept.setCell ?_ (.inr GW102.out) _)|exact HK.out)⟩
   rw [if_pos c8] at H
   have c8b0 : decide (x17_1 < (l2.length : Int)) = true:=decide_eq_true c8
   clear c8
   by_cases c9 : 0 ≤ x17_1
   rotate_left
   · rw [if_neg c9] at H
     exact absurd H (by simp)
   rw [if_pos c9] at H
   have c9b0 : decide (0 ≤ x17_1) = true:=decide_eq_true c9
   clear c9
   by_cases c10 : x17_1 < (l2.length : Int)
   rotate_left
   · rw [if_neg c10] at H
     exact absurd H (by simp)
   rw [if_pos c10] at H
   have c10b0 : decide (x17_1 < (l2.length : Int)) = true:=decide_eq_true c10
   clear c10
   replace H:=Option.bind_eq_some_iff.mp H
   obtain ⟨⟨t105,t106⟩,A110,H⟩:=H
   replace H : (if (t105 == 0 && (t106 == 0)) = true then (zq.l0 k1 a0 x1_1 l2 (l2.length : Int) (wrap64 (x17_1 + 1)) x102000_1 x102001_1 x103000_1 x103001_1) else ((zN.f k1 x17_1).bind fun bt108=>((zO.f k1 a0 bt108.1 bt108.2 x102000_1 x102001_1).bind fun bt110=>((zA.f k1 a0 bt110.1 bt110.2).bind fun t112=>(zq.l1 k1 a0 x1_1 l2 (l2.length : Int) x17_1 t112 (t112.length : Int) 0 x102000_1 x102001_1 x103000_1 x103001_1 t105 t106))))) = some r:=H
   have A11:=z2.mk A110
   clear A110
   by_cases c12 : (t105 == 0 && (t106 == 0)) = true
   · rw [if_pos c12] at H
     have c12b0 : (t105 == 0 && (t106 == 0)) = true:=c12
     (try (have c12b1 : decide (t105 = 0 && (t106 == 0)) = true:=by simpa using c12))
     (try (have c12b2 : (t105 == 0 && (t106 == 0)) = true:=by simpa using c12))
     clear c12
     have H':=z2.mk H
     clear H
     have p103 : 0 ≤ (x17_1 : Int):=of_decide_eq_true (by first|(with_reducible assumption)|assumption)
     have q103 : x17_1 < (l2.length : Int):=of_decide_eq_true (by first|(with_reducible assumption)|assumption)
     obtain ⟨ad103,e103,hx103_0,hx103_1⟩:=z2b (Kd.z3m HR2.out HK.out) x17_1 p103 q103
     cases e103
     replace p103:=eq_true p103
     replace q103:=eq_true q103
     go_wp2_with (first|((with_reducible refine zG (N:=11) rfl ?_);refine zC ?hg (N:=11) ?hd (cs:=#[.int .u64 0,.int .u64 0]) (t:=51) ?hr ?_;(case hd=>rfl);(case hg=>rfl);(case hr=>first|(go_simp;done)|(go_simp;rfl));intro gb104 hg w13 hbox hb;have n0_:=z2.mk (Kd.zx (Kd.z1P (by (with_reducible repeat (first|apply Kd.zi|apply Kd.zj|apply Kd.zo));exact HO_1.out) gb104 (Nat.le_of_eq hg.symm)) hb);have n1_:=z2.mk (z9 (g:=gb101) (o:=.cells #[.int .u64 x102000_1,.int .u64 x102001_1] 51 (0,0)) (by (with_reducible repeat (first|refine z4 ?_ _|refine z8 ?_|refine z3 ?_ _));exact BK101.out) hb);have n2_:=z2.mk (z9 (g:=gb102) (o:=.cells #[.int .u64 x103000_1,.int .u64 x103001_1] 51 (0,0)) (by (with_reducible repeat (first|refine z4 ?_ _|refine z8 ?_|refine z3 ?_ _));exact BK102.out) hb);have n3_:=z2.mk (Kept.below (S:=(fun k_=>P1_ k_)) (by repeat (first|(with_reducible first|exact HK.out|apply Kept.alloc|apply Kept.drewN|apply Kept.drew|refine Kept.setCell ?_ (.inr GW101.out) _|refine Kept.setCell ?_ (.inr GW102.out) _)|exact HK.out)) hb);have n4_:=z2.mk (zd (by repeat (first|(with_reducible first|exact HB.out|apply z7|apply z1|apply z6|refine z5 ?_ GE101.out|refine z5 ?_ GE102.out)|exact HB.out)) hb);have n5_:=z2.mk (hbox);have n6_:=z2.mk ((by rw [hg];exact (by first|exact HK.out.1|exact (show Kept w _ (fun k_=>P1_ k_) from by repeat (first|(with_reducible first|exact HK.out|apply Kept.alloc|apply Kept.drewN|apply Kept.drew|refine Kept.setCell ?_ (.inr GW101.out) _|refine Kept.setCell ?_ (.inr GW102.out) _)|exact HK.out)).1) : w.heap.size ≤ gb104));have n7_:=z2.mk ((by rw [hg];exact (ze (by repeat (first|(with_reducible first|exact HB.out|apply z7|apply z1|apply z6|refine z5 ?_ GE101.out|refine z5 ?_ GE102.out)|exact HB.out))) : w0.heap.size ≤ gb104));have n8_:=z2.mk ((by rw [hg];exact Nat.ne_of_lt (zI (g:=gb101) (o:=.cells #[.int .u64 x102000_1,.int .u64 x102001_1] 51 (0,0)) (by (with_reducible repeat (first|refine z4 ?_ _|refine z8 ?_|refine z3 ?_ _));exact BK101.out)) : gb101 ≠ gb104));have n9_:=z2.mk ((by rw [hg];exact Nat.ne_of_gt (zI (g:=gb101) (o:=.cells #[.int .u64 x102000_1,.int .u64 x102001_1] 51 (0,0)) (by (with_reducible repeat (first|refine z4 ?_ _|refine z8 ?_|refine z3 ?_ _));exact BK101.out)) : gb104 ≠ gb101));have n10_:=z2.mk ((by rw [hg];exact Nat.ne_of_lt (zI (g:=gb102) (o:=.cells #[.int .u64 x103000_1,.int .u64 x103001_1] 51 (0,0)) (by (with_reducible repeat (first|refine z4 ?_ _|refine z8 ?_|refine z3 ?_ _));exact BK102.out)) : gb102 ≠ gb104));have n11_:=z2.mk ((by rw [hg];exact Nat.ne_of_gt (zI (g:=gb102) (o:=.cells #[.int .u64 x103000_1,.int .u64 x103001_1] 51 (0,0)) (by (with_reducible repeat (first|refine z4 ?_ _|refine z8 ?_|refine z3 ?_ _));exact BK102.out)) : gb104 ≠ gb102));clear HO_1;clear BK101;clear BK102;clear HK;clear HB;have HO_1:=n0_;have BK101:=n1_;have BK102:=n2_;have HK:=n3_;have HB:=n4_;have BK104:=n5_;have GW104:=n6_;have GE104:=n7_;have NB101_104:=n8_;have NB104_101:=n9_;have NB102_104:=n10_;have NB104_102:=n11_;clear n0_ n1_ n2_ n3_ n4_ n5_ n6_ n7_ n8_ n9_ n10_ n11_;clear hb hbox hg;have hnb14:=NB104_101.out;have hnc14:=NB101_104.out;have hnb15:=NB104_102.out;have hnc15:=NB102_104.out;have hcz16_0 : w13.cell? ⟨gb104,0,none⟩ = some (.int .u64 0):=(za BK104.out 0).trans rfl;have hcz16_1 : w13.cell? ⟨gb104,1,none⟩ = some (.int .u64 0):=(za BK104.out 1).trans rfl;have hfz16_0:=zb BK104.out 0;have hfz16_1:=zb BK104.out 1;have hnb17:=NB102_101.out;have hnc17:=NB101_102.out;have hcz18_0 : w13.cell? ⟨gb102,0,none⟩ = some (.int .u64 x103000_1):=(za BK102.out 0).trans rfl;have hcz18_1 : w13.cell? ⟨gb102,1,none⟩ = some (.int .u64 x103001_1):=(za BK102.out 1).trans rfl;have hfz18_0:=zb BK102.out 0;have hfz18_1:=zb BK102.out 1)|((with_reducible refine zp (f:=41) rfl ?_);refine goesL_ (some 25) rfl rfl Try.func41 (by kernel_rfl) rfl #[.int .i64 a0,.agg #[.int .u64 ((zt l2 x17_1).f0),.int .u64 ((zt l2 x17_1).f1)],.agg #[.int .u64 x103000_1,.int .u64 x103001_1]] rfl (by (try simp only [List.map_toArray,List.map_cons,List.map_nil]);first|done|rfl|(simp only [List.length_drop,List.length_take];rfl)) ?_;(with_reducible refine (zO.calls k1 a0 ((zt l2 x17_1).f0) ((zt l2 x17_1).f1) x103000_1 x103001_1 t105 t106 _ A11.out).mono ?_);rintro e w19 ⟨rfl,hb⟩;refine ⟨_,rfl,?_⟩;have n0_:=z2.mk (Kd.zx (by (with_reducible repeat (first|apply Kd.zi|apply Kd.zj|apply Kd.zo));exact (Kd.z19 (Kd.z1H (p:=⟨gb104,1,none⟩) (Kd.z1H (p:=⟨gb104,0,none⟩) (Kd.z19 HO_1.out (fun k_ hk=>(⟨hk,hk.2⟩ : _ ∧ k_ ≠ gb104))) (fun _ hk=>hk.2) (.int .u64 ((zt l2 x17_1).f0))) (fun _ hk=>hk.2) (.int .u64 ((zt l2 x17_1).f1))) (fun _ h_=>h_.1))) hb);have n1_:=z2.mk (z9 (g:=gb101) (o:=.cells #[.int .u64 x102000_1,.int .u64 x102001_1] 51 (0,0)) (by (with_reducible repeat (first|refine z4 ?_ _|refine z8 ?_|refine z3 ?_ _));refine zL ?_ NB101_104.out _;(with_reducible repeat (first|refine z4 ?_ _|refine z8 ?_|refine z3 ?_ _));refine zL ?_ NB101_104.out _;(with_reducible repeat (first|refine z4 ?_ _|refine z8 ?_|refine z3 ?_ _));exact BK101.out) hb);have n2_:=z2.mk (z9 (g:=gb102) (o:=.cells #[.int .u64 x103000_1,.int .u64 x103001_1] 51 (0,0)) (by (with_reducible repeat (first|refine z4 ?_ _|refine z8 ?_|refine z3 ?_ _));refine zL ?_ NB102_104.out _;(with_reducible repeat (first|refine z4 ?_ _|refine z8 ?_|refine z3 ?_ _));refine zL ?_ NB102_104.out _;(with_reducible repeat (first|refine z4 ?_ _|refine z8 ?_|refine z3 ?_ _));exact BK102.out) hb);have n3_:=z2.mk (z9 (g:=gb104) (o:=.cells #[.int .u64 ((zt l2 x17_1).f0),.int .u64 ((zt l2 x17_1).f1)] 51 (0,0)) (by (with_reducible repeat (first|refine z4 ?_ _|refine z8 ?_|refine z3 ?_ _));refine zQ (cs:=#[.int .u64 ((zt l2 x17_1).f0),.int .u64 0]) ?_ 1 _ rfl;(with_reducible repeat (first|refine z4 ?_ _|refine z8 ?_|refine z3 ?_ _));refine zQ (cs:=#[.int .u64 0,.int .u64 0]) ?_ 0 _ rfl;(with_reducible repeat (first|refine z4 ?_ _|refine z8 ?_|refine z3 ?_ _));exact BK104.out) hb);have n4_:=z2.mk (Kept.below (S:=(fun k_=>P1_ k_)) (by repeat (first|(with_reducible first|exact HK.out|apply Kept.alloc|apply Kept.drewN|apply Kept.drew|refine Kept.setCell ?_ (.inr GW101.out) _|refine Kept.setCell ?_ (.inr GW102.out) _|refine Kept.setCell ?_ (.inr GW104.out) _)|exact HK.out)) hb);have n5_:=z2.mk (zd (by repeat (first|(with_reducible first|exact HB.out|apply z7|apply z1|apply z6|refine z5 ?_ GE101.out|refine z5 ?_ GE102.out|refine z5 ?_ GE104.out)|exact HB.out)) hb);clear HO_1;clear BK101;clear BK102;clear BK104;clear HK;clear HB;have HO_1:=n0_;have BK101:=n1_;have BK102:=n2_;have BK104:=n3_;have HK:=n4_;have HB:=n5_;clear n0_ n1_ n2_ n3_ n4_ n5_;(try clear hb);(try clear hb2);(try clear hk);(try clear hi))|((with_reducible refine zG (N:=12) rfl ?_);refine zC ?hg (N:=12) ?hd (cs:=#[.int .u64 0,.int .u64 0]) (t:=51) ?hr ?_;(case hd=>rfl);(case hg=>rfl);(case hr=>first|(go_simp;done)|(go_simp;rfl));intro gb107 hg w20 hbox hb;have n0_:=z2.mk (Kd.zx (Kd.z1P (by (with_reducible repeat (first|apply Kd.zi|apply Kd.zj|apply Kd.zo));exact HO_1.out) gb107 (Nat.le_of_eq hg.symm)) hb);have n1_:=z2.mk (z9 (g:=gb101) (o:=.cells #[.int .u64 x102000_1,.int .u64 x102001_1] 51 (0,0)) (by (with_reducible repeat (first|refine z4 ?_ _|refine z8 ?_|refine z3 ?_ _));exact BK101.out) hb);have n2_:=z2.mk (z9 (g:=gb102) (o:=.cells #[.int .u64 x103000_1,.int .u64 x103001_1] 51 (0,0)) (by (with_reducible repeat (first|refine z4 ?_ _|refine z8 ?_|refine z3 ?_ _));exact BK102.out) hb);have n3_:=z2.mk (z9 (g:=gb104) (o:=.cells #[.int .u64 ((zt l2 x17_1).f0),.int .u64 ((zt l2 x17_1).f1)] 51 (0,0)) (by (with_reducible repeat (first|refine z4 ?_ _|refine z8 ?_|refine z3 ?_ _));exact BK104.out) hb);have n4_:=z2.mk (Kept.below (S:=(fun k_=>P1_ k_)) (by repeat (first|(with_reducible first|exact HK.out|apply Kept.alloc|apply Kept.drewN|apply Kept.drew|refine Kept.setCell ?_ (.inr GW101.out) _|refine Kept.setCell ?_ (.inr GW102.out) _|refine Kept.setCell ?_ (.inr GW104.out) _)|exact HK.out)) hb);have n5_:=z2.mk (zd (by repeat (first|(with_reducible first|exact HB.out|apply z7|apply z1|apply z6|refine z5 ?_ GE101.out|refine z5 ?_ GE102.out|refine z5 ?_ GE104.out)|exact HB.out)) hb);have n6_:=z2.mk (hbox);have n7_:=z2.mk ((by rw [hg];exact (by first|exact HK.out.1|exact (show Kept w _ (fun k_=>P1_ k_) from by repeat (first|(with_reducible first|exact HK.out|apply Kept.alloc|apply Kept.drewN|apply Kept.drew|refine Kept.setCell ?_ (.inr GW101.out) _|refine Kept.setCell ?_ (.inr GW102.out) _|refine Kept.setCell ?_ (.inr GW104.out) _)|exact HK.out)).1) : w.heap.size ≤ gb107));have n8_:=z2.mk ((by rw [hg];exact (ze (by repeat (first|(with_reducible first|exact HB.out|apply z7|apply z1|apply z6|refine z5 ?_ GE101.out|refine z5 ?_ GE102.out|refine z5 ?_ GE104.out)|exact HB.out))) : w0.heap.size ≤ gb107));have n9_:=z2.mk ((by rw [hg];exact Nat.ne_of_lt (zI (g:=gb101) (o:=.cells #[.int .u64 x102000_1,.int .u64 x102001_1] 51 (0,0)) (by (with_reducible repeat (first|refine z4 ?_ _|refine z8 ?_|refine z3 ?_ _));exact BK101.out)) : gb101 ≠ gb107));have n10_:=z2.mk ((by rw [hg];exact Nat.ne_of_gt (zI (g:=gb101) (o:=.cells #[.int .u64 x102000_1,.int .u64 x102001_1] 51 (0,0)) (by (with_reducible repeat (first|refine z4 ?_ _|refine z8 ?_|refine z3 ?_ _));exact BK101.out)) : gb107 ≠ gb101));have n11_:=z2.mk ((by rw [hg];exact Nat.ne_of_lt (zI (g:=gb102) (o:=.cells #[.int .u64 x103000_1,.int .u64 x103001_1] 51 (0,0)) (by (with_reducible repeat (first|refine z4 ?_ _|refine z8 ?_|refine z3 ?_ _));exact BK102.out)) : gb102 ≠ gb107));have n12_:=z2.mk ((by rw [hg];exact Nat.ne_of_gt (zI (g:=gb102) (o:=.cells #[.int .u64 x103000_1,.int .u64 x103001_1] 51 (0,0)) (by (with_reducible repeat (first|refine z4 ?_ _|refine z8 ?_|refine z3 ?_ _));exact BK102.out)) : gb107 ≠ gb102));have n13_:=z2.mk ((by rw [hg];exact Nat.ne_of_lt (zI (g:=gb104) (o:=.cells #[.int .u64 ((zt l2 x17_1).f0),.int .u64 ((zt l2 x17_1).f1)] 51 (0,0)) (by (with_reducible repeat (first|refine z4 ?_ _|refine z8 ?_|refine z3 ?_ _));exact BK104.out)) : gb104 ≠ gb107));have n14_:=z2.mk ((by rw [hg];exact Nat.ne_of_gt (zI (g:=gb104) (o:=.cells #[.int .u64 ((zt l2 x17_1).f0),.int .u64 ((zt l2 x17_1).f1)] 51 (0,0)) (by (with_reducible repeat (first|refine z4 ?_ _|refine z8 ?_|refine z3 ?_ _));exact BK104.out)) : gb107 ≠ gb104));clear HO_1;clear BK101;clear BK102;clear BK104;clear HK;clear HB;have HO_1:=n0_;have BK101:=n1_;have BK102:=n2_;have BK104:=n3_;have HK:=n4_;have HB:=n5_;have BK107:=n6_;have GW107:=n7_;have GE107:=n8_;have NB101_107:=n9_;have NB107_101:=n10_;have NB102_107:=n11_;have NB107_102:=n12_;have NB104_107:=n13_;have NB107_104:=n14_;clear n0_ n1_ n2_ n3_ n4_ n5_ n6_ n7_ n8_ n9_ n10_ n11_ n12_ n13_ n14_;clear hb hbox hg;have hnb21:=NB107_101.out;have hnc21:=NB101_107.out;have hnb22:=NB107_102.out;have hnc22:=NB102_107.out;have hnb23:=NB107_104.out;have hnc23:=NB104_107.out;have hcz24_0 : w20.cell? ⟨gb107,0,none⟩ = some (.int .u64 0):=(za BK107.out 0).trans rfl;have hcz24_1 : w20.cell? ⟨gb107,1,none⟩ = some (.int .u64 0):=(za BK107.out 1).trans rfl;have hfz24_0:=zb BK107.out 0;have hfz24_1:=zb BK107.out 1))
     go_roundg k1
     case measure=>have:=HK1.out;omega
     case rel=>exact ⟨(x1_1),(wrap64 (x17_1 + 1)),(x102000_1),(x102001_1),(x103000_1),(x103001_1),(by first|rfl|(simp;done)|(simp [*];done)),H',⟨by have:=HK1.out;omega⟩,⟨by (with_reducible repeat (first|apply Kd.zi|apply Kd.zj|apply Kd.zo));exact Kd.z19 (Kd.z1H (p:=⟨gb107,1,none⟩) (Kd.z1H (p:=⟨gb107,0,none⟩) (Kd.z19 HO_1.out (fun k_ hk=>(⟨hk,hk.2⟩ : _ ∧ k_ ≠ gb107))) (fun _ hk=>hk.2) (.int .u64 t105)) (fun _ hk=>hk.2) (.int .u64 t106)) (fun _ hk=>⟨hk.1.1.1.1,⟨hk.1.1.1.2.1,hk.1.1.1.2.2⟩⟩)⟩,⟨by (with_reducible repeat (first|refine z4 ?_ _|refine z8 ?_|refine z3 ?_ _));refine zL ?_ NB101_107.out _;(with_reducible repeat (first|refine z4 ?_ _|refine z8 ?_|refine z3 ?_ _));refine zL ?_ NB101_107.out _;(with_reducible repeat (first|refine z4 ?_ _|refine z8 ?_|refine z3 ?_ _));exact BK101.out⟩,⟨by (with_reducible repeat (first|refine z4 ?_ _|refine z8 ?_|refine z3 ?_ _));refine zL ?_ NB102_107.out _;(with_reducible repeat (first|refine z4 ?_ _|refine z8 ?_|refine z3 ?_ _));refine zL ?_ NB102_107.out _;(with_reducible repeat (first|refine z4 ?_ _|refine z8 ?_|refine z3 ?_ _));exact BK102.out⟩,⟨by repeat (first|(with_reducible first|exact HK.out|apply Kept.alloc|apply Kept.drewN|apply Kept.drew|refine Kept.setCell ?_ (.inr GW101.out) _|refine Kept.setCell ?_ (.inr GW102.out) _|refine Kept.setCell ?_ (.inr GW104.out) _|refine Kept.setCell ?_ (.inr GW107.out) _)|exact HK.out)⟩,⟨by repeat (first|(with_reducible first|exact HB.out|apply z7|apply z1|apply z6|refine z5 ?_ GE101.out|refine z5 ?_ GE102.out|refine z5 ?_ GE104.out|refine z5 ?_ GE107.out)|exact HB.out)⟩⟩
   rw [if_neg c12] at H
   have c12b0 : (t105 == 0 && (t106 == 0)) = false:=by simpa using c12
   (try (have c12b1 : decide (t105 = 0 && (t106 == 0)) = false:=by simpa using c12))
   (try (have c12b2 : (t105 == 0 && (t106 == 0)) = false:=by simpa using c12))
   (try (have c12b3 : ¬ (t105 = 0 && (t106 == 0)):=by simpa using c12))
   clear c12
   replace H:=Option.bind_eq_some_iff.mp H
   obtain ⟨⟨t108,t109⟩,A250,H⟩:=H
   replace H : ((zO.f k1 a0 t108 t109 x102000_1 x102001_1).bind fun bt110=>((zA.f k1 a0 bt110.1 bt110.2).bind fun t112=>(zq.l1 k1 a0 x1_1 l2 (l2.length : Int) x17_1 t112 (t112.length : Int) 0 x102000_1 x102001_1 x103000_1 x103001_1 t105 t106))) = some r:=H
   have A25:=z2.mk A250
   clear A250
   replace H:=Option.bind_eq_some_iff.mp H
   obtain ⟨⟨t110,t111⟩,A260,H⟩:=H
   replace H : ((zA.f k1 a0 t110 t111).bind fun t112=>(zq.l1 k1 a0 x1_1 l2 (l2.length : Int) x17_1 t112 (t112.length : Int) 0 x102000_1 x102001_1 x103000_1 x103001_1 t105 t106)) = some r:=H
   have A26:=z2.mk A260
   clear A260
   replace H:=Option.bind_eq_some_iff.mp H
   obtain ⟨t112,A270,H⟩:=H
   replace H : (zq.l1 k1 a0 x1_1 l2 (l2.length : Int) x17_1 t112 (t112.length : Int) 0 x102000_1 x102001_1 x103000_1 x103001_1 t105 t106) = some r:=H
   have A27:=z2.mk A270
   clear A270
   have H':=z2.mk H
   clear H
   have p103 : 0 ≤ (x17_1 : Int):=of_decide_eq_true (by first|(with_reducible assumption)|assumption)
   have q103 : x17_1 < (l2.length : Int):=of_decide_eq_true (by first|(with_reducible assumption)|assumption)
   obtain ⟨ad103,e103,hx103_0,hx103_1⟩:=z2b (Kd.z3m HR2.out HK.out) x17_1 p103 q103
   cases e103
   replace p103:=eq_true p103
   replace q103:=eq_true q103
   try go_wp2_with (first|((with_reducible refine zG (N:=11) rfl ?_);refine zC ?hg (N:=11) ?hd (cs:=#[.int .u64 0,.int .u64 0]) (t:=51) ?hr ?_;(case hd=>rfl);(case hg=>rfl);(case hr=>first|(go_simp;done)|(go_simp;rfl));intro gb104 hg w28 hbox hb;have n0_:=z2.mk (Kd.zx (Kd.z1P (by (with_reducible repeat (first|apply Kd.zi|apply Kd.zj|apply Kd.zo));exact HO_1.out) gb104 (Nat.le_of_eq hg.symm)) hb);have n1_:=z2.mk (z9 (g:=gb101) (o:=.cells #[.int .u64 x102000_1,.int .u64 x102001_1] 51 (0,0)) (by (with_reducible repeat (first|refine z4 ?_ _|refine z8 ?_|refine z3 ?_ _));exact BK101.out) hb);have n2_:=z2.mk (z9 (g:=gb102) (o:=.cells #[.int .u64 x103000_1,.int .u64 x103001_1] 51 (0,0)) (by (with_reducible repeat (first|refine z4 ?_ _|refine z8 ?_|refine z3 ?_ _));exact BK102.out) hb);have n3_:=z2.mk (Kept.below (S:=(fun k_=>P1_ k_)) (by repeat (first|(with_reducible first|exact HK.out|apply Kept.alloc|apply Kept.drewN|apply Kept.drew|refine Kept.setCell ?_ (.inr GW101.out) _|refine Kept.setCell ?_ (.inr GW102.out) _)|exact HK.out)) hb);have n4_:=z2.mk (zd (by repeat (first|(with_reducible first|exact HB.out|apply z7|apply z1|apply z6|refine z5 ?_ GE101.out|refine z5 ?_ GE102.out)|exact HB.out)) hb);have n5_:=z2.mk (hbox);have n6_:=z2.mk ((by rw [hg];exact (by first|exact HK.out.1|exact (show Kept w _ (fun k_=>P1_ k_) from by repeat (first|(with_reducible first|exact HK.out|apply Kept.alloc|apply Kept.drewN|apply Kept.drew|refine Kept.setCell ?_ (.inr GW101.out) _|refine Kept.setCell ?_ (.inr GW102.out) _)|exact HK.out)).1) : w.heap.size ≤ gb104));have n7_:=z2.mk ((by rw [hg];exact (ze (by repeat (first|(with_reducible first|exact HB.out|apply z7|apply z1|apply z6|refine z5 ?_ GE101.out|refine z5 ?_ GE102.out)|exact HB.out))) : w0.heap.size ≤ gb104));have n8_:=z2.mk ((by rw [hg];exact Nat.ne_of_lt (zI (g:=gb101) (o:=.cells #[.int .u64 x102000_1,.int .u64 x102001_1] 51 (0,0)) (by (with_reducible repeat (first|refine z4 ?_ _|refine z8 ?_|refine z3 ?_ _));exact BK101.out)) : gb101 ≠ gb104));have n9_:=z2.mk ((by rw [hg];exact Nat.ne_of_gt (zI (g:=gb101) (o:=.cells #[.int .u64 x102000_1,.int .u64 x102001_1] 51 (0,0)) (by (with_reducible repeat (first|refine z4 ?_ _|refine z8 ?_|refine z3 ?_ _));exact BK101.out)) : gb104 ≠ gb101));have n10_:=z2.mk ((by rw [hg];exact Nat.ne_of_lt (zI (g:=gb102) (o:=.cells #[.int .u64 x103000_1,.int .u64 x103001_1] 51 (0,0)) (by (with_reducible repeat (first|refine z4 ?_ _|refine z8 ?_|refine z3 ?_ _));exact BK102.out)) : gb102 ≠ gb104));have n11_:=z2.mk ((by rw [hg];exact Nat.ne_of_gt (zI (g:=gb102) (o:=.cells #[.int .u64 x103000_1,.int .u64 x103001_1] 51 (0,0)) (by (with_reducible repeat (first|refine z4 ?_ _|refine z8 ?_|refine z3 ?_ _));exact BK102.out)) : gb104 ≠ gb102));clear HO_1;clear BK101;clear BK102;clear HK;clear HB;have HO_1:=n0_;have BK101:=n1_;have BK102:=n2_;have HK:=n3_;have HB:=n4_;have BK104:=n5_;have GW104:=n6_;have GE104:=n7_;have NB101_104:=n8_;have NB104_101:=n9_;have NB102_104:=n10_;have NB104_102:=n11_;clear n0_ n1_ n2_ n3_ n4_ n5_ n6_ n7_ n8_ n9_ n10_ n11_;clear hb hbox hg;have hnb29:=NB104_101.out;have hnc29:=NB101_104.out;have hnb30:=NB104_102.out;have hnc30:=NB102_104.out;have hcz31_0 : w28.cell? ⟨gb104,0,none⟩ = some (.int .u64 0):=(za BK104.out 0).trans rfl;have hcz31_1 : w28.cell? ⟨gb104,1,none⟩ = some (.int .u64 0):=(za BK104.out 1).trans rfl;have hfz31_0:=zb BK104.out 0;have hfz31_1:=zb BK104.out 1;have hnb32:=NB102_101.out;have hnc32:=NB101_102.out;have hcz33_0 : w28.cell? ⟨gb102,0,none⟩ = some (.int .u64 x103000_1):=(za BK102.out 0).trans rfl;have hcz33_1 : w28.cell? ⟨gb102,1,none⟩ = some (.int .u64 x103001_1):=(za BK102.out 1).trans rfl;have hfz33_0:=zb BK102.out 0;have hfz33_1:=zb BK102.out 1)|((with_reducible refine zp (f:=41) rfl ?_);refine goesL_ (some 25) rfl rfl Try.func41 (by kernel_rfl) rfl #[.int .i64 a0,.agg #[.int .u64 ((zt l2 x17_1).f0),.int .u64 ((zt l2 x17_1).f1)],.agg #[.int .u64 x103000_1,.int .u64 x103001_1]] rfl (by (try simp only [List.map_toArray,List.map_cons,List.map_nil]);first|done|rfl|(simp only [List.length_drop,List.length_take];rfl)) ?_;(with_reducible refine (zO.calls k1 a0 ((zt l2 x17_1).f0) ((zt l2 x17_1).f1) x103000_1 x103001_1 t105 t106 _ A11.out).mono ?_);rintro e w34 ⟨rfl,hb⟩;refine ⟨_,rfl,?_⟩;have n0_:=z2.mk (Kd.zx (by (with_reducible repeat (first|apply Kd.zi|apply Kd.zj|apply Kd.zo));exact (Kd.z19 (Kd.z1H (p:=⟨gb104,1,none⟩) (Kd.z1H (p:=⟨gb104,0,none⟩) (Kd.z19 HO_1.out (fun k_ hk=>(⟨hk,hk.2⟩ : _ ∧ k_ ≠ gb104))) (fun _ hk=>hk.2) (.int .u64 ((zt l2 x17_1).f0))) (fun _ hk=>hk.2) (.int .u64 ((zt l2 x17_1).f1))) (fun _ h_=>h_.1))) hb);have n1_:=z2.mk (z9 (g:=gb101) (o:=.cells #[.int .u64 x102000_1,.int .u64 x102001_1] 51 (0,0)) (by (with_reducible repeat (first|refine z4 ?_ _|refine z8 ?_|refine z3 ?_ _));refine zL ?_ NB101_104.out _;(with_reducible repeat (first|refine z4 ?_ _|refine z8 ?_|refine z3 ?_ _));refine zL ?_ NB101_104.out _;(with_reducible repeat (first|refine z4 ?_ _|refine z8 ?_|refine z3 ?_ _));exact BK101.out) hb);have n2_:=z2.mk (z9 (g:=gb102) (o:=.cells #[.int .u64 x103000_1,.int .u64 x103001_1] 51 (0,0)) (by (with_reducible repeat (first|refine z4 ?_ _|refine z8 ?_|refine z3 ?_ _));refine zL ?_ NB102_104.out _;(with_reducible repeat (first|refine z4 ?_ _|refine z8 ?_|refine z3 ?_ _));refine zL ?_ NB102_104.out _;(with_reducible repeat (first|refine z4 ?_ _|refine z8 ?_|refine z3 ?_ _));exact BK102.out) hb);have n3_:=z2.mk (z9 (g:=gb104) (o:=.cells #[.int .u64 ((zt l2 x17_1).f0),.int .u64 ((zt l2 x17_1).f1)] 51 (0,0)) (by (with_reducible repeat (first|refine z4 ?_ _|refine z8 ?_|refine z3 ?_ _));refine zQ (cs:=#[.int .u64 ((zt l2 x17_1).f0),.int .u64 0]) ?_ 1 _ rfl;(with_reducible repeat (first|refine z4 ?_ _|refine z8 ?_|refine z3 ?_ _));refine zQ (cs:=#[.int .u64 0,.int .u64 0]) ?_ 0 _ rfl;(with_reducible repeat (first|refine z4 ?_ _|refine z8 ?_|refine z3 ?_ _));exact BK104.out) hb);have n4_:=z2.mk (Kept.below (S:=(fun k_=>P1_ k_)) (by repeat (first|(with_reducible first|exact HK.out|apply Kept.alloc|apply Kept.drewN|apply Kept.drew|refine Kept.setCell ?_ (.inr GW101.out) _|refine Kept.setCell ?_ (.inr GW102.out) _|refine Kept.setCell ?_ (.inr GW104.out) _)|exact HK.out)) hb);have n5_:=z2.mk (zd (by repeat (first|(with_reducible first|exact HB.out|apply z7|apply z1|apply z6|refine z5 ?_ GE101.out|refine z5 ?_ GE102.out|refine z5 ?_ GE104.out)|exact HB.out)) hb);clear HO_1;clear BK101;clear BK102;clear BK104;clear HK;clear HB;have HO_1:=n0_;have BK101:=n1_;have BK102:=n2_;have BK104:=n3_;have HK:=n4_;have HB:=n5_;clear n0_ n1_ n2_ n3_ n4_ n5_;(try clear hb);(try clear hb2);(try clear hk);(try clear hi))|((with_reducible refine zG (N:=12) rfl ?_);refine zC ?hg (N:=12) ?hd (cs:=#[.int .u64 0,.int .u64 0]) (t:=51) ?hr ?_;(case hd=>rfl);(case hg=>rfl);(case hr=>first|(go_simp;done)|(go_simp;rfl));intro gb107 hg w35 hbox hb;have n0_:=z2.mk (Kd.zx (Kd.z1P (by (with_reducible repeat (first|apply Kd.zi|apply Kd.zj|apply Kd.zo));exact HO_1.out) gb107 (Nat.le_of_eq hg.symm)) hb);have n1_:=z2.mk (z9 (g:=gb101) (o:=.cells #[.int .u64 x102000_1,.int .u64 x102001_1] 51 (0,0)) (by (with_reducible repeat (first|refine z4 ?_ _|refine z8 ?_|refine z3 ?_ _));exact BK101.out) hb);have n2_:=z2.mk (z9 (g:=gb102) (o:=.cells #[.int .u64 x103000_1,.int .u64 x103001_1] 51 (0,0)) (by (with_reducible repeat (first|refine z4 ?_ _|refine z8 ?_|refine z3 ?_ _));exact BK102.out) hb);have n3_:=z2.mk (z9 (g:=gb104) (o:=.cells #[.int .u64 ((zt l2 x17_1).f0),.int .u64 ((zt l2 x17_1).f1)] 51 (0,0)) (by (with_reducible repeat (first|refine z4 ?_ _|refine z8 ?_|refine z3 ?_ _));exact BK104.out) hb);have n4_:=z2.mk (Kept.below (S:=(fun k_=>P1_ k_)) (by repeat (first|(with_reducible first|exact HK.out|apply Kept.alloc|apply Kept.drewN|apply Kept.drew|refine Kept.setCell ?_ (.inr GW101.out) _|refine Kept.setCell ?_ (.inr GW102.out) _|refine Kept.setCell ?_ (.inr GW104.out) _)|exact HK.out)) hb);have n5_:=z2.mk (zd (by repeat (first|(with_reducible first|exact HB.out|apply z7|apply z1|apply z6|refine z5 ?_ GE101.out|refine z5 ?_ GE102.out|refine z5 ?_ GE104.out)|exact HB.out)) hb);have n6_:=z2.mk (hbox);have n7_:=z2.mk ((by rw [hg];exact (by first|exact HK.out.1|exact (show Kept w _ (fun k_=>P1_ k_) from by repeat (first|(with_reducible first|exact HK.out|apply Kept.alloc|apply Kept.drewN|apply Kept.drew|refine Kept.setCell ?_ (.inr GW101.out) _|refine Kept.setCell ?_ (.inr GW102.out) _|refine Kept.setCell ?_ (.inr GW104.out) _)|exact HK.out)).1) : w.heap.size ≤ gb107));have n8_:=z2.mk ((by rw [hg];exact (ze (by repeat (first|(with_reducible first|exact HB.out|apply z7|apply z1|apply z6|refine z5 ?_ GE101.out|refine z5 ?_ GE102.out|refine z5 ?_ GE104.out)|exact HB.out))) : w0.heap.size ≤ gb107));have n9_:=z2.mk ((by rw [hg];exact Nat.ne_of_lt (zI (g:=gb101) (o:=.cells #[.int .u64 x102000_1,.int .u64 x102001_1] 51 (0,0)) (by (with_reducible repeat (first|refine z4 ?_ _|refine z8 ?_|refine z3 ?_ _));exact BK101.out)) : gb101 ≠ gb107));have n10_:=z2.mk ((by rw [hg];exact Nat.ne_of_gt (zI (g:=gb101) (o:=.cells #[.int .u64 x102000_1,.int .u64 x102001_1] 51 (0,0)) (by (with_reducible repeat (first|refine z4 ?_ _|refine z8 ?_|refine z3 ?_ _));exact BK101.out)) : gb107 ≠ gb101));have n11_:=z2.mk ((by rw [hg];exact Nat.ne_of_lt (zI (g:=gb102) (o:=.cells #[.int .u64 x103000_1,.int .u64 x103001_1] 51 (0,0)) (by (with_reducible repeat (first|refine z4 ?_ _|refine z8 ?_|refine z3 ?_ _));exact BK102.out)) : gb102 ≠ gb107));have n12_:=z2.mk ((by rw [hg];exact Nat.ne_of_gt (zI (g:=gb102) (o:=.cells #[.int .u64 x103000_1,.int .u64 x103001_1] 51 (0,0)) (by (with_reducible repeat (first|refine z4 ?_ _|refine z8 ?_|refine z3 ?_ _));exact BK102.out)) : gb107 ≠ gb102));have n13_:=z2.mk ((by rw [hg];exact Nat.ne_of_lt (zI (g:=gb104) (o:=.cells #[.int .u64 ((zt l2 x17_1).f0),.int .u64 ((zt l2 x17_1).f1)] 51 (0,0)) (by (with_reducible repeat (first|refine z4 ?_ _|refine z8 ?_|refine z3 ?_ _));exact BK104.out)) : gb104 ≠ gb107));have n14_:=z2.mk ((by rw [hg];exact Nat.ne_of_gt (zI (g:=gb104) (o:=.cells #[.int .u64 ((zt l2 x17_1).f0),.int .u64 ((zt l2 x17_1).f1)] 51 (0,0)) (by (with_reducible repeat (first|refine z4 ?_ _|refine z8 ?_|refine z3 ?_ _));exact BK104.out)) : gb107 ≠ gb104));clear HO_1;clear BK101;clear BK102;clear BK104;clear HK;clear HB;have HO_1:=n0_;have BK101:=n1_;have BK102:=n2_;have BK104:=n3_;have HK:=n4_;have HB:=n5_;have BK107:=n6_;have GW107:=n7_;have GE107:=n8_;have NB101_107:=n9_;have NB107_101:=n10_;have NB102_107:=n11_;have NB107_102:=n12_;have NB104_107:=n13_;have NB107_104:=n14_;clear n0_ n1_ n2_ n3_ n4_ n5_ n6_ n7_ n8_ n9_ n10_ n11_ n12_ n13_ n14_;clear hb hbox hg;have hnb36:=NB107_101.out;have hnc36:=NB101_107.out;have hnb37:=NB107_102.out;have hnc37:=NB102_107.out;have hnb38:=NB107_104.out;have hnc38:=NB104_107.out;have hcz39_0 : w35.cell? ⟨gb107,0,none⟩ = some (.int .u64 0):=(za BK107.out 0).trans rfl;have hcz39_1 : w35.cell? ⟨gb107,1,none⟩ = some (.int .u64 0):=(za BK107.out 1).trans rfl;have hfz39_0:=zb BK107.out 0;have hfz39_1:=zb BK107.out 1))
   have n0_ : z2 (Kd.R k51 51 ((w35.setCell ⟨gb107,0,none⟩ (.int .u64 t105)).setCell ⟨gb107,1,none⟩ (.int .u64 t106)) w0.heap.size (fun k_=>(P1_ k_ ∨ w.heap.size ≤ k_) ∧ k_ ≠ gb101 ∧ k_ ≠ gb102 ∧ k_ ≠ gb104 ∧ k_ ≠ gb107) u9000_ x1_1):=⟨by (with_reducible repeat (first|apply Kd.zi|apply Kd.zj|apply Kd.zo));exact Kd.z19 (Kd.z1H (p:=⟨gb107,1,none⟩) (Kd.z1H (p:=⟨gb107,0,none⟩) (Kd.z19 HO_1.out (fun k_ hk=>(⟨hk,hk.2⟩ : _ ∧ k_ ≠ gb107))) (fun _ hk=>hk.2) (.int .u64 t105)) (fun _ hk=>hk.2) (.int .u64 t106)) (fun _ hk=>⟨hk.1.1.1.1,⟨hk.1.1.1.2.1,⟨hk.1.1.1.2.2,⟨hk.1.1.2,hk.1.2⟩⟩⟩⟩)⟩
   have n1_ : z2 (((w35.setCell ⟨gb107,0,none⟩ (.int .u64 t105)).setCell ⟨gb107,1,none⟩ (.int .u64 t106)).heap[gb101]? = some (.cells #[.int .u64 x102000_1,.int .u64 x102001_1] 51 (0,0))):=⟨by (with_reducible repeat (first|refine z4 ?_ _|refine z8 ?_|refine z3 ?_ _));refine zL ?_ NB101_107.out _;(with_reducible repeat (first|refine z4 ?_ _|refine z8 ?_|refine z3 ?_ _));refine zL ?_ NB101_107.out _;(with_reducible repeat (first|refine z4 ?_ _|refine z8 ?_|refine z3 ?_ _));exact BK101.out⟩
   have n2_ : z2 (((w35.setCell ⟨gb107,0,none⟩ (.int .u64 t105)).setCell ⟨gb107,1,none⟩ (.int .u64 t106)).heap[gb102]? = some (.cells #[.int .u64 x103000_1,.int .u64 x103001_1] 51 (0,0))):=⟨by (with_reducible repeat (first|refine z4 ?_ _|refine z8 ?_|refine z3 ?_ _));refine zL ?_ NB102_107.out _;(with_reducible repeat (first|refine z4 ?_ _|refine z8 ?_|refine z3 ?_ _));refine zL ?_ NB102_107.out _;(with_reducible repeat (first|refine z4 ?_ _|refine z8 ?_|refine z3 ?_ _));exact BK102.out⟩
   have n3_ : z2 (((w35.setCell ⟨gb107,0,none⟩ (.int .u64 t105)).setCell ⟨gb107,1,none⟩ (.int .u64 t106)).heap[gb104]? = some (.cells #[.int .u64 ((zt l2 x17_1).f0),.int .u64 ((zt l2 x17_1).f1)] 51 (0,0))):=⟨by (with_reducible repeat (first|refine z4 ?_ _|refine z8 ?_|refine z3 ?_ _));refine zL ?_ NB104_107.out _;(with_reducible repeat (first|refine z4 ?_ _|refine z8 ?_|refine z3 ?_ _));refine zL ?_ NB104_107.out _;(with_reducible repeat (first|refine z4 ?_ _|refine z8 ?_|refine z3 ?_ _));exact BK104.out⟩
   have n4_ : z2 (((w35.setCell ⟨gb107,0,none⟩ (.int .u64 t105)).setCell ⟨gb107,1,none⟩ (.int .u64 t106)).heap[gb107]? = some (.cells #[.int .u64 t105,.int .u64 t106] 51 (0,0))):=⟨by (with_reducible repeat (first|refine z4 ?_ _|refine z8 ?_|refine z3 ?_ _));refine zQ (cs:=#[.int .u64 t105,.int .u64 0]) ?_ 1 _ rfl;(with_reducible repeat (first|refine z4 ?_ _|refine z8 ?_|refine z3 ?_ _));refine zQ (cs:=#[.int .u64 0,.int .u64 0]) ?_ 0 _ rfl;(with_reducible repeat (first|refine z4 ?_ _|refine z8 ?_|refine z3 ?_ _));exact BK107.out⟩
   have n5_ : z2 (Kept w ((w35.setCell ⟨gb107,0,none⟩ (.int .u64 t105)).setCell ⟨gb107,1,none⟩ (.int .u64 t106)) (fun k_=>P1_ k_)):=⟨by repeat (first|(with_reducible first|exact HK.out|apply Kept.alloc|apply Kept.drewN|apply Kept.drew|refine Kept.setCell ?_ (.inr GW101.out) _|refine Kept.setCell ?_ (.inr GW102.out) _|refine Kept.setCell ?_ (.inr GW104.out) _|refine Kept.setCell ?_ (.inr GW107.out) _)|exact HK.out)⟩
   have n6_ : z2 (Below w0.heap.size w0 ((w35.setCell ⟨gb107,0,none⟩ (.int .u64 t105)).setCell ⟨gb107,1,none⟩ (.int .u64 t106))):=⟨by repeat (first|(with_reducible first|exact HB.out|apply z7|apply z1|apply z6|refine z5 ?_ GE101.out|refine z5 ?_ GE102.out|refine z5 ?_ GE104.out|refine z5 ?_ GE107.out)|exact HB.out)⟩
   (try clear HO_1)
   (try clear BK101)
   (try clear BK102)
   (try clear BK104)
   (try clear BK107)
   (try clear HK)
   (try clear HB)
   generalize ((w35.setCell ⟨gb107,0,none⟩ (.int .u64 t105)).setCell ⟨gb107,1,none⟩ (.int .u64 t106)) = w40 at n0_ n1_ n2_ n3_ n4_ n5_ n6_ ⊢
   have HO_1:=n0_
   have BK101:=n1_
   have BK102:=n2_
   have BK104:=n3_
   have BK107:=n4_
   have HK:=n5_
   have HB:=n6_
   clear n0_ n1_ n2_ n3_ n4_ n5_ n6_
   have n0_:=z2.mk (Kd.zo HO_1.out)
   have n1_:=z2.mk (z8 BK101.out)
   have n2_:=z2.mk (z8 BK102.out)
   have n3_:=z2.mk (z8 BK104.out)
   have n4_:=z2.mk (z8 BK107.out)
   have n5_:=z2.mk (Kept.drew HK.out)
   have n6_:=z2.mk (z6 HB.out)
   clear HO_1
   clear BK101
   clear BK102
   clear BK104
   clear BK107
   clear HK
   clear HB
   have HO_1:=n0_
   have BK101:=n1_
   have BK102:=n2_
   have BK104:=n3_
   have BK107:=n4_
   have HK:=n5_
   have HB:=n6_
   clear n0_ n1_ n2_ n3_ n4_ n5_ n6_
   refine start_ (n:=9) (S:=fun w'=>w'.cell? ⟨gb101,0,none⟩ = some (.int .u64 x102000_1) ∧ w'.cell? ⟨gb101,1,none⟩ = some (.int .u64 x102001_1)) (ds:=[]) #[false,false,false,false,false,false,false,false,false] (by kernel_rfl) rfl rfl ⟨(za BK101.out 0).trans rfl,(za BK101.out 1).trans rfl⟩ (fun hHeld=>?_);refine z1y zq.tab6 zq.bits6 (fun HT_ HW_=>?_)
   generalize w40.drew = w41 at HO_1 BK101 BK102 BK104 BK107 HK HB hHeld ⊢
   refine pure_ (i:=0) (N:=some 29) (v:=?_) (a':=?_) #[true,false,false,false,false,false,false,false,false] rfl rfl (z1d HT_.out (by kernel_rfl)) (fun _ _ _ h=>h) (Or.inl ⟨by rfl,?_⟩) ?_ ?_
   rotate_left
   · intro w'
     go_simp
     with_reducible rfl
   rotate_left
   · simp only [Act.put,List.setIfInBounds_toArray,List.set_cons_zero,List.set_cons_succ,zR,zV]
     rfl
   refine pure_ (i:=1) (N:=some 30) (v:=?_) (a':=?_) #[true,true,false,false,false,false,false,false,false] rfl rfl (z1d HT_.out (by kernel_rfl)) (fun _ _ _ h=>h) (Or.inl ⟨by rfl,?_⟩) ?_ ?_
   rotate_left
   · intro w'
     go_simp
     with_reducible rfl
   rotate_left
   · simp only [Act.put,List.setIfInBounds_toArray,List.set_cons_zero,List.set_cons_succ,zR,zV]
     rfl
   refine pure_ (i:=2) (N:=some 31) (v:=?_) (a':=?_) #[true,true,true,false,false,false,false,false,false] rfl rfl (z1d HT_.out (by kernel_rfl)) (fun _ _ _ h=>h) (Or.inl ⟨by rfl,?_⟩) ?_ ?_
   rotate_left
   · intro w'
     go_simp
     with_reducible rfl
   rotate_left
   · simp only [Act.put,List.setIfInBounds_toArray,List.set_cons_zero,List.set_cons_succ,zR,zV]
     rfl
   refine pure_ (i:=8) (N:=some 37) (v:=?_) (a':=?_) #[true,true,true,false,false,false,false,false,true] rfl rfl (z1d HT_.out (by kernel_rfl)) (fun _ _ _ h=>h) (Or.inl ⟨by rfl,?_⟩) ?_ ?_
   rotate_left
   · intro w'
     go_simp
     with_reducible rfl
   rotate_left
   · simp only [Act.put,List.setIfInBounds_toArray,List.set_cons_zero,List.set_cons_succ,zR,zV]
     rfl
   refine take_ (i:=4) (N:=some 33) (v:=?_) (a':=?_) #[true,true,true,false,true,false,false,false,true] rfl rfl (z1e HT_.out HW_.out (by kernel_rfl)) (fun _ _ _ h=>h) (Or.inl ⟨by rfl,?_⟩) hHeld ?_ ?_
   rotate_left
   · rintro w' ⟨s0,s1⟩
     go_simp
     with_reducible rfl
   rotate_left
   · simp only [Act.put,List.setIfInBounds_toArray,List.set_cons_zero,List.set_cons_succ,zR,zV]
     rfl
   refine one_ (i:=3) (N:=some 32) #[true,true,true,true,true,false,false,false,true] rfl rfl (z1l HT_.out (by kernel_rfl)) (by decide) (fun K hK=>?_)
   refine goes_ Try.func68 (by kernel_rfl) rfl #[.int .i64 x17_1] (by rfl) rfl rfl (by (try simp only [List.map_toArray,List.map_cons,List.map_nil]);first|done|rfl|(simp only [List.length_drop,List.length_take];rfl)) ?_
   with_reducible refine (zN.calls k1 x17_1 t108 t109 _ A25.out).mono ?_
   rintro e w42 ⟨rfl,hb⟩
   refine ⟨_,rfl,?_⟩
   have n0_:=z2.mk (Kd.zx (by (with_reducible repeat (first|apply Kd.zi|apply Kd.zj|apply Kd.zo));exact HO_1.out) hb)
   have n1_:=z2.mk (z9 (g:=gb101) (o:=.cells #[.int .u64 x102000_1,.int .u64 x102001_1] 51 (0,0)) (by (with_reducible repeat (first|refine z4 ?_ _|refine z8 ?_|refine z3 ?_ _));exact BK101.out) hb)
   have n2_:=z2.mk (z9 (g:=gb102) (o:=.cells #[.int .u64 x103000_1,.int .u64 x103001_1] 51 (0,0)) (by (with_reducible repeat (first|refine z4 ?_ _|refine z8 ?_|refine z3 ?_ _));exact BK102.out) hb)
   have n3_:=z2.mk (z9 (g:=gb104) (o:=.cells #[.int .u64 ((zt l2 x17_1).f0),.int .u64 ((zt l2 x17_1).f1)] 51 (0,0)) (by (with_reducible repeat (first|refine z4 ?_ _|refine z8 ?_|refine z3 ?_ _));exact BK104.out) hb)
   have n4_:=z2.mk (z9 (g:=gb107) (o:=.cells #[.int .u64 t105,.int .u64 t106] 51 (0,0)) (by (with_reducible repeat (first|refine z4 ?_ _|refine z8 ?_|refine z3 ?_ _));exact BK107.out) hb)
   have n5_:=z2.mk (Kept.below (S:=(fun k_=>P1_ k_)) (by repeat (first|(with_reducible first|exact HK.out|apply Kept.alloc|apply Kept.drewN|apply Kept.drew|refine Kept.setCell ?_ (.inr GW101.out) _|refine Kept.setCell ?_ (.inr GW102.out) _|refine Kept.setCell ?_ (.inr GW104.out) _|refine Kept.setCell ?_ (.inr GW107.out) _)|exact HK.out)) hb)
   have n6_:=z2.mk (zd (by repeat (first|(with_reducible first|exact HB.out|apply z7|apply z1|apply z6|refine z5 ?_ GE101.out|refine z5 ?_ GE102.out|refine z5 ?_ GE104.out|refine z5 ?_ GE107.out)|exact HB.out)) hb)
   clear HO_1
   clear BK101
   clear BK102
   clear BK104
   clear BK107
   clear HK
   clear HB
   have HO_1:=n0_
   have BK101:=n1_
   have BK102:=n2_
   have BK104:=n3_
   have BK107:=n4_
   have HK:=n5_
   have HB:=n6_
   clear n0_ n1_ n2_ n3_ n4_ n5_ n6_
   (try clear hb)
   (try clear hb2)
   (try clear hk)
   (try clear hi)
   refine hK.out _ _ ⟨(za BK101.out 0).trans rfl,(za BK101.out 1).trans rfl⟩ (fun hHeld=>?_)
   clear hK K
   refine norm_ (a':=?_) ?_ ?_
   rotate_left
   · show Act.put _ (some 32) _ = _
     simp only [Act.put,List.setIfInBounds_toArray,List.set_cons_zero,List.set_cons_succ,zR,zV]
     rfl
   refine one_ (i:=5) (N:=some 34) #[true,true,true,true,true,true,false,false,true] rfl rfl (z1l HT_.out (by kernel_rfl)) (by decide) (fun K hK=>?_)
   refine goes_ Try.func41 (by kernel_rfl) rfl #[.int .i64 a0,.agg #[.int .u64 t108,.int .u64 t109],.agg #[.int .u64 x102000_1,.int .u64 x102001_1]] (by rfl) rfl rfl (by (try simp only [List.map_toArray,List.map_cons,List.map_nil]);first|done|rfl|(simp only [List.length_drop,List.length_take];rfl)) ?_
   with_reducible refine (zO.calls k1 a0 t108 t109 x102000_1 x102001_1 t110 t111 _ A26.out).mono ?_
   rintro e w43 ⟨rfl,hb⟩
   refine ⟨_,rfl,?_⟩
   have n0_:=z2.mk (Kd.zx (by (with_reducible repeat (first|apply Kd.zi|apply Kd.zj|apply Kd.zo));exact HO_1.out) hb)
   have n1_:=z2.mk (z9 (g:=gb101) (o:=.cells #[.int .u64 x102000_1,.int .u64 x102001_1] 51 (0,0)) (by (with_reducible repeat (first|refine z4 ?_ _|refine z8 ?_|refine z3 ?_ _));exact BK101.out) hb)
   have n2_:=z2.mk (z9 (g:=gb102) (o:=.cells #[.int .u64 x103000_1,.int .u64 x103001_1] 51 (0,0)) (by (with_reducible repeat (first|refine z4 ?_ _|refine z8 ?_|refine z3 ?_ _));exact BK102.out) hb)
   have n3_:=z2.mk (z9 (g:=gb104) (o:=.cells #[.int .u64 ((zt l2 x17_1).f0),.int .u64 ((zt l2 x17_1).f1)] 51 (0,0)) (by (with_reducible repeat (first|refine z4 ?_ _|refine z8 ?_|refine z3 ?_ _));exact BK104.out) hb)
   have n4_:=z2.mk (z9 (g:=gb107) (o:=.cells #[.int .u64 t105,.int .u64 t106] 51 (0,0)) (by (with_reducible repeat (first|refine z4 ?_ _|refine z8 ?_|refine z3 ?_ _));exact BK107.out) hb)
   have n5_:=z2.mk (Kept.below (S:=(fun k_=>P1_ k_)) (by repeat (first|(with_reducible first|exact HK.out|apply Kept.alloc|apply Kept.drewN|apply Kept.drew|refine Kept.setCell ?_ (.inr GW101.out) _|refine Kept.setCell ?_ (.inr GW102.out) _|refine Kept.setCell ?_ (.inr GW104.out) _|refine Kept.setCell ?_ (.inr GW107.out) _)|exact HK.out)) hb)
   have n6_:=z2.mk (zd (by repeat (first|(with_reducible first|exact HB.out|apply z7|apply z1|apply z6|refine z5 ?_ GE101.out|refine z5 ?_ GE102.out|refine z5 ?_ GE104.out|refine z5 ?_ GE107.out)|exact HB.out)) hb)
   clear HO_1
   clear BK101
   clear BK102
   clear BK104
   clear BK107
   clear HK
   clear HB
   have HO_1:=n0_
   have BK101:=n1_
   have BK102:=n2_
   have BK104:=n3_
   have BK107:=n4_
   have HK:=n5_
   have HB:=n6_
   clear n0_ n1_ n2_ n3_ n4_ n5_ n6_
   (try clear hb)
   (try clear hb2)
   (try clear hk)
   (try clear hi)
   refine hK.out _ _ ⟨(za BK101.out 0).trans rfl,(za BK101.out 1).trans rfl⟩ (fun hHeld=>?_)
   clear hK K
   refine norm_ (a':=?_) ?_ ?_
   rotate_left
   · show Act.put _ (some 34) _ = _
     simp only [Act.put,List.setIfInBounds_toArray,List.set_cons_zero,List.set_cons_succ,zR,zV]
     rfl
   refine one_ (i:=6) (N:=some 35) #[true,true,true,true,true,true,true,false,true] rfl rfl (z1l HT_.out (by kernel_rfl)) (by decide) (fun K hK=>?_)
   refine goes_ Try.func29 (by kernel_rfl) rfl #[.int .i64 a0,.agg #[.int .u64 t110,.int .u64 t111]] (by rfl) rfl rfl (by (try simp only [List.map_toArray,List.map_cons,List.map_nil]);first|done|rfl|(simp only [List.length_drop,List.length_take];rfl)) ?_
   with_reducible refine (zA.calls k1 a0 t110 t111 t112 _ A27.out).mono ?_
   rintro e w44 ⟨v113,rfl,ho0,hb⟩
   refine ⟨_,rfl,?_⟩
   have n0_:=z2.mk (Kd.zx (by (with_reducible repeat (first|apply Kd.zi|apply Kd.zj|apply Kd.zo));exact HO_1.out) hb)
   have n1_:=z2.mk (Kd.z14 (Kd.R_newM (M:=fun k_=>(P1_ k_ ∨ w.heap.size ≤ k_)) ho0 (by first|exact HK.out.1|exact (show Kept w _ (fun k_=>P1_ k_) from by repeat (first|(with_reducible first|exact HK.out|apply Kept.alloc|apply Kept.drewN|apply Kept.drew|refine Kept.setCell ?_ (.inr GW101.out) _|refine Kept.setCell ?_ (.inr GW102.out) _|refine Kept.setCell ?_ (.inr GW104.out) _|refine Kept.setCell ?_ (.inr GW107.out) _)|exact HK.out)).1) (fun k_ h_=>.inr h_)) (ze (by repeat (first|(with_reducible first|exact HB.out|apply z7|apply z1|apply z6|refine z5 ?_ GE101.out|refine z5 ?_ GE102.out|refine z5 ?_ GE104.out|refine z5 ?_ GE107.out)|exact HB.out))))
   have n2_:=z2.mk (z9 (g:=gb101) (o:=.cells #[.int .u64 x102000_1,.int .u64 x102001_1] 51 (0,0)) (by (with_reducible repeat (first|refine z4 ?_ _|refine z8 ?_|refine z3 ?_ _));exact BK101.out) hb)
   have n3_:=z2.mk (z9 (g:=gb102) (o:=.cells #[.int .u64 x103000_1,.int .u64 x103001_1] 51 (0,0)) (by (with_reducible repeat (first|refine z4 ?_ _|refine z8 ?_|refine z3 ?_ _));exact BK102.out) hb)
   have n4_:=z2.mk (z9 (g:=gb104) (o:=.cells #[.int .u64 ((zt l2 x17_1).f0),.int .u64 ((zt l2 x17_1).f1)] 51 (0,0)) (by (with_reducible repeat (first|refine z4 ?_ _|refine z8 ?_|refine z3 ?_ _));exact BK104.out) hb)
   have n5_:=z2.mk (z9 (g:=gb107) (o:=.cells #[.int .u64 t105,.int .u64 t106] 51 (0,0)) (by (with_reducible repeat (first|refine z4 ?_ _|refine z8 ?_|refine z3 ?_ _));exact BK107.out) hb)
   have n6_:=z2.mk (Kept.below (S:=(fun k_=>P1_ k_)) (by repeat (first|(with_reducible first|exact HK.out|apply Kept.alloc|apply Kept.drewN|apply Kept.drew|refine Kept.setCell ?_ (.inr GW101.out) _|refine Kept.setCell ?_ (.inr GW102.out) _|refine Kept.setCell ?_ (.inr GW104.out) _|refine Kept.setCell ?_ (.inr GW107.out) _)|exact HK.out)) hb)
   have n7_:=z2.mk (zd (by repeat (first|(with_reducible first|exact HB.out|apply z7|apply z1|apply z6|refine z5 ?_ GE101.out|refine z5 ?_ GE102.out|refine z5 ?_ GE104.out|refine z5 ?_ GE107.out)|exact HB.out)) hb)
   clear HO_1
   clear BK101
   clear BK102
   clear BK104
   clear BK107
   clear HK
   clear HB
   have HO_1:=n0_
   have HO114:=n1_
   have BK101:=n2_
   have BK102:=n3_
   have BK104:=n4_
   have BK107:=n5_
   have HK:=n6_
   have HB:=n7_
   clear n0_ n1_ n2_ n3_ n4_ n5_ n6_ n7_
   (try clear hb)
   (try clear hb2)
   (try clear hk)
   (try clear hi)
   (try clear ho0)
   obtain ⟨Ao45,co45,eo45⟩:=Kd.z13 HO114.out
   (first|subst eo45|(injection eo45 with f1_ f2_ f3_;have f4_:=f1_.symm;have f5_:=f3_.symm;clear f1_ f2_ f3_;subst f4_;subst f5_))
   refine hK.out _ _ ⟨(za BK101.out 0).trans rfl,(za BK101.out 1).trans rfl⟩ (fun hHeld=>?_)
   clear hK K
   refine norm_ (a':=?_) ?_ ?_
   rotate_left
   · show Act.put _ (some 35) _ = _
     simp only [Act.put,List.setIfInBounds_toArray,List.set_cons_zero,List.set_cons_succ,zR,zV]
     rfl
   refine pure_ (i:=7) (N:=some 36) (v:=?_) (a':=?_) #[true,true,true,true,true,true,true,true,true] rfl rfl (z1d HT_.out (by kernel_rfl)) (fun _ _ _ h=>h) (Or.inl ⟨by rfl,?_⟩) ?_ ?_
   rotate_left
   · intro w'
     go_simp
     with_reducible rfl
   rotate_left
   · simp only [Act.put,List.setIfInBounds_toArray,List.set_cons_zero,List.set_cons_succ,zR,zV]
     rfl
   refine done_ (z1R HT_.out (by kernel_rfl)) ?_
   try go_wp2
   go_loopg [37] k1 (fun kq v37 w'=>∃ (x1_2 : List (S51)) (x37_2 : Int) (x102000_2 : Int) (x102001_2 : Int) (x103000_2 : Int) (x103001_2 : Int) (x105000_2 : Int) (x105001_2 : Int) (x108000_2 : Int) (x108001_2 : Int),v37 = .int .i64 x37_2 ∧ z2 (zq.l1 kq a0 x1_2 l2 (l2.length : Int) x17_1 t112 (t112.length : Int) x37_2 x102000_2 x102001_2 x103000_2 x103001_2 x108000_2 x108001_2 = some r) ∧ z2 (kq ≤ k1) ∧ z2 (Kd.R k51 51 w' w0.heap.size (fun k_=>(P1_ k_ ∨ w.heap.size ≤ k_) ∧ k_ ≠ gb101 ∧ k_ ≠ gb102 ∧ k_ ≠ gb104 ∧ k_ ≠ gb107) u9000_ x1_2) ∧ z2 (Kd.R Kd.bool 4 w' w0.heap.size (fun k_=>(P1_ k_ ∨ w.heap.size ≤ k_)) (.slice Ao45 t112.length co45) t112) ∧ z2 (w'.heap[gb101]? = some (.cells #[.int .u64 x102000_2,.int .u64 x102001_2] 51 (0,0))) ∧ z2 (w'.heap[gb102]? = some (.cells #[.int .u64 x103000_2,.int .u64 x103001_2] 51 (0,0))) ∧ z2 (w'.heap[gb104]? = some (.cells #[.int .u64 x105000_2,.int .u64 x105001_2] 51 (0,0))) ∧ z2 (w'.heap[gb107]? = some (.cells #[.int .u64 x108000_2,.int .u64 x108001_2] 51 (0,0))) ∧ z2 (Kept w w' (fun k_=>P1_ k_)) ∧ z2 (Below w0.heap.size w0 w'))
   case atStart=>exact ⟨(x1_1),(0),(x102000_1),(x102001_1),(x103000_1),(x103001_1),((zt l2 x17_1).f0),((zt l2 x17_1).f1),(t105),(t106),(by first|rfl|(simp;done)|(simp [*];done)),H',⟨Nat.le_refl _⟩,⟨by (with_reducible repeat (first|apply Kd.zi|apply Kd.zj|apply Kd.zo));exact HO_1.out⟩,⟨by (with_reducible repeat (first|apply Kd.zi|apply Kd.zj|apply Kd.zo));exact Kd.z19 HO114.out (fun _ hk=>hk.1)⟩,⟨by (with_reducible repeat (first|refine z4 ?_ _|refine z8 ?_|refine z3 ?_ _));exact BK101.out⟩,⟨by (with_reducible repeat (first|refine z4 ?_ _|refine z8 ?_|refine z3 ?_ _));exact BK102.out⟩,⟨by (with_reducible repeat (first|refine z4 ?_ _|refine z8 ?_|refine z3 ?_ _));exact BK104.out⟩,⟨by (with_reducible repeat (first|refine z4 ?_ _|refine z8 ?_|refine z3 ?_ _));exact BK107.out⟩,⟨by repeat (first|(with_reducible first|exact HK.out|apply Kept.alloc|apply Kept.drewN|apply Kept.drew|refine Kept.setCell ?_ (.inr GW101.out) _|refine Kept.setCell ?_ (.inr GW102.out) _|refine Kept.setCell ?_ (.inr GW104.out) _|refine Kept.setCell ?_ (.inr GW107.out) _)|exact HK.out)⟩,⟨by repeat (first|(with_reducible first|exact HB.out|apply z7|apply z1|apply z6|refine z5 ?_ GE101.out|refine z5 ?_ GE102.out|refine z5 ?_ GE104.out|refine z5 ?_ GE107.out)|exact HB.out)⟩⟩
   case round =>
    clear H'
    (try clear c1);(try clear p1);(try clear q1);(try clear hx1);(try clear c2);(try clear p2);(try clear c3);(try clear c4);(try clear c6);(try clear p6);(try clear c8);(try clear c8b0);(try clear c9);(try clear c9b0);(try clear c10);(try clear c10b0);(try clear p10);(try clear q10);(try clear hx10);(try clear c12);(try clear c12b0);(try clear c12b1);(try clear c12b2);(try clear c14);(try clear c15);(try clear c17);(try clear c21);(try clear c22);(try clear c23);(try clear c29);(try clear c30);(try clear c32);(try clear c36);(try clear c37);(try clear c38);(try clear c41);(try clear hcz16_0);(try clear hcz16_1);(try clear hcz18_0);(try clear hcz18_1);(try clear hcz24_0);(try clear hcz24_1);(try clear hcz31_0);(try clear hcz31_1);(try clear hcz33_0);(try clear hcz33_1);(try clear hcz39_0);(try clear hcz39_1);(try clear hfz16_0);(try clear hfz16_1);(try clear hfz18_0);(try clear hfz18_1);(try clear hfz24_0);(try clear hfz24_1);(try clear hfz31_0);(try clear hfz31_1);(try clear hfz33_0);(try clear hfz33_1);(try clear hfz39_0);(try clear hfz39_1);(try clear hx103_0);(try clear hx103_1);(try clear p103);(try clear p2);(try clear q103)
    obtain ⟨x1_2,x37_2,x102000_2,x102001_2,x103000_2,x103001_2,x105000_2,x105001_2,x108000_2,x108001_2,rfl,HA,HK2,HO_1,HO_35,BK101,BK102,BK104,BK107,HK,HB⟩:=hrel
    cases gk with
    | zero=>exact absurd HA.out (by simp [zq.l1])
    | succ k2 =>
     have H:=HA.out
     clear HA
     simp only [zq.l1] at H
     by_cases c46 : x37_2 < (t112.length : Int)
     rotate_left
     · rw [if_neg c46] at H
       have c46b0 : decide (x37_2 < (t112.length : Int)) = false:=decide_eq_false c46
       clear c46
       have H':=z2.mk H
       clear H
       go_wp2
       go_roundg k2
       case measure=>have:=HK1.out;have:=HK2.out;omega
       case rel=>exact ⟨(x1_2),(wrap64 (x17_1 + 1)),(x102000_2),(x102001_2),(x103000_2),(x103001_2),(by first|rfl|(simp;done)|(simp [*];done)),H',⟨by have:=HK1.out;have:=HK2.out;omega⟩,⟨by (with_reducible repeat (first|apply Kd.zi|apply Kd.zj|apply Kd.zo));exact Kd.z19 HO_1.out (fun _ hk=>⟨hk.1,⟨hk.2.1,hk.2.2.1⟩⟩)⟩,⟨by (with_reducible repeat (first|refine z4 ?_ _|refine z8 ?_|refine z3 ?_ _));exact BK101.out⟩,⟨by (with_reducible repeat (first|refine z4 ?_ _|refine z8 ?_|refine z3 ?_ _));exact BK102.out⟩,⟨by repeat (first|(with_reducible first|exact HK.out|apply Kept.alloc|apply Kept.drewN|apply Kept.drew|refine Kept.setCell ?_ (.inr GW101.out) _|refine Kept.setCell ?_ (.inr GW102.out) _|refine Kept.setCell ?_ (.inr GW104.out) _|refine Kept.setCell ?_ (.inr GW107.out) _)|exact HK.out)⟩,⟨by repeat (first|(with_reducible first|exact HB.out|apply z7|apply z1|apply z6|refine z5 ?_ GE101.out|refine z5 ?_ GE102.out|refine z5 ?_ GE104.out|refine z5 ?_ GE107.out)|exact HB.out)⟩⟩
     rw [if_pos c46] at H
     have c46b0 : decide (x37_2 < (t112.length : Int)) = true:=decide_eq_true c46
     clear c46
     by_cases c47 : 0 ≤ x37_2
     rotate_left
     · rw [if_neg c47] at H
       exact absurd H (by simp)
     rw [if_pos c47] at H
     have c47b0 : decide (0 ≤ x37_2) = true:=decide_eq_true c47
     clear c47
     by_cases c48 : x37_2 < (t112.length : Int)
     rotate_left
     · rw [if_neg c48] at H
       exact absurd H (by simp)
     rw [if_pos c48] at H
     have c48b0 : decide (x37_2 < (t112.length : Int)) = true:=decide_eq_true c48
     clear c48
     obtain ⟨bq49,hbq49⟩ : ∃ b_ : Bool,b_ = (rdOf false t112 x37_2):=⟨_,rfl⟩
     replace H : (if bq49 = true then (if x37_2 < (x1_2.length : Int) then ((z1N.f ((zt x1_2 x37_2).f0) ((zt x1_2 x37_2).f1) x108000_2 x108001_2).bind fun bt117=>(zq.l1 k2 a0 (x1_2.set (x37_2 : Int).toNat (⟨bt117.1,bt117.2⟩ : S51)) l2 (l2.length : Int) x17_1 t112 (t112.length : Int) (wrap64 (x37_2 + 1)) x102000_2 x102001_2 x103000_2 x103001_2 x108000_2 x108001_2)) else (none)) else (zq.l1 k2 a0 x1_2 l2 (l2.length : Int) x17_1 t112 (t112.length : Int) (wrap64 (x37_2 + 1)) x102000_2 x102001_2 x103000_2 x103001_2 x108000_2 x108001_2)) = some r:=by rw [← hbq49] at H;exact H
     have Nbq49:=z2.mk hbq49
     clear hbq49
     by_cases c50 : bq49 = true
     rotate_left
     · replace c50:=Bool.eq_false_iff.mpr c50
       subst c50
       have H1 : (zq.l1 k2 a0 x1_2 l2 (l2.length : Int) x17_1 t112 (t112.length : Int) (wrap64 (x37_2 + 1)) x102000_2 x102001_2 x103000_2 x103001_2 x108000_2 x108001_2) = some r:=by rw [if_neg (show ¬ (false = true) by decide)] at H;exact H
       clear H
       have H:=H1
       clear H1
       have H':=z2.mk H
       clear H
       have p115 : 0 ≤ (x37_2 : Int):=of_decide_eq_true (by first|(with_reducible assumption)|assumption)
       have q115 : x37_2 < (t112.length : Int):=of_decide_eq_true (by first|(with_reducible assumption)|assumption)
       obtain ⟨ad115,e115,hx115_0⟩:=Kd.z3z (Kd.zM HO_35.out).2.2 x37_2 p115 q115
       (try rw [← Nbq49.out] at hx115_0)
       cases e115
       replace p115:=eq_true p115
       replace q115:=eq_true q115
       go_wp2
       go_roundg k2
       case measure=>have:=HK1.out;have:=HK2.out;omega
       case rel=>exact ⟨(x1_2),(wrap64 (x37_2 + 1)),(x102000_2),(x102001_2),(x103000_2),(x103001_2),(x105000_2),(x105001_2),(x108000_2),(x108001_2),(by first|rfl|(simp;done)|(simp [*];done)),H',⟨by have:=HK1.out;have:=HK2.out;omega⟩,⟨by (with_reducible repeat (first|apply Kd.zi|apply Kd.zj|apply Kd.zo));exact HO_1.out⟩,⟨by (with_reducible repeat (first|apply Kd.zi|apply Kd.zj|apply Kd.zo));exact HO_35.out⟩,⟨by (with_reducible repeat (first|refine z4 ?_ _|refine z8 ?_|refine z3 ?_ _));exact BK101.out⟩,⟨by (with_reducible repeat (first|refine z4 ?_ _|refine z8 ?_|refine z3 ?_ _));exact BK102.out⟩,⟨by (with_reducible repeat (first|refine z4 ?_ _|refine z8 ?_|refine z3 ?_ _));exact BK104.out⟩,⟨by (with_reducible repeat (first|refine z4 ?_ _|refine z8 ?_|refine z3 ?_ _));exact BK107.out⟩,⟨by repeat (first|(with_reducible first|exact HK.out|apply Kept.alloc|apply Kept.drewN|apply Kept.drew|refine Kept.setCell ?_ (.inr GW101.out) _|refine Kept.setCell ?_ (.inr GW102.out) _|refine Kept.setCell ?_ (.inr GW104.out) _|refine Kept.setCell ?_ (.inr GW107.out) _)|exact HK.out)⟩,⟨by repeat (first|(with_reducible first|exact HB.out|apply z7|apply z1|apply z6|refine z5 ?_ GE101.out|refine z5 ?_ GE102.out|refine z5 ?_ GE104.out|refine z5 ?_ GE107.out)|exact HB.out)⟩⟩
     subst c50
     have H1 : (if x37_2 < (x1_2.length : Int) then ((z1N.f ((zt x1_2 x37_2).f0) ((zt x1_2 x37_2).f1) x108000_2 x108001_2).bind fun bt117=>(zq.l1 k2 a0 (x1_2.set (x37_2 : Int).toNat (⟨bt117.1,bt117.2⟩ : S51)) l2 (l2.length : Int) x17_1 t112 (t112.length : Int) (wrap64 (x37_2 + 1)) x102000_2 x102001_2 x103000_2 x103001_2 x108000_2 x108001_2)) else (none)) = some r:=by rw [if_pos rfl] at H;exact H
     clear H
     have H:=H1
     clear H1
     by_cases c51 : x37_2 < (x1_2.length : Int)
     rotate_left
     · rw [if_neg c51] at H
       exact absurd H (by simp)
     rw [if_pos c51] at H
     have c51b0 : decide (x37_2 < (x1_2.length : Int)) = true:=decide_eq_true c51
     clear c51
     replace H:=Option.bind_eq_some_iff.mp H
     obtain ⟨⟨t117,t118⟩,A520,H⟩:=H
     replace H : (zq.l1 k2 a0 (x1_2.set (x37_2 : Int).toNat (⟨t117,t118⟩ : S51)) l2 (l2.length : Int) x17_1 t112 (t112.length : Int) (wrap64 (x37_2 + 1)) x102000_2 x102001_2 x103000_2 x103001_2 x108000_2 x108001_2) = some r:=H
     have A52:=z2.mk A520
     clear A520
     obtain ⟨y119,hy119⟩ : ∃ y_ : List (S51),y_ = (x1_2.set (x37_2 : Int).toNat (⟨t117,t118⟩ : S51)):=⟨_,rfl⟩
     replace H : (zq.l1 k2 a0 y119 l2 (l2.length : Int) x17_1 t112 (t112.length : Int) (wrap64 (x37_2 + 1)) x102000_2 x102001_2 x103000_2 x103001_2 x108000_2 x108001_2) = some r:=by first|(rw [hy119];with_reducible exact H)|(have H2_:=(Option.bind_some _ _).symm.trans H;rw [hy119];with_reducible exact H2_)|(have H2_:=(Option.bind_some _ _).symm.trans H;with_reducible exact H2_)|with_reducible exact H|(rw [hy119];exact H)|exact H
     have Ny119:=z2.mk hy119
     clear hy119
     have H':=z2.mk H
     clear H
     have p115 : 0 ≤ (x37_2 : Int):=of_decide_eq_true (by first|(with_reducible assumption)|assumption)
     have q115 : x37_2 < (t112.length : Int):=of_decide_eq_true (by first|(with_reducible assumption)|assumption)
     obtain ⟨ad115,e115,hx115_0⟩:=Kd.z3z (Kd.zM HO_35.out).2.2 x37_2 p115 q115
     (try rw [← Nbq49.out] at hx115_0)
     cases e115
     replace p115:=eq_true p115
     replace q115:=eq_true q115
     try go_wp2
     have n0_:=z2.mk (Kd.zo HO_1.out)
     have n1_:=z2.mk (Kd.zo HO_35.out)
     have n2_:=z2.mk (z8 BK101.out)
     have n3_:=z2.mk (z8 BK102.out)
     have n4_:=z2.mk (z8 BK104.out)
     have n5_:=z2.mk (z8 BK107.out)
     have n6_:=z2.mk (Kept.drew HK.out)
     have n7_:=z2.mk (z6 HB.out)
     clear HO_1
     clear HO_35
     clear BK101
     clear BK102
     clear BK104
     clear BK107
     clear HK
     clear HB
     have HO_1:=n0_
     have HO_35:=n1_
     have BK101:=n2_
     have BK102:=n3_
     have BK104:=n4_
     have BK107:=n5_
     have HK:=n6_
     have HB:=n7_
     clear n0_ n1_ n2_ n3_ n4_ n5_ n6_ n7_
     obtain ⟨Ao55,co55,eo55⟩:=Kd.z13 HO_1.out
     (first|subst eo55|(injection eo55 with f1_ f2_ f3_;have f4_:=f1_.symm;have f5_:=f3_.symm;clear f1_ f2_ f3_;subst f4_;subst f5_))
     have p116 : 0 ≤ (x37_2 : Int):=of_decide_eq_true (by first|(with_reducible assumption)|assumption)
     have q116 : x37_2 < (x1_2.length : Int):=of_decide_eq_true (by first|(with_reducible assumption)|assumption)
     obtain ⟨ad116,e116,hx116_0,hx116_1⟩:=z2b (Kd.zM HO_1.out).2.2 x37_2 p116 q116
     cases e116
     replace p116:=eq_true p116
     replace q116:=eq_true q116
     refine start_ (n:=10) (S:=fun w'=>w'.cell? ⟨gb107,0,none⟩ = some (.int .u64 x108000_2) ∧ w'.cell? ⟨gb107,1,none⟩ = some (.int .u64 x108001_2) ∧ w'.cell? (ad116.add ((x37_2).toNat * 2)) = some (.int .u64 ((zt x1_2 x37_2).f0)) ∧ w'.cell? ⟨(ad116.add ((x37_2).toNat * 2)).block,(ad116.add ((x37_2).toNat * 2)).off + 1,none⟩ = some (.int .u64 ((zt x1_2 x37_2).f1))) (ds:=[9]) #[false,false,false,false,false,false,false,false,false,false] (by kernel_rfl) rfl rfl ⟨(za BK107.out 0).trans rfl,(za BK107.out 1).trans rfl,hx116_0,hx116_1⟩ (fun hHeld=>?_);refine z1y zq.tab10 zq.bits10 (fun HT_ HW_=>?_)
     generalize wr.drew = w54 at HO_1 HO_35 BK101 BK102 BK104 BK107 HK HB hx116_0 hx116_1 hHeld ⊢
     refine pure_ (i:=0) (N:=some 43) (v:=?_) (a':=?_) #[true,false,false,false,false,false,false,false,false,false] rfl rfl (z1d HT_.out (by kernel_rfl)) (fun _ _ _ h=>h) (Or.inl ⟨by rfl,?_⟩) ?_ ?_
     rotate_left
     · intro w'
       go_simp
       with_reducible rfl
     rotate_left
     · simp only [Act.put,List.setIfInBounds_toArray,List.set_cons_zero,List.set_cons_succ,zR,zV]
       rfl
     refine pure_ (i:=1) (N:=some 44) (v:=?_) (a':=?_) #[true,true,false,false,false,false,false,false,false,false] rfl rfl (z1d HT_.out (by kernel_rfl)) (fun _ _ _ h=>h) (Or.inl ⟨by rfl,?_⟩) ?_ ?_
     rotate_left
     · intro w'
       go_simp
       with_reducible rfl
     rotate_left
     · simp only [Act.put,List.setIfInBounds_toArray,List.set_cons_zero,List.set_cons_succ,zR,zV]
       rfl
     refine pure_ (i:=2) (N:=some 45) (v:=?_) (a':=?_) #[true,true,true,false,false,false,false,false,false,false] rfl rfl (z1d HT_.out (by kernel_rfl)) (fun _ _ _ h=>h) (Or.inl ⟨by rfl,?_⟩) ?_ ?_
     rotate_left
     · intro w'
       go_simp
       with_reducible rfl
     rotate_left
     · simp only [Act.put,List.setIfInBounds_toArray,List.set_cons_zero,List.set_cons_succ,zR,zV]
       rfl
     refine pure_ (i:=3) (N:=some 46) (v:=?_) (a':=?_) #[true,true,true,true,false,false,false,false,false,false] rfl rfl (z1d HT_.out (by kernel_rfl)) (fun _ _ _ h=>h) (Or.inl ⟨by rfl,?_⟩) ?_ ?_
     rotate_left
     · intro w'
       go_simp
       with_reducible rfl
     rotate_left
     · simp only [Act.put,List.setIfInBounds_toArray,List.set_cons_zero,List.set_cons_succ,zR,zV]
       rfl
     refine pure_ (i:=4) (N:=some 47) (v:=?_) (a':=?_) #[true,true,true,true,true,false,false,false,false,false] rfl rfl (z1d HT_.out (by kernel_rfl)) (fun _ _ _ h=>h) (Or.inl ⟨by rfl,?_⟩) ?_ ?_
     rotate_left
     · intro w'
       go_simp
       with_reducible rfl
     rotate_left
     · simp only [Act.put,List.setIfInBounds_toArray,List.set_cons_zero,List.set_cons_succ,zR,zV]
       rfl
     refine take_ (i:=5) (N:=some 48) (v:=?_) (a':=?_) #[true,true,true,true,true,true,false,false,false,false] rfl rfl (z1e HT_.out HW_.out (by kernel_rfl)) (fun _ _ _ h=>h) (Or.inl ⟨by rfl,?_⟩) hHeld ?_ ?_
     rotate_left
     · rintro w' ⟨s0,s1,s2,s3⟩
       go_simp
       with_reducible rfl
     rotate_left
     · simp only [Act.put,List.setIfInBounds_toArray,List.set_cons_zero,List.set_cons_succ,zR,zV]
       rfl
     refine take_ (i:=6) (N:=some 49) (v:=?_) (a':=?_) #[true,true,true,true,true,true,true,false,false,false] rfl rfl (z1e HT_.out HW_.out (by kernel_rfl)) (fun _ _ _ h=>h) (Or.inl ⟨by rfl,?_⟩) hHeld ?_ ?_
     rotate_left
     · rintro w' ⟨s0,s1,s2,s3⟩
       go_simp
       with_reducible rfl
     rotate_left
     · simp only [Act.put,List.setIfInBounds_toArray,List.set_cons_zero,List.set_cons_succ,zR,zV]
       rfl
     refine one_ (i:=7) (N:=some 50) #[true,true,true,true,true,true,true,true,false,false] rfl rfl (z1l HT_.out (by kernel_rfl)) (by decide) (fun K hK=>?_)
     refine goes_ Try.func40 (by kernel_rfl) rfl #[.agg #[.int .u64 ((zt x1_2 x37_2).f0),.int .u64 ((zt x1_2 x37_2).f1)],.agg #[.int .u64 x108000_2,.int .u64 x108001_2]] (by rfl) rfl rfl (by (try simp only [List.map_toArray,List.map_cons,List.map_nil]);first|done|rfl|(simp only [List.length_drop,List.length_take];rfl)) ?_
     with_reducible refine (z1N.calls ((zt x1_2 x37_2).f0) ((zt x1_2 x37_2).f1) x108000_2 x108001_2 t117 t118 _ A52.out).mono ?_
     rintro e w56 ⟨rfl,hb⟩
     have HS2_:=(hb.cell (World.block_lt_of_cell? _ _ (hHeld.2.2.1))).trans (hHeld.2.2.1)
     have HS3_:=(hb.cell (World.block_lt_of_cell? _ _ (hHeld.2.2.2))).trans (hHeld.2.2.2)
     refine ⟨_,rfl,?_⟩
     have n0_:=z2.mk (Kd.zx (by (with_reducible repeat (first|apply Kd.zi|apply Kd.zj|apply Kd.zo));exact HO_1.out) hb)
     have n1_:=z2.mk (Kd.zx (by (with_reducible repeat (first|apply Kd.zi|apply Kd.zj|apply Kd.zo));exact HO_35.out) hb)
     have n2_:=z2.mk (z9 (g:=gb101) (o:=.cells #[.int .u64 x102000_2,.int .u64 x102001_2] 51 (0,0)) (by (with_reducible repeat (first|refine z4 ?_ _|refine z8 ?_|refine z3 ?_ _));exact BK101.out) hb)
     have n3_:=z2.mk (z9 (g:=gb102) (o:=.cells #[.int .u64 x103000_2,.int .u64 x103001_2] 51 (0,0)) (by (with_reducible repeat (first|refine z4 ?_ _|refine z8 ?_|refine z3 ?_ _));exact BK102.out) hb)
     have n4_:=z2.mk (z9 (g:=gb104) (o:=.cells #[.int .u64 x105000_2,.int .u64 x105001_2] 51 (0,0)) (by (with_reducible repeat (first|refine z4 ?_ _|refine z8 ?_|refine z3 ?_ _));exact BK104.out) hb)
     have n5_:=z2.mk (z9 (g:=gb107) (o:=.cells #[.int .u64 x108000_2,.int .u64 x108001_2] 51 (0,0)) (by (with_reducible repeat (first|refine z4 ?_ _|refine z8 ?_|refine z3 ?_ _));exact BK107.out) hb)
     have n6_:=z2.mk (Kept.below (S:=(fun k_=>P1_ k_)) (by repeat (first|(with_reducible first|exact HK.out|apply Kept.alloc|apply Kept.drewN|apply Kept.drew|refine Kept.setCell ?_ (.inr GW101.out) _|refine Kept.setCell ?_ (.inr GW102.out) _|refine Kept.setCell ?_ (.inr GW104.out) _|refine Kept.setCell ?_ (.inr GW107.out) _)|exact HK.out)) hb)
     have n7_:=z2.mk (zd (by repeat (first|(with_reducible first|exact HB.out|apply z7|apply z1|apply z6|refine z5 ?_ GE101.out|refine z5 ?_ GE102.out|refine z5 ?_ GE104.out|refine z5 ?_ GE107.out)|exact HB.out)) hb)
     clear HO_1
     clear HO_35
     clear BK101
     clear BK102
     clear BK104
     clear BK107
     clear HK
     clear HB
     have HO_1:=n0_
     have HO_35:=n1_
     have BK101:=n2_
     have BK102:=n3_
     have BK104:=n4_
     have BK107:=n5_
     have HK:=n6_
     have HB:=n7_
     clear n0_ n1_ n2_ n3_ n4_ n5_ n6_ n7_
     (try clear hb)
     (try clear hb2)
     (try clear hk)
     (try clear hi)
     have p53 : 0 ≤ (x37_2 : Int):=of_decide_eq_true (by first|(with_reducible assumption)|assumption)
     have q53 : (x37_2 : Int) < ((x1_2.length : Int) : Int):=of_decide_eq_true (by first|(with_reducible assumption)|assumption)
     obtain ⟨go53,co53,eo53,gb53,gl53,cl53,HG53⟩:=Kd.z54 HO_1.out (by omega)
     (first|cases eo53|(injection eo53 with ea_ en_ ec_;(first|subst ea_|(injection ea_ with ea_;subst ea_));subst ec_;clear en_))
     have GB53:=z2.mk gb53
     have GG53:=z2.mk HG53
     clear gb53 gl53 HG53
     have HMgo53:=z2.mk (show (P1_ go53 ∨ w.heap.size ≤ go53) from (HO_1.out.1 _ rfl).1)
     (first|simp only [z31] at hx116_0|skip)
     (first|simp only [z31] at hx116_1|skip)
     obtain ⟨ce53,hcl53,hM53,hcc53,hfr53⟩:=Kd.z3n HO_1.out z51 (x37_2 : Int) p53 q53
     obtain rfl:=z1S hM53
     have hx53_0 : World.cell? _ ⟨go53,(x37_2 : Int).toNat * 2,none⟩ = some (.int .u64 ((zt x1_2 x37_2).f0)):=hcc53 0 _ rfl
     have hx53_1 : World.cell? _ ⟨go53,(x37_2 : Int).toNat * 2 + 1,none⟩ = some (.int .u64 ((zt x1_2 x37_2).f1)):=hcc53 1 _ rfl
     have hf53_0 : World.frozen? _ ⟨go53,(x37_2 : Int).toNat * 2,none⟩ = false:=hfr53 0
     have hf53_1 : World.frozen? _ ⟨go53,(x37_2 : Int).toNat * 2 + 1,none⟩ = false:=hfr53 1
     clear hcl53 hcc53 hfr53 hM53
     replace p53:=eq_true p53
     replace q53:=eq_true q53
     obtain ⟨ce57,hcl57,hM57,hcc57,hfr57⟩:=Kd.z3n HO_1.out z51 (x37_2 : Int) (of_decide_eq_true (by first|(with_reducible assumption)|assumption)) (by have h_ : (x37_2 : Int) < ((x1_2.length : Int) : Int):=of_decide_eq_true (by first|(with_reducible assumption)|assumption);first|exact h_|(have e_:=(Kd.zM HO_1.out).1;omega)|simpa using h_)
     obtain rfl:=z1S hM57
     have HP57:=(Kd.R_seg HO_1.out (x37_2 : Int) (of_decide_eq_true (by first|(with_reducible assumption)|assumption)) (by have h_ : (x37_2 : Int) < ((x1_2.length : Int) : Int):=of_decide_eq_true (by first|(with_reducible assumption)|assumption);first|exact h_|(have e_:=(Kd.zM HO_1.out).1;omega)|simpa using h_) (seg:=[.int .u64 t117,.int .u64 t118]) (j:=0) hcl57 hcc57 (show 2 ≤ 2 from by decide) (x':=(⟨t117,t118⟩ : S51)) (z2w _ _ _ (⟨t117,t118⟩ : S51) ) (fun _ hk=>hk)).1
     rw [← Ny119.out] at HP57
     have HQ57:=z2.mk HP57
     clear hcl57 hcc57 hfr57 hM57 HP57
     refine hK.out _ _ ⟨(za BK107.out 0).trans rfl,(za BK107.out 1).trans rfl,HS2_,HS3_⟩ (fun hHeld=>?_)
     clear hK K
     refine norm_ (a':=?_) ?_ ?_
     rotate_left
     · show Act.put _ (some 50) _ = _
       simp only [Act.put,List.setIfInBounds_toArray,List.set_cons_zero,List.set_cons_succ,zR,zV]
       rfl
     refine pure_ (i:=8) (N:=some 51) (v:=?_) (a':=?_) #[true,true,true,true,true,true,true,true,true,false] rfl rfl (z1d HT_.out (by kernel_rfl)) (fun _ _ _ h=>h) (Or.inl ⟨by rfl,?_⟩) ?_ ?_
     rotate_left
     · intro w'
       go_simp
       with_reducible rfl
     rotate_left
     · simp only [Act.put,List.setIfInBounds_toArray,List.set_cons_zero,List.set_cons_succ,zR,zV]
       rfl
     refine last_ (i:=9) (N:=none) #[true,true,true,true,true,true,true,true,true,true] rfl rfl (z1l HT_.out (by kernel_rfl)) (by decide) (fun K hK=>?_)
     refine skip_ (w1:=?_) (by rfl) rfl ?_ ?_
     rotate_left
     · go_simp
       rfl
     refine hK.out _ _ ?_
     clear hK K
     refine done_ (z1R HT_.out (by kernel_rfl)) ?_
     try go_wp2
     go_roundg k2
     case measure=>have:=HK1.out;have:=HK2.out;omega
     case rel=>exact ⟨(y119),(wrap64 (x37_2 + 1)),(x102000_2),(x102001_2),(x103000_2),(x103001_2),(x105000_2),(x105001_2),(x108000_2),(x108001_2),(by first|rfl|(simp;done)|(simp [*];done)),H',⟨by have:=HK1.out;have:=HK2.out;omega⟩,⟨by (with_reducible repeat (first|apply Kd.zi|apply Kd.zj|apply Kd.zo));exact HQ57.out⟩,⟨by (with_reducible repeat (first|apply Kd.zi|apply Kd.zj|apply Kd.zo));exact Kd.z19 (Kd.z1H (p:=⟨go53,(x37_2 : Int).toNat * 2 + 1,none⟩) (Kd.z1H (p:=⟨go53,(x37_2 : Int).toNat * 2,none⟩) (Kd.z2f HO_35.out GG53.out (by decide)) (fun _ hk=>hk.2) (.int .u64 t117)) (fun _ hk=>hk.2) (.int .u64 t118)) (fun _ hk=>hk.1)⟩,⟨by (with_reducible repeat (first|refine z4 ?_ _|refine z8 ?_|refine z3 ?_ _));refine zL ?_ (by have h_:=Kd.z1M HO_1.out (fun _ hk=>hk.2.1);intro e_;exact h_ (by rw [e_];rfl)) _;(with_reducible repeat (first|refine z4 ?_ _|refine z8 ?_|refine z3 ?_ _));refine zL ?_ (by have h_:=Kd.z1M HO_1.out (fun _ hk=>hk.2.1);intro e_;exact h_ (by rw [e_];rfl)) _;(with_reducible repeat (first|refine z4 ?_ _|refine z8 ?_|refine z3 ?_ _));exact BK101.out⟩,⟨by (with_reducible repeat (first|refine z4 ?_ _|refine z8 ?_|refine z3 ?_ _));refine zL ?_ (by have h_:=Kd.z1M HO_1.out (fun _ hk=>hk.2.2.1);intro e_;exact h_ (by rw [e_];rfl)) _;(with_reducible repeat (first|refine z4 ?_ _|refine z8 ?_|refine z3 ?_ _));refine zL ?_ (by have h_:=Kd.z1M HO_1.out (fun _ hk=>hk.2.2.1);intro e_;exact h_ (by rw [e_];rfl)) _;(with_reducible repeat (first|refine z4 ?_ _|refine z8 ?_|refine z3 ?_ _));exact BK102.out⟩,⟨by (with_reducible repeat (first|refine z4 ?_ _|refine z8 ?_|refine z3 ?_ _));refine zL ?_ (by have h_:=Kd.z1M HO_1.out (fun _ hk=>hk.2.2.2.1);intro e_;exact h_ (by rw [e_];rfl)) _;(with_reducible repeat (first|refine z4 ?_ _|refine z8 ?_|refine z3 ?_ _));refine zL ?_ (by have h_:=Kd.z1M HO_1.out (fun _ hk=>hk.2.2.2.1);intro e_;exact h_ (by rw [e_];rfl)) _;(with_reducible repeat (first|refine z4 ?_ _|refine z8 ?_|refine z3 ?_ _));exact BK104.out⟩,⟨by (with_reducible repeat (first|refine z4 ?_ _|refine z8 ?_|refine z3 ?_ _));refine zL ?_ (by have h_:=Kd.z1M HO_1.out (fun _ hk=>hk.2.2.2.2);intro e_;exact h_ (by rw [e_];rfl)) _;(with_reducible repeat (first|refine z4 ?_ _|refine z8 ?_|refine z3 ?_ _));refine zL ?_ (by have h_:=Kd.z1M HO_1.out (fun _ hk=>hk.2.2.2.2);intro e_;exact h_ (by rw [e_];rfl)) _;(with_reducible repeat (first|refine z4 ?_ _|refine z8 ?_|refine z3 ?_ _));exact BK107.out⟩,⟨by repeat (first|(with_reducible first|exact HK.out|apply Kept.alloc|apply Kept.drewN|apply Kept.drew|refine Kept.setCell ?_ HMgo53.out _|refine Kept.setCell ?_ HMgo53.out _|refine Kept.setCell ?_ (.inr GW101.out) _|refine Kept.setCell ?_ (.inr GW102.out) _|refine Kept.setCell ?_ (.inr GW104.out) _|refine Kept.setCell ?_ (.inr GW107.out) _)|exact HK.out)⟩,⟨by repeat (first|(with_reducible first|exact HB.out|apply z7|apply z1|apply z6|refine z5 ?_ GB53.out|refine z5 ?_ GB53.out|refine z5 ?_ GE101.out|refine z5 ?_ GE102.out|refine z5 ?_ GE104.out|refine z5 ?_ GE107.out)|exact HB.out)⟩⟩
end Go.Proofs.Ytngcaphdkgihmaa.P
namespace Go.Proofs.Ytngcaphdkgihmaa.P
open Go.RowKit Go.Proofs.YtngcaphdkgihmaaW.PrintWords Go.Proofs.YtngcaphdkgihmaaW.PrintLast Go.Proofs.YtngcaphdkgihmaaW.PrintMore
attribute [local go_sem] zX zZ z16 z17 zT zU zY z10   -- for this text's walks alone
set_option linter.unusedVariables false
set_option linter.unusedSimpArgs false
def zJ.l0 : Nat → Int → List (S51) → List (S51) → List (S51) → Int → Int → Option ((List (S51)) × Int)
 | 0,_,_,_,_,_,_=>none
 | k + 1,x0,x1,x9,x23,x24,x25=>if x25 < x24 then (if 0 ≤ x25 then (if x25 < (x23.length : Int) then ((zN.f k x25).bind fun bt111=>((zq.f k x0 x9 x1 bt111.1 bt111.2 ((zt x23 x25).f0) ((zt x23 x25).f1)).bind fun t113=>(zJ.l0 k x0 x1 t113 x23 x24 (wrap64 (x25 + 1))))) else (none)) else (none)) else (some (x9,0))
def zJ.f (k : Nat) (a0 : Int) (l1 : List (S51)) (l2 : List (S51)) : Option ((List (S51)) × Int):=(zv.f k a0 (([l1,l2] : List (List (S51)))) ([] : List (S51))).bind fun t104=>(if t104 = 0 then ((zK.f k a0).bind fun t105=>(if 0 ≤ t105 then (if (t105 : Int).toNat ≤ 17592186044416 then (zJ.l0 k a0 l1 (List.replicate (t105 : Int).toNat z51) l2 (l2.length : Int) 0) else (none)) else (none))) else (some (([] : List (S51)),t104)))
theorem zJ.z12 : ∀ k,(∀ y0 y1 y2 y3 y4 y5,LeO (zJ.l0 k y0 y1 y2 y3 y4 y5) (zJ.l0 (k + 1) y0 y1 y2 y3 y4 y5))
 | 0=>fun _ _ _ _ _ _ r h=>by simp [zJ.l0] at h
 | k + 1=>by
  have ih0:=zJ.z12 k
  · intro y0 y1 y2 y3 y4 y5
    unfold zJ.l0
    repeat' first
    | (with_reducible exact ih0 _ _ _ _ _ _)
    | (with_reducible exact zv.mono _ _ _ _)
    | (with_reducible exact zq.mono _ _ _ _ _ _ _ _)
    | (with_reducible exact zK.mono _ _)
    | (with_reducible exact zN.mono _ _)
    | (with_reducible exact LeO.refl _)
    | (with_reducible exact LeO.none _)
    | (with_reducible refine LeO.ite ?_ ?_)
    | (with_reducible refine LeO.bind ?_ (fun _=>?_))
    | exact ih0 _ _ _ _ _ _
    | exact zv.mono _ _ _ _
    | exact zq.mono _ _ _ _ _ _ _ _
    | exact zK.mono _ _
    | exact zN.mono _ _
    | exact LeO.none _
    | refine LeO.ite ?_ ?_
    | refine LeO.bind ?_ (fun _=>?_)
theorem zJ.mono : ∀ a0 a1 a2 k,LeO (zJ.f k a0 a1 a2) (zJ.f (k + 1) a0 a1 a2):=by
 intro a0 a1 a2 k
 have ih0:=zJ.z12 k
 unfold zJ.f
 repeat' first
  | (with_reducible exact ih0 _ _ _ _ _ _)
  | (with_reducible exact zv.mono _ _ _ _)
  | (with_reducible exact zq.mono _ _ _ _ _ _ _ _)
  | (with_reducible exact zK.mono _ _)
  | (with_reducible exact zN.mono _ _)
  | (with_reducible exact LeO.refl _)
  | (with_reducible exact LeO.none _)
  | (with_reducible refine LeO.ite ?_ ?_)
  | (with_reducible refine LeO.bind ?_ (fun _=>?_))
  | exact ih0 _ _ _ _ _ _
  | exact zv.mono _ _ _ _
  | exact zq.mono _ _ _ _ _ _ _ _
  | exact zK.mono _ _
  | exact zN.mono _ _
  | exact LeO.none _
  | refine LeO.ite ?_ ?_
  | refine LeO.bind ?_ (fun _=>?_)
set_option maxHeartbeats 8000000 in
set_option maxRecDepth 100000 in
theorem zJ.calls (k : Nat) (a0 : Int) (P1_ : Nat → Prop) (A1 : Option Addr) (c1 : Nat) (l1 : List (S51)) (P2_ : Nat → Prop) (A2 : Option Addr) (c2 : Nat) (l2 : List (S51)) (r1 : List (S51)) (r2 : Int) (w : World) (hs1 : Kd.V k51 51 w w.heap.size (fun k_=>P1_ k_) (.slice A1 l1.length c1) l1) (hs2 : Kd.V k51 51 w w.heap.size (fun k_=>P2_ k_) (.slice A2 l2.length c2) l2) (h : zJ.f k a0 l1 l2 = some (r1,r2)) :
 Calls Try.prog 90 #[.int .i64 a0,.slice A1 l1.length c1,.slice A2 l2.length c2] w fun e w'=>∃ v0_ : Value,e = .returned (.tuple #[v0_,.int .i64 r2]) ∧ Kd.R k51 51 w' w.heap.size (fun k_=>(w.heap.size ≤ k_)) v0_ r1 ∧ Below w.heap.size w w':=by
 have hu51:=Try.underlying51
 have HO1:=z2.mk (show Kd.V k51 51 w w.heap.size (fun k_=>((P1_ k_ ∨ P2_ k_) ∨ w.heap.size ≤ k_)) (.slice A1 l1.length c1) l1 from Kd.z1C hs1 (fun k_ hk=>.inl (.inl hk)))
 have HO2:=z2.mk (show Kd.V k51 51 w w.heap.size (fun k_=>((P1_ k_ ∨ P2_ k_) ∨ w.heap.size ≤ k_)) (.slice A2 l2.length c2) l2 from Kd.z1C hs2 (fun k_ hk=>.inl (.inr hk)))
 have HB:=z2.mk (Below.refl w.heap.size w)
 have H : ((zv.f k a0 (([l1,l2] : List (List (S51)))) ([] : List (S51))).bind fun t104=>(if t104 = 0 then ((zK.f k a0).bind fun t105=>(if 0 ≤ t105 then (if (t105 : Int).toNat ≤ 17592186044416 then (zJ.l0 k a0 l1 (List.replicate (t105 : Int).toNat z51) l2 (l2.length : Int) 0) else (none)) else (none))) else (some (([] : List (S51)),t104)))) = some (r1,r2):=h
 clear h
 obtain ⟨y101,hy101⟩ : ∃ y_ : List (List (S51)),y_ = (([l1,l2] : List (List (S51)))):=⟨_,rfl⟩
 replace H : ((zv.f k a0 y101 ([] : List (S51))).bind fun t104=>(if t104 = 0 then ((zK.f k a0).bind fun t105=>(if 0 ≤ t105 then (if (t105 : Int).toNat ≤ 17592186044416 then (zJ.l0 k a0 l1 (List.replicate (t105 : Int).toNat z51) l2 (l2.length : Int) 0) else (none)) else (none))) else (some (([] : List (S51)),t104)))) = some (r1,r2):=by first|(rw [hy101];with_reducible exact H)|(have H2_:=(Option.bind_some _ _).symm.trans H;rw [hy101];with_reducible exact H2_)|(have H2_:=(Option.bind_some _ _).symm.trans H;with_reducible exact H2_)|with_reducible exact H|(rw [hy101];exact H)|exact H
 have Ny101:=z2.mk hy101
 clear hy101
 replace H:=Option.bind_eq_some_iff.mp H
 obtain ⟨t104,A40,H⟩:=H
 replace H : (if t104 = 0 then ((zK.f k a0).bind fun t105=>(if 0 ≤ t105 then (if (t105 : Int).toNat ≤ 17592186044416 then (zJ.l0 k a0 l1 (List.replicate (t105 : Int).toNat z51) l2 (l2.length : Int) 0) else (none)) else (none))) else (some (([] : List (S51)),t104))) = some (r1,r2):=H
 have A4:=z2.mk A40
 clear A40
 by_cases c5 : t104 = 0
 rotate_left
 · rw [if_neg c5] at H
   have c5b0 : (t104 == 0) = false:=beq_eq_false_iff_ne.mpr c5
   have c5b1 : (t104 != 0) = true:=bne_iff_ne.mpr c5
   simp only [Option.some.injEq,Prod.mk.injEq] at H
   obtain ⟨rfl,rfl⟩:=H
   go_enter Try.func90,Try.ntmps90
   go_wp2_with (first|((with_reducible refine zG (N:=15) rfl ?_);refine Kd.N_lit (Kd.slice 51 k51) _ 92 ?hg (N':=15) ?hd (xs:=([l1,l2] : List (List (S51)))) (inner:=[.slice A1 l1.length c1,.slice A2 l2.length c2]) (ok:=(fun k_=>((P1_ k_ ∨ P2_ k_) ∨ w.heap.size ≤ k_))) (okp:=(fun k_=>((P1_ k_ ∨ P2_ k_) ∨ w.heap.size ≤ k_))) ?hr ?hp (fun _ hk=>hk) ((show ∀ k_,w.heap.size ≤ k_ → (fun k_=>((P1_ k_ ∨ P2_ k_) ∨ w.heap.size ≤ k_)) k_ from fun k_ hk=>(.inr (Nat.le_trans (ze (by repeat (first|(with_reducible first|exact HB.out|apply z7|apply z1|apply z6)|exact HB.out))) hk))) _ (Nat.le_refl _)) (Below.refl _ _) (Nat.le_refl _) (by simp) ?_;(case hd=>rfl);(case hg=>rfl);(case hr=>first|(go_simp;done)|(go_simp;rfl));(case hp=>exact (Reps.one (show Kd.FK (Kd.slice 51 k51) _ _ l1 [.slice A1 l1.length c1] from (Kd.z25 (Kd.z27 (Kd.z1C (ok':=(fun k_=>((P1_ k_ ∨ P2_ k_) ∨ w.heap.size ≤ k_))) (HO1.out) (fun k_ hk=>hk))).2.1 (Kd.V_F (Kd.z1C (ok':=(fun k_=>((P1_ k_ ∨ P2_ k_) ∨ w.heap.size ≤ k_))) (HO1.out) (fun k_ hk=>hk))))) (Reps.one (show Kd.FK (Kd.slice 51 k51) _ _ l2 [.slice A2 l2.length c2] from (Kd.z25 (Kd.z27 (Kd.z1C (ok':=(fun k_=>((P1_ k_ ∨ P2_ k_) ∨ w.heap.size ≤ k_))) (HO2.out) (fun k_ hk=>hk))).2.1 (Kd.V_F (Kd.z1C (ok':=(fun k_=>((P1_ k_ ∨ P2_ k_) ∨ w.heap.size ≤ k_))) (HO2.out) (fun k_ hk=>hk))))) (Reps.none _ _))));intro v102 w27 ho28 hb hg_ hnew_;clear hg_ hnew_;(first|rw [← Ny101.out] at ho28|(simp only [Int.reduceToNat] at ho28;rw [← Ny101.out] at ho28));have n0_:=z2.mk (Kd.z2q (by (with_reducible repeat (first|apply Kd.z1u|apply Kd.z1v|apply Kd.z1A));exact HO1.out) (Kd.z4k ho28) hb);have n1_:=z2.mk (Kd.z2q (by (with_reducible repeat (first|apply Kd.z1u|apply Kd.z1v|apply Kd.z1A));exact HO2.out) (Kd.z4k ho28) hb);have n2_:=z2.mk (Kd.z4Z ho28 (ze (by repeat (first|(with_reducible first|exact HB.out|apply z7|apply z1|apply z6)|exact HB.out))));have n3_:=z2.mk (zd (by repeat (first|(with_reducible first|exact HB.out|apply z7|apply z1|apply z6)|exact HB.out)) hb);clear HO1;clear HO2;clear HB;have HO1:=n0_;have HO2:=n1_;have HO103:=n2_;have HB:=n3_;clear n0_ n1_ n2_ n3_;clear hb ho28;obtain ⟨Ao29,co29,eo29⟩:=Kd.z50 HO103.out;subst eo29)|((with_reducible refine zp (f:=100) rfl ?_);refine goesL_ (some 16) rfl rfl Try.func100 (by kernel_rfl) rfl #[.int .i64 a0,.slice Ao29 y101.length co29,.slice none 0 0] rfl (by (try simp only [List.map_toArray,List.map_cons,List.map_nil]);first|done|rfl|(simp only [List.length_drop,List.length_take];rfl)) ?_;(refine (zv.calls k a0 _ _ y101 _ _ ([] : List (S51)) t104 _ ?side1 ?side2 ?side3 ?side4 A4.out).mono ?_);(case side1=>repeat (first|exact (Kd.z2R HO103.out).2.2|(with_reducible refine Kd.z1s ?_ _)|(with_reducible refine Kd.z1t ?_ _)|(with_reducible refine Kd.z1E ?_)));(case side2=>exact (Kd.z2R HO103.out).2.1);(case side3=>exact Kd.C_nil _ _);(case side4=>exact Nat.le_refl _);rintro e w30 ⟨rfl,hb⟩;refine ⟨_,rfl,?_⟩;have n0_:=z2.mk (Kd.z2g (by (with_reducible repeat (first|apply Kd.z1u|apply Kd.z1v|apply Kd.z1A));exact HO1.out) hb);have n1_:=z2.mk (Kd.z2g (by (with_reducible repeat (first|apply Kd.z1u|apply Kd.z1v|apply Kd.z1A));exact HO2.out) hb);have n2_:=z2.mk (Kd.z2G (by (with_reducible repeat (first|apply Kd.z45|apply Kd.z46|apply Kd.z4Y));exact HO103.out) hb);have n3_:=z2.mk (zd (by repeat (first|(with_reducible first|exact HB.out|apply z7|apply z1|apply z6)|exact HB.out)) hb);clear HO1;clear HO2;clear HO103;clear HB;have HO1:=n0_;have HO2:=n1_;have HO103:=n2_;have HB:=n3_;clear n0_ n1_ n2_ n3_;(try clear hb);(try clear hb2);(try clear hk);(try clear hi)))
   go_ret2
   exact ⟨_,by first|rfl|(simp [zl,zm] <;> rfl)|(simp [*,zl,zm] <;> rfl),by first|exact Kd.z3g _ _ _ _ _|exact Kd.z47 _ _ _ _ _|exact Kd.z4d _ _ _ _ _|exact Kd.z49 _ _ _ _ _|exact Kd.z4b _ _ _ _ _,by repeat (first|(with_reducible first|exact HB.out|apply z7|apply z1|apply z6)|exact HB.out)⟩
 rw [if_pos c5] at H
 have c5b0 : (t104 == 0) = true:=beq_iff_eq.mpr c5
 have c5b1 : (t104 != 0) = false:=bne_eq_false_iff_eq.mpr c5
 clear c5
 replace H:=Option.bind_eq_some_iff.mp H
 obtain ⟨t105,A60,H⟩:=H
 replace H : (if 0 ≤ t105 then (if (t105 : Int).toNat ≤ 17592186044416 then (zJ.l0 k a0 l1 (List.replicate (t105 : Int).toNat z51) l2 (l2.length : Int) 0) else (none)) else (none)) = some (r1,r2):=H
 have A6:=z2.mk A60
 clear A60
 by_cases c7 : 0 ≤ t105
 rotate_left
 · rw [if_neg c7] at H
   exact absurd H (by simp)
 rw [if_pos c7] at H
 have c7b0:=eq_true c7
 have c7b1 : decide (0 ≤ t105) = true:=decide_eq_true c7
 clear c7
 by_cases c8 : (t105 : Int).toNat ≤ 17592186044416
 rotate_left
 · rw [if_neg c8] at H
   exact absurd H (by simp)
 rw [if_pos c8] at H
 have c8b0:=eq_true c8
 have c8b1 : decide ((t105 : Int).toNat ≤ 17592186044416) = true:=decide_eq_true c8
 clear c8
 obtain ⟨y106,hy106⟩ : ∃ y_ : List (S51),y_ = (List.replicate (t105 : Int).toNat z51):=⟨_,rfl⟩
 replace H : (zJ.l0 k a0 l1 y106 l2 (l2.length : Int) 0) = some (r1,r2):=by first|(rw [hy106];with_reducible exact H)|(have H2_:=(Option.bind_some _ _).symm.trans H;rw [hy106];with_reducible exact H2_)|(have H2_:=(Option.bind_some _ _).symm.trans H;with_reducible exact H2_)|with_reducible exact H|(rw [hy106];exact H)|exact H
 have Ny106:=z2.mk hy106
 clear hy106
 have H':=z2.mk H
 clear H
 go_enter Try.func90,Try.ntmps90
 go_wp2_with (first|((with_reducible refine zG (N:=15) rfl ?_);refine Kd.N_lit (Kd.slice 51 k51) _ 92 ?hg (N':=15) ?hd (xs:=([l1,l2] : List (List (S51)))) (inner:=[.slice A1 l1.length c1,.slice A2 l2.length c2]) (ok:=(fun k_=>((P1_ k_ ∨ P2_ k_) ∨ w.heap.size ≤ k_))) (okp:=(fun k_=>((P1_ k_ ∨ P2_ k_) ∨ w.heap.size ≤ k_))) ?hr ?hp (fun _ hk=>hk) ((show ∀ k_,w.heap.size ≤ k_ → (fun k_=>((P1_ k_ ∨ P2_ k_) ∨ w.heap.size ≤ k_)) k_ from fun k_ hk=>(.inr (Nat.le_trans (ze (by repeat (first|(with_reducible first|exact HB.out|apply z7|apply z1|apply z6)|exact HB.out))) hk))) _ (Nat.le_refl _)) (Below.refl _ _) (Nat.le_refl _) (by simp) ?_;(case hd=>rfl);(case hg=>rfl);(case hr=>first|(go_simp;done)|(go_simp;rfl));(case hp=>exact (Reps.one (show Kd.FK (Kd.slice 51 k51) _ _ l1 [.slice A1 l1.length c1] from (Kd.z25 (Kd.z27 (Kd.z1C (ok':=(fun k_=>((P1_ k_ ∨ P2_ k_) ∨ w.heap.size ≤ k_))) (HO1.out) (fun k_ hk=>hk))).2.1 (Kd.V_F (Kd.z1C (ok':=(fun k_=>((P1_ k_ ∨ P2_ k_) ∨ w.heap.size ≤ k_))) (HO1.out) (fun k_ hk=>hk))))) (Reps.one (show Kd.FK (Kd.slice 51 k51) _ _ l2 [.slice A2 l2.length c2] from (Kd.z25 (Kd.z27 (Kd.z1C (ok':=(fun k_=>((P1_ k_ ∨ P2_ k_) ∨ w.heap.size ≤ k_))) (HO2.out) (fun k_ hk=>hk))).2.1 (Kd.V_F (Kd.z1C (ok':=(fun k_=>((P1_ k_ ∨ P2_ k_) ∨ w.heap.size ≤ k_))) (HO2.out) (fun k_ hk=>hk))))) (Reps.none _ _))));intro v102 w9 ho10 hb hg_ hnew_;clear hg_ hnew_;(first|rw [← Ny101.out] at ho10|(simp only [Int.reduceToNat] at ho10;rw [← Ny101.out] at ho10));have n0_:=z2.mk (Kd.z2q (by (with_reducible repeat (first|apply Kd.z1u|apply Kd.z1v|apply Kd.z1A));exact HO1.out) (Kd.z4k ho10) hb);have n1_:=z2.mk (Kd.z2q (by (with_reducible repeat (first|apply Kd.z1u|apply Kd.z1v|apply Kd.z1A));exact HO2.out) (Kd.z4k ho10) hb);have n2_:=z2.mk (Kd.z4Z ho10 (ze (by repeat (first|(with_reducible first|exact HB.out|apply z7|apply z1|apply z6)|exact HB.out))));have n3_:=z2.mk (zd (by repeat (first|(with_reducible first|exact HB.out|apply z7|apply z1|apply z6)|exact HB.out)) hb);clear HO1;clear HO2;clear HB;have HO1:=n0_;have HO2:=n1_;have HO103:=n2_;have HB:=n3_;clear n0_ n1_ n2_ n3_;clear hb ho10;obtain ⟨Ao11,co11,eo11⟩:=Kd.z50 HO103.out;subst eo11)|((with_reducible refine zp (f:=100) rfl ?_);refine goesL_ (some 16) rfl rfl Try.func100 (by kernel_rfl) rfl #[.int .i64 a0,.slice Ao11 y101.length co11,.slice none 0 0] rfl (by (try simp only [List.map_toArray,List.map_cons,List.map_nil]);first|done|rfl|(simp only [List.length_drop,List.length_take];rfl)) ?_;(refine (zv.calls k a0 _ _ y101 _ _ ([] : List (S51)) t104 _ ?side1 ?side2 ?side3 ?side4 A4.out).mono ?_);(case side1=>repeat (first|exact (Kd.z2R HO103.out).2.2|(with_reducible refine Kd.z1s ?_ _)|(with_reducible refine Kd.z1t ?_ _)|(with_reducible refine Kd.z1E ?_)));(case side2=>exact (Kd.z2R HO103.out).2.1);(case side3=>exact Kd.C_nil _ _);(case side4=>exact Nat.le_refl _);rintro e w12 ⟨rfl,hb⟩;refine ⟨_,rfl,?_⟩;have n0_:=z2.mk (Kd.z2g (by (with_reducible repeat (first|apply Kd.z1u|apply Kd.z1v|apply Kd.z1A));exact HO1.out) hb);have n1_:=z2.mk (Kd.z2g (by (with_reducible repeat (first|apply Kd.z1u|apply Kd.z1v|apply Kd.z1A));exact HO2.out) hb);have n2_:=z2.mk (Kd.z2G (by (with_reducible repeat (first|apply Kd.z45|apply Kd.z46|apply Kd.z4Y));exact HO103.out) hb);have n3_:=z2.mk (zd (by repeat (first|(with_reducible first|exact HB.out|apply z7|apply z1|apply z6)|exact HB.out)) hb);clear HO1;clear HO2;clear HO103;clear HB;have HO1:=n0_;have HO2:=n1_;have HO103:=n2_;have HB:=n3_;clear n0_ n1_ n2_ n3_;(try clear hb);(try clear hb2);(try clear hk);(try clear hi))|((with_reducible refine zp (f:=89) rfl ?_);refine goesL_ (some 21) rfl rfl Try.func89 (by kernel_rfl) rfl #[.int .i64 a0] rfl (by (try simp only [List.map_toArray,List.map_cons,List.map_nil]);first|done|rfl|(simp only [List.length_drop,List.length_take];rfl)) ?_;(with_reducible refine (zK.calls k a0 t105 _ A6.out).mono ?_);rintro e w' ⟨rfl,⟨nd,rfl⟩⟩;refine ⟨_,rfl,?_⟩)|((with_reducible refine zG (N:=22) rfl ?_);refine Kd.z55 k51 _ 51 rfl (N:=22) rfl 92 _ _ rfl t105 rfl rfl Try.underlying92 (.agg #[(.int .u64 0),(.int .u64 0)]) 16 info51 rfl (by decide) (by omega) z51 (ok:=fun _=>True) (okp:=fun _=>True) (z2w _ _ _ z51 ) (fun _ hk=>hk) trivial (of_decide_eq_true (by first|(with_reducible assumption)|assumption)) (Nat.le_trans (Nat.mul_le_mul_right _ (of_decide_eq_true (by first|(with_reducible assumption)|assumption) : t105.toNat ≤ 17592186044416)) (by omega)) (Below.refl _ _) (Nat.le_refl _) ?_;intro v107 w13 ho14 hb hg_ hnew_;clear hg_ hnew_;(first|rw [← Ny106.out] at ho14|(simp only [Int.reduceToNat] at ho14;rw [← Ny106.out] at ho14));have n0_:=z2.mk (Kd.z2q (by (with_reducible repeat (first|apply Kd.z1u|apply Kd.z1v|apply Kd.z1A));exact HO1.out) (Kd.z1f ho14) hb);have n1_:=z2.mk (Kd.z2q (by (with_reducible repeat (first|apply Kd.z1u|apply Kd.z1v|apply Kd.z1A));exact HO2.out) (Kd.z1f ho14) hb);have n2_:=z2.mk (Kd.N_elder' (by (with_reducible repeat (first|apply Kd.z45|apply Kd.z46|apply Kd.z4Y));exact HO103.out) (Kd.z1f ho14) hb);have n3_:=z2.mk (Kd.z14 (Kd.R_newM (M:=fun k_=>(w.heap.size ≤ k_)) ho14 (ze (by repeat (first|(with_reducible first|exact HB.out|apply z7|apply z1|apply z6)|exact HB.out))) (fun k_ h_=>h_)) (ze (by repeat (first|(with_reducible first|exact HB.out|apply z7|apply z1|apply z6)|exact HB.out))));have n4_:=z2.mk (zd (by repeat (first|(with_reducible first|exact HB.out|apply z7|apply z1|apply z6)|exact HB.out)) hb);clear HO1;clear HO2;clear HO103;clear HB;have HO1:=n0_;have HO2:=n1_;have HO103:=n2_;have HO108:=n3_;have HB:=n4_;clear n0_ n1_ n2_ n3_ n4_;clear hb ho14))
 go_loopg [25] k (fun kq v25 w'=>∃ (x9_1 : List (S51)) (x25_1 : Int),v25 = .int .i64 x25_1 ∧ z2 (zJ.l0 kq a0 l1 x9_1 l2 (l2.length : Int) x25_1 = some (r1,r2)) ∧ z2 (kq ≤ k) ∧ z2 (Kd.V k51 51 w' w.heap.size (fun k_=>((P1_ k_ ∨ P2_ k_) ∨ w.heap.size ≤ k_) ∧ some k_ ≠ (v107 : Value).ownBlock) (.slice A1 l1.length c1) l1) ∧ z2 (Kd.R k51 51 w' w.heap.size (fun k_=>(w.heap.size ≤ k_)) v107 x9_1) ∧ z2 (Kd.V k51 51 w' w.heap.size (fun k_=>((P1_ k_ ∨ P2_ k_) ∨ w.heap.size ≤ k_) ∧ some k_ ≠ (v107 : Value).ownBlock) (.slice A2 l2.length c2) l2) ∧ z2 (Below w.heap.size w w'))
 case atStart=>exact ⟨(y106),(0),(by first|rfl|(simp;done)|(simp [*];done)),H',⟨Nat.le_refl _⟩,⟨by (with_reducible repeat (first|apply Kd.z1u|apply Kd.z1v|apply Kd.z1A));exact Kd.z1C HO1.out (fun _ hk=>⟨hk.1.1,hk.2⟩)⟩,⟨by (with_reducible repeat (first|apply Kd.zi|apply Kd.zj|apply Kd.zo));exact Kd.z19 HO108.out (fun _ hk=>hk.1)⟩,⟨by (with_reducible repeat (first|apply Kd.z1u|apply Kd.z1v|apply Kd.z1A));exact Kd.z1C HO2.out (fun _ hk=>⟨hk.1.1,hk.2⟩)⟩,⟨by repeat (first|(with_reducible first|exact HB.out|apply z7|apply z1|apply z6)|exact HB.out)⟩⟩
 case round =>
  clear H'
  (try clear c1);(try clear c2);(try clear p2);(try clear c5);(try clear c5b0);(try clear c5b1);(try clear c7);(try clear c7b0);(try clear c7b1);(try clear c8);(try clear c8b0);(try clear c8b1);(try clear c9);(try clear c10)
  obtain ⟨x9_1,x25_1,rfl,HA,HK1,HO_1,HO_9,HO_23,HB⟩:=hrel
  cases gk with
  | zero=>exact absurd HA.out (by simp [zJ.l0])
  | succ k1 =>
   have H:=HA.out
   clear HA
   simp only [zJ.l0] at H
   by_cases c15 : x25_1 < (l2.length : Int)
   rotate_left
   · rw [if_neg c15] at H
     have c15b0 : decide (x25_1 < (l2.length : Int)) = false:=decide_eq_false c15
     clear c15
     simp only [Option.some.injEq,Prod.mk.injEq] at H
     obtain ⟨rfl,rfl⟩:=H
     go_wp2
     go_ret2
     exact ⟨_,by first|rfl|(simp [zl,zm] <;> rfl)|(simp [*,zl,zm] <;> rfl),by (with_reducible repeat (first|apply Kd.zi|apply Kd.zj|apply Kd.zo));exact HO_9.out,by repeat (first|(with_reducible first|exact HB.out|apply z7|apply z1|apply z6)|exact HB.out)⟩
   rw [if_pos c15] at H
   have c15b0 : decide (x25_1 < (l2.length : Int)) = true:=decide_eq_true c15
   clear c15
   by_cases c16 : 0 ≤ x25_1
   rotate_left
   · rw [if_neg c16] at H
     exact absurd H (by simp)
   rw [if_pos c16] at H
   have c16b0 : decide (0 ≤ x25_1) = true:=decide_eq_true c16
   clear c16
   by_cases c17 : x25_1 < (l2.length : Int)
   rotate_left
   · rw [if_neg c17] at H
     exact absurd H (by simp)
   rw [if_pos c17] at H
   have c17b0 : decide (x25_1 < (l2.length : Int)) = true:=decide_eq_true c17
   clear c17
   replace H:=Option.bind_eq_some_iff.mp H
   obtain ⟨⟨t111,t112⟩,A180,H⟩:=H
   replace H : ((zq.f k1 a0 x9_1 l1 t111 t112 ((zt l2 x25_1).f0) ((zt l2 x25_1).f1)).bind fun t113=>(zJ.l0 k1 a0 l1 t113 l2 (l2.length : Int) (wrap64 (x25_1 + 1)))) = some (r1,r2):=H
   have A18:=z2.mk A180
   clear A180
   replace H:=Option.bind_eq_some_iff.mp H
   obtain ⟨t113,A190,H⟩:=H
   replace H : (zJ.l0 k1 a0 l1 t113 l2 (l2.length : Int) (wrap64 (x25_1 + 1))) = some (r1,r2):=H
   have A19:=z2.mk A190
   clear A190
   have H':=z2.mk H
   clear H
   have p109 : 0 ≤ (x25_1 : Int):=of_decide_eq_true (by first|(with_reducible assumption)|assumption)
   have q109 : x25_1 < (l2.length : Int):=of_decide_eq_true (by first|(with_reducible assumption)|assumption)
   obtain ⟨ad109,e109,hx109_0,hx109_1⟩:=z2b (Kd.z27 HO_23.out).2.2 x25_1 p109 q109
   cases e109
   replace p109:=eq_true p109
   replace q109:=eq_true q109
   try go_wp2_with (first|((with_reducible refine zG (N:=11) rfl ?_);refine zC ?hg (N:=11) ?hd (cs:=#[.int .u64 0,.int .u64 0]) (t:=51) ?hr ?_;(case hd=>rfl);(case hg=>rfl);(case hr=>first|(go_simp;done)|(go_simp;rfl));intro gb110 hg w20 hbox hb;have n0_:=z2.mk (Kd.z2g (Kd.z4n (by (with_reducible repeat (first|apply Kd.z1u|apply Kd.z1v|apply Kd.z1A));exact HO_1.out) gb110 (Nat.le_of_eq hg.symm)) hb);have n1_:=z2.mk (Kd.zx (Kd.z1P (by (with_reducible repeat (first|apply Kd.zi|apply Kd.zj|apply Kd.zo));exact HO_9.out) gb110 (Nat.le_of_eq hg.symm)) hb);have n2_:=z2.mk (Kd.z2g (Kd.z4n (by (with_reducible repeat (first|apply Kd.z1u|apply Kd.z1v|apply Kd.z1A));exact HO_23.out) gb110 (Nat.le_of_eq hg.symm)) hb);have n3_:=z2.mk (zd (by repeat (first|(with_reducible first|exact HB.out|apply z7|apply z1|apply z6)|exact HB.out)) hb);have n4_:=z2.mk (hbox);have n5_:=z2.mk ((by rw [hg];exact (ze (by repeat (first|(with_reducible first|exact HB.out|apply z7|apply z1|apply z6)|exact HB.out))) : w.heap.size ≤ gb110));have n6_:=z2.mk ((by rw [hg];exact (ze (by repeat (first|(with_reducible first|exact HB.out|apply z7|apply z1|apply z6)|exact HB.out))) : w.heap.size ≤ gb110));clear HO_1;clear HO_9;clear HO_23;clear HB;have HO_1:=n0_;have HO_9:=n1_;have HO_23:=n2_;have HB:=n3_;have BK110:=n4_;have GW110:=n5_;have GE110:=n6_;clear n0_ n1_ n2_ n3_ n4_ n5_ n6_;clear hb hbox hg;have hcz21_0 : w20.cell? ⟨gb110,0,none⟩ = some (.int .u64 0):=(za BK110.out 0).trans rfl;have hcz21_1 : w20.cell? ⟨gb110,1,none⟩ = some (.int .u64 0):=(za BK110.out 1).trans rfl;have hfz21_0:=zb BK110.out 0;have hfz21_1:=zb BK110.out 1))
   have n0_ : z2 (Kd.V k51 51 ((w20.setCell ⟨gb110,0,none⟩ (.int .u64 ((zt l2 x25_1).f0))).setCell ⟨gb110,1,none⟩ (.int .u64 ((zt l2 x25_1).f1))) w.heap.size (fun k_=>((P1_ k_ ∨ P2_ k_) ∨ w.heap.size ≤ k_) ∧ some k_ ≠ (v107 : Value).ownBlock ∧ k_ ≠ gb110) (.slice A1 l1.length c1) l1):=⟨by (with_reducible repeat (first|apply Kd.z1u|apply Kd.z1v|apply Kd.z1A));exact Kd.z1C (Kd.V_far (p:=⟨gb110,1,none⟩) (Kd.V_far (p:=⟨gb110,0,none⟩) (Kd.z1C HO_1.out (fun k_ hk=>(⟨hk,hk.2⟩ : _ ∧ k_ ≠ gb110))) (fun _ hk=>hk.2) (.int .u64 ((zt l2 x25_1).f0))) (fun _ hk=>hk.2) (.int .u64 ((zt l2 x25_1).f1))) (fun _ hk=>⟨hk.1.1.1,⟨hk.1.1.2,hk.1.2⟩⟩)⟩
   have n1_ : z2 (Kd.R k51 51 ((w20.setCell ⟨gb110,0,none⟩ (.int .u64 ((zt l2 x25_1).f0))).setCell ⟨gb110,1,none⟩ (.int .u64 ((zt l2 x25_1).f1))) w.heap.size (fun k_=>(w.heap.size ≤ k_) ∧ k_ ≠ gb110) v107 x9_1):=⟨by (with_reducible repeat (first|apply Kd.zi|apply Kd.zj|apply Kd.zo));exact Kd.z19 (Kd.z1H (p:=⟨gb110,1,none⟩) (Kd.z1H (p:=⟨gb110,0,none⟩) (Kd.z19 HO_9.out (fun k_ hk=>(⟨hk,hk.2⟩ : _ ∧ k_ ≠ gb110))) (fun _ hk=>hk.2) (.int .u64 ((zt l2 x25_1).f0))) (fun _ hk=>hk.2) (.int .u64 ((zt l2 x25_1).f1))) (fun _ hk=>⟨hk.1.1,hk.1.2⟩)⟩
   have n2_ : z2 (Kd.V k51 51 ((w20.setCell ⟨gb110,0,none⟩ (.int .u64 ((zt l2 x25_1).f0))).setCell ⟨gb110,1,none⟩ (.int .u64 ((zt l2 x25_1).f1))) w.heap.size (fun k_=>((P1_ k_ ∨ P2_ k_) ∨ w.heap.size ≤ k_) ∧ some k_ ≠ (v107 : Value).ownBlock ∧ k_ ≠ gb110) (.slice (some ad109) l2.length c2) l2):=⟨by (with_reducible repeat (first|apply Kd.z1u|apply Kd.z1v|apply Kd.z1A));exact Kd.z1C (Kd.V_far (p:=⟨gb110,1,none⟩) (Kd.V_far (p:=⟨gb110,0,none⟩) (Kd.z1C HO_23.out (fun k_ hk=>(⟨hk,hk.2⟩ : _ ∧ k_ ≠ gb110))) (fun _ hk=>hk.2) (.int .u64 ((zt l2 x25_1).f0))) (fun _ hk=>hk.2) (.int .u64 ((zt l2 x25_1).f1))) (fun _ hk=>⟨hk.1.1.1,⟨hk.1.1.2,hk.1.2⟩⟩)⟩
   have n3_ : z2 (((w20.setCell ⟨gb110,0,none⟩ (.int .u64 ((zt l2 x25_1).f0))).setCell ⟨gb110,1,none⟩ (.int .u64 ((zt l2 x25_1).f1))).heap[gb110]? = some (.cells #[.int .u64 ((zt l2 x25_1).f0),.int .u64 ((zt l2 x25_1).f1)] 51 (0,0))):=⟨by (with_reducible repeat (first|refine z4 ?_ _|refine z8 ?_|refine z3 ?_ _));refine zQ (cs:=#[.int .u64 ((zt l2 x25_1).f0),.int .u64 0]) ?_ 1 _ rfl;(with_reducible repeat (first|refine z4 ?_ _|refine z8 ?_|refine z3 ?_ _));refine zQ (cs:=#[.int .u64 0,.int .u64 0]) ?_ 0 _ rfl;(with_reducible repeat (first|refine z4 ?_ _|refine z8 ?_|refine z3 ?_ _));exact BK110.out⟩
   have n4_ : z2 (Below w.heap.size w ((w20.setCell ⟨gb110,0,none⟩ (.int .u64 ((zt l2 x25_1).f0))).setCell ⟨gb110,1,none⟩ (.int .u64 ((zt l2 x25_1).f1)))):=⟨by repeat (first|(with_reducible first|exact HB.out|apply z7|apply z1|apply z6|refine z5 ?_ GE110.out)|exact HB.out)⟩
   (try clear HO_1)
   (try clear HO_9)
   (try clear HO_23)
   (try clear BK110)
   (try clear HB)
   generalize ((w20.setCell ⟨gb110,0,none⟩ (.int .u64 ((zt l2 x25_1).f0))).setCell ⟨gb110,1,none⟩ (.int .u64 ((zt l2 x25_1).f1))) = w22 at n0_ n1_ n2_ n3_ n4_ ⊢
   have HO_1:=n0_
   have HO_9:=n1_
   have HO_23:=n2_
   have BK110:=n3_
   have HB:=n4_
   clear n0_ n1_ n2_ n3_ n4_
   have n0_:=z2.mk (Kd.z1A HO_1.out)
   have n1_:=z2.mk (Kd.zo HO_9.out)
   have n2_:=z2.mk (Kd.z1A HO_23.out)
   have n3_:=z2.mk (z8 BK110.out)
   have n4_:=z2.mk (z6 HB.out)
   clear HO_1
   clear HO_9
   clear HO_23
   clear BK110
   clear HB
   have HO_1:=n0_
   have HO_9:=n1_
   have HO_23:=n2_
   have BK110:=n3_
   have HB:=n4_
   clear n0_ n1_ n2_ n3_ n4_
   refine start_ (n:=7) (S:=fun w'=>w'.cell? ⟨gb110,0,none⟩ = some (.int .u64 ((zt l2 x25_1).f0)) ∧ w'.cell? ⟨gb110,1,none⟩ = some (.int .u64 ((zt l2 x25_1).f1))) (ds:=[]) #[false,false,false,false,false,false,false] (by kernel_rfl) rfl rfl ⟨(za BK110.out 0).trans rfl,(za BK110.out 1).trans rfl⟩ (fun hHeld=>?_)
   generalize w22.drew = w23 at HO_1 HO_9 HO_23 BK110 HB hHeld ⊢
   refine pure_ (i:=0) (N:=some 30) (v:=?_) (a':=?_) #[true,false,false,false,false,false,false] rfl rfl (by kernel_rfl) (fun _ _ _ h=>h) (Or.inl ⟨by rfl,?_⟩) ?_ ?_
   rotate_left
   · intro w'
     go_simp
     with_reducible rfl
   rotate_left
   · simp only [Act.put,List.setIfInBounds_toArray,List.set_cons_zero,List.set_cons_succ,zR,zV]
     rfl
   refine pure_ (i:=1) (N:=some 31) (v:=?_) (a':=?_) #[true,true,false,false,false,false,false] rfl rfl (by kernel_rfl) (fun _ _ _ h=>h) (Or.inl ⟨by rfl,?_⟩) ?_ ?_
   rotate_left
   · intro w'
     go_simp
     with_reducible rfl
   rotate_left
   · simp only [Act.put,List.setIfInBounds_toArray,List.set_cons_zero,List.set_cons_succ,zR,zV]
     rfl
   refine pure_ (i:=2) (N:=some 32) (v:=?_) (a':=?_) #[true,true,true,false,false,false,false] rfl rfl (by kernel_rfl) (fun _ _ _ h=>h) (Or.inl ⟨by rfl,?_⟩) ?_ ?_
   rotate_left
   · intro w'
     go_simp
     with_reducible rfl
   rotate_left
   · simp only [Act.put,List.setIfInBounds_toArray,List.set_cons_zero,List.set_cons_succ,zR,zV]
     rfl
   refine pure_ (i:=3) (N:=some 33) (v:=?_) (a':=?_) #[true,true,true,true,false,false,false] rfl rfl (by kernel_rfl) (fun _ _ _ h=>h) (Or.inl ⟨by rfl,?_⟩) ?_ ?_
   rotate_left
   · intro w'
     go_simp
     with_reducible rfl
   rotate_left
   · simp only [Act.put,List.setIfInBounds_toArray,List.set_cons_zero,List.set_cons_succ,zR,zV]
     rfl
   refine take_ (i:=5) (N:=some 35) (v:=?_) (a':=?_) #[true,true,true,true,false,true,false] rfl rfl (by kernel_rfl) (fun _ _ _ h=>h) (Or.inl ⟨by rfl,?_⟩) hHeld ?_ ?_
   rotate_left
   · rintro w' ⟨s0,s1⟩
     go_simp
     with_reducible rfl
   rotate_left
   · simp only [Act.put,List.setIfInBounds_toArray,List.set_cons_zero,List.set_cons_succ,zR,zV]
     rfl
   refine one_ (i:=4) (N:=some 34) #[true,true,true,true,true,true,false] rfl rfl (by kernel_rfl) (by decide) (fun K hK=>?_)
   refine goes_ Try.func68 (by kernel_rfl) rfl #[.int .i64 x25_1] (by rfl) rfl rfl (by (try simp only [List.map_toArray,List.map_cons,List.map_nil]);first|done|rfl|(simp only [List.length_drop,List.length_take];rfl)) ?_
   with_reducible refine (zN.calls k1 x25_1 t111 t112 _ A18.out).mono ?_
   rintro e w24 ⟨rfl,hb⟩
   refine ⟨_,rfl,?_⟩
   have n0_:=z2.mk (Kd.z2g (by (with_reducible repeat (first|apply Kd.z1u|apply Kd.z1v|apply Kd.z1A));exact HO_1.out) hb)
   have n1_:=z2.mk (Kd.zx (by (with_reducible repeat (first|apply Kd.zi|apply Kd.zj|apply Kd.zo));exact HO_9.out) hb)
   have n2_:=z2.mk (Kd.z2g (by (with_reducible repeat (first|apply Kd.z1u|apply Kd.z1v|apply Kd.z1A));exact HO_23.out) hb)
   have n3_:=z2.mk (z9 (g:=gb110) (o:=.cells #[.int .u64 ((zt l2 x25_1).f0),.int .u64 ((zt l2 x25_1).f1)] 51 (0,0)) (by (with_reducible repeat (first|refine z4 ?_ _|refine z8 ?_|refine z3 ?_ _));exact BK110.out) hb)
   have n4_:=z2.mk (zd (by repeat (first|(with_reducible first|exact HB.out|apply z7|apply z1|apply z6|refine z5 ?_ GE110.out)|exact HB.out)) hb)
   clear HO_1
   clear HO_9
   clear HO_23
   clear BK110
   clear HB
   have HO_1:=n0_
   have HO_9:=n1_
   have HO_23:=n2_
   have BK110:=n3_
   have HB:=n4_
   clear n0_ n1_ n2_ n3_ n4_
   (try clear hb)
   (try clear hb2)
   (try clear hk)
   (try clear hi)
   obtain ⟨Ao25,co25,eo25⟩:=Kd.z13 HO_9.out
   (first|subst eo25|(injection eo25 with f1_ f2_ f3_;have f4_:=f1_.symm;have f5_:=f3_.symm;clear f1_ f2_ f3_;subst f4_;subst f5_))
   refine hK.out _ _ ⟨(za BK110.out 0).trans rfl,(za BK110.out 1).trans rfl⟩ (fun hHeld=>?_)
   clear hK K
   refine norm_ (a':=?_) ?_ ?_
   rotate_left
   · show Act.put _ (some 34) _ = _
     simp only [Act.put,List.setIfInBounds_toArray,List.set_cons_zero,List.set_cons_succ,zR,zV]
     rfl
   refine one_ (i:=6) (N:=some 36) #[true,true,true,true,true,true,true] rfl rfl (by kernel_rfl) (by decide) (fun K hK=>?_)
   refine goes_ Try.func101 (by kernel_rfl) rfl #[.int .i64 a0,.slice Ao25 x9_1.length co25,.slice A1 l1.length c1,.agg #[.int .u64 t111,.int .u64 t112],.agg #[.int .u64 ((zt l2 x25_1).f0),.int .u64 ((zt l2 x25_1).f1)]] (by rfl) rfl rfl (by (try simp only [List.map_toArray,List.map_cons,List.map_nil]);first|done|rfl|(simp only [List.length_drop,List.length_take];rfl)) ?_
   with_reducible refine (zq.calls k1 a0 (fun k_=>some k_ = (.slice Ao25 x9_1.length co25 : Value).ownBlock) (.slice Ao25 x9_1.length co25) x9_1 _ _ l1 t111 t112 ((zt l2 x25_1).f0) ((zt l2 x25_1).f1) t113 w _ ?side1 ?side2 ?side3 ?side4 A19.out).mono ?_
   (case side1=>repeat (first|(with_reducible first|exact HB.out|apply z7|apply z1|apply z6|refine z5 ?_ GE110.out)|exact HB.out))
   (case side2=>exact Kd.z1Q rfl HO_9.out)
   (case side3=>exact Kd.z43 (HO_1.out) (fun k_ hk_ hs_=>(hk_.2.1) hs_))
   (case side4=>exact (Kd.z27 HO_1.out).2.1)
   rintro e w26 ⟨rfl,hy0,hb,hkp⟩
   refine ⟨_,rfl,?_⟩
   have n0_:=z2.mk (Kd.z1C (ok':=fun k_=>((P1_ k_ ∨ P2_ k_) ∨ w.heap.size ≤ k_) ∧ some k_ ≠ (.slice Ao25 x9_1.length co25 : Value).ownBlock ∧ k_ ≠ gb110) (Kd.z56 (HO_1.out) hkp (fun k_ hk_ hs_=>(hk_.2.1) hs_)) (fun k_ hk_=>⟨hk_.1.1,hk_.1.2.1,hk_.1.2.2⟩))
   have n1_:=z2.mk (Kd.R_reok rfl hy0 (fun k_ e_=>HO_9.out.1 k_ e_))
   have n2_:=z2.mk (Kd.z1C (ok':=fun k_=>((P1_ k_ ∨ P2_ k_) ∨ w.heap.size ≤ k_) ∧ some k_ ≠ (.slice Ao25 x9_1.length co25 : Value).ownBlock ∧ k_ ≠ gb110) (Kd.z56 (HO_23.out) hkp (fun k_ hk_ hs_=>(hk_.2.1) hs_)) (fun k_ hk_=>⟨hk_.1.1,hk_.1.2.1,hk_.1.2.2⟩))
   have n3_:=z2.mk (blk_kept (by (with_reducible repeat (first|refine z4 ?_ _|refine z8 ?_|refine z3 ?_ _));exact BK110.out) hkp (fun hs_=>(fun e_=>(Kd.z1M HO_9.out (fun _ hk=>hk.2)) e_) hs_))
   have n4_:=z2.mk (hb)
   clear HO_1
   clear HO_9
   clear HO_23
   clear BK110
   clear HB
   have HO_1:=n0_
   have HO_9:=n1_
   have HO_23:=n2_
   have BK110:=n3_
   have HB:=n4_
   clear n0_ n1_ n2_ n3_ n4_
   (try clear hb)
   (try clear hkp)
   (try clear hy0)
   refine hK.out _ _ ⟨(za BK110.out 0).trans rfl,(za BK110.out 1).trans rfl⟩ (fun hHeld=>?_)
   clear hK K
   refine norm_ (a':=?_) ?_ ?_
   rotate_left
   · show Act.put _ (some 36) _ = _
     simp only [Act.put,List.setIfInBounds_toArray,List.set_cons_zero,List.set_cons_succ,zR,zV]
     rfl
   refine done_ (by kernel_rfl) ?_
   try go_wp2
   go_roundg k1
   case measure=>have:=HK1.out;omega
   case rel=>exact ⟨(t113),(wrap64 (x25_1 + 1)),(by first|rfl|(simp;done)|(simp [*];done)),H',⟨by have:=HK1.out;omega⟩,⟨by (with_reducible repeat (first|apply Kd.z1u|apply Kd.z1v|apply Kd.z1A));exact Kd.z1C HO_1.out (fun _ hk=>⟨hk.1,hk.2.1⟩)⟩,⟨by (with_reducible repeat (first|apply Kd.zi|apply Kd.zj|apply Kd.zo));exact Kd.z19 HO_9.out (fun _ hk=>hk.1)⟩,⟨by (with_reducible repeat (first|apply Kd.z1u|apply Kd.z1v|apply Kd.z1A));exact Kd.z1C HO_23.out (fun _ hk=>⟨hk.1,hk.2.1⟩)⟩,⟨by repeat (first|(with_reducible first|exact HB.out|apply z7|apply z1|apply z6|refine z5 ?_ GE110.out)|exact HB.out)⟩⟩
end Go.Proofs.Ytngcaphdkgihmaa.P
namespace Go.Proofs.Ytngcaphdkgihmaa.P
open Go.RowKit Go.Proofs.YtngcaphdkgihmaaW.PrintWords Go.Proofs.YtngcaphdkgihmaaW.PrintLast Go.Proofs.YtngcaphdkgihmaaW.PrintMore
attribute [local go_sem] zX zZ z16 z17 zT zU zY z10   -- for this text's walks alone
set_option linter.unusedVariables false
set_option linter.unusedSimpArgs false
attribute [local go_sem high] eqA51
def zr.f (k : Nat)  : Option (Bool):=(zw.f k 1 0 2).bind fun t101=>((zW.f k 1 0 2).bind fun t104=>((zJ.f k 1 t101 t104).bind fun bt107=>(if bt107.2 = 0 then (if (bt107.1.length : Int) = 2 then (if 0 < (bt107.1.length : Int) then (if (((zt bt107.1 0).f0) == 0 && (((zt bt107.1 0).f1) == 0)) = true then (if 1 < (bt107.1.length : Int) then (some (((zt bt107.1 1).f0) == 0 && (((zt bt107.1 1).f1) == 2))) else (none)) else (some false)) else (none)) else (some false)) else (some false))))
theorem zr.mono : ∀ k,LeO (zr.f k ) (zr.f (k + 1) ):=by
 intro  k
 unfold zr.f
 repeat' first
  | (with_reducible exact zw.mono _ _ _ _)
  | (with_reducible exact zW.mono _ _ _ _)
  | (with_reducible exact zJ.mono _ _ _ _)
  | (with_reducible exact LeO.refl _)
  | (with_reducible exact LeO.none _)
  | (with_reducible refine LeO.ite ?_ ?_)
  | (with_reducible refine LeO.bind ?_ (fun _=>?_))
  | exact zw.mono _ _ _ _
  | exact zW.mono _ _ _ _
  | exact zJ.mono _ _ _ _
  | exact LeO.none _
  | refine LeO.ite ?_ ?_
  | refine LeO.bind ?_ (fun _=>?_)
set_option maxHeartbeats 8000000 in
set_option maxRecDepth 100000 in
theorem zr.calls (k : Nat)  (r : Bool) (w : World) (h : zr.f k  = some r) :
 Calls Try.prog 61 #[] w fun e w'=>e = .returned (.bool r) ∧ Below w.heap.size w w':=by
 have hu51:=Try.underlying51
 have HB:=z2.mk (Below.refl w.heap.size w)
 have H : ((zw.f k 1 0 2).bind fun t101=>((zW.f k 1 0 2).bind fun t104=>((zJ.f k 1 t101 t104).bind fun bt107=>(if bt107.2 = 0 then (if (bt107.1.length : Int) = 2 then (if 0 < (bt107.1.length : Int) then (if (((zt bt107.1 0).f0) == 0 && (((zt bt107.1 0).f1) == 0)) = true then (if 1 < (bt107.1.length : Int) then (some (((zt bt107.1 1).f0) == 0 && (((zt bt107.1 1).f1) == 2))) else (none)) else (some false)) else (none)) else (some false)) else (some false))))) = some r:=h
 clear h
 replace H:=Option.bind_eq_some_iff.mp H
 obtain ⟨t101,A10,H⟩:=H
 replace H : ((zW.f k 1 0 2).bind fun t104=>((zJ.f k 1 t101 t104).bind fun bt107=>(if bt107.2 = 0 then (if (bt107.1.length : Int) = 2 then (if 0 < (bt107.1.length : Int) then (if (((zt bt107.1 0).f0) == 0 && (((zt bt107.1 0).f1) == 0)) = true then (if 1 < (bt107.1.length : Int) then (some (((zt bt107.1 1).f0) == 0 && (((zt bt107.1 1).f1) == 2))) else (none)) else (some false)) else (none)) else (some false)) else (some false)))) = some r:=H
 have A1:=z2.mk A10
 clear A10
 replace H:=Option.bind_eq_some_iff.mp H
 obtain ⟨t104,A20,H⟩:=H
 replace H : ((zJ.f k 1 t101 t104).bind fun bt107=>(if bt107.2 = 0 then (if (bt107.1.length : Int) = 2 then (if 0 < (bt107.1.length : Int) then (if (((zt bt107.1 0).f0) == 0 && (((zt bt107.1 0).f1) == 0)) = true then (if 1 < (bt107.1.length : Int) then (some (((zt bt107.1 1).f0) == 0 && (((zt bt107.1 1).f1) == 2))) else (none)) else (some false)) else (none)) else (some false)) else (some false))) = some r:=H
 have A2:=z2.mk A20
 clear A20
 replace H:=Option.bind_eq_some_iff.mp H
 obtain ⟨⟨t107,t110⟩,A30,H⟩:=H
 replace H : (if t110 = 0 then (if (t107.length : Int) = 2 then (if 0 < (t107.length : Int) then (if (((zt t107 0).f0) == 0 && (((zt t107 0).f1) == 0)) = true then (if 1 < (t107.length : Int) then (some (((zt t107 1).f0) == 0 && (((zt t107 1).f1) == 2))) else (none)) else (some false)) else (none)) else (some false)) else (some false)) = some r:=H
 have A3:=z2.mk A30
 clear A30
 by_cases c4 : t110 = 0
 rotate_left
 · rw [if_neg c4] at H
   have c4b0 : (t110 == 0) = false:=beq_eq_false_iff_ne.mpr c4
   have c4b1 : (t110 != 0) = true:=bne_iff_ne.mpr c4
   obtain rfl:=Option.some.inj H
   go_enter Try.func61,Try.ntmps61
   go_wp2_with (first|((with_reducible refine zp (f:=59) rfl ?_);refine goesL_ (some 5) rfl rfl Try.func59 (by kernel_rfl) rfl #[.int .i64 1,.agg #[.int .u64 0,.int .u64 2]] rfl (by (try simp only [List.map_toArray,List.map_cons,List.map_nil]);first|done|rfl|(simp only [List.length_drop,List.length_take];rfl)) ?_;(with_reducible refine (zw.calls k 1 0 2 t101 _ A1.out).mono ?_);rintro e w27 ⟨v102,rfl,ho0,hb⟩;refine ⟨_,rfl,?_⟩;have n0_:=z2.mk (Kd.z14 ho0 (ze (by repeat (first|(with_reducible first|exact HB.out|apply z7|apply z1|apply z6)|exact HB.out))));have n1_:=z2.mk (zd (by repeat (first|(with_reducible first|exact HB.out|apply z7|apply z1|apply z6)|exact HB.out)) hb);clear HB;have HO103:=n0_;have HB:=n1_;clear n0_ n1_;(try clear hb);(try clear hb2);(try clear hk);(try clear hi);(try clear ho0))|((with_reducible refine zp (f:=60) rfl ?_);refine goesL_ (some 7) rfl rfl Try.func60 (by kernel_rfl) rfl #[.int .i64 1,.agg #[.int .u64 0,.int .u64 2]] rfl (by (try simp only [List.map_toArray,List.map_cons,List.map_nil]);first|done|rfl|(simp only [List.length_drop,List.length_take];rfl)) ?_;(with_reducible refine (zW.calls k 1 0 2 t104 _ A2.out).mono ?_);rintro e w28 ⟨v105,rfl,ho0,hb⟩;refine ⟨_,rfl,?_⟩;have n0_:=z2.mk (Kd.z15 (by (with_reducible repeat (first|apply Kd.zi|apply Kd.zj|apply Kd.zo));exact HO103.out) (Kd.z1f ho0) hb);have n1_:=z2.mk (Kd.z14 (Kd.z1i ho0 (Kd.R_lt (by (with_reducible repeat (first|apply Kd.zi|apply Kd.zj|apply Kd.zo));exact HO103.out))) (ze (by repeat (first|(with_reducible first|exact HB.out|apply z7|apply z1|apply z6)|exact HB.out))));have n2_:=z2.mk (zd (by repeat (first|(with_reducible first|exact HB.out|apply z7|apply z1|apply z6)|exact HB.out)) hb);clear HO103;clear HB;have HO103:=n0_;have HO106:=n1_;have HB:=n2_;clear n0_ n1_ n2_;(try clear hb);(try clear hb2);(try clear hk);(try clear hi);(try clear ho0);obtain ⟨Ao29,co29,eo29⟩:=Kd.z13 HO103.out;subst eo29;obtain ⟨Ao30,co30,eo30⟩:=Kd.z13 HO106.out;subst eo30)|((with_reducible refine zp (f:=90) rfl ?_);refine goesL_ (some 8) rfl rfl Try.func90 (by kernel_rfl) rfl #[.int .i64 1,.slice Ao29 t101.length co29,.slice Ao30 t104.length co30] rfl (by (try simp only [List.map_toArray,List.map_cons,List.map_nil]);first|done|rfl|(simp only [List.length_drop,List.length_take];rfl)) ?_;(with_reducible refine (zJ.calls k 1 (fun k_=>some k_ = (.slice Ao29 t101.length co29 : Value).ownBlock) _ _ t101 (fun k_=>some k_ = (.slice Ao30 t104.length co30 : Value).ownBlock) _ _ t104 t107 t110 _ ?side1 ?side2 A3.out).mono ?_);(case side1=>exact Kd.R_V (Kd.z1Q rfl (HO103.out)));(case side2=>exact Kd.R_V (Kd.z1Q rfl (HO106.out)));rintro e w31 ⟨v108,rfl,ho0,hb⟩;refine ⟨_,rfl,?_⟩;have n0_:=z2.mk (Kd.z15 (by (with_reducible repeat (first|apply Kd.zi|apply Kd.zj|apply Kd.zo));exact HO103.out) (Kd.z1f ho0) hb);have n1_:=z2.mk (Kd.z15 (by (with_reducible repeat (first|apply Kd.zi|apply Kd.zj|apply Kd.zo));exact HO106.out) (Kd.z1f ho0) hb);have n2_:=z2.mk (Kd.z14 (Kd.z1i (Kd.z1i (Kd.z19 (ok':=fun k_=>True) ho0 (fun _ hk_=>trivial)) (Kd.R_lt (by (with_reducible repeat (first|apply Kd.zi|apply Kd.zj|apply Kd.zo));exact HO103.out))) (Kd.R_lt (by (with_reducible repeat (first|apply Kd.zi|apply Kd.zj|apply Kd.zo));exact HO106.out))) (ze (by repeat (first|(with_reducible first|exact HB.out|apply z7|apply z1|apply z6)|exact HB.out))));have n3_:=z2.mk (zd (by repeat (first|(with_reducible first|exact HB.out|apply z7|apply z1|apply z6)|exact HB.out)) hb);clear HO103;clear HO106;clear HB;have HO103:=n0_;have HO106:=n1_;have HO109:=n2_;have HB:=n3_;clear n0_ n1_ n2_ n3_;(try clear hb);(try clear hb2);(try clear hk);(try clear hi);(try clear ho0)))
   go_ret
   exact ⟨by first|rfl|(simp [zl,zm] <;> rfl)|(simp [*,zl,zm] <;> rfl),by repeat (first|(with_reducible first|exact HB.out|apply z7|apply z1|apply z6)|exact HB.out)⟩
 rw [if_pos c4] at H
 have c4b0 : (t110 == 0) = true:=beq_iff_eq.mpr c4
 have c4b1 : (t110 != 0) = false:=bne_eq_false_iff_eq.mpr c4
 clear c4
 by_cases c5 : (t107.length : Int) = 2
 rotate_left
 · rw [if_neg c5] at H
   have c5b0 : ((t107.length : Int) == 2) = false:=beq_eq_false_iff_ne.mpr c5
   have c5b1 : ((t107.length : Int) != 2) = true:=bne_iff_ne.mpr c5
   obtain rfl:=Option.some.inj H
   go_enter Try.func61,Try.ntmps61
   go_wp2_with (first|((with_reducible refine zp (f:=59) rfl ?_);refine goesL_ (some 5) rfl rfl Try.func59 (by kernel_rfl) rfl #[.int .i64 1,.agg #[.int .u64 0,.int .u64 2]] rfl (by (try simp only [List.map_toArray,List.map_cons,List.map_nil]);first|done|rfl|(simp only [List.length_drop,List.length_take];rfl)) ?_;(with_reducible refine (zw.calls k 1 0 2 t101 _ A1.out).mono ?_);rintro e w21 ⟨v102,rfl,ho0,hb⟩;refine ⟨_,rfl,?_⟩;have n0_:=z2.mk (Kd.z14 ho0 (ze (by repeat (first|(with_reducible first|exact HB.out|apply z7|apply z1|apply z6)|exact HB.out))));have n1_:=z2.mk (zd (by repeat (first|(with_reducible first|exact HB.out|apply z7|apply z1|apply z6)|exact HB.out)) hb);clear HB;have HO103:=n0_;have HB:=n1_;clear n0_ n1_;(try clear hb);(try clear hb2);(try clear hk);(try clear hi);(try clear ho0))|((with_reducible refine zp (f:=60) rfl ?_);refine goesL_ (some 7) rfl rfl Try.func60 (by kernel_rfl) rfl #[.int .i64 1,.agg #[.int .u64 0,.int .u64 2]] rfl (by (try simp only [List.map_toArray,List.map_cons,List.map_nil]);first|done|rfl|(simp only [List.length_drop,List.length_take];rfl)) ?_;(with_reducible refine (zW.calls k 1 0 2 t104 _ A2.out).mono ?_);rintro e w22 ⟨v105,rfl,ho0,hb⟩;refine ⟨_,rfl,?_⟩;have n0_:=z2.mk (Kd.z15 (by (with_reducible repeat (first|apply Kd.zi|apply Kd.zj|apply Kd.zo));exact HO103.out) (Kd.z1f ho0) hb);have n1_:=z2.mk (Kd.z14 (Kd.z1i ho0 (Kd.R_lt (by (with_reducible repeat (first|apply Kd.zi|apply Kd.zj|apply Kd.zo));exact HO103.out))) (ze (by repeat (first|(with_reducible first|exact HB.out|apply z7|apply z1|apply z6)|exact HB.out))));have n2_:=z2.mk (zd (by repeat (first|(with_reducible first|exact HB.out|apply z7|apply z1|apply z6)|exact HB.out)) hb);clear HO103;clear HB;have HO103:=n0_;have HO106:=n1_;have HB:=n2_;clear n0_ n1_ n2_;(try clear hb);(try clear hb2);(try clear hk);(try clear hi);(try clear ho0);obtain ⟨Ao23,co23,eo23⟩:=Kd.z13 HO103.out;subst eo23;obtain ⟨Ao24,co24,eo24⟩:=Kd.z13 HO106.out;subst eo24)|((with_reducible refine zp (f:=90) rfl ?_);refine goesL_ (some 8) rfl rfl Try.func90 (by kernel_rfl) rfl #[.int .i64 1,.slice Ao23 t101.length co23,.slice Ao24 t104.length co24] rfl (by (try simp only [List.map_toArray,List.map_cons,List.map_nil]);first|done|rfl|(simp only [List.length_drop,List.length_take];rfl)) ?_;(with_reducible refine (zJ.calls k 1 (fun k_=>some k_ = (.slice Ao23 t101.length co23 : Value).ownBlock) _ _ t101 (fun k_=>some k_ = (.slice Ao24 t104.length co24 : Value).ownBlock) _ _ t104 t107 t110 _ ?side1 ?side2 A3.out).mono ?_);(case side1=>exact Kd.R_V (Kd.z1Q rfl (HO103.out)));(case side2=>exact Kd.R_V (Kd.z1Q rfl (HO106.out)));rintro e w25 ⟨v108,rfl,ho0,hb⟩;refine ⟨_,rfl,?_⟩;have n0_:=z2.mk (Kd.z15 (by (with_reducible repeat (first|apply Kd.zi|apply Kd.zj|apply Kd.zo));exact HO103.out) (Kd.z1f ho0) hb);have n1_:=z2.mk (Kd.z15 (by (with_reducible repeat (first|apply Kd.zi|apply Kd.zj|apply Kd.zo));exact HO106.out) (Kd.z1f ho0) hb);have n2_:=z2.mk (Kd.z14 (Kd.z1i (Kd.z1i (Kd.z19 (ok':=fun k_=>True) ho0 (fun _ hk_=>trivial)) (Kd.R_lt (by (with_reducible repeat (first|apply Kd.zi|apply Kd.zj|apply Kd.zo));exact HO103.out))) (Kd.R_lt (by (with_reducible repeat (first|apply Kd.zi|apply Kd.zj|apply Kd.zo));exact HO106.out))) (ze (by repeat (first|(with_reducible first|exact HB.out|apply z7|apply z1|apply z6)|exact HB.out))));have n3_:=z2.mk (zd (by repeat (first|(with_reducible first|exact HB.out|apply z7|apply z1|apply z6)|exact HB.out)) hb);clear HO103;clear HO106;clear HB;have HO103:=n0_;have HO106:=n1_;have HO109:=n2_;have HB:=n3_;clear n0_ n1_ n2_ n3_;(try clear hb);(try clear hb2);(try clear hk);(try clear hi);(try clear ho0);obtain ⟨Ao26,co26,eo26⟩:=Kd.z13 HO109.out;subst eo26))
   go_ret
   exact ⟨by first|rfl|(simp [zl,zm] <;> rfl)|(simp [*,zl,zm] <;> rfl),by repeat (first|(with_reducible first|exact HB.out|apply z7|apply z1|apply z6)|exact HB.out)⟩
 rw [if_pos c5] at H
 have c5b0 : ((t107.length : Int) == 2) = true:=beq_iff_eq.mpr c5
 have c5b1 : ((t107.length : Int) != 2) = false:=bne_eq_false_iff_eq.mpr c5
 clear c5
 by_cases c6 : 0 < (t107.length : Int)
 rotate_left
 · rw [if_neg c6] at H
   exact absurd H (by simp)
 rw [if_pos c6] at H
 have c6b0 : decide (0 < (t107.length : Int)) = true:=decide_eq_true c6
 have c6b1 : decide (0 < t107.length) = true:=decide_eq_true (by omega)
 clear c6
 by_cases c7 : (((zt t107 0).f0) == 0 && (((zt t107 0).f1) == 0)) = true
 rotate_left
 · rw [if_neg c7] at H
   have c7b0 : (((zt t107 0).f0) == 0 && (((zt t107 0).f1) == 0)) = false:=by simpa using c7
   (try (have c7b1 : decide (((zt t107 0).f0) = 0 && (((zt t107 0).f1) == 0)) = false:=by simpa using c7))
   (try (have c7b2 : (((zt t107 0).f0) == 0 && (((zt t107 0).f1) == 0)) = false:=by simpa using c7))
   (try (have c7b3 : ¬ (((zt t107 0).f0) = 0 && (((zt t107 0).f1) == 0)):=by simpa using c7))
   clear c7
   obtain rfl:=Option.some.inj H
   go_enter Try.func61,Try.ntmps61
   go_wp2_with (first|((with_reducible refine zp (f:=59) rfl ?_);refine goesL_ (some 5) rfl rfl Try.func59 (by kernel_rfl) rfl #[.int .i64 1,.agg #[.int .u64 0,.int .u64 2]] rfl (by (try simp only [List.map_toArray,List.map_cons,List.map_nil]);first|done|rfl|(simp only [List.length_drop,List.length_take];rfl)) ?_;(with_reducible refine (zw.calls k 1 0 2 t101 _ A1.out).mono ?_);rintro e w15 ⟨v102,rfl,ho0,hb⟩;refine ⟨_,rfl,?_⟩;have n0_:=z2.mk (Kd.z14 ho0 (ze (by repeat (first|(with_reducible first|exact HB.out|apply z7|apply z1|apply z6)|exact HB.out))));have n1_:=z2.mk (zd (by repeat (first|(with_reducible first|exact HB.out|apply z7|apply z1|apply z6)|exact HB.out)) hb);clear HB;have HO103:=n0_;have HB:=n1_;clear n0_ n1_;(try clear hb);(try clear hb2);(try clear hk);(try clear hi);(try clear ho0))|((with_reducible refine zp (f:=60) rfl ?_);refine goesL_ (some 7) rfl rfl Try.func60 (by kernel_rfl) rfl #[.int .i64 1,.agg #[.int .u64 0,.int .u64 2]] rfl (by (try simp only [List.map_toArray,List.map_cons,List.map_nil]);first|done|rfl|(simp only [List.length_drop,List.length_take];rfl)) ?_;(with_reducible refine (zW.calls k 1 0 2 t104 _ A2.out).mono ?_);rintro e w16 ⟨v105,rfl,ho0,hb⟩;refine ⟨_,rfl,?_⟩;have n0_:=z2.mk (Kd.z15 (by (with_reducible repeat (first|apply Kd.zi|apply Kd.zj|apply Kd.zo));exact HO103.out) (Kd.z1f ho0) hb);have n1_:=z2.mk (Kd.z14 (Kd.z1i ho0 (Kd.R_lt (by (with_reducible repeat (first|apply Kd.zi|apply Kd.zj|apply Kd.zo));exact HO103.out))) (ze (by repeat (first|(with_reducible first|exact HB.out|apply z7|apply z1|apply z6)|exact HB.out))));have n2_:=z2.mk (zd (by repeat (first|(with_reducible first|exact HB.out|apply z7|apply z1|apply z6)|exact HB.out)) hb);clear HO103;clear HB;have HO103:=n0_;have HO106:=n1_;have HB:=n2_;clear n0_ n1_ n2_;(try clear hb);(try clear hb2);(try clear hk);(try clear hi);(try clear ho0);obtain ⟨Ao17,co17,eo17⟩:=Kd.z13 HO103.out;subst eo17;obtain ⟨Ao18,co18,eo18⟩:=Kd.z13 HO106.out;subst eo18)|((with_reducible refine zp (f:=90) rfl ?_);refine goesL_ (some 8) rfl rfl Try.func90 (by kernel_rfl) rfl #[.int .i64 1,.slice Ao17 t101.length co17,.slice Ao18 t104.length co18] rfl (by (try simp only [List.map_toArray,List.map_cons,List.map_nil]);first|done|rfl|(simp only [List.length_drop,List.length_take];rfl)) ?_;(with_reducible refine (zJ.calls k 1 (fun k_=>some k_ = (.slice Ao17 t101.length co17 : Value).ownBlock) _ _ t101 (fun k_=>some k_ = (.slice Ao18 t104.length co18 : Value).ownBlock) _ _ t104 t107 t110 _ ?side1 ?side2 A3.out).mono ?_);(case side1=>exact Kd.R_V (Kd.z1Q rfl (HO103.out)));(case side2=>exact Kd.R_V (Kd.z1Q rfl (HO106.out)));rintro e w19 ⟨v108,rfl,ho0,hb⟩;refine ⟨_,rfl,?_⟩;have n0_:=z2.mk (Kd.z15 (by (with_reducible repeat (first|apply Kd.zi|apply Kd.zj|apply Kd.zo));exact HO103.out) (Kd.z1f ho0) hb);have n1_:=z2.mk (Kd.z15 (by (with_reducible repeat (first|apply Kd.zi|apply Kd.zj|apply Kd.zo));exact HO106.out) (Kd.z1f ho0) hb);have n2_:=z2.mk (Kd.z14 (Kd.z1i (Kd.z1i (Kd.z19 (ok':=fun k_=>True) ho0 (fun _ hk_=>trivial)) (Kd.R_lt (by (with_reducible repeat (first|apply Kd.zi|apply Kd.zj|apply Kd.zo));exact HO103.out))) (Kd.R_lt (by (with_reducible repeat (first|apply Kd.zi|apply Kd.zj|apply Kd.zo));exact HO106.out))) (ze (by repeat (first|(with_reducible first|exact HB.out|apply z7|apply z1|apply z6)|exact HB.out))));have n3_:=z2.mk (zd (by repeat (first|(with_reducible first|exact HB.out|apply z7|apply z1|apply z6)|exact HB.out)) hb);clear HO103;clear HO106;clear HB;have HO103:=n0_;have HO106:=n1_;have HO109:=n2_;have HB:=n3_;clear n0_ n1_ n2_ n3_;(try clear hb);(try clear hb2);(try clear hk);(try clear hi);(try clear ho0);obtain ⟨Ao20,co20,eo20⟩:=Kd.z13 HO109.out;subst eo20;have p111 : 0 ≤ (0 : Int):=(by omega);have q111 : 0 < (t107.length : Int):=of_decide_eq_true (by first|(with_reducible assumption)|assumption);obtain ⟨ad111,e111,hx111_0,hx111_1⟩:=z2b (Kd.zM HO109.out).2.2 0 p111 q111;cases e111;have qi111 : (0 < t107.length) = True:=eq_true (by omega);(try rw [show ((0 : Int)).toNat = 0 from rfl] at hx111_0);(try rw [show 0 * 2 = 0 from rfl] at hx111_0);(try rw [Addr.add_zero'] at hx111_0);(try rw [show ((0 : Int)).toNat = 0 from rfl] at hx111_1);(try rw [show 0 * 2 = 0 from rfl] at hx111_1);(try rw [Addr.add_zero'] at hx111_1);replace p111:=eq_true p111;replace q111:=eq_true q111))
   go_ret
   exact ⟨by first|rfl|(simp [zl,zm] <;> rfl)|(simp [*,zl,zm] <;> rfl),by repeat (first|(with_reducible first|exact HB.out|apply z7|apply z1|apply z6)|exact HB.out)⟩
 rw [if_pos c7] at H
 have c7b0 : (((zt t107 0).f0) == 0 && (((zt t107 0).f1) == 0)) = true:=c7
 (try (have c7b1 : decide (((zt t107 0).f0) = 0 && (((zt t107 0).f1) == 0)) = true:=by simpa using c7))
 (try (have c7b2 : (((zt t107 0).f0) == 0 && (((zt t107 0).f1) == 0)) = true:=by simpa using c7))
 clear c7
 by_cases c8 : 1 < (t107.length : Int)
 rotate_left
 · rw [if_neg c8] at H
   exact absurd H (by simp)
 rw [if_pos c8] at H
 have c8b0 : decide (1 < (t107.length : Int)) = true:=decide_eq_true c8
 have c8b1 : decide (1 < t107.length) = true:=decide_eq_true (by omega)
 clear c8
 obtain rfl:=Option.some.inj H
 go_enter Try.func61,Try.ntmps61
 go_wp2_with (first|((with_reducible refine zp (f:=59) rfl ?_);refine goesL_ (some 5) rfl rfl Try.func59 (by kernel_rfl) rfl #[.int .i64 1,.agg #[.int .u64 0,.int .u64 2]] rfl (by (try simp only [List.map_toArray,List.map_cons,List.map_nil]);first|done|rfl|(simp only [List.length_drop,List.length_take];rfl)) ?_;(with_reducible refine (zw.calls k 1 0 2 t101 _ A1.out).mono ?_);rintro e w9 ⟨v102,rfl,ho0,hb⟩;refine ⟨_,rfl,?_⟩;have n0_:=z2.mk (Kd.z14 ho0 (ze (by repeat (first|(with_reducible first|exact HB.out|apply z7|apply z1|apply z6)|exact HB.out))));have n1_:=z2.mk (zd (by repeat (first|(with_reducible first|exact HB.out|apply z7|apply z1|apply z6)|exact HB.out)) hb);clear HB;have HO103:=n0_;have HB:=n1_;clear n0_ n1_;(try clear hb);(try clear hb2);(try clear hk);(try clear hi);(try clear ho0))|((with_reducible refine zp (f:=60) rfl ?_);refine goesL_ (some 7) rfl rfl Try.func60 (by kernel_rfl) rfl #[.int .i64 1,.agg #[.int .u64 0,.int .u64 2]] rfl (by (try simp only [List.map_toArray,List.map_cons,List.map_nil]);first|done|rfl|(simp only [List.length_drop,List.length_take];rfl)) ?_;(with_reducible refine (zW.calls k 1 0 2 t104 _ A2.out).mono ?_);rintro e w10 ⟨v105,rfl,ho0,hb⟩;refine ⟨_,rfl,?_⟩;have n0_:=z2.mk (Kd.z15 (by (with_reducible repeat (first|apply Kd.zi|apply Kd.zj|apply Kd.zo));exact HO103.out) (Kd.z1f ho0) hb);have n1_:=z2.mk (Kd.z14 (Kd.z1i ho0 (Kd.R_lt (by (with_reducible repeat (first|apply Kd.zi|apply Kd.zj|apply Kd.zo));exact HO103.out))) (ze (by repeat (first|(with_reducible first|exact HB.out|apply z7|apply z1|apply z6)|exact HB.out))));have n2_:=z2.mk (zd (by repeat (first|(with_reducible first|exact HB.out|apply z7|apply z1|apply z6)|exact HB.out)) hb);clear HO103;clear HB;have HO103:=n0_;have HO106:=n1_;have HB:=n2_;clear n0_ n1_ n2_;(try clear hb);(try clear hb2);(try clear hk);(try clear hi);(try clear ho0);obtain ⟨Ao11,co11,eo11⟩:=Kd.z13 HO103.out;subst eo11;obtain ⟨Ao12,co12,eo12⟩:=Kd.z13 HO106.out;subst eo12)|((with_reducible refine zp (f:=90) rfl ?_);refine goesL_ (some 8) rfl rfl Try.func90 (by kernel_rfl) rfl #[.int .i64 1,.slice Ao11 t101.length co11,.slice Ao12 t104.length co12] rfl (by (try simp only [List.map_toArray,List.map_cons,List.map_nil]);first|done|rfl|(simp only [List.length_drop,List.length_take];rfl)) ?_;(with_reducible refine (zJ.calls k 1 (fun k_=>some k_ = (.slice Ao11 t101.length co11 : Value).ownBlock) _ _ t101 (fun k_=>some k_ = (.slice Ao12 t104.length co12 : Value).ownBlock) _ _ t104 t107 t110 _ ?side1 ?side2 A3.out).mono ?_);(case side1=>exact Kd.R_V (Kd.z1Q rfl (HO103.out)));(case side2=>exact Kd.R_V (Kd.z1Q rfl (HO106.out)));rintro e w13 ⟨v108,rfl,ho0,hb⟩;refine ⟨_,rfl,?_⟩;have n0_:=z2.mk (Kd.z15 (by (with_reducible repeat (first|apply Kd.zi|apply Kd.zj|apply Kd.zo));exact HO103.out) (Kd.z1f ho0) hb);have n1_:=z2.mk (Kd.z15 (by (with_reducible repeat (first|apply Kd.zi|apply Kd.zj|apply Kd.zo));exact HO106.out) (Kd.z1f ho0) hb);have n2_:=z2.mk (Kd.z14 (Kd.z1i (Kd.z1i (Kd.z19 (ok':=fun k_=>True) ho0 (fun _ hk_=>trivial)) (Kd.R_lt (by (with_reducible repeat (first|apply Kd.zi|apply Kd.zj|apply Kd.zo));exact HO103.out))) (Kd.R_lt (by (with_reducible repeat (first|apply Kd.zi|apply Kd.zj|apply Kd.zo));exact HO106.out))) (ze (by repeat (first|(with_reducible first|exact HB.out|apply z7|apply z1|apply z6)|exact HB.out))));have n3_:=z2.mk (zd (by repeat (first|(with_reducible first|exact HB.out|apply z7|apply z1|apply z6)|exact HB.out)) hb);clear HO103;clear HO106;clear HB;have HO103:=n0_;have HO106:=n1_;have HO109:=n2_;have HB:=n3_;clear n0_ n1_ n2_ n3_;(try clear hb);(try clear hb2);(try clear hk);(try clear hi);(try clear ho0);obtain ⟨Ao14,co14,eo14⟩:=Kd.z13 HO109.out;subst eo14;have p111 : 0 ≤ (0 : Int):=(by omega);have q111 : 0 < (t107.length : Int):=of_decide_eq_true (by first|(with_reducible assumption)|assumption);obtain ⟨ad111,e111,hx111_0,hx111_1⟩:=z2b (Kd.zM HO109.out).2.2 0 p111 q111;cases e111;have qi111 : (0 < t107.length) = True:=eq_true (by omega);(try rw [show ((0 : Int)).toNat = 0 from rfl] at hx111_0);(try rw [show 0 * 2 = 0 from rfl] at hx111_0);(try rw [Addr.add_zero'] at hx111_0);(try rw [show ((0 : Int)).toNat = 0 from rfl] at hx111_1);(try rw [show 0 * 2 = 0 from rfl] at hx111_1);(try rw [Addr.add_zero'] at hx111_1);replace p111:=eq_true p111;replace q111:=eq_true q111;have p112 : 0 ≤ (1 : Int):=(by omega);have q112 : 1 < (t107.length : Int):=of_decide_eq_true (by first|(with_reducible assumption)|assumption);obtain ⟨ad112,e112,hx112_0,hx112_1⟩:=z2b (Kd.zM HO109.out).2.2 1 p112 q112;obtain rfl : ad111 = ad112:=(by injection e112);(try simp only [show (1 : Int).toNat = 1 from rfl,Nat.reduceMul,Nat.reduceEqDiff,Go.Addr.add,↓reduceIte] at hx112_0);(try simp only [show (1 : Int).toNat = 1 from rfl,Nat.reduceMul,Nat.reduceEqDiff,Go.Addr.add,↓reduceIte] at hx112_1);have qi112 : (1 < t107.length) = True:=eq_true (by omega);(try rw [show ((1 : Int)).toNat = 1 from rfl] at hx112_0);(try rw [show 1 * 2 = 2 from rfl] at hx112_0);(try rw [show ((1 : Int)).toNat = 1 from rfl] at hx112_1);(try rw [show 1 * 2 = 2 from rfl] at hx112_1);replace p112:=eq_true p112;replace q112:=eq_true q112))
 go_ret
 exact ⟨by first|rfl|(simp [zl,zm] <;> rfl)|(simp [*,zl,zm] <;> rfl),by repeat (first|(with_reducible first|exact HB.out|apply z7|apply z1|apply z6)|exact HB.out)⟩
end Go.Proofs.Ytngcaphdkgihmaa.P
namespace Go.Proofs.Ytngcaphdkgihmaa.P
open Go.RowKit Go.Proofs.YtngcaphdkgihmaaW.PrintWords Go.Proofs.YtngcaphdkgihmaaW.PrintLast Go.Proofs.YtngcaphdkgihmaaW.PrintMore
attribute [local go_sem] zX zZ z16 z17 zT zU zY z10   -- for this text's walks alone
set_option linter.unusedVariables false
set_option linter.unusedSimpArgs false
def z18.f (k : Nat) (a0 : Int) : Option ((List (S51))):=(z1x.f).bind fun bt101=>((zw.f k a0 bt101.1 bt101.2).bind fun t103=>(some t103))
theorem z18.mono : ∀ a0 k,LeO (z18.f k a0) (z18.f (k + 1) a0):=by
 intro a0 k
 unfold z18.f
 repeat' first
  | (with_reducible exact zw.mono _ _ _ _)
  | (with_reducible exact LeO.refl _)
  | (with_reducible exact LeO.none _)
  | (with_reducible refine LeO.ite ?_ ?_)
  | (with_reducible refine LeO.bind ?_ (fun _=>?_))
  | exact zw.mono _ _ _ _
  | exact LeO.none _
  | refine LeO.ite ?_ ?_
  | refine LeO.bind ?_ (fun _=>?_)
set_option maxHeartbeats 8000000 in
set_option maxRecDepth 100000 in
theorem z18.calls (k : Nat) (a0 : Int) (r : List (S51)) (w : World) (h : z18.f k a0 = some r) :
 Calls Try.prog 62 #[.int .i64 a0] w fun e w'=>∃ v0_ : Value,e = .returned (v0_) ∧ Kd.R k51 51 w' w.heap.size (fun _=>True) v0_ r ∧ Below w.heap.size w w':=by
 have HB:=z2.mk (Below.refl w.heap.size w)
 have H : ((z1x.f).bind fun bt101=>((zw.f k a0 bt101.1 bt101.2).bind fun t103=>(some t103))) = some r:=h
 clear h
 replace H:=Option.bind_eq_some_iff.mp H
 obtain ⟨⟨t101,t102⟩,A20,H⟩:=H
 replace H : ((zw.f k a0 t101 t102).bind fun t103=>(some t103)) = some r:=H
 have A2:=z2.mk A20
 clear A20
 replace H:=Option.bind_eq_some_iff.mp H
 obtain ⟨t103,A30,H⟩:=H
 replace H : (some t103) = some r:=H
 have A3:=z2.mk A30
 clear A30
 obtain rfl:=Option.some.inj H
 go_enter Try.func62,Try.ntmps62
 go_wp2_with (first|((with_reducible refine zp (f:=66) rfl ?_);refine goesL_ (some 4) rfl rfl Try.func66 (by kernel_rfl) rfl #[] rfl (by (try simp only [List.map_toArray,List.map_cons,List.map_nil]);first|done|rfl|(simp only [List.length_drop,List.length_take];rfl)) ?_;(with_reducible refine (z1x.calls  t101 t102 _ A2.out).mono ?_);rintro e w4 ⟨rfl,hb⟩;refine ⟨_,rfl,?_⟩;have n0_:=z2.mk (zd (by repeat (first|(with_reducible first|exact HB.out|apply z7|apply z1|apply z6)|exact HB.out)) hb);clear HB;have HB:=n0_;clear n0_;(try clear hb);(try clear hb2);(try clear hk);(try clear hi))|((with_reducible refine zp (f:=59) rfl ?_);refine goesL_ (some 5) rfl rfl Try.func59 (by kernel_rfl) rfl #[.int .i64 a0,.agg #[.int .u64 t101,.int .u64 t102]] rfl (by (try simp only [List.map_toArray,List.map_cons,List.map_nil]);first|done|rfl|(simp only [List.length_drop,List.length_take];rfl)) ?_;(with_reducible refine (zw.calls k a0 t101 t102 t103 _ A3.out).mono ?_);rintro e w5 ⟨v104,rfl,ho0,hb⟩;refine ⟨_,rfl,?_⟩;have n0_:=z2.mk (Kd.z14 ho0 (ze (by repeat (first|(with_reducible first|exact HB.out|apply z7|apply z1|apply z6)|exact HB.out))));have n1_:=z2.mk (zd (by repeat (first|(with_reducible first|exact HB.out|apply z7|apply z1|apply z6)|exact HB.out)) hb);clear HB;have HO105:=n0_;have HB:=n1_;clear n0_ n1_;(try clear hb);(try clear hb2);(try clear hk);(try clear hi);(try clear ho0)))
 go_ret
 exact ⟨_,by first|rfl|(simp [zl,zm] <;> rfl)|(simp [*,zl,zm] <;> rfl),by (with_reducible repeat (first|apply Kd.zi|apply Kd.zj|apply Kd.zo));exact HO105.out,by repeat (first|(with_reducible first|exact HB.out|apply z7|apply z1|apply z6)|exact HB.out)⟩
end Go.Proofs.Ytngcaphdkgihmaa.P
namespace Go.Proofs.Ytngcaphdkgihmaa.P
open Go.RowKit Go.Proofs.YtngcaphdkgihmaaW.PrintWords Go.Proofs.YtngcaphdkgihmaaW.PrintLast Go.Proofs.YtngcaphdkgihmaaW.PrintMore
attribute [local go_sem] zX zZ z16 z17 zT zU zY z10   -- for this text's walks alone
set_option linter.unusedVariables false
set_option linter.unusedSimpArgs false
def zy.j0 : Nat → Int → Bool → Option (Int × Int)
 | 0,_,_=>none
 | k + 1,x0,x8=>if x8 = true then (some (0,0)) else (if x0 > 63 then (if 0 ≤ (IntKind.u64.wrap (wrap64 (x0 - 64))) then (some (shl .u64 1 (IntKind.u64.wrap (wrap64 (x0 - 64))),0)) else (none)) else (if 0 ≤ (IntKind.u64.wrap (x0)) then (some (0,shl .u64 1 (IntKind.u64.wrap (x0)))) else (none)))
def zy.f (k : Nat) (a0 : Int) : Option (Int × Int):=if a0 < 0 then (zy.j0 k a0 true) else (zy.j0 k a0 (decide (a0 > 127)))
theorem zy.z12 : ∀ k,(∀ y0 y1,LeO (zy.j0 k y0 y1) (zy.j0 (k + 1) y0 y1))
 | 0=>fun _ _ r h=>by simp [zy.j0] at h
 | k + 1=>by
  have ih0:=zy.z12 k
  · intro y0 y1
    unfold zy.j0
    repeat' first
    | (with_reducible exact ih0 _ _)
    | (with_reducible exact LeO.refl _)
    | (with_reducible exact LeO.none _)
    | (with_reducible refine LeO.ite ?_ ?_)
    | (with_reducible refine LeO.bind ?_ (fun _=>?_))
    | exact ih0 _ _
    | exact LeO.none _
    | refine LeO.ite ?_ ?_
    | refine LeO.bind ?_ (fun _=>?_)
theorem zy.mono : ∀ a0 k,LeO (zy.f k a0) (zy.f (k + 1) a0):=by
 intro a0 k
 have ih0:=zy.z12 k
 unfold zy.f
 repeat' first
  | (with_reducible exact ih0 _ _)
  | (with_reducible exact LeO.refl _)
  | (with_reducible exact LeO.none _)
  | (with_reducible refine LeO.ite ?_ ?_)
  | (with_reducible refine LeO.bind ?_ (fun _=>?_))
  | exact ih0 _ _
  | exact LeO.none _
  | refine LeO.ite ?_ ?_
  | refine LeO.bind ?_ (fun _=>?_)
set_option maxHeartbeats 8000000 in
set_option maxRecDepth 100000 in
theorem zy.calls (k : Nat) (a0 : Int) (r1 : Int) (r2 : Int) (w : World) (h : zy.f k a0 = some (r1,r2)) :
 Calls Try.prog 75 #[.int .i64 a0] w fun e w'=>e = .returned (.agg #[.int .u64 r1,.int .u64 r2]) ∧ Below w.heap.size w w':=by
 have hu61:=Try.underlying61
 have HB:=z2.mk (Below.refl w.heap.size w)
 have H : (if a0 < 0 then (zy.j0 k a0 true) else (zy.j0 k a0 (decide (a0 > 127)))) = some (r1,r2):=h
 clear h
 have HC2:=z2.mk H
 clear H
 go_enter Try.func75,Try.ntmps75
 go_upto_region 1 with (first|((with_reducible refine zG (N:=2) rfl ?_);refine zC ?hg (N:=2) ?hd (cs:=#[.int .u64 0,.int .u64 0]) (t:=61) ?hr ?_;(case hd=>rfl);(case hg=>rfl);(case hr=>first|(go_simp;done)|(go_simp;rfl));intro gb101 hg w3 hbox hb;have n0_:=z2.mk (zd (by repeat (first|(with_reducible first|exact HB.out|apply z7|apply z1|apply z6)|exact HB.out)) hb);have n1_:=z2.mk (hbox);have n2_:=z2.mk ((by rw [hg];exact (ze (by repeat (first|(with_reducible first|exact HB.out|apply z7|apply z1|apply z6)|exact HB.out))) : w.heap.size ≤ gb101));have n3_:=z2.mk ((by rw [hg];exact (ze (by repeat (first|(with_reducible first|exact HB.out|apply z7|apply z1|apply z6)|exact HB.out))) : w.heap.size ≤ gb101));clear HB;have HB:=n0_;have BK101:=n1_;have GW101:=n2_;have GE101:=n3_;clear n0_ n1_ n2_ n3_;clear hb hbox hg))
 (try simp only [Act.put,List.setIfInBounds_toArray,List.set_cons_zero,List.set_cons_succ])
 go_cut [8] (fun v8 wc=>∃ (kq : Nat) (x8_1 : Bool),v8 = .bool x8_1 ∧ z2 (zy.j0 kq a0 x8_1 = some (r1,r2)) ∧ z2 (kq ≤ k) ∧ z2 (wc.heap[gb101]? = some (.cells #[.int .u64 0,.int .u64 0] 61 (0,0))) ∧ z2 (Below w.heap.size w wc))
 case first =>
  have H:=HC2.out
  clear HC2
  by_cases c4 : a0 < 0
  rotate_left
  · rw [if_neg c4] at H
    have c4b0 : decide (a0 < 0) = false:=decide_eq_false c4
    clear c4
    (first|rw [c4b0]|(simp only [zR,zV];rw [c4b0])|skip)
    have H':=z2.mk H
    clear H
    go_wp2
    go_meet
    case rel=>exact ⟨_,(decide (a0 > 127)),(by first|rfl|(simp;done)|(simp [*];done)),H',⟨by first|omega|exact Nat.le_refl _⟩,⟨by (with_reducible repeat (first|refine z4 ?_ _|refine z8 ?_|refine z3 ?_ _));exact BK101.out⟩,⟨by repeat (first|(with_reducible first|exact HB.out|apply z7|apply z1|apply z6|refine z5 ?_ GE101.out)|exact HB.out)⟩⟩
  rw [if_pos c4] at H
  have c4b0 : decide (a0 < 0) = true:=decide_eq_true c4
  clear c4
  (first|rw [c4b0]|(simp only [zR,zV];rw [c4b0])|skip)
  have H':=z2.mk H
  clear H
  go_wp2
  go_meet
  case rel=>exact ⟨_,(true),(by first|rfl|(simp;done)|(simp [*];done)),H',⟨by first|omega|exact Nat.le_refl _⟩,⟨by (with_reducible repeat (first|refine z4 ?_ _|refine z8 ?_|refine z3 ?_ _));exact BK101.out⟩,⟨by repeat (first|(with_reducible first|exact HB.out|apply z7|apply z1|apply z6|refine z5 ?_ GE101.out)|exact HB.out)⟩⟩
 case rest =>
  clear HC2
  (try clear p2);(try clear c4);(try clear c4b0)
  obtain ⟨kq,x8_1,rfl,HA,HJ1,BK101,HB⟩:=hcut
  cases kq with
  | zero=>exact absurd HA.out (by simp [zy.j0])
  | succ kj1 =>
   have H:=HA.out
   clear HA
   simp only [zy.j0] at H
   by_cases c5 : x8_1 = true
   · subst c5
     have H1 : (some (0,0)) = some (r1,r2):=by rw [if_pos rfl] at H;exact H
     clear H
     have H:=H1
     clear H1
     simp only [Option.some.injEq,Prod.mk.injEq] at H
     obtain ⟨rfl,rfl⟩:=H
     have hcz6_0 : wc.cell? ⟨gb101,0,none⟩ = some (.int .u64 0):=(za BK101.out 0).trans rfl
     have hcz6_1 : wc.cell? ⟨gb101,1,none⟩ = some (.int .u64 0):=(za BK101.out 1).trans rfl
     have hfz6_0:=zb BK101.out 0
     have hfz6_1:=zb BK101.out 1
     go_wp2
     refine bodyPost_ret (results_cell_row rfl _ _ gb101 61 #[.int .u64 0,.int .u64 0] (0,0) _ rfl (by (with_reducible repeat (first|refine z4 ?_ _|refine z8 ?_|refine z3 ?_ _));refine zQ (cs:=#[.int .u64 0,.int .u64 0]) ?_ 1 _ rfl;(with_reducible repeat (first|refine z4 ?_ _|refine z8 ?_|refine z3 ?_ _));refine zQ (cs:=#[.int .u64 0,.int .u64 0]) ?_ 0 _ rfl;(with_reducible repeat (first|refine z4 ?_ _|refine z8 ?_|refine z3 ?_ _));exact BK101.out) Try.underlying61 rfl (by kernel_rfl)) rfl ?_
     exact ⟨by first|rfl|(simp [zl,zm] <;> rfl)|(simp [*,zl,zm] <;> rfl),by repeat (first|(with_reducible first|exact HB.out|apply z7|apply z1|apply z6|refine z5 ?_ GE101.out)|exact HB.out)⟩
   replace c5:=Bool.eq_false_iff.mpr c5
   subst c5
   have H1 : (if a0 > 63 then (if 0 ≤ (IntKind.u64.wrap (wrap64 (a0 - 64))) then (some (shl .u64 1 (IntKind.u64.wrap (wrap64 (a0 - 64))),0)) else (none)) else (if 0 ≤ (IntKind.u64.wrap (a0)) then (some (0,shl .u64 1 (IntKind.u64.wrap (a0)))) else (none))) = some (r1,r2):=by rw [if_neg (show ¬ (false = true) by decide)] at H;exact H
   clear H
   have H:=H1
   clear H1
   by_cases c7 : a0 > 63
   · rw [if_pos c7] at H
     have c7b0 : decide (63 < a0) = true:=decide_eq_true c7
     clear c7
     obtain ⟨ji8,hji8⟩ : ∃ j_ : Int,(IntKind.u64.wrap (wrap64 (a0 - 64))) = j_:=⟨_,rfl⟩
     replace H : (if 0 ≤ (ji8) then (some (shl .u64 1 (ji8),0)) else (none)) = some (r1,r2):=by first|(rw [hji8] at H;exact H)|(simp only [hji8] at H ⊢;exact H)
     by_cases c9 : 0 ≤ (ji8)
     rotate_left
     · rw [if_neg c9] at H
       exact absurd H (by simp)
     rw [if_pos c9] at H
     have c9b0:=eq_true c9
     have c9b1 : decide (0 ≤ (ji8)) = true:=decide_eq_true c9
     clear c9
     obtain ⟨ji10,hji10⟩ : ∃ j_ : Int,(shl .u64 1 (ji8)) = j_:=⟨_,rfl⟩
     replace H : (some (ji10,0)) = some (r1,r2):=by first|(rw [hji10] at H;exact H)|(simp only [hji10] at H ⊢;exact H)
     have hji10_ : (IntKind.u64.wrap (1 * 2 ^ min (ji8).toNat 64)) = ji10:=hji10
     have hji10z : (ji8) ≤ 64 → (IntKind.u64.wrap (1 * 2 ^ (ji8).toNat)) = ji10:=z1p hji10
     have hji10n0 : 0 ≤ ji10:=by rw [← hji10];exact Int.emod_nonneg _ (by decide)
     have hji10n1 : decide (0 ≤ ji10) = true:=decide_eq_true hji10n0
     replace hji10n0:=eq_true hji10n0
     have hji10u : (IntKind.u64.wrap (2 ^ min (ji8).toNat 64)) = ji10:=by have h_:=hji10_;rw [Int.one_mul] at h_;exact h_
     have hji10v : (ji8) ≤ 64 → (IntKind.u64.wrap (2 ^ (ji8).toNat)) = ji10:=fun hle_=>by have h_:=hji10z hle_;rw [Int.one_mul] at h_;exact h_
     simp only [Option.some.injEq,Prod.mk.injEq] at H
     obtain ⟨rfl,rfl⟩:=H
     have hcz11_0 : wc.cell? ⟨gb101,0,none⟩ = some (.int .u64 0):=(za BK101.out 0).trans rfl
     have hcz11_1 : wc.cell? ⟨gb101,1,none⟩ = some (.int .u64 0):=(za BK101.out 1).trans rfl
     have hfz11_0:=zb BK101.out 0
     have hfz11_1:=zb BK101.out 1
     go_wp2
     refine bodyPost_ret (results_cell_row rfl _ _ gb101 61 #[.int .u64 ji10,.int .u64 0] (0,0) _ rfl (by (with_reducible repeat (first|refine z4 ?_ _|refine z8 ?_|refine z3 ?_ _));refine zQ (cs:=#[.int .u64 ji10,.int .u64 0]) ?_ 1 _ rfl;(with_reducible repeat (first|refine z4 ?_ _|refine z8 ?_|refine z3 ?_ _));refine zQ (cs:=#[.int .u64 0,.int .u64 0]) ?_ 0 _ rfl;(with_reducible repeat (first|refine z4 ?_ _|refine z8 ?_|refine z3 ?_ _));exact BK101.out) Try.underlying61 rfl (by kernel_rfl)) rfl ?_
     exact ⟨by first|rfl|(simp [zl,zm] <;> rfl)|(simp only [← hji8,← hji10];first|rfl|(simp [zl,zm] <;> rfl))|(simp [*,zl,zm] <;> rfl),by repeat (first|(with_reducible first|exact HB.out|apply z7|apply z1|apply z6|refine z5 ?_ GE101.out)|exact HB.out)⟩
   rw [if_neg c7] at H
   have c7b0 : decide (63 < a0) = false:=decide_eq_false c7
   clear c7
   obtain ⟨ji12,hji12⟩ : ∃ j_ : Int,(IntKind.u64.wrap (a0)) = j_:=⟨_,rfl⟩
   replace H : (if 0 ≤ (ji12) then (some (0,shl .u64 1 (ji12))) else (none)) = some (r1,r2):=by first|(rw [hji12] at H;exact H)|(simp only [hji12] at H ⊢;exact H)
   by_cases c13 : 0 ≤ (ji12)
   rotate_left
   · rw [if_neg c13] at H
     exact absurd H (by simp)
   rw [if_pos c13] at H
   have c13b0:=eq_true c13
   have c13b1 : decide (0 ≤ (ji12)) = true:=decide_eq_true c13
   clear c13
   obtain ⟨ji14,hji14⟩ : ∃ j_ : Int,(shl .u64 1 (ji12)) = j_:=⟨_,rfl⟩
   replace H : (some (0,ji14)) = some (r1,r2):=by first|(rw [hji14] at H;exact H)|(simp only [hji14] at H ⊢;exact H)
   have hji14_ : (IntKind.u64.wrap (1 * 2 ^ min (ji12).toNat 64)) = ji14:=hji14
   have hji14z : (ji12) ≤ 64 → (IntKind.u64.wrap (1 * 2 ^ (ji12).toNat)) = ji14:=z1p hji14
   have hji14n0 : 0 ≤ ji14:=by rw [← hji14];exact Int.emod_nonneg _ (by decide)
   have hji14n1 : decide (0 ≤ ji14) = true:=decide_eq_true hji14n0
   replace hji14n0:=eq_true hji14n0
   have hji14u : (IntKind.u64.wrap (2 ^ min (ji12).toNat 64)) = ji14:=by have h_:=hji14_;rw [Int.one_mul] at h_;exact h_
   have hji14v : (ji12) ≤ 64 → (IntKind.u64.wrap (2 ^ (ji12).toNat)) = ji14:=fun hle_=>by have h_:=hji14z hle_;rw [Int.one_mul] at h_;exact h_
   simp only [Option.some.injEq,Prod.mk.injEq] at H
   obtain ⟨rfl,rfl⟩:=H
   have hcz15_0 : wc.cell? ⟨gb101,0,none⟩ = some (.int .u64 0):=(za BK101.out 0).trans rfl
   have hcz15_1 : wc.cell? ⟨gb101,1,none⟩ = some (.int .u64 0):=(za BK101.out 1).trans rfl
   have hfz15_0:=zb BK101.out 0
   have hfz15_1:=zb BK101.out 1
   go_wp2
   refine bodyPost_ret (results_cell_row rfl _ _ gb101 61 #[.int .u64 0,.int .u64 ji14] (0,0) _ rfl (by (with_reducible repeat (first|refine z4 ?_ _|refine z8 ?_|refine z3 ?_ _));refine zQ (cs:=#[.int .u64 0,.int .u64 0]) ?_ 1 _ rfl;(with_reducible repeat (first|refine z4 ?_ _|refine z8 ?_|refine z3 ?_ _));refine zQ (cs:=#[.int .u64 0,.int .u64 0]) ?_ 0 _ rfl;(with_reducible repeat (first|refine z4 ?_ _|refine z8 ?_|refine z3 ?_ _));exact BK101.out) Try.underlying61 rfl (by kernel_rfl)) rfl ?_
   exact ⟨by first|rfl|(simp [zl,zm] <;> rfl)|(simp only [← hji12,← hji14];first|rfl|(simp [zl,zm] <;> rfl))|(simp [*,zl,zm] <;> rfl),by repeat (first|(with_reducible first|exact HB.out|apply z7|apply z1|apply z6|refine z5 ?_ GE101.out)|exact HB.out)⟩
end Go.Proofs.Ytngcaphdkgihmaa.P
namespace Go.Proofs.Ytngcaphdkgihmaa.P
open Go.RowKit Go.Proofs.YtngcaphdkgihmaaW.PrintWords Go.Proofs.YtngcaphdkgihmaaW.PrintLast Go.Proofs.YtngcaphdkgihmaaW.PrintMore
attribute [local go_sem] zX zZ z16 z17 zT zU zY z10   -- for this text's walks alone
set_option linter.unusedVariables false
set_option linter.unusedSimpArgs false
def zF.f (k : Nat) (a0_0 : Int) (a0_1 : Int) (a1 : Int) : Option (Bool):=(zy.f k a1).bind fun bt102=>(some ((Go.bits .or .u64 (Go.bits .and .u64 a0_1 bt102.2) (Go.bits .and .u64 a0_0 bt102.1)) != 0))
theorem zF.mono : ∀ a0 a1 a2 k,LeO (zF.f k a0 a1 a2) (zF.f (k + 1) a0 a1 a2):=by
 intro a0 a1 a2 k
 unfold zF.f
 repeat' first
  | (with_reducible exact zy.mono _ _)
  | (with_reducible exact LeO.refl _)
  | (with_reducible exact LeO.none _)
  | (with_reducible refine LeO.ite ?_ ?_)
  | (with_reducible refine LeO.bind ?_ (fun _=>?_))
  | exact zy.mono _ _
  | exact LeO.none _
  | refine LeO.ite ?_ ?_
  | refine LeO.bind ?_ (fun _=>?_)
set_option maxHeartbeats 8000000 in
set_option maxRecDepth 100000 in
theorem zF.calls (k : Nat) (a0_0 : Int) (a0_1 : Int) (a1 : Int) (r : Bool) (w : World) (h : zF.f k a0_0 a0_1 a1 = some r) :
 Calls Try.prog 73 #[.agg #[.int .u64 a0_0,.int .u64 a0_1],.int .i64 a1] w fun e w'=>e = .returned (.bool r) ∧ Below w.heap.size w w':=by
 have hu61:=Try.underlying61
 have HB:=z2.mk (Below.refl w.heap.size w)
 have H : ((zy.f k a1).bind fun bt102=>(some ((Go.bits .or .u64 (Go.bits .and .u64 a0_1 bt102.2) (Go.bits .and .u64 a0_0 bt102.1)) != 0))) = some r:=h
 clear h
 replace H:=Option.bind_eq_some_iff.mp H
 obtain ⟨⟨t102,t103⟩,A30,H⟩:=H
 replace H : (some ((Go.bits .or .u64 (Go.bits .and .u64 a0_1 t103) (Go.bits .and .u64 a0_0 t102)) != 0)) = some r:=H
 have A3:=z2.mk A30
 clear A30
 obtain rfl:=Option.some.inj H
 go_enter Try.func73,Try.ntmps73
 go_wp2_with (first|((with_reducible refine zG (N:=2) rfl ?_);refine zC ?hg (N:=2) ?hd (cs:=#[.int .u64 a0_0,.int .u64 a0_1]) (t:=61) ?hr ?_;(case hd=>rfl);(case hg=>rfl);(case hr=>first|(go_simp;done)|(go_simp;rfl));intro gb101 hg w4 hbox hb;have n0_:=z2.mk (zd (by repeat (first|(with_reducible first|exact HB.out|apply z7|apply z1|apply z6)|exact HB.out)) hb);have n1_:=z2.mk (hbox);have n2_:=z2.mk ((by rw [hg];exact (ze (by repeat (first|(with_reducible first|exact HB.out|apply z7|apply z1|apply z6)|exact HB.out))) : w.heap.size ≤ gb101));have n3_:=z2.mk ((by rw [hg];exact (ze (by repeat (first|(with_reducible first|exact HB.out|apply z7|apply z1|apply z6)|exact HB.out))) : w.heap.size ≤ gb101));clear HB;have HB:=n0_;have BK101:=n1_;have GW101:=n2_;have GE101:=n3_;clear n0_ n1_ n2_ n3_;clear hb hbox hg)|((with_reducible refine zp (f:=75) rfl ?_);refine goesL_ (some 7) rfl rfl Try.func75 (by kernel_rfl) rfl #[.int .i64 a1] rfl (by (try simp only [List.map_toArray,List.map_cons,List.map_nil]);first|done|rfl|(simp only [List.length_drop,List.length_take];rfl)) ?_;(with_reducible refine (zy.calls k a1 t102 t103 _ A3.out).mono ?_);rintro e w5 ⟨rfl,hb⟩;refine ⟨_,rfl,?_⟩;have n0_:=z2.mk (z9 (g:=gb101) (o:=.cells #[.int .u64 a0_0,.int .u64 a0_1] 61 (0,0)) (by (with_reducible repeat (first|refine z4 ?_ _|refine z8 ?_|refine z3 ?_ _));exact BK101.out) hb);have n1_:=z2.mk (zd (by repeat (first|(with_reducible first|exact HB.out|apply z7|apply z1|apply z6|refine z5 ?_ GE101.out)|exact HB.out)) hb);clear BK101;clear HB;have BK101:=n0_;have HB:=n1_;clear n0_ n1_;(try clear hb);(try clear hb2);(try clear hk);(try clear hi))|((with_reducible refine zG (N:=5) rfl ?_);refine zC ?hg (N:=5) ?hd (cs:=#[.int .u64 0,.int .u64 0]) (t:=61) ?hr ?_;(case hd=>rfl);(case hg=>rfl);(case hr=>first|(go_simp;done)|(go_simp;rfl));intro gb104 hg w6 hbox hb;have n0_:=z2.mk (z9 (g:=gb101) (o:=.cells #[.int .u64 a0_0,.int .u64 a0_1] 61 (0,0)) (by (with_reducible repeat (first|refine z4 ?_ _|refine z8 ?_|refine z3 ?_ _));exact BK101.out) hb);have n1_:=z2.mk (zd (by repeat (first|(with_reducible first|exact HB.out|apply z7|apply z1|apply z6|refine z5 ?_ GE101.out)|exact HB.out)) hb);have n2_:=z2.mk (hbox);have n3_:=z2.mk ((by rw [hg];exact (ze (by repeat (first|(with_reducible first|exact HB.out|apply z7|apply z1|apply z6|refine z5 ?_ GE101.out)|exact HB.out))) : w.heap.size ≤ gb104));have n4_:=z2.mk ((by rw [hg];exact (ze (by repeat (first|(with_reducible first|exact HB.out|apply z7|apply z1|apply z6|refine z5 ?_ GE101.out)|exact HB.out))) : w.heap.size ≤ gb104));have n5_:=z2.mk ((by rw [hg];exact Nat.ne_of_lt (zI (g:=gb101) (o:=.cells #[.int .u64 a0_0,.int .u64 a0_1] 61 (0,0)) (by (with_reducible repeat (first|refine z4 ?_ _|refine z8 ?_|refine z3 ?_ _));exact BK101.out)) : gb101 ≠ gb104));have n6_:=z2.mk ((by rw [hg];exact Nat.ne_of_gt (zI (g:=gb101) (o:=.cells #[.int .u64 a0_0,.int .u64 a0_1] 61 (0,0)) (by (with_reducible repeat (first|refine z4 ?_ _|refine z8 ?_|refine z3 ?_ _));exact BK101.out)) : gb104 ≠ gb101));clear BK101;clear HB;have BK101:=n0_;have HB:=n1_;have BK104:=n2_;have GW104:=n3_;have GE104:=n4_;have NB101_104:=n5_;have NB104_101:=n6_;clear n0_ n1_ n2_ n3_ n4_ n5_ n6_;clear hb hbox hg;have hnb7:=NB104_101.out;have hnc7:=NB101_104.out;have hcz8_0 : w6.cell? ⟨gb104,0,none⟩ = some (.int .u64 0):=(za BK104.out 0).trans rfl;have hcz8_1 : w6.cell? ⟨gb104,1,none⟩ = some (.int .u64 0):=(za BK104.out 1).trans rfl;have hfz8_0:=zb BK104.out 0;have hfz8_1:=zb BK104.out 1;have hcz9_0 : w6.cell? ⟨gb101,0,none⟩ = some (.int .u64 a0_0):=(za BK101.out 0).trans rfl;have hcz9_1 : w6.cell? ⟨gb101,1,none⟩ = some (.int .u64 a0_1):=(za BK101.out 1).trans rfl;have hfz9_0:=zb BK101.out 0;have hfz9_1:=zb BK101.out 1))
 go_ret
 exact ⟨by first|rfl|(simp [zl,zm] <;> rfl)|(simp [*,zl,zm] <;> rfl),by repeat (first|(with_reducible first|exact HB.out|apply z7|apply z1|apply z6|refine z5 ?_ GE101.out|refine z5 ?_ GE104.out)|exact HB.out)⟩
end Go.Proofs.Ytngcaphdkgihmaa.P
namespace Go.Proofs.Ytngcaphdkgihmaa.P
open Go.RowKit Go.Proofs.YtngcaphdkgihmaaW.PrintWords Go.Proofs.YtngcaphdkgihmaaW.PrintLast Go.Proofs.YtngcaphdkgihmaaW.PrintMore
attribute [local go_sem] zX zZ z16 z17 zT zU zY z10   -- for this text's walks alone
set_option linter.unusedVariables false
set_option linter.unusedSimpArgs false
def zz.l0 : Nat → Int → Int → Int → Option (Int)
 | 0,_,_,_=>none
 | k + 1,x0,x3,x4=>if x4 < x0 then (zz.l0 k x0 (wrap64 (2 * x3)) (wrap64 (x4 + 1))) else (some x3)
def zz.f (k : Nat) (a0 : Int) : Option (Int):=zz.l0 k a0 1 0
theorem zz.z12 : ∀ k,(∀ y0 y1 y2,LeO (zz.l0 k y0 y1 y2) (zz.l0 (k + 1) y0 y1 y2))
 | 0=>fun _ _ _ r h=>by simp [zz.l0] at h
 | k + 1=>by
  have ih0:=zz.z12 k
  · intro y0 y1 y2
    unfold zz.l0
    repeat' first
    | (with_reducible exact ih0 _ _ _)
    | (with_reducible exact LeO.refl _)
    | (with_reducible exact LeO.none _)
    | (with_reducible refine LeO.ite ?_ ?_)
    | (with_reducible refine LeO.bind ?_ (fun _=>?_))
    | exact ih0 _ _ _
    | exact LeO.none _
    | refine LeO.ite ?_ ?_
    | refine LeO.bind ?_ (fun _=>?_)
theorem zz.mono : ∀ a0 k,LeO (zz.f k a0) (zz.f (k + 1) a0):=by
 intro a0 k
 have ih0:=zz.z12 k
 unfold zz.f
 repeat' first
  | (with_reducible exact ih0 _ _ _)
  | (with_reducible exact LeO.refl _)
  | (with_reducible exact LeO.none _)
  | (with_reducible refine LeO.ite ?_ ?_)
  | (with_reducible refine LeO.bind ?_ (fun _=>?_))
  | exact ih0 _ _ _
  | exact LeO.none _
  | refine LeO.ite ?_ ?_
  | refine LeO.bind ?_ (fun _=>?_)
set_option maxHeartbeats 8000000 in
set_option maxRecDepth 100000 in
theorem zz.calls (k : Nat) (a0 : Int) (r : Int) (w : World) (h : zz.f k a0 = some r) :
 Calls Try.prog 50 #[.int .i64 a0] w fun e w'=>e = .returned (.int .i64 r) ∧ Drawn0 w w':=by
 have H : (zz.l0 k a0 1 0) = some r:=h
 clear h
 have H':=z2.mk H
 clear H
 go_enter Try.func50,Try.ntmps50
 go_wp2
 go_loopg [3,4] k (fun kq v3 v4 w'=>∃ (x3_1 : Int) (x4_1 : Int),v3 = .int .i64 x3_1 ∧ v4 = .int .i64 x4_1 ∧ z2 (zz.l0 kq a0 x3_1 x4_1 = some r) ∧ z2 (kq ≤ k) ∧ Drawn0 w w')
 case atStart=>exact ⟨(1),(0),(by first|rfl|(simp;done)|(simp [*];done)),(by first|rfl|(simp;done)|(simp [*];done)),H',⟨Nat.le_refl _⟩,by repeat (first|exact Drawn0.refl _|apply Drawn0.step)⟩
 case round =>
  clear H'
  obtain ⟨x3_1,x4_1,rfl,rfl,HA,HK1,⟨m1,rfl⟩⟩:=hrel
  cases gk with
  | zero=>exact absurd HA.out (by simp [zz.l0])
  | succ k1 =>
   have H:=HA.out
   clear HA
   simp only [zz.l0] at H
   by_cases c2 : x4_1 < a0
   rotate_left
   · rw [if_neg c2] at H
     have c2b0 : decide (x4_1 < a0) = false:=decide_eq_false c2
     clear c2
     obtain rfl:=Option.some.inj H
     go_wp2
     go_ret
     exact ⟨by first|rfl|(simp;done)|(simp [*];done),by repeat (first|exact Drawn0.refl _|apply Drawn0.step)⟩
   rw [if_pos c2] at H
   have c2b0 : decide (x4_1 < a0) = true:=decide_eq_true c2
   clear c2
   have H':=z2.mk H
   clear H
   go_wp2
   go_roundg k1
   case measure=>have:=HK1.out;omega
   case rel=>exact ⟨(wrap64 (2 * x3_1)),(wrap64 (x4_1 + 1)),(by first|rfl|(simp;done)|(simp [*];done)),(by first|rfl|(simp;done)|(simp [*];done)),H',⟨by have:=HK1.out;omega⟩,by repeat (first|exact Drawn0.refl _|apply Drawn0.step)⟩
end Go.Proofs.Ytngcaphdkgihmaa.P
namespace Go.Proofs.Ytngcaphdkgihmaa.P
open Go.RowKit Go.Proofs.YtngcaphdkgihmaaW.PrintWords Go.Proofs.YtngcaphdkgihmaaW.PrintLast Go.Proofs.YtngcaphdkgihmaaW.PrintMore
attribute [local go_sem] zX zZ z16 z17 zT zU zY z10   -- for this text's walks alone
set_option linter.unusedVariables false
set_option linter.unusedSimpArgs false
def z11.f (k : Nat) (a0 : Int) : Option (Int):=(zz.f k a0).bind fun t101=>(some t101)
theorem z11.mono : ∀ a0 k,LeO (z11.f k a0) (z11.f (k + 1) a0):=by
 intro a0 k
 unfold z11.f
 repeat' first
  | (with_reducible exact zz.mono _ _)
  | (with_reducible exact LeO.refl _)
  | (with_reducible exact LeO.none _)
  | (with_reducible refine LeO.ite ?_ ?_)
  | (with_reducible refine LeO.bind ?_ (fun _=>?_))
  | exact zz.mono _ _
  | exact LeO.none _
  | refine LeO.ite ?_ ?_
  | refine LeO.bind ?_ (fun _=>?_)
set_option maxHeartbeats 8000000 in
set_option maxRecDepth 100000 in
theorem z11.calls (k : Nat) (a0 : Int) (r : Int) (w : World) (h : z11.f k a0 = some r) :
 Calls Try.prog 91 #[.int .i64 a0] w fun e w'=>e = .returned (.int .i64 r) ∧ Drawn0 w w':=by
 have H : ((zz.f k a0).bind fun t101=>(some t101)) = some r:=h
 clear h
 replace H:=Option.bind_eq_some_iff.mp H
 obtain ⟨t101,A20,H⟩:=H
 replace H : (some t101) = some r:=H
 have A2:=z2.mk A20
 clear A20
 obtain rfl:=Option.some.inj H
 go_enter Try.func91,Try.ntmps91
 go_wp2_with (first|((with_reducible refine zp (f:=50) rfl ?_);refine goesL_ (some 4) rfl rfl Try.func50 (by kernel_rfl) rfl #[.int .i64 a0] rfl (by (try simp only [List.map_toArray,List.map_cons,List.map_nil]);first|done|rfl|(simp only [List.length_drop,List.length_take];rfl)) ?_;(with_reducible refine (zz.calls k a0 t101 _ A2.out).mono ?_);rintro e w' ⟨rfl,⟨nd,rfl⟩⟩;refine ⟨_,rfl,?_⟩))
 go_ret
 exact ⟨by first|rfl|(simp;done)|(simp [*];done),by repeat (first|exact Drawn0.refl _|apply Drawn0.step)⟩
end Go.Proofs.Ytngcaphdkgihmaa.P

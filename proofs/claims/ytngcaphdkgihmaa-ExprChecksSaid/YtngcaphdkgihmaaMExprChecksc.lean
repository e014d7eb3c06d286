/- Own text: merged by wip/tools/pack.py out of what the law ExprChecks reaches. -/
import Derived.Test.YtngcaphdkgihmaaMExprChecksb
namespace Go.Proofs.Ytngcaphdkgihmaa.P
open Go.RowKit Go.Proofs.YtngcaphdkgihmaaW.PrintWords Go.Proofs.YtngcaphdkgihmaaW.PrintLast Go.Proofs.YtngcaphdkgihmaaW.PrintMore
attribute [local go_sem] z17 z19 z1e z1f z12 z13 z18 z1a   -- for this text's walks alone
set_option linter.unusedVariables false
set_option linter.unusedSimpArgs false
def zZ.j0 : Nat → Int → Bool → Int → Int → Int → Int → Option (Int × Int)
 | 0,_,_,_,_,_,_=>none
 | k + 1,x0,x10,x102000,x102001,x103000,x103001=>if x10 = true then (some (0,0)) else (if x0 ≤ 6 then ((zA.f k x0 x102001 x103001).bind fun t106=>(some (0,t106))) else ((zA.f k 6 x102000 x103000).bind fun t107=>((zA.f k 6 x102001 x103001).bind fun t108=>((zA.f k 6 (Go.bits .xor .u64 x102000 x102001) (Go.bits .xor .u64 x103000 x103001)).bind fun t109=>((zQ.f k 6 t107).bind fun t110=>(some (Go.bits .xor .u64 (Go.bits .xor .u64 (Go.bits .xor .u64 t109 t107) t108) t110,Go.bits .xor .u64 t108 t107)))))))
def zZ.f (k : Nat) (a0 : Int) (a1_0 : Int) (a1_1 : Int) (a2_0 : Int) (a2_1 : Int) : Option (Int × Int):=(zJ.f k a0 a1_0 a1_1).bind fun t104=>(if t104 = true then ((zJ.f k a0 a2_0 a2_1).bind fun t105=>(zZ.j0 k a0 (!t105) a1_0 a1_1 a2_0 a2_1)) else (zZ.j0 k a0 true a1_0 a1_1 a2_0 a2_1))
theorem zZ.z1b : ∀ k,(∀ y0 y1 y2 y3 y4 y5,LeO (zZ.j0 k y0 y1 y2 y3 y4 y5) (zZ.j0 (k + 1) y0 y1 y2 y3 y4 y5))
 | 0=>fun _ _ _ _ _ _ r h=>by simp [zZ.j0] at h
 | k + 1=>by
  have ih0:=zZ.z1b k
  · intro y0 y1 y2 y3 y4 y5
    unfold zZ.j0
    repeat' first
    | (with_reducible exact ih0 _ _ _ _ _ _)
    | (with_reducible exact zJ.mono _ _ _ _)
    | (with_reducible exact zA.mono _ _ _ _)
    | (with_reducible exact zQ.mono _ _ _)
    | (with_reducible exact LeO.refl _)
    | (with_reducible exact LeO.none _)
    | (with_reducible refine LeO.ite ?_ ?_)
    | (with_reducible refine LeO.bind ?_ (fun _=>?_))
    | exact ih0 _ _ _ _ _ _
    | exact zJ.mono _ _ _ _
    | exact zA.mono _ _ _ _
    | exact zQ.mono _ _ _
    | exact LeO.none _
    | refine LeO.ite ?_ ?_
    | refine LeO.bind ?_ (fun _=>?_)
theorem zZ.mono : ∀ a0 a1 a2 a3 a4 k,LeO (zZ.f k a0 a1 a2 a3 a4) (zZ.f (k + 1) a0 a1 a2 a3 a4):=by
 intro a0 a1 a2 a3 a4 k
 have ih0:=zZ.z1b k
 unfold zZ.f
 repeat' first
  | (with_reducible exact ih0 _ _ _ _ _ _)
  | (with_reducible exact zJ.mono _ _ _ _)
  | (with_reducible exact zA.mono _ _ _ _)
  | (with_reducible exact zQ.mono _ _ _)
  | (with_reducible exact LeO.refl _)
  | (with_reducible exact LeO.none _)
  | (with_reducible refine LeO.ite ?_ ?_)
  | (with_reducible refine LeO.bind ?_ (fun _=>?_))
  | exact ih0 _ _ _ _ _ _
  | exact zJ.mono _ _ _ _
  | exact zA.mono _ _ _ _
  | exact zQ.mono _ _ _
  | exact LeO.none _
  | refine LeO.ite ?_ ?_
  | refine LeO.bind ?_ (fun _=>?_)
set_option maxHeartbeats 8000000 in
set_option maxRecDepth 100000 in
theorem zZ.calls (k : Nat) (a0 : Int) (a1_0 : Int) (a1_1 : Int) (a2_0 : Int) (a2_1 : Int) (r1 : Int) (r2 : Int) (w : World) (h : zZ.f k a0 a1_0 a1_1 a2_0 a2_1 = some (r1,r2)) :
 Calls Try.prog 41 #[.int .i64 a0,.agg #[.int .u64 a1_0,.int .u64 a1_1],.agg #[.int .u64 a2_0,.int .u64 a2_1]] w fun e w'=>e = .returned (.agg #[.int .u64 r1,.int .u64 r2]) ∧ Below w.heap.size w w':=by
 have hu51:=Try.underlying51
 have HB:=z7.mk (Below.refl w.heap.size w)
 have H : ((zJ.f k a0 a1_0 a1_1).bind fun t104=>(if t104 = true then ((zJ.f k a0 a2_0 a2_1).bind fun t105=>(zZ.j0 k a0 (!t105) a1_0 a1_1 a2_0 a2_1)) else (zZ.j0 k a0 true a1_0 a1_1 a2_0 a2_1))) = some (r1,r2):=h
 clear h
 have HC4:=z7.mk H
 clear H
 go_enter Try.func41,Try.ntmps41
 go_upto_region 1 with (first|((with_reducible refine zG (N:=4) rfl ?_);refine zE ?hg (N:=4) ?hd (cs:=#[.int .u64 a1_0,.int .u64 a1_1]) (t:=51) ?hr ?_;(case hd=>rfl);(case hg=>rfl);(case hr=>first|(go_simp;done)|(go_simp;rfl));intro gb101 hg w5 hbox hb;have n0_:=z7.mk (zg (by repeat (first|(with_reducible first|exact HB.out|apply z4|apply z0|apply z3)|exact HB.out)) hb);have n1_:=z7.mk (hbox);have n2_:=z7.mk ((by rw [hg];exact (zf (by repeat (first|(with_reducible first|exact HB.out|apply z4|apply z0|apply z3)|exact HB.out))) : w.heap.size ≤ gb101));have n3_:=z7.mk ((by rw [hg];exact (zf (by repeat (first|(with_reducible first|exact HB.out|apply z4|apply z0|apply z3)|exact HB.out))) : w.heap.size ≤ gb101));clear HB;have HB:=n0_;have BK101:=n1_;have GW101:=n2_;have GE101:=n3_;clear n0_ n1_ n2_ n3_;clear hb hbox hg)|((with_reducible refine zG (N:=5) rfl ?_);refine zE ?hg (N:=5) ?hd (cs:=#[.int .u64 a2_0,.int .u64 a2_1]) (t:=51) ?hr ?_;(case hd=>rfl);(case hg=>rfl);(case hr=>first|(go_simp;done)|(go_simp;rfl));intro gb102 hg w6 hbox hb;have n0_:=z7.mk (zk (g:=gb101) (o:=.cells #[.int .u64 a1_0,.int .u64 a1_1] 51 (0,0)) (by (with_reducible repeat (first|refine z2 ?_ _|refine z5 ?_|refine z1 ?_ _));exact BK101.out) hb);have n1_:=z7.mk (zg (by repeat (first|(with_reducible first|exact HB.out|apply z4|apply z0|apply z3|refine z9 ?_ GE101.out)|exact HB.out)) hb);have n2_:=z7.mk (hbox);have n3_:=z7.mk ((by rw [hg];exact (zf (by repeat (first|(with_reducible first|exact HB.out|apply z4|apply z0|apply z3|refine z9 ?_ GE101.out)|exact HB.out))) : w.heap.size ≤ gb102));have n4_:=z7.mk ((by rw [hg];exact (zf (by repeat (first|(with_reducible first|exact HB.out|apply z4|apply z0|apply z3|refine z9 ?_ GE101.out)|exact HB.out))) : w.heap.size ≤ gb102));have n5_:=z7.mk ((by rw [hg];exact Nat.ne_of_lt (zP (g:=gb101) (o:=.cells #[.int .u64 a1_0,.int .u64 a1_1] 51 (0,0)) (by (with_reducible repeat (first|refine z2 ?_ _|refine z5 ?_|refine z1 ?_ _));exact BK101.out)) : gb101 ≠ gb102));have n6_:=z7.mk ((by rw [hg];exact Nat.ne_of_gt (zP (g:=gb101) (o:=.cells #[.int .u64 a1_0,.int .u64 a1_1] 51 (0,0)) (by (with_reducible repeat (first|refine z2 ?_ _|refine z5 ?_|refine z1 ?_ _));exact BK101.out)) : gb102 ≠ gb101));clear BK101;clear HB;have BK101:=n0_;have HB:=n1_;have BK102:=n2_;have GW102:=n3_;have GE102:=n4_;have NB101_102:=n5_;have NB102_101:=n6_;clear n0_ n1_ n2_ n3_ n4_ n5_ n6_;clear hb hbox hg)|((with_reducible refine zG (N:=6) rfl ?_);refine zE ?hg (N:=6) ?hd (cs:=#[.int .u64 0,.int .u64 0]) (t:=51) ?hr ?_;(case hd=>rfl);(case hg=>rfl);(case hr=>first|(go_simp;done)|(go_simp;rfl));intro gb103 hg w7 hbox hb;have n0_:=z7.mk (zk (g:=gb101) (o:=.cells #[.int .u64 a1_0,.int .u64 a1_1] 51 (0,0)) (by (with_reducible repeat (first|refine z2 ?_ _|refine z5 ?_|refine z1 ?_ _));exact BK101.out) hb);have n1_:=z7.mk (zk (g:=gb102) (o:=.cells #[.int .u64 a2_0,.int .u64 a2_1] 51 (0,0)) (by (with_reducible repeat (first|refine z2 ?_ _|refine z5 ?_|refine z1 ?_ _));exact BK102.out) hb);have n2_:=z7.mk (zg (by repeat (first|(with_reducible first|exact HB.out|apply z4|apply z0|apply z3|refine z9 ?_ GE101.out|refine z9 ?_ GE102.out)|exact HB.out)) hb);have n3_:=z7.mk (hbox);have n4_:=z7.mk ((by rw [hg];exact (zf (by repeat (first|(with_reducible first|exact HB.out|apply z4|apply z0|apply z3|refine z9 ?_ GE101.out|refine z9 ?_ GE102.out)|exact HB.out))) : w.heap.size ≤ gb103));have n5_:=z7.mk ((by rw [hg];exact (zf (by repeat (first|(with_reducible first|exact HB.out|apply z4|apply z0|apply z3|refine z9 ?_ GE101.out|refine z9 ?_ GE102.out)|exact HB.out))) : w.heap.size ≤ gb103));have n6_:=z7.mk ((by rw [hg];exact Nat.ne_of_lt (zP (g:=gb101) (o:=.cells #[.int .u64 a1_0,.int .u64 a1_1] 51 (0,0)) (by (with_reducible repeat (first|refine z2 ?_ _|refine z5 ?_|refine z1 ?_ _));exact BK101.out)) : gb101 ≠ gb103));have n7_:=z7.mk ((by rw [hg];exact Nat.ne_of_gt (zP (g:=gb101) (o:=.cells #[.int .u64 a1_0,.int .u64 a1_1] 51 (0,0)) (by (with_reducible repeat (first|refine z2 ?_ _|refine z5 ?_|refine z1 ?_ _));exact BK101.out)) : gb103 ≠ gb101));have n8_:=z7.mk ((by rw [hg];exact Nat.ne_of_lt (zP (g:=gb102) (o:=.cells #[.int .u64 a2_0,.int .u64 a2_1] 51 (0,0)) (by (with_reducible repeat (first|refine z2 ?_ _|refine z5 ?_|refine z1 ?_ _));exact BK102.out)) : gb102 ≠ gb103));have n9_:=z7.mk ((by rw [hg];exact Nat.ne_of_gt (zP (g:=gb102) (o:=.cells #[.int .u64 a2_0,.int .u64 a2_1] 51 (0,0)) (by (with_reducible repeat (first|refine z2 ?_ _|refine z5 ?_|refine z1 ?_ _));exact BK102.out)) : gb103 ≠ gb102));clear BK101;clear BK102;clear HB;have BK101:=n0_;have BK102:=n1_;have HB:=n2_;have BK103:=n3_;have GW103:=n4_;have GE103:=n5_;have NB101_103:=n6_;have NB103_101:=n7_;have NB102_103:=n8_;have NB103_102:=n9_;clear n0_ n1_ n2_ n3_ n4_ n5_ n6_ n7_ n8_ n9_;clear hb hbox hg))
 repeat (go_quiet (first|((with_reducible refine zG (N:=4) rfl ?_);refine zE ?hg (N:=4) ?hd (cs:=#[.int .u64 a1_0,.int .u64 a1_1]) (t:=51) ?hr ?_;(case hd=>rfl);(case hg=>rfl);(case hr=>first|(go_simp;done)|(go_simp;rfl));intro gb101 hg w5 hbox hb;have n0_:=z7.mk (zg (by repeat (first|(with_reducible first|exact HB.out|apply z4|apply z0|apply z3)|exact HB.out)) hb);have n1_:=z7.mk (hbox);have n2_:=z7.mk ((by rw [hg];exact (zf (by repeat (first|(with_reducible first|exact HB.out|apply z4|apply z0|apply z3)|exact HB.out))) : w.heap.size ≤ gb101));have n3_:=z7.mk ((by rw [hg];exact (zf (by repeat (first|(with_reducible first|exact HB.out|apply z4|apply z0|apply z3)|exact HB.out))) : w.heap.size ≤ gb101));clear HB;have HB:=n0_;have BK101:=n1_;have GW101:=n2_;have GE101:=n3_;clear n0_ n1_ n2_ n3_;clear hb hbox hg)|((with_reducible refine zG (N:=5) rfl ?_);refine zE ?hg (N:=5) ?hd (cs:=#[.int .u64 a2_0,.int .u64 a2_1]) (t:=51) ?hr ?_;(case hd=>rfl);(case hg=>rfl);(case hr=>first|(go_simp;done)|(go_simp;rfl));intro gb102 hg w6 hbox hb;have n0_:=z7.mk (zk (g:=gb101) (o:=.cells #[.int .u64 a1_0,.int .u64 a1_1] 51 (0,0)) (by (with_reducible repeat (first|refine z2 ?_ _|refine z5 ?_|refine z1 ?_ _));exact BK101.out) hb);have n1_:=z7.mk (zg (by repeat (first|(with_reducible first|exact HB.out|apply z4|apply z0|apply z3|refine z9 ?_ GE101.out)|exact HB.out)) hb);have n2_:=z7.mk (hbox);have n3_:=z7.mk ((by rw [hg];exact (zf (by repeat (first|(with_reducible first|exact HB.out|apply z4|apply z0|apply z3|refine z9 ?_ GE101.out)|exact HB.out))) : w.heap.size ≤ gb102));have n4_:=z7.mk ((by rw [hg];exact (zf (by repeat (first|(with_reducible first|exact HB.out|apply z4|apply z0|apply z3|refine z9 ?_ GE101.out)|exact HB.out))) : w.heap.size ≤ gb102));have n5_:=z7.mk ((by rw [hg];exact Nat.ne_of_lt (zP (g:=gb101) (o:=.cells #[.int .u64 a1_0,.int .u64 a1_1] 51 (0,0)) (by (with_reducible repeat (first|refine z2 ?_ _|refine z5 ?_|refine z1 ?_ _));exact BK101.out)) : gb101 ≠ gb102));have n6_:=z7.mk ((by rw [hg];exact Nat.ne_of_gt (zP (g:=gb101) (o:=.cells #[.int .u64 a1_0,.int .u64 a1_1] 51 (0,0)) (by (with_reducible repeat (first|refine z2 ?_ _|refine z5 ?_|refine z1 ?_ _));exact BK101.out)) : gb102 ≠ gb101));clear BK101;clear HB;have BK101:=n0_;have HB:=n1_;have BK102:=n2_;have GW102:=n3_;have GE102:=n4_;have NB101_102:=n5_;have NB102_101:=n6_;clear n0_ n1_ n2_ n3_ n4_ n5_ n6_;clear hb hbox hg)|((with_reducible refine zG (N:=6) rfl ?_);refine zE ?hg (N:=6) ?hd (cs:=#[.int .u64 0,.int .u64 0]) (t:=51) ?hr ?_;(case hd=>rfl);(case hg=>rfl);(case hr=>first|(go_simp;done)|(go_simp;rfl));intro gb103 hg w7 hbox hb;have n0_:=z7.mk (zk (g:=gb101) (o:=.cells #[.int .u64 a1_0,.int .u64 a1_1] 51 (0,0)) (by (with_reducible repeat (first|refine z2 ?_ _|refine z5 ?_|refine z1 ?_ _));exact BK101.out) hb);have n1_:=z7.mk (zk (g:=gb102) (o:=.cells #[.int .u64 a2_0,.int .u64 a2_1] 51 (0,0)) (by (with_reducible repeat (first|refine z2 ?_ _|refine z5 ?_|refine z1 ?_ _));exact BK102.out) hb);have n2_:=z7.mk (zg (by repeat (first|(with_reducible first|exact HB.out|apply z4|apply z0|apply z3|refine z9 ?_ GE101.out|refine z9 ?_ GE102.out)|exact HB.out)) hb);have n3_:=z7.mk (hbox);have n4_:=z7.mk ((by rw [hg];exact (zf (by repeat (first|(with_reducible first|exact HB.out|apply z4|apply z0|apply z3|refine z9 ?_ GE101.out|refine z9 ?_ GE102.out)|exact HB.out))) : w.heap.size ≤ gb103));have n5_:=z7.mk ((by rw [hg];exact (zf (by repeat (first|(with_reducible first|exact HB.out|apply z4|apply z0|apply z3|refine z9 ?_ GE101.out|refine z9 ?_ GE102.out)|exact HB.out))) : w.heap.size ≤ gb103));have n6_:=z7.mk ((by rw [hg];exact Nat.ne_of_lt (zP (g:=gb101) (o:=.cells #[.int .u64 a1_0,.int .u64 a1_1] 51 (0,0)) (by (with_reducible repeat (first|refine z2 ?_ _|refine z5 ?_|refine z1 ?_ _));exact BK101.out)) : gb101 ≠ gb103));have n7_:=z7.mk ((by rw [hg];exact Nat.ne_of_gt (zP (g:=gb101) (o:=.cells #[.int .u64 a1_0,.int .u64 a1_1] 51 (0,0)) (by (with_reducible repeat (first|refine z2 ?_ _|refine z5 ?_|refine z1 ?_ _));exact BK101.out)) : gb103 ≠ gb101));have n8_:=z7.mk ((by rw [hg];exact Nat.ne_of_lt (zP (g:=gb102) (o:=.cells #[.int .u64 a2_0,.int .u64 a2_1] 51 (0,0)) (by (with_reducible repeat (first|refine z2 ?_ _|refine z5 ?_|refine z1 ?_ _));exact BK102.out)) : gb102 ≠ gb103));have n9_:=z7.mk ((by rw [hg];exact Nat.ne_of_gt (zP (g:=gb102) (o:=.cells #[.int .u64 a2_0,.int .u64 a2_1] 51 (0,0)) (by (with_reducible repeat (first|refine z2 ?_ _|refine z5 ?_|refine z1 ?_ _));exact BK102.out)) : gb103 ≠ gb102));clear BK101;clear BK102;clear HB;have BK101:=n0_;have BK102:=n1_;have HB:=n2_;have BK103:=n3_;have GW103:=n4_;have GE103:=n5_;have NB101_103:=n6_;have NB103_101:=n7_;have NB102_103:=n8_;have NB103_102:=n9_;clear n0_ n1_ n2_ n3_ n4_ n5_ n6_ n7_ n8_ n9_;clear hb hbox hg));go_upto_region 1 with (first|((with_reducible refine zG (N:=4) rfl ?_);refine zE ?hg (N:=4) ?hd (cs:=#[.int .u64 a1_0,.int .u64 a1_1]) (t:=51) ?hr ?_;(case hd=>rfl);(case hg=>rfl);(case hr=>first|(go_simp;done)|(go_simp;rfl));intro gb101 hg w5 hbox hb;have n0_:=z7.mk (zg (by repeat (first|(with_reducible first|exact HB.out|apply z4|apply z0|apply z3)|exact HB.out)) hb);have n1_:=z7.mk (hbox);have n2_:=z7.mk ((by rw [hg];exact (zf (by repeat (first|(with_reducible first|exact HB.out|apply z4|apply z0|apply z3)|exact HB.out))) : w.heap.size ≤ gb101));have n3_:=z7.mk ((by rw [hg];exact (zf (by repeat (first|(with_reducible first|exact HB.out|apply z4|apply z0|apply z3)|exact HB.out))) : w.heap.size ≤ gb101));clear HB;have HB:=n0_;have BK101:=n1_;have GW101:=n2_;have GE101:=n3_;clear n0_ n1_ n2_ n3_;clear hb hbox hg)|((with_reducible refine zG (N:=5) rfl ?_);refine zE ?hg (N:=5) ?hd (cs:=#[.int .u64 a2_0,.int .u64 a2_1]) (t:=51) ?hr ?_;(case hd=>rfl);(case hg=>rfl);(case hr=>first|(go_simp;done)|(go_simp;rfl));intro gb102 hg w6 hbox hb;have n0_:=z7.mk (zk (g:=gb101) (o:=.cells #[.int .u64 a1_0,.int .u64 a1_1] 51 (0,0)) (by (with_reducible repeat (first|refine z2 ?_ _|refine z5 ?_|refine z1 ?_ _));exact BK101.out) hb);have n1_:=z7.mk (zg (by repeat (first|(with_reducible first|exact HB.out|apply z4|apply z0|apply z3|refine z9 ?_ GE101.out)|exact HB.out)) hb);have n2_:=z7.mk (hbox);have n3_:=z7.mk ((by rw [hg];exact (zf (by repeat (first|(with_reducible first|exact HB.out|apply z4|apply z0|apply z3|refine z9 ?_ GE101.out)|exact HB.out))) : w.heap.size ≤ gb102));have n4_:=z7.mk ((by rw [hg];exact (zf (by repeat (first|(with_reducible first|exact HB.out|apply z4|apply z0|apply z3|refine z9 ?_ GE101.out)|exact HB.out))) : w.heap.size ≤ gb102));have n5_:=z7.mk ((by rw [hg];exact Nat.ne_of_lt (zP (g:=gb101) (o:=.cells #[.int .u64 a1_0,.int .u64 a1_1] 51 (0,0)) (by (with_reducible repeat (first|refine z2 ?_ _|refine z5 ?_|refine z1 ?_ _));exact BK101.out)) : gb101 ≠ gb102));have n6_:=z7.mk ((by rw [hg];exact Nat.ne_of_gt (zP (g:=gb101) (o:=.cells #[.int .u64 a1_0,.int .u64 a1_1] 51 (0,0)) (by (with_reducible repeat (first|refine z2 ?_ _|refine z5 ?_|refine z1 ?_ _));exact BK101.out)) : gb102 ≠ gb101));clear BK101;clear HB;have BK101:=n0_;have HB:=n1_;have BK102:=n2_;have GW102:=n3_;have GE102:=n4_;have NB101_102:=n5_;have NB102_101:=n6_;clear n0_ n1_ n2_ n3_ n4_ n5_ n6_;clear hb hbox hg)|((with_reducible refine zG (N:=6) rfl ?_);refine zE ?hg (N:=6) ?hd (cs:=#[.int .u64 0,.int .u64 0]) (t:=51) ?hr ?_;(case hd=>rfl);(case hg=>rfl);(case hr=>first|(go_simp;done)|(go_simp;rfl));intro gb103 hg w7 hbox hb;have n0_:=z7.mk (zk (g:=gb101) (o:=.cells #[.int .u64 a1_0,.int .u64 a1_1] 51 (0,0)) (by (with_reducible repeat (first|refine z2 ?_ _|refine z5 ?_|refine z1 ?_ _));exact BK101.out) hb);have n1_:=z7.mk (zk (g:=gb102) (o:=.cells #[.int .u64 a2_0,.int .u64 a2_1] 51 (0,0)) (by (with_reducible repeat (first|refine z2 ?_ _|refine z5 ?_|refine z1 ?_ _));exact BK102.out) hb);have n2_:=z7.mk (zg (by repeat (first|(with_reducible first|exact HB.out|apply z4|apply z0|apply z3|refine z9 ?_ GE101.out|refine z9 ?_ GE102.out)|exact HB.out)) hb);have n3_:=z7.mk (hbox);have n4_:=z7.mk ((by rw [hg];exact (zf (by repeat (first|(with_reducible first|exact HB.out|apply z4|apply z0|apply z3|refine z9 ?_ GE101.out|refine z9 ?_ GE102.out)|exact HB.out))) : w.heap.size ≤ gb103));have n5_:=z7.mk ((by rw [hg];exact (zf (by repeat (first|(with_reducible first|exact HB.out|apply z4|apply z0|apply z3|refine z9 ?_ GE101.out|refine z9 ?_ GE102.out)|exact HB.out))) : w.heap.size ≤ gb103));have n6_:=z7.mk ((by rw [hg];exact Nat.ne_of_lt (zP (g:=gb101) (o:=.cells #[.int .u64 a1_0,.int .u64 a1_1] 51 (0,0)) (by (with_reducible repeat (first|refine z2 ?_ _|refine z5 ?_|refine z1 ?_ _));exact BK101.out)) : gb101 ≠ gb103));have n7_:=z7.mk ((by rw [hg];exact Nat.ne_of_gt (zP (g:=gb101) (o:=.cells #[.int .u64 a1_0,.int .u64 a1_1] 51 (0,0)) (by (with_reducible repeat (first|refine z2 ?_ _|refine z5 ?_|refine z1 ?_ _));exact BK101.out)) : gb103 ≠ gb101));have n8_:=z7.mk ((by rw [hg];exact Nat.ne_of_lt (zP (g:=gb102) (o:=.cells #[.int .u64 a2_0,.int .u64 a2_1] 51 (0,0)) (by (with_reducible repeat (first|refine z2 ?_ _|refine z5 ?_|refine z1 ?_ _));exact BK102.out)) : gb102 ≠ gb103));have n9_:=z7.mk ((by rw [hg];exact Nat.ne_of_gt (zP (g:=gb102) (o:=.cells #[.int .u64 a2_0,.int .u64 a2_1] 51 (0,0)) (by (with_reducible repeat (first|refine z2 ?_ _|refine z5 ?_|refine z1 ?_ _));exact BK102.out)) : gb103 ≠ gb102));clear BK101;clear BK102;clear HB;have BK101:=n0_;have BK102:=n1_;have HB:=n2_;have BK103:=n3_;have GW103:=n4_;have GE103:=n5_;have NB101_103:=n6_;have NB103_101:=n7_;have NB102_103:=n8_;have NB103_102:=n9_;clear n0_ n1_ n2_ n3_ n4_ n5_ n6_ n7_ n8_ n9_;clear hb hbox hg)))
 (try simp only [Act.put,List.setIfInBounds_toArray,List.set_cons_zero,List.set_cons_succ])
 go_cut [10] (fun v10 wc=>∃ (kq : Nat) (x10_3 : Bool),v10 = .bool x10_3 ∧ z7 (zZ.j0 kq a0 x10_3 a1_0 a1_1 a2_0 a2_1 = some (r1,r2)) ∧ z7 (kq ≤ k) ∧ z7 (wc.heap[gb101]? = some (.cells #[.int .u64 a1_0,.int .u64 a1_1] 51 (0,0))) ∧ z7 (wc.heap[gb102]? = some (.cells #[.int .u64 a2_0,.int .u64 a2_1] 51 (0,0))) ∧ z7 (wc.heap[gb103]? = some (.cells #[.int .u64 0,.int .u64 0] 51 (0,0))) ∧ z7 (Below w.heap.size w wc))
 case first =>
  have H:=HC4.out
  clear HC4
  replace H:=Option.bind_eq_some_iff.mp H
  obtain ⟨t104,A80,H⟩:=H
  replace H : (if t104 = true then ((zJ.f k a0 a2_0 a2_1).bind fun t105=>(zZ.j0 k a0 (!t105) a1_0 a1_1 a2_0 a2_1)) else (zZ.j0 k a0 true a1_0 a1_1 a2_0 a2_1)) = some (r1,r2):=H
  have A8:=z7.mk A80
  clear A80
  by_cases c9 : t104 = true
  rotate_left
  · replace c9:=Bool.eq_false_iff.mpr c9
    subst c9
    have H1 : (zZ.j0 k a0 true a1_0 a1_1 a2_0 a2_1) = some (r1,r2):=by rw [if_neg (show ¬ (false = true) by decide)] at H;exact H
    clear H
    have H:=H1
    clear H1
    have H':=z7.mk H
    clear H
    have hnb18:=NB101_102.out
    have hnc18:=NB102_101.out
    have hnb19:=NB101_103.out
    have hnc19:=NB103_101.out
    have hcz20_0 : w7.cell? ⟨gb101,0,none⟩ = some (.int .u64 a1_0):=(zb BK101.out 0).trans rfl
    have hcz20_1 : w7.cell? ⟨gb101,1,none⟩ = some (.int .u64 a1_1):=(zb BK101.out 1).trans rfl
    have hfz20_0:=z8 BK101.out 0
    have hfz20_1:=z8 BK101.out 1
    go_wp2_with (first|(go_at_call 67;(with_reducible refine (zJ.calls k a0 a1_0 a1_1 false _ A8.out).mono ?_);rintro e w21 ⟨rfl,hb⟩;have n0_:=z7.mk (zk (g:=gb101) (o:=.cells #[.int .u64 a1_0,.int .u64 a1_1] 51 (0,0)) (by (with_reducible repeat (first|refine z2 ?_ _|refine z5 ?_|refine z1 ?_ _));exact BK101.out) hb);have n1_:=z7.mk (zk (g:=gb102) (o:=.cells #[.int .u64 a2_0,.int .u64 a2_1] 51 (0,0)) (by (with_reducible repeat (first|refine z2 ?_ _|refine z5 ?_|refine z1 ?_ _));exact BK102.out) hb);have n2_:=z7.mk (zk (g:=gb103) (o:=.cells #[.int .u64 0,.int .u64 0] 51 (0,0)) (by (with_reducible repeat (first|refine z2 ?_ _|refine z5 ?_|refine z1 ?_ _));exact BK103.out) hb);have n3_:=z7.mk (zg (by repeat (first|(with_reducible first|exact HB.out|apply z4|apply z0|apply z3|refine z9 ?_ GE101.out|refine z9 ?_ GE102.out|refine z9 ?_ GE103.out)|exact HB.out)) hb);clear BK101;clear BK102;clear BK103;clear HB;have BK101:=n0_;have BK102:=n1_;have BK103:=n2_;have HB:=n3_;clear n0_ n1_ n2_ n3_;(try clear hb);(try clear hb2);(try clear hk);(try clear hi)))
    repeat (go_quiet (first|(go_at_call 67;(with_reducible refine (zJ.calls k a0 a1_0 a1_1 false _ A8.out).mono ?_);rintro e w21 ⟨rfl,hb⟩;have n0_:=z7.mk (zk (g:=gb101) (o:=.cells #[.int .u64 a1_0,.int .u64 a1_1] 51 (0,0)) (by (with_reducible repeat (first|refine z2 ?_ _|refine z5 ?_|refine z1 ?_ _));exact BK101.out) hb);have n1_:=z7.mk (zk (g:=gb102) (o:=.cells #[.int .u64 a2_0,.int .u64 a2_1] 51 (0,0)) (by (with_reducible repeat (first|refine z2 ?_ _|refine z5 ?_|refine z1 ?_ _));exact BK102.out) hb);have n2_:=z7.mk (zk (g:=gb103) (o:=.cells #[.int .u64 0,.int .u64 0] 51 (0,0)) (by (with_reducible repeat (first|refine z2 ?_ _|refine z5 ?_|refine z1 ?_ _));exact BK103.out) hb);have n3_:=z7.mk (zg (by repeat (first|(with_reducible first|exact HB.out|apply z4|apply z0|apply z3|refine z9 ?_ GE101.out|refine z9 ?_ GE102.out|refine z9 ?_ GE103.out)|exact HB.out)) hb);clear BK101;clear BK102;clear BK103;clear HB;have BK101:=n0_;have BK102:=n1_;have BK103:=n2_;have HB:=n3_;clear n0_ n1_ n2_ n3_;(try clear hb);(try clear hb2);(try clear hk);(try clear hi)));try go_wp2_with (first|(go_at_call 67;(with_reducible refine (zJ.calls k a0 a1_0 a1_1 false _ A8.out).mono ?_);rintro e w21 ⟨rfl,hb⟩;have n0_:=z7.mk (zk (g:=gb101) (o:=.cells #[.int .u64 a1_0,.int .u64 a1_1] 51 (0,0)) (by (with_reducible repeat (first|refine z2 ?_ _|refine z5 ?_|refine z1 ?_ _));exact BK101.out) hb);have n1_:=z7.mk (zk (g:=gb102) (o:=.cells #[.int .u64 a2_0,.int .u64 a2_1] 51 (0,0)) (by (with_reducible repeat (first|refine z2 ?_ _|refine z5 ?_|refine z1 ?_ _));exact BK102.out) hb);have n2_:=z7.mk (zk (g:=gb103) (o:=.cells #[.int .u64 0,.int .u64 0] 51 (0,0)) (by (with_reducible repeat (first|refine z2 ?_ _|refine z5 ?_|refine z1 ?_ _));exact BK103.out) hb);have n3_:=z7.mk (zg (by repeat (first|(with_reducible first|exact HB.out|apply z4|apply z0|apply z3|refine z9 ?_ GE101.out|refine z9 ?_ GE102.out|refine z9 ?_ GE103.out)|exact HB.out)) hb);clear BK101;clear BK102;clear BK103;clear HB;have BK101:=n0_;have BK102:=n1_;have BK103:=n2_;have HB:=n3_;clear n0_ n1_ n2_ n3_;(try clear hb);(try clear hb2);(try clear hk);(try clear hi))))
    go_meet
    case rel=>exact ⟨_,(true),(by first|rfl|(simp;done)|(simp [*];done)),H',⟨by first|omega|exact Nat.le_refl _⟩,⟨by (with_reducible repeat (first|refine z2 ?_ _|refine z5 ?_|refine z1 ?_ _));exact BK101.out⟩,⟨by (with_reducible repeat (first|refine z2 ?_ _|refine z5 ?_|refine z1 ?_ _));exact BK102.out⟩,⟨by (with_reducible repeat (first|refine z2 ?_ _|refine z5 ?_|refine z1 ?_ _));exact BK103.out⟩,⟨by repeat (first|(with_reducible first|exact HB.out|apply z4|apply z0|apply z3|refine z9 ?_ GE101.out|refine z9 ?_ GE102.out|refine z9 ?_ GE103.out)|exact HB.out)⟩⟩
  subst c9
  have H1 : ((zJ.f k a0 a2_0 a2_1).bind fun t105=>(zZ.j0 k a0 (!t105) a1_0 a1_1 a2_0 a2_1)) = some (r1,r2):=by rw [if_pos rfl] at H;exact H
  clear H
  have H:=H1
  clear H1
  replace H:=Option.bind_eq_some_iff.mp H
  obtain ⟨t105,A100,H⟩:=H
  replace H : (zZ.j0 k a0 (!t105) a1_0 a1_1 a2_0 a2_1) = some (r1,r2):=H
  have A10:=z7.mk A100
  clear A100
  have H':=z7.mk H
  clear H
  have hnb11:=NB101_102.out
  have hnc11:=NB102_101.out
  have hnb12:=NB101_103.out
  have hnc12:=NB103_101.out
  have hcz13_0 : w7.cell? ⟨gb101,0,none⟩ = some (.int .u64 a1_0):=(zb BK101.out 0).trans rfl
  have hcz13_1 : w7.cell? ⟨gb101,1,none⟩ = some (.int .u64 a1_1):=(zb BK101.out 1).trans rfl
  have hfz13_0:=z8 BK101.out 0
  have hfz13_1:=z8 BK101.out 1
  go_wp2_with (first|(go_at_call 67;(with_reducible refine (zJ.calls k a0 a1_0 a1_1 true _ A8.out).mono ?_);rintro e w14 ⟨rfl,hb⟩;have n0_:=z7.mk (zk (g:=gb101) (o:=.cells #[.int .u64 a1_0,.int .u64 a1_1] 51 (0,0)) (by (with_reducible repeat (first|refine z2 ?_ _|refine z5 ?_|refine z1 ?_ _));exact BK101.out) hb);have n1_:=z7.mk (zk (g:=gb102) (o:=.cells #[.int .u64 a2_0,.int .u64 a2_1] 51 (0,0)) (by (with_reducible repeat (first|refine z2 ?_ _|refine z5 ?_|refine z1 ?_ _));exact BK102.out) hb);have n2_:=z7.mk (zk (g:=gb103) (o:=.cells #[.int .u64 0,.int .u64 0] 51 (0,0)) (by (with_reducible repeat (first|refine z2 ?_ _|refine z5 ?_|refine z1 ?_ _));exact BK103.out) hb);have n3_:=z7.mk (zg (by repeat (first|(with_reducible first|exact HB.out|apply z4|apply z0|apply z3|refine z9 ?_ GE101.out|refine z9 ?_ GE102.out|refine z9 ?_ GE103.out)|exact HB.out)) hb);clear BK101;clear BK102;clear BK103;clear HB;have BK101:=n0_;have BK102:=n1_;have BK103:=n2_;have HB:=n3_;clear n0_ n1_ n2_ n3_;(try clear hb);(try clear hb2);(try clear hk);(try clear hi);have hnb15:=NB102_103.out;have hnc15:=NB103_102.out;have hcz16_0 : w14.cell? ⟨gb102,0,none⟩ = some (.int .u64 a2_0):=(zb BK102.out 0).trans rfl;have hcz16_1 : w14.cell? ⟨gb102,1,none⟩ = some (.int .u64 a2_1):=(zb BK102.out 1).trans rfl;have hfz16_0:=z8 BK102.out 0;have hfz16_1:=z8 BK102.out 1)|(go_at_call 67;(with_reducible refine (zJ.calls k a0 a2_0 a2_1 t105 _ A10.out).mono ?_);rintro e w17 ⟨rfl,hb⟩;have n0_:=z7.mk (zk (g:=gb101) (o:=.cells #[.int .u64 a1_0,.int .u64 a1_1] 51 (0,0)) (by (with_reducible repeat (first|refine z2 ?_ _|refine z5 ?_|refine z1 ?_ _));exact BK101.out) hb);have n1_:=z7.mk (zk (g:=gb102) (o:=.cells #[.int .u64 a2_0,.int .u64 a2_1] 51 (0,0)) (by (with_reducible repeat (first|refine z2 ?_ _|refine z5 ?_|refine z1 ?_ _));exact BK102.out) hb);have n2_:=z7.mk (zk (g:=gb103) (o:=.cells #[.int .u64 0,.int .u64 0] 51 (0,0)) (by (with_reducible repeat (first|refine z2 ?_ _|refine z5 ?_|refine z1 ?_ _));exact BK103.out) hb);have n3_:=z7.mk (zg (by repeat (first|(with_reducible first|exact HB.out|apply z4|apply z0|apply z3|refine z9 ?_ GE101.out|refine z9 ?_ GE102.out|refine z9 ?_ GE103.out)|exact HB.out)) hb);clear BK101;clear BK102;clear BK103;clear HB;have BK101:=n0_;have BK102:=n1_;have BK103:=n2_;have HB:=n3_;clear n0_ n1_ n2_ n3_;(try clear hb);(try clear hb2);(try clear hk);(try clear hi)))
  repeat (go_quiet (first|(go_at_call 67;(with_reducible refine (zJ.calls k a0 a1_0 a1_1 true _ A8.out).mono ?_);rintro e w14 ⟨rfl,hb⟩;have n0_:=z7.mk (zk (g:=gb101) (o:=.cells #[.int .u64 a1_0,.int .u64 a1_1] 51 (0,0)) (by (with_reducible repeat (first|refine z2 ?_ _|refine z5 ?_|refine z1 ?_ _));exact BK101.out) hb);have n1_:=z7.mk (zk (g:=gb102) (o:=.cells #[.int .u64 a2_0,.int .u64 a2_1] 51 (0,0)) (by (with_reducible repeat (first|refine z2 ?_ _|refine z5 ?_|refine z1 ?_ _));exact BK102.out) hb);have n2_:=z7.mk (zk (g:=gb103) (o:=.cells #[.int .u64 0,.int .u64 0] 51 (0,0)) (by (with_reducible repeat (first|refine z2 ?_ _|refine z5 ?_|refine z1 ?_ _));exact BK103.out) hb);have n3_:=z7.mk (zg (by repeat (first|(with_reducible first|exact HB.out|apply z4|apply z0|apply z3|refine z9 ?_ GE101.out|refine z9 ?_ GE102.out|refine z9 ?_ GE103.out)|exact HB.out)) hb);clear BK101;clear BK102;clear BK103;clear HB;have BK101:=n0_;have BK102:=n1_;have BK103:=n2_;have HB:=n3_;clear n0_ n1_ n2_ n3_;(try clear hb);(try clear hb2);(try clear hk);(try clear hi);have hnb15:=NB102_103.out;have hnc15:=NB103_102.out;have hcz16_0 : w14.cell? ⟨gb102,0,none⟩ = some (.int .u64 a2_0):=(zb BK102.out 0).trans rfl;have hcz16_1 : w14.cell? ⟨gb102,1,none⟩ = some (.int .u64 a2_1):=(zb BK102.out 1).trans rfl;have hfz16_0:=z8 BK102.out 0;have hfz16_1:=z8 BK102.out 1)|(go_at_call 67;(with_reducible refine (zJ.calls k a0 a2_0 a2_1 t105 _ A10.out).mono ?_);rintro e w17 ⟨rfl,hb⟩;have n0_:=z7.mk (zk (g:=gb101) (o:=.cells #[.int .u64 a1_0,.int .u64 a1_1] 51 (0,0)) (by (with_reducible repeat (first|refine z2 ?_ _|refine z5 ?_|refine z1 ?_ _));exact BK101.out) hb);have n1_:=z7.mk (zk (g:=gb102) (o:=.cells #[.int .u64 a2_0,.int .u64 a2_1] 51 (0,0)) (by (with_reducible repeat (first|refine z2 ?_ _|refine z5 ?_|refine z1 ?_ _));exact BK102.out) hb);have n2_:=z7.mk (zk (g:=gb103) (o:=.cells #[.int .u64 0,.int .u64 0] 51 (0,0)) (by (with_reducible repeat (first|refine z2 ?_ _|refine z5 ?_|refine z1 ?_ _));exact BK103.out) hb);have n3_:=z7.mk (zg (by repeat (first|(with_reducible first|exact HB.out|apply z4|apply z0|apply z3|refine z9 ?_ GE101.out|refine z9 ?_ GE102.out|refine z9 ?_ GE103.out)|exact HB.out)) hb);clear BK101;clear BK102;clear BK103;clear HB;have BK101:=n0_;have BK102:=n1_;have BK103:=n2_;have HB:=n3_;clear n0_ n1_ n2_ n3_;(try clear hb);(try clear hb2);(try clear hk);(try clear hi)));try go_wp2_with (first|(go_at_call 67;(with_reducible refine (zJ.calls k a0 a1_0 a1_1 true _ A8.out).mono ?_);rintro e w14 ⟨rfl,hb⟩;have n0_:=z7.mk (zk (g:=gb101) (o:=.cells #[.int .u64 a1_0,.int .u64 a1_1] 51 (0,0)) (by (with_reducible repeat (first|refine z2 ?_ _|refine z5 ?_|refine z1 ?_ _));exact BK101.out) hb);have n1_:=z7.mk (zk (g:=gb102) (o:=.cells #[.int .u64 a2_0,.int .u64 a2_1] 51 (0,0)) (by (with_reducible repeat (first|refine z2 ?_ _|refine z5 ?_|refine z1 ?_ _));exact BK102.out) hb);have n2_:=z7.mk (zk (g:=gb103) (o:=.cells #[.int .u64 0,.int .u64 0] 51 (0,0)) (by (with_reducible repeat (first|refine z2 ?_ _|refine z5 ?_|refine z1 ?_ _));exact BK103.out) hb);have n3_:=z7.mk (zg (by repeat (first|(with_reducible first|exact HB.out|apply z4|apply z0|apply z3|refine z9 ?_ GE101.out|refine z9 ?_ GE102.out|refine z9 ?_ GE103.out)|exact HB.out)) hb);clear BK101;clear BK102;clear BK103;clear HB;have BK101:=n0_;have BK102:=n1_;have BK103:=n2_;have HB:=n3_;clear n0_ n1_ n2_ n3_;(try clear hb);(try clear hb2);(try clear hk);(try clear hi);have hnb15:=NB102_103.out;have hnc15:=NB103_102.out;have hcz16_0 : w14.cell? ⟨gb102,0,none⟩ = some (.int .u64 a2_0):=(zb BK102.out 0).trans rfl;have hcz16_1 : w14.cell? ⟨gb102,1,none⟩ = some (.int .u64 a2_1):=(zb BK102.out 1).trans rfl;have hfz16_0:=z8 BK102.out 0;have hfz16_1:=z8 BK102.out 1)|(go_at_call 67;(with_reducible refine (zJ.calls k a0 a2_0 a2_1 t105 _ A10.out).mono ?_);rintro e w17 ⟨rfl,hb⟩;have n0_:=z7.mk (zk (g:=gb101) (o:=.cells #[.int .u64 a1_0,.int .u64 a1_1] 51 (0,0)) (by (with_reducible repeat (first|refine z2 ?_ _|refine z5 ?_|refine z1 ?_ _));exact BK101.out) hb);have n1_:=z7.mk (zk (g:=gb102) (o:=.cells #[.int .u64 a2_0,.int .u64 a2_1] 51 (0,0)) (by (with_reducible repeat (first|refine z2 ?_ _|refine z5 ?_|refine z1 ?_ _));exact BK102.out) hb);have n2_:=z7.mk (zk (g:=gb103) (o:=.cells #[.int .u64 0,.int .u64 0] 51 (0,0)) (by (with_reducible repeat (first|refine z2 ?_ _|refine z5 ?_|refine z1 ?_ _));exact BK103.out) hb);have n3_:=z7.mk (zg (by repeat (first|(with_reducible first|exact HB.out|apply z4|apply z0|apply z3|refine z9 ?_ GE101.out|refine z9 ?_ GE102.out|refine z9 ?_ GE103.out)|exact HB.out)) hb);clear BK101;clear BK102;clear BK103;clear HB;have BK101:=n0_;have BK102:=n1_;have BK103:=n2_;have HB:=n3_;clear n0_ n1_ n2_ n3_;(try clear hb);(try clear hb2);(try clear hk);(try clear hi))))
  go_meet
  case rel=>exact ⟨_,(!t105),(by first|rfl|(simp;done)|(simp [*];done)),H',⟨by first|omega|exact Nat.le_refl _⟩,⟨by (with_reducible repeat (first|refine z2 ?_ _|refine z5 ?_|refine z1 ?_ _));exact BK101.out⟩,⟨by (with_reducible repeat (first|refine z2 ?_ _|refine z5 ?_|refine z1 ?_ _));exact BK102.out⟩,⟨by (with_reducible repeat (first|refine z2 ?_ _|refine z5 ?_|refine z1 ?_ _));exact BK103.out⟩,⟨by repeat (first|(with_reducible first|exact HB.out|apply z4|apply z0|apply z3|refine z9 ?_ GE101.out|refine z9 ?_ GE102.out|refine z9 ?_ GE103.out)|exact HB.out)⟩⟩
 case rest =>
  clear HC4
  (try clear c1);(try clear p2);(try clear c4);(try clear c9);(try clear c11);(try clear c12);(try clear c15);(try clear c18);(try clear c19);(try clear hcz13_0);(try clear hcz13_1);(try clear hcz16_0);(try clear hcz16_1);(try clear hcz20_0);(try clear hcz20_1);(try clear hfz13_0);(try clear hfz13_1);(try clear hfz16_0);(try clear hfz16_1);(try clear hfz20_0);(try clear hfz20_1)
  obtain ⟨kq,x10_3,rfl,HA,HJ3,BK101,BK102,BK103,HB⟩:=hcut
  cases kq with
  | zero=>exact absurd HA.out (by simp [zZ.j0])
  | succ kj3 =>
   have H:=HA.out
   clear HA
   simp only [zZ.j0] at H
   by_cases c22 : x10_3 = true
   · subst c22
     have H1 : (some (0,0)) = some (r1,r2):=by rw [if_pos rfl] at H;exact H
     clear H
     have H:=H1
     clear H1
     simp only [Option.some.injEq,Prod.mk.injEq] at H
     obtain ⟨rfl,rfl⟩:=H
     have hnb23:=NB103_101.out
     have hnc23:=NB101_103.out
     have hnb24:=NB103_102.out
     have hnc24:=NB102_103.out
     have hcz25_0 : wc.cell? ⟨gb103,0,none⟩ = some (.int .u64 0):=(zb BK103.out 0).trans rfl
     have hcz25_1 : wc.cell? ⟨gb103,1,none⟩ = some (.int .u64 0):=(zb BK103.out 1).trans rfl
     have hfz25_0:=z8 BK103.out 0
     have hfz25_1:=z8 BK103.out 1
     go_wp2
     repeat (go_quiet (fail);try go_wp2)
     refine bodyPost_ret (results_cell_row rfl _ _ gb103 51 #[.int .u64 0,.int .u64 0] (0,0) _ rfl (by (with_reducible repeat (first|refine z2 ?_ _|refine z5 ?_|refine z1 ?_ _));refine zq (cs:=#[.int .u64 0,.int .u64 0]) ?_ 1 _ rfl;(with_reducible repeat (first|refine z2 ?_ _|refine z5 ?_|refine z1 ?_ _));refine zq (cs:=#[.int .u64 0,.int .u64 0]) ?_ 0 _ rfl;(with_reducible repeat (first|refine z2 ?_ _|refine z5 ?_|refine z1 ?_ _));exact BK103.out) Try.underlying51 rfl (by kernel_rfl)) rfl ?_
     exact ⟨by first|rfl|(simp [zl,zm] <;> rfl)|(simp [*,zl,zm] <;> rfl),by repeat (first|(with_reducible first|exact HB.out|apply z4|apply z0|apply z3|refine z9 ?_ GE101.out|refine z9 ?_ GE102.out|refine z9 ?_ GE103.out)|exact HB.out)⟩
   replace c22:=Bool.eq_false_iff.mpr c22
   subst c22
   have H1 : (if a0 ≤ 6 then ((zA.f kj3 a0 a1_1 a2_1).bind fun t106=>(some (0,t106))) else ((zA.f kj3 6 a1_0 a2_0).bind fun t107=>((zA.f kj3 6 a1_1 a2_1).bind fun t108=>((zA.f kj3 6 (Go.bits .xor .u64 a1_0 a1_1) (Go.bits .xor .u64 a2_0 a2_1)).bind fun t109=>((zQ.f kj3 6 t107).bind fun t110=>(some (Go.bits .xor .u64 (Go.bits .xor .u64 (Go.bits .xor .u64 t109 t107) t108) t110,Go.bits .xor .u64 t108 t107))))))) = some (r1,r2):=by rw [if_neg (show ¬ (false = true) by decide)] at H;exact H
   clear H
   have H:=H1
   clear H1
   by_cases c26 : a0 ≤ 6
   · rw [if_pos c26] at H
     have c26b0 : decide (a0 ≤ 6) = true:=decide_eq_true c26
     clear c26
     replace H:=Option.bind_eq_some_iff.mp H
     obtain ⟨t106,A270,H⟩:=H
     replace H : (some (0,t106)) = some (r1,r2):=H
     have A27:=z7.mk A270
     clear A270
     simp only [Option.some.injEq,Prod.mk.injEq] at H
     obtain ⟨rfl,rfl⟩:=H
     have hnb28:=NB101_102.out
     have hnc28:=NB102_101.out
     have hnb29:=NB101_103.out
     have hnc29:=NB103_101.out
     have hcz30_0 : wc.cell? ⟨gb101,0,none⟩ = some (.int .u64 a1_0):=(zb BK101.out 0).trans rfl
     have hcz30_1 : wc.cell? ⟨gb101,1,none⟩ = some (.int .u64 a1_1):=(zb BK101.out 1).trans rfl
     have hfz30_0:=z8 BK101.out 0
     have hfz30_1:=z8 BK101.out 1
     have hnb31:=NB102_103.out
     have hnc31:=NB103_102.out
     have hcz32_0 : wc.cell? ⟨gb102,0,none⟩ = some (.int .u64 a2_0):=(zb BK102.out 0).trans rfl
     have hcz32_1 : wc.cell? ⟨gb102,1,none⟩ = some (.int .u64 a2_1):=(zb BK102.out 1).trans rfl
     have hfz32_0:=z8 BK102.out 0
     have hfz32_1:=z8 BK102.out 1
     go_wp2_with (first|(go_at_call 82;(with_reducible refine (zA.calls kj3 a0 a1_1 a2_1 t106 _ A27.out).mono ?_);rintro e w' ⟨rfl,⟨nd,rfl⟩⟩;(try first|exact ⟨rfl,_,World.drewN_drewN _ _ _⟩|exact ⟨rfl,_,Eq.trans (World.drewN_drewN _ _ _) (congrArg (World.drewN _) (Nat.add_assoc _ _ _))⟩);have hcz33_0 : wc.cell? ⟨gb103,0,none⟩ = some (.int .u64 0):=(zb BK103.out 0).trans rfl;have hcz33_1 : wc.cell? ⟨gb103,1,none⟩ = some (.int .u64 0):=(zb BK103.out 1).trans rfl;have hfz33_0:=z8 BK103.out 0;have hfz33_1:=z8 BK103.out 1))
     repeat (go_quiet (first|(go_at_call 82;(with_reducible refine (zA.calls kj3 a0 a1_1 a2_1 t106 _ A27.out).mono ?_);rintro e w' ⟨rfl,⟨nd,rfl⟩⟩;(try first|exact ⟨rfl,_,World.drewN_drewN _ _ _⟩|exact ⟨rfl,_,Eq.trans (World.drewN_drewN _ _ _) (congrArg (World.drewN _) (Nat.add_assoc _ _ _))⟩);have hcz33_0 : wc.cell? ⟨gb103,0,none⟩ = some (.int .u64 0):=(zb BK103.out 0).trans rfl;have hcz33_1 : wc.cell? ⟨gb103,1,none⟩ = some (.int .u64 0):=(zb BK103.out 1).trans rfl;have hfz33_0:=z8 BK103.out 0;have hfz33_1:=z8 BK103.out 1));try go_wp2_with (first|(go_at_call 82;(with_reducible refine (zA.calls kj3 a0 a1_1 a2_1 t106 _ A27.out).mono ?_);rintro e w' ⟨rfl,⟨nd,rfl⟩⟩;(try first|exact ⟨rfl,_,World.drewN_drewN _ _ _⟩|exact ⟨rfl,_,Eq.trans (World.drewN_drewN _ _ _) (congrArg (World.drewN _) (Nat.add_assoc _ _ _))⟩);have hcz33_0 : wc.cell? ⟨gb103,0,none⟩ = some (.int .u64 0):=(zb BK103.out 0).trans rfl;have hcz33_1 : wc.cell? ⟨gb103,1,none⟩ = some (.int .u64 0):=(zb BK103.out 1).trans rfl;have hfz33_0:=z8 BK103.out 0;have hfz33_1:=z8 BK103.out 1)))
     refine bodyPost_ret (results_cell_row rfl _ _ gb103 51 #[.int .u64 0,.int .u64 t106] (0,0) _ rfl (by (with_reducible repeat (first|refine z2 ?_ _|refine z5 ?_|refine z1 ?_ _));refine zq (cs:=#[.int .u64 0,.int .u64 0]) ?_ 1 _ rfl;(with_reducible repeat (first|refine z2 ?_ _|refine z5 ?_|refine z1 ?_ _));refine zq (cs:=#[.int .u64 0,.int .u64 0]) ?_ 0 _ rfl;(with_reducible repeat (first|refine z2 ?_ _|refine z5 ?_|refine z1 ?_ _));exact BK103.out) Try.underlying51 rfl (by kernel_rfl)) rfl ?_
     exact ⟨by first|rfl|(simp [zl,zm] <;> rfl)|(simp [*,zl,zm] <;> rfl),by repeat (first|(with_reducible first|exact HB.out|apply z4|apply z0|apply z3|refine z9 ?_ GE101.out|refine z9 ?_ GE102.out|refine z9 ?_ GE103.out)|exact HB.out)⟩
   rw [if_neg c26] at H
   have c26b0 : decide (a0 ≤ 6) = false:=decide_eq_false c26
   clear c26
   replace H:=Option.bind_eq_some_iff.mp H
   obtain ⟨t107,A340,H⟩:=H
   replace H : ((zA.f kj3 6 a1_1 a2_1).bind fun t108=>((zA.f kj3 6 (Go.bits .xor .u64 a1_0 a1_1) (Go.bits .xor .u64 a2_0 a2_1)).bind fun t109=>((zQ.f kj3 6 t107).bind fun t110=>(some (Go.bits .xor .u64 (Go.bits .xor .u64 (Go.bits .xor .u64 t109 t107) t108) t110,Go.bits .xor .u64 t108 t107))))) = some (r1,r2):=H
   have A34:=z7.mk A340
   clear A340
   replace H:=Option.bind_eq_some_iff.mp H
   obtain ⟨t108,A350,H⟩:=H
   replace H : ((zA.f kj3 6 (Go.bits .xor .u64 a1_0 a1_1) (Go.bits .xor .u64 a2_0 a2_1)).bind fun t109=>((zQ.f kj3 6 t107).bind fun t110=>(some (Go.bits .xor .u64 (Go.bits .xor .u64 (Go.bits .xor .u64 t109 t107) t108) t110,Go.bits .xor .u64 t108 t107)))) = some (r1,r2):=H
   have A35:=z7.mk A350
   clear A350
   replace H:=Option.bind_eq_some_iff.mp H
   obtain ⟨t109,A360,H⟩:=H
   replace H : ((zQ.f kj3 6 t107).bind fun t110=>(some (Go.bits .xor .u64 (Go.bits .xor .u64 (Go.bits .xor .u64 t109 t107) t108) t110,Go.bits .xor .u64 t108 t107))) = some (r1,r2):=H
   have A36:=z7.mk A360
   clear A360
   replace H:=Option.bind_eq_some_iff.mp H
   obtain ⟨t110,A370,H⟩:=H
   replace H : (some (Go.bits .xor .u64 (Go.bits .xor .u64 (Go.bits .xor .u64 t109 t107) t108) t110,Go.bits .xor .u64 t108 t107)) = some (r1,r2):=H
   have A37:=z7.mk A370
   clear A370
   simp only [Option.some.injEq,Prod.mk.injEq] at H
   obtain ⟨rfl,rfl⟩:=H
   have hnb38:=NB101_102.out
   have hnc38:=NB102_101.out
   have hnb39:=NB101_103.out
   have hnc39:=NB103_101.out
   have hcz40_0 : wc.cell? ⟨gb101,0,none⟩ = some (.int .u64 a1_0):=(zb BK101.out 0).trans rfl
   have hcz40_1 : wc.cell? ⟨gb101,1,none⟩ = some (.int .u64 a1_1):=(zb BK101.out 1).trans rfl
   have hfz40_0:=z8 BK101.out 0
   have hfz40_1:=z8 BK101.out 1
   have hnb41:=NB102_103.out
   have hnc41:=NB103_102.out
   have hcz42_0 : wc.cell? ⟨gb102,0,none⟩ = some (.int .u64 a2_0):=(zb BK102.out 0).trans rfl
   have hcz42_1 : wc.cell? ⟨gb102,1,none⟩ = some (.int .u64 a2_1):=(zb BK102.out 1).trans rfl
   have hfz42_0:=z8 BK102.out 0
   have hfz42_1:=z8 BK102.out 1
   go_wp2_with (first|(go_at_call 82;(with_reducible refine (zA.calls kj3 6 a1_0 a2_0 t107 _ A34.out).mono ?_);rintro e w' ⟨rfl,⟨nd,rfl⟩⟩;(try first|exact ⟨rfl,_,World.drewN_drewN _ _ _⟩|exact ⟨rfl,_,Eq.trans (World.drewN_drewN _ _ _) (congrArg (World.drewN _) (Nat.add_assoc _ _ _))⟩))|(go_at_call 82;(with_reducible refine (zA.calls kj3 6 a1_1 a2_1 t108 _ A35.out).mono ?_);rintro e w' ⟨rfl,⟨nd,rfl⟩⟩;(try first|exact ⟨rfl,_,World.drewN_drewN _ _ _⟩|exact ⟨rfl,_,Eq.trans (World.drewN_drewN _ _ _) (congrArg (World.drewN _) (Nat.add_assoc _ _ _))⟩))|(go_at_call 82;(with_reducible refine (zA.calls kj3 6 (Go.bits .xor .u64 a1_0 a1_1) (Go.bits .xor .u64 a2_0 a2_1) t109 _ A36.out).mono ?_);rintro e w' ⟨rfl,⟨nd,rfl⟩⟩;(try first|exact ⟨rfl,_,World.drewN_drewN _ _ _⟩|exact ⟨rfl,_,Eq.trans (World.drewN_drewN _ _ _) (congrArg (World.drewN _) (Nat.add_assoc _ _ _))⟩))|(go_at_call 83;(with_reducible refine (zQ.calls kj3 6 t107 t110 _ A37.out).mono ?_);rintro e w' ⟨rfl,⟨nd,rfl⟩⟩;(try first|exact ⟨rfl,_,World.drewN_drewN _ _ _⟩|exact ⟨rfl,_,Eq.trans (World.drewN_drewN _ _ _) (congrArg (World.drewN _) (Nat.add_assoc _ _ _))⟩);have hcz43_0 : wc.cell? ⟨gb103,0,none⟩ = some (.int .u64 0):=(zb BK103.out 0).trans rfl;have hcz43_1 : wc.cell? ⟨gb103,1,none⟩ = some (.int .u64 0):=(zb BK103.out 1).trans rfl;have hfz43_0:=z8 BK103.out 0;have hfz43_1:=z8 BK103.out 1))
   repeat (go_quiet (first|(go_at_call 82;(with_reducible refine (zA.calls kj3 6 a1_0 a2_0 t107 _ A34.out).mono ?_);rintro e w' ⟨rfl,⟨nd,rfl⟩⟩;(try first|exact ⟨rfl,_,World.drewN_drewN _ _ _⟩|exact ⟨rfl,_,Eq.trans (World.drewN_drewN _ _ _) (congrArg (World.drewN _) (Nat.add_assoc _ _ _))⟩))|(go_at_call 82;(with_reducible refine (zA.calls kj3 6 a1_1 a2_1 t108 _ A35.out).mono ?_);rintro e w' ⟨rfl,⟨nd,rfl⟩⟩;(try first|exact ⟨rfl,_,World.drewN_drewN _ _ _⟩|exact ⟨rfl,_,Eq.trans (World.drewN_drewN _ _ _) (congrArg (World.drewN _) (Nat.add_assoc _ _ _))⟩))|(go_at_call 82;(with_reducible refine (zA.calls kj3 6 (Go.bits .xor .u64 a1_0 a1_1) (Go.bits .xor .u64 a2_0 a2_1) t109 _ A36.out).mono ?_);rintro e w' ⟨rfl,⟨nd,rfl⟩⟩;(try first|exact ⟨rfl,_,World.drewN_drewN _ _ _⟩|exact ⟨rfl,_,Eq.trans (World.drewN_drewN _ _ _) (congrArg (World.drewN _) (Nat.add_assoc _ _ _))⟩))|(go_at_call 83;(with_reducible refine (zQ.calls kj3 6 t107 t110 _ A37.out).mono ?_);rintro e w' ⟨rfl,⟨nd,rfl⟩⟩;(try first|exact ⟨rfl,_,World.drewN_drewN _ _ _⟩|exact ⟨rfl,_,Eq.trans (World.drewN_drewN _ _ _) (congrArg (World.drewN _) (Nat.add_assoc _ _ _))⟩);have hcz43_0 : wc.cell? ⟨gb103,0,none⟩ = some (.int .u64 0):=(zb BK103.out 0).trans rfl;have hcz43_1 : wc.cell? ⟨gb103,1,none⟩ = some (.int .u64 0):=(zb BK103.out 1).trans rfl;have hfz43_0:=z8 BK103.out 0;have hfz43_1:=z8 BK103.out 1));try go_wp2_with (first|(go_at_call 82;(with_reducible refine (zA.calls kj3 6 a1_0 a2_0 t107 _ A34.out).mono ?_);rintro e w' ⟨rfl,⟨nd,rfl⟩⟩;(try first|exact ⟨rfl,_,World.drewN_drewN _ _ _⟩|exact ⟨rfl,_,Eq.trans (World.drewN_drewN _ _ _) (congrArg (World.drewN _) (Nat.add_assoc _ _ _))⟩))|(go_at_call 82;(with_reducible refine (zA.calls kj3 6 a1_1 a2_1 t108 _ A35.out).mono ?_);rintro e w' ⟨rfl,⟨nd,rfl⟩⟩;(try first|exact ⟨rfl,_,World.drewN_drewN _ _ _⟩|exact ⟨rfl,_,Eq.trans (World.drewN_drewN _ _ _) (congrArg (World.drewN _) (Nat.add_assoc _ _ _))⟩))|(go_at_call 82;(with_reducible refine (zA.calls kj3 6 (Go.bits .xor .u64 a1_0 a1_1) (Go.bits .xor .u64 a2_0 a2_1) t109 _ A36.out).mono ?_);rintro e w' ⟨rfl,⟨nd,rfl⟩⟩;(try first|exact ⟨rfl,_,World.drewN_drewN _ _ _⟩|exact ⟨rfl,_,Eq.trans (World.drewN_drewN _ _ _) (congrArg (World.drewN _) (Nat.add_assoc _ _ _))⟩))|(go_at_call 83;(with_reducible refine (zQ.calls kj3 6 t107 t110 _ A37.out).mono ?_);rintro e w' ⟨rfl,⟨nd,rfl⟩⟩;(try first|exact ⟨rfl,_,World.drewN_drewN _ _ _⟩|exact ⟨rfl,_,Eq.trans (World.drewN_drewN _ _ _) (congrArg (World.drewN _) (Nat.add_assoc _ _ _))⟩);have hcz43_0 : wc.cell? ⟨gb103,0,none⟩ = some (.int .u64 0):=(zb BK103.out 0).trans rfl;have hcz43_1 : wc.cell? ⟨gb103,1,none⟩ = some (.int .u64 0):=(zb BK103.out 1).trans rfl;have hfz43_0:=z8 BK103.out 0;have hfz43_1:=z8 BK103.out 1)))
   refine bodyPost_ret (results_cell_row rfl _ _ gb103 51 #[.int .u64 (Go.bits .xor .u64 (Go.bits .xor .u64 (Go.bits .xor .u64 t109 t107) t108) t110),.int .u64 (Go.bits .xor .u64 t108 t107)] (0,0) _ rfl (by (with_reducible repeat (first|refine z2 ?_ _|refine z5 ?_|refine z1 ?_ _));refine zq (cs:=#[.int .u64 (Go.bits .xor .u64 (Go.bits .xor .u64 (Go.bits .xor .u64 t109 t107) t108) t110),.int .u64 0]) ?_ 1 _ rfl;(with_reducible repeat (first|refine z2 ?_ _|refine z5 ?_|refine z1 ?_ _));refine zq (cs:=#[.int .u64 0,.int .u64 0]) ?_ 0 _ rfl;(with_reducible repeat (first|refine z2 ?_ _|refine z5 ?_|refine z1 ?_ _));exact BK103.out) Try.underlying51 rfl (by kernel_rfl)) rfl ?_
   exact ⟨by first|rfl|(simp [zl,zm] <;> rfl)|(simp [*,zl,zm] <;> rfl),by repeat (first|(with_reducible first|exact HB.out|apply z4|apply z0|apply z3|refine z9 ?_ GE101.out|refine z9 ?_ GE102.out|refine z9 ?_ GE103.out)|exact HB.out)⟩
end Go.Proofs.Ytngcaphdkgihmaa.P
namespace Go.Proofs.Ytngcaphdkgihmaa.P
open Go.RowKit Go.Proofs.YtngcaphdkgihmaaW.PrintWords Go.Proofs.YtngcaphdkgihmaaW.PrintLast Go.Proofs.YtngcaphdkgihmaaW.PrintMore
attribute [local go_sem] z17 z19 z1e z1f z12 z13 z18 z1a   -- for this text's walks alone
set_option linter.unusedVariables false
set_option linter.unusedSimpArgs false
mutual
def zz.l0 : Nat → Int → List (S87) → List (S51) → List (S51) → Int → Int → Option (Int × Int × Int)
 | 0,_,_,_,_,_,_=>none
 | k + 1,x0,x1,x2,x24,x25,x26=>if x26 < x25 then (if 0 ≤ x26 then (if x26 < (x24.length : Int) then ((zJ.f k x0 ((zT x24 x26).f0) ((zT x24 x26).f1)).bind fun t105=>(if t105 = true then (zz.l0 k x0 x1 x2 x24 x25 (wrap64 (x26 + 1))) else (some (0,0,5)))) else (none)) else (none)) else (zz.l1 k x0 x2 ([] : List (S51)) x1 (x1.length : Int) 0)
def zz.l1 : Nat → Int → List (S51) → List (S51) → List (S87) → Int → Int → Option (Int × Int × Int)
 | 0,_,_,_,_,_,_=>none
 | k + 1,x0,x2,x11,x36,x37,x38=>if x38 < x37 then (if 0 ≤ x38 then (if x38 < (x36.length : Int) then (if ((zd x36 x38).f0) = 1 then (if x11.length < 8796093022208 then (zz.l1 k x0 x2 (x11 ++ [(⟨(zd x36 x38).f3.f0,(zd x36 x38).f3.f1⟩ : S51)]) x36 x37 (wrap64 (x38 + 1))) else (none)) else (if ((zd x36 x38).f0) = 2 then (if 0 ≤ ((zd x36 x38).f1) then (if ((zd x36 x38).f1) < (x2.length : Int) then (if x11.length < 8796093022208 then (zz.l1 k x0 x2 (x11 ++ [(⟨(zT x2 ((zd x36 x38).f1)).f0,(zT x2 ((zd x36 x38).f1)).f1⟩ : S51)]) x36 x37 (wrap64 (x38 + 1))) else (none)) else (none)) else (none)) else (if ((zd x36 x38).f0) = 3 then (if 0 ≤ ((zd x36 x38).f1) then (if ((zd x36 x38).f1) < (x11.length : Int) then (if 0 ≤ ((zd x36 x38).f2) then (if ((zd x36 x38).f2) < (x11.length : Int) then ((z25.f ((zT x11 ((zd x36 x38).f1)).f0) ((zT x11 ((zd x36 x38).f1)).f1) ((zT x11 ((zd x36 x38).f2)).f0) ((zT x11 ((zd x36 x38).f2)).f1)).bind fun bt119=>(if x11.length < 8796093022208 then (zz.l1 k x0 x2 (x11 ++ [(⟨bt119.1,bt119.2⟩ : S51)]) x36 x37 (wrap64 (x38 + 1))) else (none))) else (none)) else (none)) else (none)) else (none)) else (if ((zd x36 x38).f0) = 4 then (if 0 ≤ ((zd x36 x38).f1) then (if ((zd x36 x38).f1) < (x11.length : Int) then (if 0 ≤ ((zd x36 x38).f2) then (if ((zd x36 x38).f2) < (x11.length : Int) then ((zZ.f k x0 ((zT x11 ((zd x36 x38).f1)).f0) ((zT x11 ((zd x36 x38).f1)).f1) ((zT x11 ((zd x36 x38).f2)).f0) ((zT x11 ((zd x36 x38).f2)).f1)).bind fun bt126=>(if x11.length < 8796093022208 then (zz.l1 k x0 x2 (x11 ++ [(⟨bt126.1,bt126.2⟩ : S51)]) x36 x37 (wrap64 (x38 + 1))) else (none))) else (none)) else (none)) else (none)) else (none)) else (if x11.length < 8796093022208 then (zz.l1 k x0 x2 (x11 ++ [(⟨0,0⟩ : S51)]) x36 x37 (wrap64 (x38 + 1))) else (none)))))) else (none)) else (none)) else (if 0 ≤ (wrap64 ((x11.length : Int) - 1)) then (if (wrap64 ((x11.length : Int) - 1)) < (x11.length : Int) then (some ((zT x11 (wrap64 ((x11.length : Int) - 1))).f0,(zT x11 (wrap64 ((x11.length : Int) - 1))).f1,0)) else (none)) else (none))
end
def zz.f (k : Nat) (a0 : Int) (l1 : List (S87)) (l2 : List (S51)) : Option (Int × Int × Int):=(z15.f k a0 (l2.length : Int) l1).bind fun t102=>(if t102 = 0 then (zz.l0 k a0 l1 l2 l2 (l2.length : Int) 0) else (some (0,0,t102)))
theorem zz.z1b : ∀ k,(∀ y0 y1 y2 y3 y4 y5,LeO (zz.l0 k y0 y1 y2 y3 y4 y5) (zz.l0 (k + 1) y0 y1 y2 y3 y4 y5)) ∧ (∀ y0 y1 y2 y3 y4 y5,LeO (zz.l1 k y0 y1 y2 y3 y4 y5) (zz.l1 (k + 1) y0 y1 y2 y3 y4 y5))
 | 0=>⟨fun _ _ _ _ _ _ r h=>by simp [zz.l0] at h,fun _ _ _ _ _ _ r h=>by simp [zz.l1] at h⟩
 | k + 1=>by
  obtain ⟨ih0,ih1⟩:=zz.z1b k
  refine ⟨?_,?_⟩
  · intro y0 y1 y2 y3 y4 y5
    unfold zz.l0
    repeat' first
    | (with_reducible exact ih0 _ _ _ _ _ _)
    | (with_reducible exact ih1 _ _ _ _ _ _)
    | (with_reducible exact z15.mono _ _ _ _)
    | (with_reducible exact zJ.mono _ _ _ _)
    | (with_reducible exact zZ.mono _ _ _ _ _ _)
    | (with_reducible exact LeO.refl _)
    | (with_reducible exact LeO.none _)
    | (with_reducible refine LeO.ite ?_ ?_)
    | (with_reducible refine LeO.bind ?_ (fun _=>?_))
    | exact ih0 _ _ _ _ _ _
    | exact ih1 _ _ _ _ _ _
    | exact z15.mono _ _ _ _
    | exact zJ.mono _ _ _ _
    | exact zZ.mono _ _ _ _ _ _
    | exact LeO.none _
    | refine LeO.ite ?_ ?_
    | refine LeO.bind ?_ (fun _=>?_)
  · intro y0 y1 y2 y3 y4 y5
    unfold zz.l1
    repeat' first
    | (with_reducible exact ih0 _ _ _ _ _ _)
    | (with_reducible exact ih1 _ _ _ _ _ _)
    | (with_reducible exact z15.mono _ _ _ _)
    | (with_reducible exact zJ.mono _ _ _ _)
    | (with_reducible exact zZ.mono _ _ _ _ _ _)
    | (with_reducible exact LeO.refl _)
    | (with_reducible exact LeO.none _)
    | (with_reducible refine LeO.ite ?_ ?_)
    | (with_reducible refine LeO.bind ?_ (fun _=>?_))
    | exact ih0 _ _ _ _ _ _
    | exact ih1 _ _ _ _ _ _
    | exact z15.mono _ _ _ _
    | exact zJ.mono _ _ _ _
    | exact zZ.mono _ _ _ _ _ _
    | exact LeO.none _
    | refine LeO.ite ?_ ?_
    | refine LeO.bind ?_ (fun _=>?_)
theorem zz.mono : ∀ a0 a1 a2 k,LeO (zz.f k a0 a1 a2) (zz.f (k + 1) a0 a1 a2):=by
 intro a0 a1 a2 k
 obtain ⟨ih0,ih1⟩:=zz.z1b k
 unfold zz.f
 repeat' first
  | (with_reducible exact ih0 _ _ _ _ _ _)
  | (with_reducible exact ih1 _ _ _ _ _ _)
  | (with_reducible exact z15.mono _ _ _ _)
  | (with_reducible exact zJ.mono _ _ _ _)
  | (with_reducible exact zZ.mono _ _ _ _ _ _)
  | (with_reducible exact LeO.refl _)
  | (with_reducible exact LeO.none _)
  | (with_reducible refine LeO.ite ?_ ?_)
  | (with_reducible refine LeO.bind ?_ (fun _=>?_))
  | exact ih0 _ _ _ _ _ _
  | exact ih1 _ _ _ _ _ _
  | exact z15.mono _ _ _ _
  | exact zJ.mono _ _ _ _
  | exact zZ.mono _ _ _ _ _ _
  | exact LeO.none _
  | refine LeO.ite ?_ ?_
  | refine LeO.bind ?_ (fun _=>?_)
def zz.T21 : Bool × List (List Nat × List Nat):=(true,[([],[]),([],[]),([1],[1]),([0,2],[0,2]),([3],[3]),([],[]),([],[]),([6],[6]),([5,7],[5,7]),([8],[8]),([4,9],[4,9]),([10,10,0,1,2,3,4,5,6,7,8,9,10],[10])])
def zz.B21 : List Nat:=[0,0,2,7,15,0,0,64,224,480,1023,2047]
theorem zz.tab21 : rtab .any (opsOf Try.f43 21) = zz.T21:=by kernel_rfl
theorem zz.bits21 : waitsOk zz.T21.2 zz.B21 = true:=by kernel_rfl
def zz.T23 : Bool × List (List Nat × List Nat):=(true,[([],[]),([],[]),([],[]),([2],[2]),([1,3],[1,3]),([4],[4]),([],[]),([],[]),([7],[7]),([6,8],[6,8]),([9],[9]),([0,5,10],[0,5,10]),([11,11,0,1,2,3,4,5,6,7,8,9,10,11],[11])])
def zz.B23 : List Nat:=[0,0,0,4,14,30,0,0,128,448,960,2047,4095]
theorem zz.tab23 : rtab .any (opsOf Try.f43 23) = zz.T23:=by kernel_rfl
theorem zz.bits23 : waitsOk zz.T23.2 zz.B23 = true:=by kernel_rfl
set_option maxHeartbeats 8000000 in
set_option maxRecDepth 100000 in
theorem zz.calls (k : Nat) (a0 : Int) (A1 : Option Addr) (c1 : Nat) (l1 : List (S87)) (A2 : Option Addr) (c2 : Nat) (l2 : List (S51)) (r1 : Int) (r2 : Int) (r3 : Int) (w : World) (hr1 : Kd.C k87 w A1 l1.length l1) (hc1 : l1.length ≤ c1) (hr2 : Kd.C k51 w A2 l2.length l2) (hc2 : l2.length ≤ c2) (h : zz.f k a0 l1 l2 = some (r1,r2,r3)) :
 Calls Try.prog 43 #[.int .i64 a0,.slice A1 l1.length c1,.slice A2 l2.length c2] w fun e w'=>e = .returned (.tuple #[.agg #[.int .u64 r1,.int .u64 r2],.int .i64 r3]) ∧ Below w.heap.size w w':=by
 have hu51:=Try.underlying51
 have hu87:=Try.underlying87
 have HR1:=z7.mk hr1
 have HC1:=z7.mk hc1
 clear hr1 hc1
 have HR2:=z7.mk hr2
 have HC2:=z7.mk hc2
 clear hr2 hc2
 have HB:=z7.mk (Below.refl w.heap.size w)
 have H : ((z15.f k a0 (l2.length : Int) l1).bind fun t102=>(if t102 = 0 then (zz.l0 k a0 l1 l2 l2 (l2.length : Int) 0) else (some (0,0,t102)))) = some (r1,r2,r3):=h
 clear h
 replace H:=Option.bind_eq_some_iff.mp H
 obtain ⟨t102,A40,H⟩:=H
 replace H : (if t102 = 0 then (zz.l0 k a0 l1 l2 l2 (l2.length : Int) 0) else (some (0,0,t102))) = some (r1,r2,r3):=H
 have A4:=z7.mk A40
 clear A40
 by_cases c5 : t102 = 0
 rotate_left
 · rw [if_neg c5] at H
   have c5b0 : (t102 == 0) = false:=beq_eq_false_iff_ne.mpr c5
   have c5b1 : (t102 != 0) = true:=bne_iff_ne.mpr c5
   simp only [Option.some.injEq,Prod.mk.injEq] at H
   obtain ⟨rfl,rfl,rfl⟩:=H
   go_enter Try.func43,Try.ntmps43
   go_wp2_with (first|((with_reducible refine zG (N:=6) rfl ?_);refine zE ?hg (N:=6) ?hd (cs:=#[.int .u64 0,.int .u64 0]) (t:=51) ?hr ?_;(case hd=>rfl);(case hg=>rfl);(case hr=>first|(go_simp;done)|(go_simp;rfl));intro gb101 hg w106 hbox hb;have n0_:=z7.mk (zg (by repeat (first|(with_reducible first|exact HB.out|apply z4|apply z0|apply z3)|exact HB.out)) hb);have n1_:=z7.mk (hbox);have n2_:=z7.mk ((by rw [hg];exact (zf (by repeat (first|(with_reducible first|exact HB.out|apply z4|apply z0|apply z3)|exact HB.out))) : w.heap.size ≤ gb101));have n3_:=z7.mk ((by rw [hg];exact (zf (by repeat (first|(with_reducible first|exact HB.out|apply z4|apply z0|apply z3)|exact HB.out))) : w.heap.size ≤ gb101));clear HB;have HB:=n0_;have BK101:=n1_;have GW101:=n2_;have GE101:=n3_;clear n0_ n1_ n2_ n3_;clear hb hbox hg)|((with_reducible refine zB (f:=56) rfl ?_);refine goesL_ (some 19) rfl rfl Try.func56 (by kernel_rfl) rfl #[.int .i64 a0,.int .i64 (l2.length : Int),.slice A1 l1.length c1] rfl (by (try simp only [List.map_toArray,List.map_cons,List.map_nil]);first|done|rfl|(simp only [List.length_drop,List.length_take];rfl)) ?_;(with_reducible refine (z15.calls k a0 (l2.length : Int) _ _ l1 t102 _ ?side1 ?side2 A4.out).mono ?_);(case side1=>repeat (first|exact (Kd.z1F HR1.out HB.out)|(with_reducible refine Kd.z1o ?_ _)|(with_reducible refine Kd.z1p ?_ _)|(with_reducible refine Kd.z1w ?_)));(case side2=>exact HC1.out);rintro e w107 ⟨rfl,hb⟩;refine ⟨_,rfl,?_⟩;have n0_:=z7.mk (zk (g:=gb101) (o:=.cells #[.int .u64 0,.int .u64 0] 51 (0,0)) (by (with_reducible repeat (first|refine z2 ?_ _|refine z5 ?_|refine z1 ?_ _));exact BK101.out) hb);have n1_:=z7.mk (zg (by repeat (first|(with_reducible first|exact HB.out|apply z4|apply z0|apply z3|refine z9 ?_ GE101.out)|exact HB.out)) hb);clear BK101;clear HB;have BK101:=n0_;have HB:=n1_;clear n0_ n1_;(try clear hb);(try clear hb2);(try clear hk);(try clear hi);have hcz108_0 : w107.cell? ⟨gb101,0,none⟩ = some (.int .u64 0):=(zb BK101.out 0).trans rfl;have hcz108_1 : w107.cell? ⟨gb101,1,none⟩ = some (.int .u64 0):=(zb BK101.out 1).trans rfl;have hfz108_0:=z8 BK101.out 0;have hfz108_1:=z8 BK101.out 1))
   refine bodyPost_ret (z2H rfl _ _ gb101 51 #[.int .u64 0,.int .u64 0] (0,0) _ rfl (by (with_reducible repeat (first|refine z2 ?_ _|refine z5 ?_|refine z1 ?_ _));refine zq (cs:=#[.int .u64 0,.int .u64 0]) ?_ 1 _ rfl;(with_reducible repeat (first|refine z2 ?_ _|refine z5 ?_|refine z1 ?_ _));refine zq (cs:=#[.int .u64 0,.int .u64 0]) ?_ 0 _ rfl;(with_reducible repeat (first|refine z2 ?_ _|refine z5 ?_|refine z1 ?_ _));exact BK101.out) Try.underlying51 rfl (by kernel_rfl)) rfl ?_
   exact ⟨by first|rfl|(simp [zl,zm] <;> rfl)|(simp [*,zl,zm] <;> rfl),by repeat (first|(with_reducible first|exact HB.out|apply z4|apply z0|apply z3|refine z9 ?_ GE101.out)|exact HB.out)⟩
 rw [if_pos c5] at H
 have c5b0 : (t102 == 0) = true:=beq_iff_eq.mpr c5
 have c5b1 : (t102 != 0) = false:=bne_eq_false_iff_eq.mpr c5
 clear c5
 have H':=z7.mk H
 clear H
 go_enter Try.func43,Try.ntmps43
 go_wp2_with (first|((with_reducible refine zG (N:=6) rfl ?_);refine zE ?hg (N:=6) ?hd (cs:=#[.int .u64 0,.int .u64 0]) (t:=51) ?hr ?_;(case hd=>rfl);(case hg=>rfl);(case hr=>first|(go_simp;done)|(go_simp;rfl));intro gb101 hg w6 hbox hb;have n0_:=z7.mk (zg (by repeat (first|(with_reducible first|exact HB.out|apply z4|apply z0|apply z3)|exact HB.out)) hb);have n1_:=z7.mk (hbox);have n2_:=z7.mk ((by rw [hg];exact (zf (by repeat (first|(with_reducible first|exact HB.out|apply z4|apply z0|apply z3)|exact HB.out))) : w.heap.size ≤ gb101));have n3_:=z7.mk ((by rw [hg];exact (zf (by repeat (first|(with_reducible first|exact HB.out|apply z4|apply z0|apply z3)|exact HB.out))) : w.heap.size ≤ gb101));clear HB;have HB:=n0_;have BK101:=n1_;have GW101:=n2_;have GE101:=n3_;clear n0_ n1_ n2_ n3_;clear hb hbox hg)|((with_reducible refine zB (f:=56) rfl ?_);refine goesL_ (some 19) rfl rfl Try.func56 (by kernel_rfl) rfl #[.int .i64 a0,.int .i64 (l2.length : Int),.slice A1 l1.length c1] rfl (by (try simp only [List.map_toArray,List.map_cons,List.map_nil]);first|done|rfl|(simp only [List.length_drop,List.length_take];rfl)) ?_;(with_reducible refine (z15.calls k a0 (l2.length : Int) _ _ l1 t102 _ ?side1 ?side2 A4.out).mono ?_);(case side1=>repeat (first|exact (Kd.z1F HR1.out HB.out)|(with_reducible refine Kd.z1o ?_ _)|(with_reducible refine Kd.z1p ?_ _)|(with_reducible refine Kd.z1w ?_)));(case side2=>exact HC1.out);rintro e w7 ⟨rfl,hb⟩;refine ⟨_,rfl,?_⟩;have n0_:=z7.mk (zk (g:=gb101) (o:=.cells #[.int .u64 0,.int .u64 0] 51 (0,0)) (by (with_reducible repeat (first|refine z2 ?_ _|refine z5 ?_|refine z1 ?_ _));exact BK101.out) hb);have n1_:=z7.mk (zg (by repeat (first|(with_reducible first|exact HB.out|apply z4|apply z0|apply z3|refine z9 ?_ GE101.out)|exact HB.out)) hb);clear BK101;clear HB;have BK101:=n0_;have HB:=n1_;clear n0_ n1_;(try clear hb);(try clear hb2);(try clear hk);(try clear hi)))
 go_loopg [26] k (fun kq v26 w'=>∃ (x26_1 : Int) (x102000_1 : Int) (x102001_1 : Int),v26 = .int .i64 x26_1 ∧ z7 (zz.l0 kq a0 l1 l2 l2 (l2.length : Int) x26_1 = some (r1,r2,r3)) ∧ z7 (kq ≤ k) ∧ z7 (w'.heap[gb101]? = some (.cells #[.int .u64 x102000_1,.int .u64 x102001_1] 51 (0,0))) ∧ z7 (Below w.heap.size w w'))
 case atStart=>exact ⟨(0),(0),(0),(by first|rfl|(simp;done)|(simp [*];done)),H',⟨Nat.le_refl _⟩,⟨by (with_reducible repeat (first|refine z2 ?_ _|refine z5 ?_|refine z1 ?_ _));exact BK101.out⟩,⟨by repeat (first|(with_reducible first|exact HB.out|apply z4|apply z0|apply z3|refine z9 ?_ GE101.out)|exact HB.out)⟩⟩
 case round =>
  clear H'
  (try clear c1);(try clear c2);(try clear p2);(try clear c4);(try clear c5);(try clear c5b0);(try clear c5b1)
  obtain ⟨x26_1,x102000_1,x102001_1,rfl,HA,HK1,BK101,HB⟩:=hrel
  cases gk with
  | zero=>exact absurd HA.out (by simp [zz.l0])
  | succ k1 =>
   have H:=HA.out
   clear HA
   simp only [zz.l0] at H
   by_cases c8 : x26_1 < (l2.length : Int)
   · rw [if_pos c8] at H
     have c8b0 : decide (x26_1 < (l2.length : Int)) = true:=decide_eq_true c8
     clear c8
     by_cases c9 : 0 ≤ x26_1
     rotate_left
     · rw [if_neg c9] at H
       exact absurd H (by simp)
     rw [if_pos c9] at H
     have c9b0 : decide (0 ≤ x26_1) = true:=decide_eq_true c9
     clear c9
     by_cases c10 : x26_1 < (l2.length : Int)
     rotate_left
     · rw [if_neg c10] at H
       exact absurd H (by simp)
     rw [if_pos c10] at H
     have c10b0 : decide (x26_1 < (l2.length : Int)) = true:=decide_eq_true c10
     clear c10
     replace H:=Option.bind_eq_some_iff.mp H
     obtain ⟨t105,A110,H⟩:=H
     replace H : (if t105 = true then (zz.l0 k1 a0 l1 l2 l2 (l2.length : Int) (wrap64 (x26_1 + 1))) else (some (0,0,5))) = some (r1,r2,r3):=H
     have A11:=z7.mk A110
     clear A110
     by_cases c12 : t105 = true
     rotate_left
     · replace c12:=Bool.eq_false_iff.mpr c12
       subst c12
       have H1 : (some (0,0,5)) = some (r1,r2,r3):=by rw [if_neg (show ¬ (false = true) by decide)] at H;exact H
       clear H
       have H:=H1
       clear H1
       simp only [Option.some.injEq,Prod.mk.injEq] at H
       obtain ⟨rfl,rfl,rfl⟩:=H
       have p103 : 0 ≤ (x26_1 : Int):=of_decide_eq_true (by first|(with_reducible assumption)|assumption)
       have q103 : x26_1 < (l2.length : Int):=of_decide_eq_true (by first|(with_reducible assumption)|assumption)
       obtain ⟨ad103,e103,hx103_0,hx103_1⟩:=z2d HR2.out x26_1 p103 q103
       cases e103
       replace hx103_0:=(HB.out.cell (World.block_lt_of_cell? w _ hx103_0)).trans hx103_0
       replace hx103_1:=(HB.out.cell (World.block_lt_of_cell? w _ hx103_1)).trans hx103_1
       replace p103:=eq_true p103
       replace q103:=eq_true q103
       go_wp2_with (first|((with_reducible refine zG (N:=10) rfl ?_);refine zE ?hg (N:=10) ?hd (cs:=#[.int .u64 0,.int .u64 0]) (t:=51) ?hr ?_;(case hd=>rfl);(case hg=>rfl);(case hr=>first|(go_simp;done)|(go_simp;rfl));intro gb104 hg w17 hbox hb;have n0_:=z7.mk (zk (g:=gb101) (o:=.cells #[.int .u64 x102000_1,.int .u64 x102001_1] 51 (0,0)) (by (with_reducible repeat (first|refine z2 ?_ _|refine z5 ?_|refine z1 ?_ _));exact BK101.out) hb);have n1_:=z7.mk (zg (by repeat (first|(with_reducible first|exact HB.out|apply z4|apply z0|apply z3|refine z9 ?_ GE101.out)|exact HB.out)) hb);have n2_:=z7.mk (hbox);have n3_:=z7.mk ((by rw [hg];exact (zf (by repeat (first|(with_reducible first|exact HB.out|apply z4|apply z0|apply z3|refine z9 ?_ GE101.out)|exact HB.out))) : w.heap.size ≤ gb104));have n4_:=z7.mk ((by rw [hg];exact (zf (by repeat (first|(with_reducible first|exact HB.out|apply z4|apply z0|apply z3|refine z9 ?_ GE101.out)|exact HB.out))) : w.heap.size ≤ gb104));have n5_:=z7.mk ((by rw [hg];exact Nat.ne_of_lt (zP (g:=gb101) (o:=.cells #[.int .u64 x102000_1,.int .u64 x102001_1] 51 (0,0)) (by (with_reducible repeat (first|refine z2 ?_ _|refine z5 ?_|refine z1 ?_ _));exact BK101.out)) : gb101 ≠ gb104));have n6_:=z7.mk ((by rw [hg];exact Nat.ne_of_gt (zP (g:=gb101) (o:=.cells #[.int .u64 x102000_1,.int .u64 x102001_1] 51 (0,0)) (by (with_reducible repeat (first|refine z2 ?_ _|refine z5 ?_|refine z1 ?_ _));exact BK101.out)) : gb104 ≠ gb101));clear BK101;clear HB;have BK101:=n0_;have HB:=n1_;have BK104:=n2_;have GW104:=n3_;have GE104:=n4_;have NB101_104:=n5_;have NB104_101:=n6_;clear n0_ n1_ n2_ n3_ n4_ n5_ n6_;clear hb hbox hg;have hnb18:=NB104_101.out;have hnc18:=NB101_104.out;have hcz19_0 : w17.cell? ⟨gb104,0,none⟩ = some (.int .u64 0):=(zb BK104.out 0).trans rfl;have hcz19_1 : w17.cell? ⟨gb104,1,none⟩ = some (.int .u64 0):=(zb BK104.out 1).trans rfl;have hfz19_0:=z8 BK104.out 0;have hfz19_1:=z8 BK104.out 1)|((with_reducible refine zB (f:=67) rfl ?_);refine goesL_ (some 32) rfl rfl Try.func67 (by kernel_rfl) rfl #[.int .i64 a0,.agg #[.int .u64 ((zT l2 x26_1).f0),.int .u64 ((zT l2 x26_1).f1)]] rfl (by (try simp only [List.map_toArray,List.map_cons,List.map_nil]);first|done|rfl|(simp only [List.length_drop,List.length_take];rfl)) ?_;(with_reducible refine (zJ.calls k1 a0 ((zT l2 x26_1).f0) ((zT l2 x26_1).f1) false _ A11.out).mono ?_);rintro e w20 ⟨rfl,hb⟩;refine ⟨_,rfl,?_⟩;have n0_:=z7.mk (zk (g:=gb101) (o:=.cells #[.int .u64 x102000_1,.int .u64 x102001_1] 51 (0,0)) (by (with_reducible repeat (first|refine z2 ?_ _|refine z5 ?_|refine z1 ?_ _));refine zs ?_ NB101_104.out _;(with_reducible repeat (first|refine z2 ?_ _|refine z5 ?_|refine z1 ?_ _));refine zs ?_ NB101_104.out _;(with_reducible repeat (first|refine z2 ?_ _|refine z5 ?_|refine z1 ?_ _));exact BK101.out) hb);have n1_:=z7.mk (zk (g:=gb104) (o:=.cells #[.int .u64 ((zT l2 x26_1).f0),.int .u64 ((zT l2 x26_1).f1)] 51 (0,0)) (by (with_reducible repeat (first|refine z2 ?_ _|refine z5 ?_|refine z1 ?_ _));refine zq (cs:=#[.int .u64 ((zT l2 x26_1).f0),.int .u64 0]) ?_ 1 _ rfl;(with_reducible repeat (first|refine z2 ?_ _|refine z5 ?_|refine z1 ?_ _));refine zq (cs:=#[.int .u64 0,.int .u64 0]) ?_ 0 _ rfl;(with_reducible repeat (first|refine z2 ?_ _|refine z5 ?_|refine z1 ?_ _));exact BK104.out) hb);have n2_:=z7.mk (zg (by repeat (first|(with_reducible first|exact HB.out|apply z4|apply z0|apply z3|refine z9 ?_ GE101.out|refine z9 ?_ GE104.out)|exact HB.out)) hb);clear BK101;clear BK104;clear HB;have BK101:=n0_;have BK104:=n1_;have HB:=n2_;clear n0_ n1_ n2_;(try clear hb);(try clear hb2);(try clear hk);(try clear hi);have hcz21_0 : w20.cell? ⟨gb101,0,none⟩ = some (.int .u64 x102000_1):=(zb BK101.out 0).trans rfl;have hcz21_1 : w20.cell? ⟨gb101,1,none⟩ = some (.int .u64 x102001_1):=(zb BK101.out 1).trans rfl;have hfz21_0:=z8 BK101.out 0;have hfz21_1:=z8 BK101.out 1))
       refine bodyPost_ret (z2H rfl _ _ gb101 51 #[.int .u64 0,.int .u64 0] (0,0) _ rfl (by (with_reducible repeat (first|refine z2 ?_ _|refine z5 ?_|refine z1 ?_ _));refine zq (cs:=#[.int .u64 0,.int .u64 x102001_1]) ?_ 1 _ rfl;(with_reducible repeat (first|refine z2 ?_ _|refine z5 ?_|refine z1 ?_ _));refine zq (cs:=#[.int .u64 x102000_1,.int .u64 x102001_1]) ?_ 0 _ rfl;(with_reducible repeat (first|refine z2 ?_ _|refine z5 ?_|refine z1 ?_ _));exact BK101.out) Try.underlying51 rfl (by kernel_rfl)) rfl ?_
       exact ⟨by first|rfl|(simp [zl,zm] <;> rfl)|(simp [*,zl,zm] <;> rfl),by repeat (first|(with_reducible first|exact HB.out|apply z4|apply z0|apply z3|refine z9 ?_ GE101.out|refine z9 ?_ GE104.out)|exact HB.out)⟩
     subst c12
     have H1 : (zz.l0 k1 a0 l1 l2 l2 (l2.length : Int) (wrap64 (x26_1 + 1))) = some (r1,r2,r3):=by rw [if_pos rfl] at H;exact H
     clear H
     have H:=H1
     clear H1
     have H':=z7.mk H
     clear H
     have p103 : 0 ≤ (x26_1 : Int):=of_decide_eq_true (by first|(with_reducible assumption)|assumption)
     have q103 : x26_1 < (l2.length : Int):=of_decide_eq_true (by first|(with_reducible assumption)|assumption)
     obtain ⟨ad103,e103,hx103_0,hx103_1⟩:=z2d HR2.out x26_1 p103 q103
     cases e103
     replace hx103_0:=(HB.out.cell (World.block_lt_of_cell? w _ hx103_0)).trans hx103_0
     replace hx103_1:=(HB.out.cell (World.block_lt_of_cell? w _ hx103_1)).trans hx103_1
     replace p103:=eq_true p103
     replace q103:=eq_true q103
     go_wp2_with (first|((with_reducible refine zG (N:=10) rfl ?_);refine zE ?hg (N:=10) ?hd (cs:=#[.int .u64 0,.int .u64 0]) (t:=51) ?hr ?_;(case hd=>rfl);(case hg=>rfl);(case hr=>first|(go_simp;done)|(go_simp;rfl));intro gb104 hg w13 hbox hb;have n0_:=z7.mk (zk (g:=gb101) (o:=.cells #[.int .u64 x102000_1,.int .u64 x102001_1] 51 (0,0)) (by (with_reducible repeat (first|refine z2 ?_ _|refine z5 ?_|refine z1 ?_ _));exact BK101.out) hb);have n1_:=z7.mk (zg (by repeat (first|(with_reducible first|exact HB.out|apply z4|apply z0|apply z3|refine z9 ?_ GE101.out)|exact HB.out)) hb);have n2_:=z7.mk (hbox);have n3_:=z7.mk ((by rw [hg];exact (zf (by repeat (first|(with_reducible first|exact HB.out|apply z4|apply z0|apply z3|refine z9 ?_ GE101.out)|exact HB.out))) : w.heap.size ≤ gb104));have n4_:=z7.mk ((by rw [hg];exact (zf (by repeat (first|(with_reducible first|exact HB.out|apply z4|apply z0|apply z3|refine z9 ?_ GE101.out)|exact HB.out))) : w.heap.size ≤ gb104));have n5_:=z7.mk ((by rw [hg];exact Nat.ne_of_lt (zP (g:=gb101) (o:=.cells #[.int .u64 x102000_1,.int .u64 x102001_1] 51 (0,0)) (by (with_reducible repeat (first|refine z2 ?_ _|refine z5 ?_|refine z1 ?_ _));exact BK101.out)) : gb101 ≠ gb104));have n6_:=z7.mk ((by rw [hg];exact Nat.ne_of_gt (zP (g:=gb101) (o:=.cells #[.int .u64 x102000_1,.int .u64 x102001_1] 51 (0,0)) (by (with_reducible repeat (first|refine z2 ?_ _|refine z5 ?_|refine z1 ?_ _));exact BK101.out)) : gb104 ≠ gb101));clear BK101;clear HB;have BK101:=n0_;have HB:=n1_;have BK104:=n2_;have GW104:=n3_;have GE104:=n4_;have NB101_104:=n5_;have NB104_101:=n6_;clear n0_ n1_ n2_ n3_ n4_ n5_ n6_;clear hb hbox hg;have hnb14:=NB104_101.out;have hnc14:=NB101_104.out;have hcz15_0 : w13.cell? ⟨gb104,0,none⟩ = some (.int .u64 0):=(zb BK104.out 0).trans rfl;have hcz15_1 : w13.cell? ⟨gb104,1,none⟩ = some (.int .u64 0):=(zb BK104.out 1).trans rfl;have hfz15_0:=z8 BK104.out 0;have hfz15_1:=z8 BK104.out 1)|((with_reducible refine zB (f:=67) rfl ?_);refine goesL_ (some 32) rfl rfl Try.func67 (by kernel_rfl) rfl #[.int .i64 a0,.agg #[.int .u64 ((zT l2 x26_1).f0),.int .u64 ((zT l2 x26_1).f1)]] rfl (by (try simp only [List.map_toArray,List.map_cons,List.map_nil]);first|done|rfl|(simp only [List.length_drop,List.length_take];rfl)) ?_;(with_reducible refine (zJ.calls k1 a0 ((zT l2 x26_1).f0) ((zT l2 x26_1).f1) true _ A11.out).mono ?_);rintro e w16 ⟨rfl,hb⟩;refine ⟨_,rfl,?_⟩;have n0_:=z7.mk (zk (g:=gb101) (o:=.cells #[.int .u64 x102000_1,.int .u64 x102001_1] 51 (0,0)) (by (with_reducible repeat (first|refine z2 ?_ _|refine z5 ?_|refine z1 ?_ _));refine zs ?_ NB101_104.out _;(with_reducible repeat (first|refine z2 ?_ _|refine z5 ?_|refine z1 ?_ _));refine zs ?_ NB101_104.out _;(with_reducible repeat (first|refine z2 ?_ _|refine z5 ?_|refine z1 ?_ _));exact BK101.out) hb);have n1_:=z7.mk (zk (g:=gb104) (o:=.cells #[.int .u64 ((zT l2 x26_1).f0),.int .u64 ((zT l2 x26_1).f1)] 51 (0,0)) (by (with_reducible repeat (first|refine z2 ?_ _|refine z5 ?_|refine z1 ?_ _));refine zq (cs:=#[.int .u64 ((zT l2 x26_1).f0),.int .u64 0]) ?_ 1 _ rfl;(with_reducible repeat (first|refine z2 ?_ _|refine z5 ?_|refine z1 ?_ _));refine zq (cs:=#[.int .u64 0,.int .u64 0]) ?_ 0 _ rfl;(with_reducible repeat (first|refine z2 ?_ _|refine z5 ?_|refine z1 ?_ _));exact BK104.out) hb);have n2_:=z7.mk (zg (by repeat (first|(with_reducible first|exact HB.out|apply z4|apply z0|apply z3|refine z9 ?_ GE101.out|refine z9 ?_ GE104.out)|exact HB.out)) hb);clear BK101;clear BK104;clear HB;have BK101:=n0_;have BK104:=n1_;have HB:=n2_;clear n0_ n1_ n2_;(try clear hb);(try clear hb2);(try clear hk);(try clear hi)))
     go_roundg k1
     case measure=>have:=HK1.out;omega
     case rel=>exact ⟨(wrap64 (x26_1 + 1)),(x102000_1),(x102001_1),(by first|rfl|(simp;done)|(simp [*];done)),H',⟨by have:=HK1.out;omega⟩,⟨by (with_reducible repeat (first|refine z2 ?_ _|refine z5 ?_|refine z1 ?_ _));exact BK101.out⟩,⟨by repeat (first|(with_reducible first|exact HB.out|apply z4|apply z0|apply z3|refine z9 ?_ GE101.out|refine z9 ?_ GE104.out)|exact HB.out)⟩⟩
   rw [if_neg c8] at H
   have c8b0 : decide (x26_1 < (l2.length : Int)) = false:=decide_eq_false c8
   clear c8
   have H':=z7.mk H
   clear H
   go_wp2
   go_loopg [11,38] k1 (fun kq v11 v38 w'=>∃ (x11_2 : List (S51)) (x38_2 : Int),v38 = .int .i64 x38_2 ∧ z7 (zz.l1 kq a0 l2 x11_2 l1 (l1.length : Int) x38_2 = some (r1,r2,r3)) ∧ z7 (kq ≤ k1) ∧ z7 (Kd.R k51 51 w' w.heap.size (fun k_=>k_ ≠ gb101) v11 x11_2) ∧ z7 (w'.heap[gb101]? = some (.cells #[.int .u64 x102000_1,.int .u64 x102001_1] 51 (0,0))) ∧ z7 (Below w.heap.size w w'))
   case atStart=>exact ⟨(([] : List (S51))),(0),(by first|rfl|(simp;done)|(simp [*];done)),H',⟨Nat.le_refl _⟩,⟨by first|exact Kd.z2r _ _ _ _ _|exact Kd.z2W _ _ _ _ _|exact Kd.z30 _ _ _ _ _|exact Kd.z2Y _ _ _ _ _|exact Kd.z2Z _ _ _ _ _⟩,⟨by (with_reducible repeat (first|refine z2 ?_ _|refine z5 ?_|refine z1 ?_ _));exact BK101.out⟩,⟨by repeat (first|(with_reducible first|exact HB.out|apply z4|apply z0|apply z3|refine z9 ?_ GE101.out)|exact HB.out)⟩⟩
   case round =>
    clear H'
    (try clear c1);(try clear p1);(try clear q1);(try clear hx1);(try clear c2);(try clear p2);(try clear c4);(try clear c5);(try clear c5b0);(try clear c5b1);(try clear c6);(try clear p6);(try clear c8);(try clear c8b0);(try clear c9);(try clear c9b0);(try clear c10);(try clear c10b0);(try clear p10);(try clear q10);(try clear hx10);(try clear c12);(try clear c14);(try clear c18);(try clear hcz15_0);(try clear hcz15_1);(try clear hcz19_0);(try clear hcz19_1);(try clear hcz21_0);(try clear hcz21_1);(try clear hfz15_0);(try clear hfz15_1);(try clear hfz19_0);(try clear hfz19_1);(try clear hfz21_0);(try clear hfz21_1);(try clear hx103_0);(try clear hx103_1);(try clear p103);(try clear p2);(try clear q103)
    obtain ⟨x11_2,x38_2,rfl,HA,HK2,HO_11,BK101,HB⟩:=hrel
    cases gk with
    | zero=>exact absurd HA.out (by simp [zz.l1])
    | succ k2 =>
     have H:=HA.out
     clear HA
     simp only [zz.l1] at H
     by_cases c22 : x38_2 < (l1.length : Int)
     rotate_left
     · rw [if_neg c22] at H
       have c22b0 : decide (x38_2 < (l1.length : Int)) = false:=decide_eq_false c22
       clear c22
       obtain ⟨ji101,hji101⟩ : ∃ j_ : Int,(wrap64 ((x11_2.length : Int) - 1)) = j_:=⟨_,rfl⟩
       replace H : (if 0 ≤ (ji101) then (if (ji101) < (x11_2.length : Int) then (some ((zT x11_2 (ji101)).f0,(zT x11_2 (ji101)).f1,0)) else (none)) else (none)) = some (r1,r2,r3):=by first|(rw [hji101] at H;exact H)|(simp only [hji101] at H ⊢;exact H)
       have hji101w : (IntKind.i64.wrap ((x11_2.length : Int) - 1)) = ji101:=(zH _).trans hji101
       by_cases c102 : 0 ≤ (ji101)
       rotate_left
       · rw [if_neg c102] at H
         exact absurd H (by simp)
       rw [if_pos c102] at H
       have c102b0 : decide (0 ≤ (ji101)) = true:=decide_eq_true c102
       clear c102
       by_cases c103 : (ji101) < (x11_2.length : Int)
       rotate_left
       · rw [if_neg c103] at H
         exact absurd H (by simp)
       rw [if_pos c103] at H
       have c103b0 : decide ((ji101) < (x11_2.length : Int)) = true:=decide_eq_true c103
       clear c103
       simp only [Option.some.injEq,Prod.mk.injEq] at H
       obtain ⟨rfl,rfl,rfl⟩:=H
       obtain ⟨Ao104,co104,eo104⟩:=Kd.z1q HO_11.out
       subst eo104
       have p106 : 0 ≤ ((ji101) : Int):=of_decide_eq_true (by first|(with_reducible assumption)|assumption)
       have q106 : (ji101) < (x11_2.length : Int):=of_decide_eq_true (by first|(with_reducible assumption)|assumption)
       obtain ⟨ad106,e106,hx106_0,hx106_1⟩:=z2d (Kd.zO HO_11.out).2.2 (ji101) p106 q106
       cases e106
       replace p106:=eq_true p106
       replace q106:=eq_true q106
       have hcz105_0 : wr.cell? ⟨gb101,0,none⟩ = some (.int .u64 x102000_1):=(zb BK101.out 0).trans rfl
       have hcz105_1 : wr.cell? ⟨gb101,1,none⟩ = some (.int .u64 x102001_1):=(zb BK101.out 1).trans rfl
       have hfz105_0:=z8 BK101.out 0
       have hfz105_1:=z8 BK101.out 1
       go_wp2
       refine bodyPost_ret (z2H rfl _ _ gb101 51 #[.int .u64 ((zT x11_2 (ji101)).f0),.int .u64 ((zT x11_2 (ji101)).f1)] (0,0) _ rfl (by (with_reducible repeat (first|refine z2 ?_ _|refine z5 ?_|refine z1 ?_ _));refine zq (cs:=#[.int .u64 ((zT x11_2 (ji101)).f0),.int .u64 x102001_1]) ?_ 1 _ rfl;(with_reducible repeat (first|refine z2 ?_ _|refine z5 ?_|refine z1 ?_ _));refine zq (cs:=#[.int .u64 x102000_1,.int .u64 x102001_1]) ?_ 0 _ rfl;(with_reducible repeat (first|refine z2 ?_ _|refine z5 ?_|refine z1 ?_ _));exact BK101.out) Try.underlying51 rfl (by kernel_rfl)) rfl ?_
       exact ⟨by first|rfl|(simp [zl,zm] <;> rfl)|(simp only [← hji101];first|rfl|(simp [zl,zm] <;> rfl))|(simp [*,zl,zm] <;> rfl),by repeat (first|(with_reducible first|exact HB.out|apply z4|apply z0|apply z3|refine z9 ?_ GE101.out)|exact HB.out)⟩
     rw [if_pos c22] at H
     have c22b0 : decide (x38_2 < (l1.length : Int)) = true:=decide_eq_true c22
     clear c22
     by_cases c23 : 0 ≤ x38_2
     rotate_left
     · rw [if_neg c23] at H
       exact absurd H (by simp)
     rw [if_pos c23] at H
     have c23b0 : decide (0 ≤ x38_2) = true:=decide_eq_true c23
     clear c23
     by_cases c24 : x38_2 < (l1.length : Int)
     rotate_left
     · rw [if_neg c24] at H
       exact absurd H (by simp)
     rw [if_pos c24] at H
     have c24b0 : decide (x38_2 < (l1.length : Int)) = true:=decide_eq_true c24
     clear c24
     by_cases c25 : ((zd l1 x38_2).f0) = 1
     · rw [if_pos c25] at H
       have c25b0 : (((zd l1 x38_2).f0) == 1) = true:=beq_iff_eq.mpr c25
       have c25b1 : (((zd l1 x38_2).f0) != 1) = false:=bne_eq_false_iff_eq.mpr c25
       clear c25
       by_cases c26 : x11_2.length < 8796093022208
       rotate_left
       · rw [if_neg c26] at H
         exact absurd H (by simp)
       rw [if_pos c26] at H
       have LMc26:=z7.mk c26
       clear c26
       obtain ⟨y110,hy110⟩ : ∃ y_ : List (S51),y_ = (x11_2 ++ [(⟨(zd l1 x38_2).f3.f0,(zd l1 x38_2).f3.f1⟩ : S51)]):=⟨_,rfl⟩
       replace H : (zz.l1 k2 a0 l2 y110 l1 (l1.length : Int) (wrap64 (x38_2 + 1))) = some (r1,r2,r3):=by first|(rw [hy110];with_reducible exact H)|(have H2_:=(Option.bind_some _ _).symm.trans H;rw [hy110];with_reducible exact H2_)|(have H2_:=(Option.bind_some _ _).symm.trans H;with_reducible exact H2_)|with_reducible exact H|(rw [hy110];exact H)|exact H
       have Ny110:=z7.mk hy110
       clear hy110
       have H':=z7.mk H
       clear H
       have p107 : 0 ≤ (x38_2 : Int):=of_decide_eq_true (by first|(with_reducible assumption)|assumption)
       have q107 : x38_2 < (l1.length : Int):=of_decide_eq_true (by first|(with_reducible assumption)|assumption)
       obtain ⟨ad107,e107,hx107_0,hx107_1,hx107_2,hx107_3,hx107_4⟩:=z1R HR1.out x38_2 p107 q107
       cases e107
       replace hx107_0:=(HB.out.cell (World.block_lt_of_cell? w _ hx107_0)).trans hx107_0
       replace hx107_1:=(HB.out.cell (World.block_lt_of_cell? w _ hx107_1)).trans hx107_1
       replace hx107_2:=(HB.out.cell (World.block_lt_of_cell? w _ hx107_2)).trans hx107_2
       replace hx107_3:=(HB.out.cell (World.block_lt_of_cell? w _ hx107_3)).trans hx107_3
       replace hx107_4:=(HB.out.cell (World.block_lt_of_cell? w _ hx107_4)).trans hx107_4
       replace p107:=eq_true p107
       replace q107:=eq_true q107
       go_wp2_with (first|((with_reducible refine zG (N:=13) rfl ?_);refine zE ?hg (N:=13) ?hd (cs:=#[.int .i64 0,.int .i64 0,.int .i64 0,.int .u64 0,.int .u64 0]) (t:=87) ?hr ?_;(case hd=>rfl);(case hg=>rfl);(case hr=>first|(go_simp;done)|(go_simp;rfl));intro gb108 hg w27 hbox hb;have n0_:=z7.mk (Kd.zY (by (with_reducible repeat (first|apply Kd.zx|apply Kd.zy|apply Kd.zD));exact HO_11.out) hb);have n1_:=z7.mk (zk (g:=gb101) (o:=.cells #[.int .u64 x102000_1,.int .u64 x102001_1] 51 (0,0)) (by (with_reducible repeat (first|refine z2 ?_ _|refine z5 ?_|refine z1 ?_ _));exact BK101.out) hb);have n2_:=z7.mk (zg (by repeat (first|(with_reducible first|exact HB.out|apply z4|apply z0|apply z3|refine z9 ?_ GE101.out)|exact HB.out)) hb);have n3_:=z7.mk (hbox);have n4_:=z7.mk ((by rw [hg];exact (zf (by repeat (first|(with_reducible first|exact HB.out|apply z4|apply z0|apply z3|refine z9 ?_ GE101.out)|exact HB.out))) : w.heap.size ≤ gb108));have n5_:=z7.mk ((by rw [hg];exact (zf (by repeat (first|(with_reducible first|exact HB.out|apply z4|apply z0|apply z3|refine z9 ?_ GE101.out)|exact HB.out))) : w.heap.size ≤ gb108));have n6_:=z7.mk ((by rw [hg];exact Nat.ne_of_lt (zP (g:=gb101) (o:=.cells #[.int .u64 x102000_1,.int .u64 x102001_1] 51 (0,0)) (by (with_reducible repeat (first|refine z2 ?_ _|refine z5 ?_|refine z1 ?_ _));exact BK101.out)) : gb101 ≠ gb108));have n7_:=z7.mk ((by rw [hg];exact Nat.ne_of_gt (zP (g:=gb101) (o:=.cells #[.int .u64 x102000_1,.int .u64 x102001_1] 51 (0,0)) (by (with_reducible repeat (first|refine z2 ?_ _|refine z5 ?_|refine z1 ?_ _));exact BK101.out)) : gb108 ≠ gb101));clear HO_11;clear BK101;clear HB;have HO_11:=n0_;have BK101:=n1_;have HB:=n2_;have BK108:=n3_;have GW108:=n4_;have GE108:=n5_;have NB101_108:=n6_;have NB108_101:=n7_;clear n0_ n1_ n2_ n3_ n4_ n5_ n6_ n7_;clear hb hbox hg;have hnb28:=NB108_101.out;have hnc28:=NB101_108.out;have hcz29_0 : w27.cell? ⟨gb108,0,none⟩ = some (.int .i64 0):=(zb BK108.out 0).trans rfl;have hcz29_1 : w27.cell? ⟨gb108,1,none⟩ = some (.int .i64 0):=(zb BK108.out 1).trans rfl;have hcz29_2 : w27.cell? ⟨gb108,2,none⟩ = some (.int .i64 0):=(zb BK108.out 2).trans rfl;have hcz29_3 : w27.cell? ⟨gb108,3,none⟩ = some (.int .u64 0):=(zb BK108.out 3).trans rfl;have hcz29_4 : w27.cell? ⟨gb108,4,none⟩ = some (.int .u64 0):=(zb BK108.out 4).trans rfl;have hfz29_0:=z8 BK108.out 0;have hfz29_1:=z8 BK108.out 1;have hfz29_2:=z8 BK108.out 2;have hfz29_3:=z8 BK108.out 3;have hfz29_4:=z8 BK108.out 4)|((with_reducible refine zG (N:=14) rfl ?_);refine zE ?hg (N:=14) ?hd (cs:=#[.int .u64 0,.int .u64 0]) (t:=51) ?hr ?_;(case hd=>rfl);(case hg=>rfl);(case hr=>first|(go_simp;done)|(go_simp;rfl));intro gb109 hg w30 hbox hb;have n0_:=z7.mk (Kd.zY (Kd.z1S (by (with_reducible repeat (first|apply Kd.zx|apply Kd.zy|apply Kd.zD));exact (Kd.z1d (Kd.z1g (p:=⟨gb108,4,none⟩) (Kd.z1g (p:=⟨gb108,3,none⟩) (Kd.z1g (p:=⟨gb108,2,none⟩) (Kd.z1g (p:=⟨gb108,1,none⟩) (Kd.z1g (p:=⟨gb108,0,none⟩) (Kd.z1L HO_11.out BK108.out (by decide)) (fun _ hk=>hk.2) (.int .i64 ((zd l1 x38_2).f0))) (fun _ hk=>hk.2) (.int .i64 ((zd l1 x38_2).f1))) (fun _ hk=>hk.2) (.int .i64 ((zd l1 x38_2).f2))) (fun _ hk=>hk.2) (.int .u64 ((zd l1 x38_2).f3.f0))) (fun _ hk=>hk.2) (.int .u64 ((zd l1 x38_2).f3.f1))) (fun _ h_=>h_.1))) gb109 (Nat.le_of_eq hg.symm)) hb);have n1_:=z7.mk (zk (g:=gb101) (o:=.cells #[.int .u64 x102000_1,.int .u64 x102001_1] 51 (0,0)) (by (with_reducible repeat (first|refine z2 ?_ _|refine z5 ?_|refine z1 ?_ _));refine zs ?_ NB101_108.out _;(with_reducible repeat (first|refine z2 ?_ _|refine z5 ?_|refine z1 ?_ _));refine zs ?_ NB101_108.out _;(with_reducible repeat (first|refine z2 ?_ _|refine z5 ?_|refine z1 ?_ _));refine zs ?_ NB101_108.out _;(with_reducible repeat (first|refine z2 ?_ _|refine z5 ?_|refine z1 ?_ _));refine zs ?_ NB101_108.out _;(with_reducible repeat (first|refine z2 ?_ _|refine z5 ?_|refine z1 ?_ _));refine zs ?_ NB101_108.out _;(with_reducible repeat (first|refine z2 ?_ _|refine z5 ?_|refine z1 ?_ _));exact BK101.out) hb);have n2_:=z7.mk (zk (g:=gb108) (o:=.cells #[.int .i64 ((zd l1 x38_2).f0),.int .i64 ((zd l1 x38_2).f1),.int .i64 ((zd l1 x38_2).f2),.int .u64 ((zd l1 x38_2).f3.f0),.int .u64 ((zd l1 x38_2).f3.f1)] 87 (0,0)) (by (with_reducible repeat (first|refine z2 ?_ _|refine z5 ?_|refine z1 ?_ _));refine zq (cs:=#[.int .i64 ((zd l1 x38_2).f0),.int .i64 ((zd l1 x38_2).f1),.int .i64 ((zd l1 x38_2).f2),.int .u64 ((zd l1 x38_2).f3.f0),.int .u64 0]) ?_ 4 _ rfl;(with_reducible repeat (first|refine z2 ?_ _|refine z5 ?_|refine z1 ?_ _));refine zq (cs:=#[.int .i64 ((zd l1 x38_2).f0),.int .i64 ((zd l1 x38_2).f1),.int .i64 ((zd l1 x38_2).f2),.int .u64 0,.int .u64 0]) ?_ 3 _ rfl;(with_reducible repeat (first|refine z2 ?_ _|refine z5 ?_|refine z1 ?_ _));refine zq (cs:=#[.int .i64 ((zd l1 x38_2).f0),.int .i64 ((zd l1 x38_2).f1),.int .i64 0,.int .u64 0,.int .u64 0]) ?_ 2 _ rfl;(with_reducible repeat (first|refine z2 ?_ _|refine z5 ?_|refine z1 ?_ _));refine zq (cs:=#[.int .i64 ((zd l1 x38_2).f0),.int .i64 0,.int .i64 0,.int .u64 0,.int .u64 0]) ?_ 1 _ rfl;(with_reducible repeat (first|refine z2 ?_ _|refine z5 ?_|refine z1 ?_ _));refine zq (cs:=#[.int .i64 0,.int .i64 0,.int .i64 0,.int .u64 0,.int .u64 0]) ?_ 0 _ rfl;(with_reducible repeat (first|refine z2 ?_ _|refine z5 ?_|refine z1 ?_ _));exact BK108.out) hb);have n3_:=z7.mk (zg (by repeat (first|(with_reducible first|exact HB.out|apply z4|apply z0|apply z3|refine z9 ?_ GE101.out|refine z9 ?_ GE108.out)|exact HB.out)) hb);have n4_:=z7.mk (hbox);have n5_:=z7.mk ((by rw [hg];exact (zf (by repeat (first|(with_reducible first|exact HB.out|apply z4|apply z0|apply z3|refine z9 ?_ GE101.out|refine z9 ?_ GE108.out)|exact HB.out))) : w.heap.size ≤ gb109));have n6_:=z7.mk ((by rw [hg];exact (zf (by repeat (first|(with_reducible first|exact HB.out|apply z4|apply z0|apply z3|refine z9 ?_ GE101.out|refine z9 ?_ GE108.out)|exact HB.out))) : w.heap.size ≤ gb109));have n7_:=z7.mk ((by rw [hg];exact Nat.ne_of_lt (zP (g:=gb101) (o:=.cells #[.int .u64 x102000_1,.int .u64 x102001_1] 51 (0,0)) (by (with_reducible repeat (first|refine z2 ?_ _|refine z5 ?_|refine z1 ?_ _));refine zs ?_ NB101_108.out _;(with_reducible repeat (first|refine z2 ?_ _|refine z5 ?_|refine z1 ?_ _));refine zs ?_ NB101_108.out _;(with_reducible repeat (first|refine z2 ?_ _|refine z5 ?_|refine z1 ?_ _));refine zs ?_ NB101_108.out _;(with_reducible repeat (first|refine z2 ?_ _|refine z5 ?_|refine z1 ?_ _));refine zs ?_ NB101_108.out _;(with_reducible repeat (first|refine z2 ?_ _|refine z5 ?_|refine z1 ?_ _));refine zs ?_ NB101_108.out _;(with_reducible repeat (first|refine z2 ?_ _|refine z5 ?_|refine z1 ?_ _));exact BK101.out)) : gb101 ≠ gb109));have n8_:=z7.mk ((by rw [hg];exact Nat.ne_of_gt (zP (g:=gb101) (o:=.cells #[.int .u64 x102000_1,.int .u64 x102001_1] 51 (0,0)) (by (with_reducible repeat (first|refine z2 ?_ _|refine z5 ?_|refine z1 ?_ _));refine zs ?_ NB101_108.out _;(with_reducible repeat (first|refine z2 ?_ _|refine z5 ?_|refine z1 ?_ _));refine zs ?_ NB101_108.out _;(with_reducible repeat (first|refine z2 ?_ _|refine z5 ?_|refine z1 ?_ _));refine zs ?_ NB101_108.out _;(with_reducible repeat (first|refine z2 ?_ _|refine z5 ?_|refine z1 ?_ _));refine zs ?_ NB101_108.out _;(with_reducible repeat (first|refine z2 ?_ _|refine z5 ?_|refine z1 ?_ _));refine zs ?_ NB101_108.out _;(with_reducible repeat (first|refine z2 ?_ _|refine z5 ?_|refine z1 ?_ _));exact BK101.out)) : gb109 ≠ gb101));have n9_:=z7.mk ((by rw [hg];exact Nat.ne_of_lt (zP (g:=gb108) (o:=.cells #[.int .i64 ((zd l1 x38_2).f0),.int .i64 ((zd l1 x38_2).f1),.int .i64 ((zd l1 x38_2).f2),.int .u64 ((zd l1 x38_2).f3.f0),.int .u64 ((zd l1 x38_2).f3.f1)] 87 (0,0)) (by (with_reducible repeat (first|refine z2 ?_ _|refine z5 ?_|refine z1 ?_ _));refine zq (cs:=#[.int .i64 ((zd l1 x38_2).f0),.int .i64 ((zd l1 x38_2).f1),.int .i64 ((zd l1 x38_2).f2),.int .u64 ((zd l1 x38_2).f3.f0),.int .u64 0]) ?_ 4 _ rfl;(with_reducible repeat (first|refine z2 ?_ _|refine z5 ?_|refine z1 ?_ _));refine zq (cs:=#[.int .i64 ((zd l1 x38_2).f0),.int .i64 ((zd l1 x38_2).f1),.int .i64 ((zd l1 x38_2).f2),.int .u64 0,.int .u64 0]) ?_ 3 _ rfl;(with_reducible repeat (first|refine z2 ?_ _|refine z5 ?_|refine z1 ?_ _));refine zq (cs:=#[.int .i64 ((zd l1 x38_2).f0),.int .i64 ((zd l1 x38_2).f1),.int .i64 0,.int .u64 0,.int .u64 0]) ?_ 2 _ rfl;(with_reducible repeat (first|refine z2 ?_ _|refine z5 ?_|refine z1 ?_ _));refine zq (cs:=#[.int .i64 ((zd l1 x38_2).f0),.int .i64 0,.int .i64 0,.int .u64 0,.int .u64 0]) ?_ 1 _ rfl;(with_reducible repeat (first|refine z2 ?_ _|refine z5 ?_|refine z1 ?_ _));refine zq (cs:=#[.int .i64 0,.int .i64 0,.int .i64 0,.int .u64 0,.int .u64 0]) ?_ 0 _ rfl;(with_reducible repeat (first|refine z2 ?_ _|refine z5 ?_|refine z1 ?_ _));exact BK108.out)) : gb108 ≠ gb109));have n10_:=z7.mk ((by rw [hg];exact Nat.ne_of_gt (zP (g:=gb108) (o:=.cells #[.int .i64 ((zd l1 x38_2).f0),.int .i64 ((zd l1 x38_2).f1),.int .i64 ((zd l1 x38_2).f2),.int .u64 ((zd l1 x38_2).f3.f0),.int .u64 ((zd l1 x38_2).f3.f1)] 87 (0,0)) (by (with_reducible repeat (first|refine z2 ?_ _|refine z5 ?_|refine z1 ?_ _));refine zq (cs:=#[.int .i64 ((zd l1 x38_2).f0),.int .i64 ((zd l1 x38_2).f1),.int .i64 ((zd l1 x38_2).f2),.int .u64 ((zd l1 x38_2).f3.f0),.int .u64 0]) ?_ 4 _ rfl;(with_reducible repeat (first|refine z2 ?_ _|refine z5 ?_|refine z1 ?_ _));refine zq (cs:=#[.int .i64 ((zd l1 x38_2).f0),.int .i64 ((zd l1 x38_2).f1),.int .i64 ((zd l1 x38_2).f2),.int .u64 0,.int .u64 0]) ?_ 3 _ rfl;(with_reducible repeat (first|refine z2 ?_ _|refine z5 ?_|refine z1 ?_ _));refine zq (cs:=#[.int .i64 ((zd l1 x38_2).f0),.int .i64 ((zd l1 x38_2).f1),.int .i64 0,.int .u64 0,.int .u64 0]) ?_ 2 _ rfl;(with_reducible repeat (first|refine z2 ?_ _|refine z5 ?_|refine z1 ?_ _));refine zq (cs:=#[.int .i64 ((zd l1 x38_2).f0),.int .i64 0,.int .i64 0,.int .u64 0,.int .u64 0]) ?_ 1 _ rfl;(with_reducible repeat (first|refine z2 ?_ _|refine z5 ?_|refine z1 ?_ _));refine zq (cs:=#[.int .i64 0,.int .i64 0,.int .i64 0,.int .u64 0,.int .u64 0]) ?_ 0 _ rfl;(with_reducible repeat (first|refine z2 ?_ _|refine z5 ?_|refine z1 ?_ _));exact BK108.out)) : gb109 ≠ gb108));clear HO_11;clear BK101;clear BK108;clear HB;have HO_11:=n0_;have BK101:=n1_;have BK108:=n2_;have HB:=n3_;have BK109:=n4_;have GW109:=n5_;have GE109:=n6_;have NB101_109:=n7_;have NB109_101:=n8_;have NB108_109:=n9_;have NB109_108:=n10_;clear n0_ n1_ n2_ n3_ n4_ n5_ n6_ n7_ n8_ n9_ n10_;clear hb hbox hg;have hnb31:=NB108_109.out;have hnc31:=NB109_108.out;have hcz32_0 : w30.cell? ⟨gb108,0,none⟩ = some (.int .i64 ((zd l1 x38_2).f0)):=(zb BK108.out 0).trans rfl;have hcz32_1 : w30.cell? ⟨gb108,1,none⟩ = some (.int .i64 ((zd l1 x38_2).f1)):=(zb BK108.out 1).trans rfl;have hcz32_2 : w30.cell? ⟨gb108,2,none⟩ = some (.int .i64 ((zd l1 x38_2).f2)):=(zb BK108.out 2).trans rfl;have hcz32_3 : w30.cell? ⟨gb108,3,none⟩ = some (.int .u64 ((zd l1 x38_2).f3.f0)):=(zb BK108.out 3).trans rfl;have hcz32_4 : w30.cell? ⟨gb108,4,none⟩ = some (.int .u64 ((zd l1 x38_2).f3.f1)):=(zb BK108.out 4).trans rfl;have hfz32_0:=z8 BK108.out 0;have hfz32_1:=z8 BK108.out 1;have hfz32_2:=z8 BK108.out 2;have hfz32_3:=z8 BK108.out 3;have hfz32_4:=z8 BK108.out 4;have hnb33:=NB109_101.out;have hnc33:=NB101_109.out;have hcz34_0 : w30.cell? ⟨gb109,0,none⟩ = some (.int .u64 0):=(zb BK109.out 0).trans rfl;have hcz34_1 : w30.cell? ⟨gb109,1,none⟩ = some (.int .u64 0):=(zb BK109.out 1).trans rfl;have hfz34_0:=z8 BK109.out 0;have hfz34_1:=z8 BK109.out 1)|((with_reducible refine zW (b:=.append) (xs:=#[.tmp 82,.tmp 84]) rfl ?_);at_builtin;refine Kd.z1h k51 (w0:=w) w.heap.size rfl (.tmp 82) (.tmp 84) 37 51 (.agg #[(.int .u64 0),(.int .u64 0)]) 16 rfl Try.underlying37 info51 rfl (by decide) (by omega) u11 x11_2 (⟨(zd l1 x38_2).f3.f0,(zd l1 x38_2).f3.f1⟩ : S51) [.int .u64 ((zd l1 x38_2).f3.f0),.int .u64 ((zd l1 x38_2).f3.f1)] (fun k_=>k_ ≠ gb101 ∧ k_ ≠ gb109) (fun _=>False) rfl (by first|(go_simp;done)|(go_simp;rfl)) ?aP (fun _ hk=>hk.elim) ?aF ?aO ?aB ?aS ?aL ?_;(case aP=>exact z1Q _ _ _ (⟨(zd l1 x38_2).f3.f0,(zd l1 x38_2).f3.f1⟩ : S51));(case aB=>exact (by repeat (first|(with_reducible first|exact HB.out|apply z4|apply z0|apply z3|refine z9 ?_ GE101.out|refine z9 ?_ GE108.out|refine z9 ?_ GE109.out)|exact HB.out)));(case aF=>exact (fun k_ hk=>⟨Kd.freshB (g:=gb101) (o:=.cells #[.int .u64 x102000_1,.int .u64 x102001_1] 51 (0,0)) (by (with_reducible repeat (first|refine z2 ?_ _|refine z5 ?_|refine z1 ?_ _));refine zs ?_ NB101_109.out _;(with_reducible repeat (first|refine z2 ?_ _|refine z5 ?_|refine z1 ?_ _));refine zs ?_ NB101_109.out _;(with_reducible repeat (first|refine z2 ?_ _|refine z5 ?_|refine z1 ?_ _));exact BK101.out) k_ hk,Kd.freshB (g:=gb109) (o:=.cells #[.int .u64 ((zd l1 x38_2).f3.f0),.int .u64 ((zd l1 x38_2).f3.f1)] 51 (0,0)) (by (with_reducible repeat (first|refine z2 ?_ _|refine z5 ?_|refine z1 ?_ _));refine zq (cs:=#[.int .u64 ((zd l1 x38_2).f3.f0),.int .u64 0]) ?_ 1 _ rfl;(with_reducible repeat (first|refine z2 ?_ _|refine z5 ?_|refine z1 ?_ _));refine zq (cs:=#[.int .u64 0,.int .u64 0]) ?_ 0 _ rfl;(with_reducible repeat (first|refine z2 ?_ _|refine z5 ?_|refine z1 ?_ _));exact BK109.out) k_ hk⟩));(case aO=>exact (by (with_reducible repeat (first|apply Kd.zx|apply Kd.zy|apply Kd.zD));exact Kd.z1d (Kd.z1g (p:=⟨gb109,1,none⟩) (Kd.z1g (p:=⟨gb109,0,none⟩) (Kd.z1d HO_11.out (fun k_ hk=>(⟨hk,hk.2⟩ : _ ∧ k_ ≠ gb109))) (fun _ hk=>hk.2) (.int .u64 ((zd l1 x38_2).f3.f0))) (fun _ hk=>hk.2) (.int .u64 ((zd l1 x38_2).f3.f1))) (fun _ hk=>⟨hk.1.1,hk.1.2⟩)));(case aS=>exact (zf (by repeat (first|(with_reducible first|exact HB.out|apply z4|apply z0|apply z3|refine z9 ?_ GE101.out|refine z9 ?_ GE108.out|refine z9 ?_ GE109.out)|exact HB.out))));(case aL=>have:=LMc26.out;omega);intro v111 w35 ho hb hg hat;rw [← Ny110.out] at ho;have n0_:=z7.mk (z1i (g:=gb101) (o:=.cells #[.int .u64 x102000_1,.int .u64 x102001_1] 51 (0,0)) (by (with_reducible repeat (first|refine z2 ?_ _|refine z5 ?_|refine z1 ?_ _));refine zs ?_ NB101_109.out _;(with_reducible repeat (first|refine z2 ?_ _|refine z5 ?_|refine z1 ?_ _));refine zs ?_ NB101_109.out _;(with_reducible repeat (first|refine z2 ?_ _|refine z5 ?_|refine z1 ?_ _));exact BK101.out) hg (Kd.zt HO_11.out (fun _ hk=>hk.1)));have n1_:=z7.mk (z1i (g:=gb108) (o:=.cells #[.int .i64 ((zd l1 x38_2).f0),.int .i64 ((zd l1 x38_2).f1),.int .i64 ((zd l1 x38_2).f2),.int .u64 ((zd l1 x38_2).f3.f0),.int .u64 ((zd l1 x38_2).f3.f1)] 87 (0,0)) (by (with_reducible repeat (first|refine z2 ?_ _|refine z5 ?_|refine z1 ?_ _));refine zs ?_ NB108_109.out _;(with_reducible repeat (first|refine z2 ?_ _|refine z5 ?_|refine z1 ?_ _));refine zs ?_ NB108_109.out _;(with_reducible repeat (first|refine z2 ?_ _|refine z5 ?_|refine z1 ?_ _));exact BK108.out) hg (Kd.R_ne HO_11.out BK108.out (by decide)));have n2_:=z7.mk (z1i (g:=gb109) (o:=.cells #[.int .u64 ((zd l1 x38_2).f3.f0),.int .u64 ((zd l1 x38_2).f3.f1)] 51 (0,0)) (by (with_reducible repeat (first|refine z2 ?_ _|refine z5 ?_|refine z1 ?_ _));refine zq (cs:=#[.int .u64 ((zd l1 x38_2).f3.f0),.int .u64 0]) ?_ 1 _ rfl;(with_reducible repeat (first|refine z2 ?_ _|refine z5 ?_|refine z1 ?_ _));refine zq (cs:=#[.int .u64 0,.int .u64 0]) ?_ 0 _ rfl;(with_reducible repeat (first|refine z2 ?_ _|refine z5 ?_|refine z1 ?_ _));exact BK109.out) hg (Kd.zt HO_11.out (fun _ hk=>hk.2)));have n3_:=z7.mk (hb);have n4_:=z7.mk (ho);clear BK101;clear BK108;clear BK109;clear HB;clear HO_11;have BK101:=n0_;have BK108:=n1_;have BK109:=n2_;have HB:=n3_;have HO112:=n4_;clear n0_ n1_ n2_ n3_ n4_;clear ho hb hg hat))
       go_roundg k2
       case measure=>have:=HK1.out;have:=HK2.out;omega
       case rel=>exact ⟨(y110),(wrap64 (x38_2 + 1)),(by first|rfl|(simp;done)|(simp [*];done)),H',⟨by have:=HK1.out;have:=HK2.out;omega⟩,⟨by (with_reducible repeat (first|apply Kd.zx|apply Kd.zy|apply Kd.zD));exact Kd.z1d HO112.out (fun _ hk=>hk.1)⟩,⟨by (with_reducible repeat (first|refine z2 ?_ _|refine z5 ?_|refine z1 ?_ _));exact BK101.out⟩,⟨by repeat (first|(with_reducible first|exact HB.out|apply z4|apply z0|apply z3|refine z9 ?_ GE101.out|refine z9 ?_ GE108.out|refine z9 ?_ GE109.out)|exact HB.out)⟩⟩
     rw [if_neg c25] at H
     have c25b0 : (((zd l1 x38_2).f0) == 1) = false:=beq_eq_false_iff_ne.mpr c25
     have c25b1 : (((zd l1 x38_2).f0) != 1) = true:=bne_iff_ne.mpr c25
     by_cases c36 : ((zd l1 x38_2).f0) = 2
     · rw [if_pos c36] at H
       have c36b0 : (((zd l1 x38_2).f0) == 2) = true:=beq_iff_eq.mpr c36
       have c36b1 : (((zd l1 x38_2).f0) != 2) = false:=bne_eq_false_iff_eq.mpr c36
       clear c36
       by_cases c37 : 0 ≤ ((zd l1 x38_2).f1)
       rotate_left
       · rw [if_neg c37] at H
         exact absurd H (by simp)
       rw [if_pos c37] at H
       have c37b0 : decide (0 ≤ ((zd l1 x38_2).f1)) = true:=decide_eq_true c37
       clear c37
       by_cases c38 : ((zd l1 x38_2).f1) < (l2.length : Int)
       rotate_left
       · rw [if_neg c38] at H
         exact absurd H (by simp)
       rw [if_pos c38] at H
       have c38b0 : decide (((zd l1 x38_2).f1) < (l2.length : Int)) = true:=decide_eq_true c38
       clear c38
       by_cases c39 : x11_2.length < 8796093022208
       rotate_left
       · rw [if_neg c39] at H
         exact absurd H (by simp)
       rw [if_pos c39] at H
       have LMc39:=z7.mk c39
       clear c39
       obtain ⟨y114,hy114⟩ : ∃ y_ : List (S51),y_ = (x11_2 ++ [(⟨(zT l2 ((zd l1 x38_2).f1)).f0,(zT l2 ((zd l1 x38_2).f1)).f1⟩ : S51)]):=⟨_,rfl⟩
       replace H : (zz.l1 k2 a0 l2 y114 l1 (l1.length : Int) (wrap64 (x38_2 + 1))) = some (r1,r2,r3):=by first|(rw [hy114];with_reducible exact H)|(have H2_:=(Option.bind_some _ _).symm.trans H;rw [hy114];with_reducible exact H2_)|(have H2_:=(Option.bind_some _ _).symm.trans H;with_reducible exact H2_)|with_reducible exact H|(rw [hy114];exact H)|exact H
       have Ny114:=z7.mk hy114
       clear hy114
       have H':=z7.mk H
       clear H
       have p107 : 0 ≤ (x38_2 : Int):=of_decide_eq_true (by first|(with_reducible assumption)|assumption)
       have q107 : x38_2 < (l1.length : Int):=of_decide_eq_true (by first|(with_reducible assumption)|assumption)
       obtain ⟨ad107,e107,hx107_0,hx107_1,hx107_2,hx107_3,hx107_4⟩:=z1R HR1.out x38_2 p107 q107
       cases e107
       replace hx107_0:=(HB.out.cell (World.block_lt_of_cell? w _ hx107_0)).trans hx107_0
       replace hx107_1:=(HB.out.cell (World.block_lt_of_cell? w _ hx107_1)).trans hx107_1
       replace hx107_2:=(HB.out.cell (World.block_lt_of_cell? w _ hx107_2)).trans hx107_2
       replace hx107_3:=(HB.out.cell (World.block_lt_of_cell? w _ hx107_3)).trans hx107_3
       replace hx107_4:=(HB.out.cell (World.block_lt_of_cell? w _ hx107_4)).trans hx107_4
       replace p107:=eq_true p107
       replace q107:=eq_true q107
       go_wp2_with (first|((with_reducible refine zG (N:=13) rfl ?_);refine zE ?hg (N:=13) ?hd (cs:=#[.int .i64 0,.int .i64 0,.int .i64 0,.int .u64 0,.int .u64 0]) (t:=87) ?hr ?_;(case hd=>rfl);(case hg=>rfl);(case hr=>first|(go_simp;done)|(go_simp;rfl));intro gb108 hg w40 hbox hb;have n0_:=z7.mk (Kd.zY (by (with_reducible repeat (first|apply Kd.zx|apply Kd.zy|apply Kd.zD));exact HO_11.out) hb);have n1_:=z7.mk (zk (g:=gb101) (o:=.cells #[.int .u64 x102000_1,.int .u64 x102001_1] 51 (0,0)) (by (with_reducible repeat (first|refine z2 ?_ _|refine z5 ?_|refine z1 ?_ _));exact BK101.out) hb);have n2_:=z7.mk (zg (by repeat (first|(with_reducible first|exact HB.out|apply z4|apply z0|apply z3|refine z9 ?_ GE101.out)|exact HB.out)) hb);have n3_:=z7.mk (hbox);have n4_:=z7.mk ((by rw [hg];exact (zf (by repeat (first|(with_reducible first|exact HB.out|apply z4|apply z0|apply z3|refine z9 ?_ GE101.out)|exact HB.out))) : w.heap.size ≤ gb108));have n5_:=z7.mk ((by rw [hg];exact (zf (by repeat (first|(with_reducible first|exact HB.out|apply z4|apply z0|apply z3|refine z9 ?_ GE101.out)|exact HB.out))) : w.heap.size ≤ gb108));have n6_:=z7.mk ((by rw [hg];exact Nat.ne_of_lt (zP (g:=gb101) (o:=.cells #[.int .u64 x102000_1,.int .u64 x102001_1] 51 (0,0)) (by (with_reducible repeat (first|refine z2 ?_ _|refine z5 ?_|refine z1 ?_ _));exact BK101.out)) : gb101 ≠ gb108));have n7_:=z7.mk ((by rw [hg];exact Nat.ne_of_gt (zP (g:=gb101) (o:=.cells #[.int .u64 x102000_1,.int .u64 x102001_1] 51 (0,0)) (by (with_reducible repeat (first|refine z2 ?_ _|refine z5 ?_|refine z1 ?_ _));exact BK101.out)) : gb108 ≠ gb101));clear HO_11;clear BK101;clear HB;have HO_11:=n0_;have BK101:=n1_;have HB:=n2_;have BK108:=n3_;have GW108:=n4_;have GE108:=n5_;have NB101_108:=n6_;have NB108_101:=n7_;clear n0_ n1_ n2_ n3_ n4_ n5_ n6_ n7_;clear hb hbox hg;have hnb41:=NB108_101.out;have hnc41:=NB101_108.out;have hcz42_0 : w40.cell? ⟨gb108,0,none⟩ = some (.int .i64 0):=(zb BK108.out 0).trans rfl;have hcz42_1 : w40.cell? ⟨gb108,1,none⟩ = some (.int .i64 0):=(zb BK108.out 1).trans rfl;have hcz42_2 : w40.cell? ⟨gb108,2,none⟩ = some (.int .i64 0):=(zb BK108.out 2).trans rfl;have hcz42_3 : w40.cell? ⟨gb108,3,none⟩ = some (.int .u64 0):=(zb BK108.out 3).trans rfl;have hcz42_4 : w40.cell? ⟨gb108,4,none⟩ = some (.int .u64 0):=(zb BK108.out 4).trans rfl;have hfz42_0:=z8 BK108.out 0;have hfz42_1:=z8 BK108.out 1;have hfz42_2:=z8 BK108.out 2;have hfz42_3:=z8 BK108.out 3;have hfz42_4:=z8 BK108.out 4)|((with_reducible refine zG (N:=14) rfl ?_);refine zE ?hg (N:=14) ?hd (cs:=#[.int .u64 0,.int .u64 0]) (t:=51) ?hr ?_;(case hd=>rfl);(case hg=>rfl);(case hr=>first|(go_simp;done)|(go_simp;rfl));intro gb109 hg w43 hbox hb;have n0_:=z7.mk (Kd.zY (Kd.z1S (by (with_reducible repeat (first|apply Kd.zx|apply Kd.zy|apply Kd.zD));exact (Kd.z1d (Kd.z1g (p:=⟨gb108,4,none⟩) (Kd.z1g (p:=⟨gb108,3,none⟩) (Kd.z1g (p:=⟨gb108,2,none⟩) (Kd.z1g (p:=⟨gb108,1,none⟩) (Kd.z1g (p:=⟨gb108,0,none⟩) (Kd.z1L HO_11.out BK108.out (by decide)) (fun _ hk=>hk.2) (.int .i64 ((zd l1 x38_2).f0))) (fun _ hk=>hk.2) (.int .i64 ((zd l1 x38_2).f1))) (fun _ hk=>hk.2) (.int .i64 ((zd l1 x38_2).f2))) (fun _ hk=>hk.2) (.int .u64 ((zd l1 x38_2).f3.f0))) (fun _ hk=>hk.2) (.int .u64 ((zd l1 x38_2).f3.f1))) (fun _ h_=>h_.1))) gb109 (Nat.le_of_eq hg.symm)) hb);have n1_:=z7.mk (zk (g:=gb101) (o:=.cells #[.int .u64 x102000_1,.int .u64 x102001_1] 51 (0,0)) (by (with_reducible repeat (first|refine z2 ?_ _|refine z5 ?_|refine z1 ?_ _));refine zs ?_ NB101_108.out _;(with_reducible repeat (first|refine z2 ?_ _|refine z5 ?_|refine z1 ?_ _));refine zs ?_ NB101_108.out _;(with_reducible repeat (first|refine z2 ?_ _|refine z5 ?_|refine z1 ?_ _));refine zs ?_ NB101_108.out _;(with_reducible repeat (first|refine z2 ?_ _|refine z5 ?_|refine z1 ?_ _));refine zs ?_ NB101_108.out _;(with_reducible repeat (first|refine z2 ?_ _|refine z5 ?_|refine z1 ?_ _));refine zs ?_ NB101_108.out _;(with_reducible repeat (first|refine z2 ?_ _|refine z5 ?_|refine z1 ?_ _));exact BK101.out) hb);have n2_:=z7.mk (zk (g:=gb108) (o:=.cells #[.int .i64 ((zd l1 x38_2).f0),.int .i64 ((zd l1 x38_2).f1),.int .i64 ((zd l1 x38_2).f2),.int .u64 ((zd l1 x38_2).f3.f0),.int .u64 ((zd l1 x38_2).f3.f1)] 87 (0,0)) (by (with_reducible repeat (first|refine z2 ?_ _|refine z5 ?_|refine z1 ?_ _));refine zq (cs:=#[.int .i64 ((zd l1 x38_2).f0),.int .i64 ((zd l1 x38_2).f1),.int .i64 ((zd l1 x38_2).f2),.int .u64 ((zd l1 x38_2).f3.f0),.int .u64 0]) ?_ 4 _ rfl;(with_reducible repeat (first|refine z2 ?_ _|refine z5 ?_|refine z1 ?_ _));refine zq (cs:=#[.int .i64 ((zd l1 x38_2).f0),.int .i64 ((zd l1 x38_2).f1),.int .i64 ((zd l1 x38_2).f2),.int .u64 0,.int .u64 0]) ?_ 3 _ rfl;(with_reducible repeat (first|refine z2 ?_ _|refine z5 ?_|refine z1 ?_ _));refine zq (cs:=#[.int .i64 ((zd l1 x38_2).f0),.int .i64 ((zd l1 x38_2).f1),.int .i64 0,.int .u64 0,.int .u64 0]) ?_ 2 _ rfl;(with_reducible repeat (first|refine z2 ?_ _|refine z5 ?_|refine z1 ?_ _));refine zq (cs:=#[.int .i64 ((zd l1 x38_2).f0),.int .i64 0,.int .i64 0,.int .u64 0,.int .u64 0]) ?_ 1 _ rfl;(with_reducible repeat (first|refine z2 ?_ _|refine z5 ?_|refine z1 ?_ _));refine zq (cs:=#[.int .i64 0,.int .i64 0,.int .i64 0,.int .u64 0,.int .u64 0]) ?_ 0 _ rfl;(with_reducible repeat (first|refine z2 ?_ _|refine z5 ?_|refine z1 ?_ _));exact BK108.out) hb);have n3_:=z7.mk (zg (by repeat (first|(with_reducible first|exact HB.out|apply z4|apply z0|apply z3|refine z9 ?_ GE101.out|refine z9 ?_ GE108.out)|exact HB.out)) hb);have n4_:=z7.mk (hbox);have n5_:=z7.mk ((by rw [hg];exact (zf (by repeat (first|(with_reducible first|exact HB.out|apply z4|apply z0|apply z3|refine z9 ?_ GE101.out|refine z9 ?_ GE108.out)|exact HB.out))) : w.heap.size ≤ gb109));have n6_:=z7.mk ((by rw [hg];exact (zf (by repeat (first|(with_reducible first|exact HB.out|apply z4|apply z0|apply z3|refine z9 ?_ GE101.out|refine z9 ?_ GE108.out)|exact HB.out))) : w.heap.size ≤ gb109));have n7_:=z7.mk ((by rw [hg];exact Nat.ne_of_lt (zP (g:=gb101) (o:=.cells #[.int .u64 x102000_1,.int .u64 x102001_1] 51 (0,0)) (by (with_reducible repeat (first|refine z2 ?_ _|refine z5 ?_|refine z1 ?_ _));refine zs ?_ NB101_108.out _;(with_reducible repeat (first|refine z2 ?_ _|refine z5 ?_|refine z1 ?_ _));refine zs ?_ NB101_108.out _;(with_reducible repeat (first|refine z2 ?_ _|refine z5 ?_|refine z1 ?_ _));refine zs ?_ NB101_108.out _;(with_reducible repeat (first|refine z2 ?_ _|refine z5 ?_|refine z1 ?_ _));refine zs ?_ NB101_108.out _;(with_reducible repeat (first|refine z2 ?_ _|refine z5 ?_|refine z1 ?_ _));refine zs ?_ NB101_108.out _;(with_reducible repeat (first|refine z2 ?_ _|refine z5 ?_|refine z1 ?_ _));exact BK101.out)) : gb101 ≠ gb109));have n8_:=z7.mk ((by rw [hg];exact Nat.ne_of_gt (zP (g:=gb101) (o:=.cells #[.int .u64 x102000_1,.int .u64 x102001_1] 51 (0,0)) (by (with_reducible repeat (first|refine z2 ?_ _|refine z5 ?_|refine z1 ?_ _));refine zs ?_ NB101_108.out _;(with_reducible repeat (first|refine z2 ?_ _|refine z5 ?_|refine z1 ?_ _));refine zs ?_ NB101_108.out _;(with_reducible repeat (first|refine z2 ?_ _|refine z5 ?_|refine z1 ?_ _));refine zs ?_ NB101_108.out _;(with_reducible repeat (first|refine z2 ?_ _|refine z5 ?_|refine z1 ?_ _));refine zs ?_ NB101_108.out _;(with_reducible repeat (first|refine z2 ?_ _|refine z5 ?_|refine z1 ?_ _));refine zs ?_ NB101_108.out _;(with_reducible repeat (first|refine z2 ?_ _|refine z5 ?_|refine z1 ?_ _));exact BK101.out)) : gb109 ≠ gb101));have n9_:=z7.mk ((by rw [hg];exact Nat.ne_of_lt (zP (g:=gb108) (o:=.cells #[.int .i64 ((zd l1 x38_2).f0),.int .i64 ((zd l1 x38_2).f1),.int .i64 ((zd l1 x38_2).f2),.int .u64 ((zd l1 x38_2).f3.f0),.int .u64 ((zd l1 x38_2).f3.f1)] 87 (0,0)) (by (with_reducible repeat (first|refine z2 ?_ _|refine z5 ?_|refine z1 ?_ _));refine zq (cs:=#[.int .i64 ((zd l1 x38_2).f0),.int .i64 ((zd l1 x38_2).f1),.int .i64 ((zd l1 x38_2).f2),.int .u64 ((zd l1 x38_2).f3.f0),.int .u64 0]) ?_ 4 _ rfl;(with_reducible repeat (first|refine z2 ?_ _|refine z5 ?_|refine z1 ?_ _));refine zq (cs:=#[.int .i64 ((zd l1 x38_2).f0),.int .i64 ((zd l1 x38_2).f1),.int .i64 ((zd l1 x38_2).f2),.int .u64 0,.int .u64 0]) ?_ 3 _ rfl;(with_reducible repeat (first|refine z2 ?_ _|refine z5 ?_|refine z1 ?_ _));refine zq (cs:=#[.int .i64 ((zd l1 x38_2).f0),.int .i64 ((zd l1 x38_2).f1),.int .i64 0,.int .u64 0,.int .u64 0]) ?_ 2 _ rfl;(with_reducible repeat (first|refine z2 ?_ _|refine z5 ?_|refine z1 ?_ _));refine zq (cs:=#[.int .i64 ((zd l1 x38_2).f0),.int .i64 0,.int .i64 0,.int .u64 0,.int .u64 0]) ?_ 1 _ rfl;(with_reducible repeat (first|refine z2 ?_ _|refine z5 ?_|refine z1 ?_ _));refine zq (cs:=#[.int .i64 0,.int .i64 0,.int .i64 0,.int .u64 0,.int .u64 0]) ?_ 0 _ rfl;(with_reducible repeat (first|refine z2 ?_ _|refine z5 ?_|refine z1 ?_ _));exact BK108.out)) : gb108 ≠ gb109));have n10_:=z7.mk ((by rw [hg];exact Nat.ne_of_gt (zP (g:=gb108) (o:=.cells #[.int .i64 ((zd l1 x38_2).f0),.int .i64 ((zd l1 x38_2).f1),.int .i64 ((zd l1 x38_2).f2),.int .u64 ((zd l1 x38_2).f3.f0),.int .u64 ((zd l1 x38_2).f3.f1)] 87 (0,0)) (by (with_reducible repeat (first|refine z2 ?_ _|refine z5 ?_|refine z1 ?_ _));refine zq (cs:=#[.int .i64 ((zd l1 x38_2).f0),.int .i64 ((zd l1 x38_2).f1),.int .i64 ((zd l1 x38_2).f2),.int .u64 ((zd l1 x38_2).f3.f0),.int .u64 0]) ?_ 4 _ rfl;(with_reducible repeat (first|refine z2 ?_ _|refine z5 ?_|refine z1 ?_ _));refine zq (cs:=#[.int .i64 ((zd l1 x38_2).f0),.int .i64 ((zd l1 x38_2).f1),.int .i64 ((zd l1 x38_2).f2),.int .u64 0,.int .u64 0]) ?_ 3 _ rfl;(with_reducible repeat (first|refine z2 ?_ _|refine z5 ?_|refine z1 ?_ _));refine zq (cs:=#[.int .i64 ((zd l1 x38_2).f0),.int .i64 ((zd l1 x38_2).f1),.int .i64 0,.int .u64 0,.int .u64 0]) ?_ 2 _ rfl;(with_reducible repeat (first|refine z2 ?_ _|refine z5 ?_|refine z1 ?_ _));refine zq (cs:=#[.int .i64 ((zd l1 x38_2).f0),.int .i64 0,.int .i64 0,.int .u64 0,.int .u64 0]) ?_ 1 _ rfl;(with_reducible repeat (first|refine z2 ?_ _|refine z5 ?_|refine z1 ?_ _));refine zq (cs:=#[.int .i64 0,.int .i64 0,.int .i64 0,.int .u64 0,.int .u64 0]) ?_ 0 _ rfl;(with_reducible repeat (first|refine z2 ?_ _|refine z5 ?_|refine z1 ?_ _));exact BK108.out)) : gb109 ≠ gb108));clear HO_11;clear BK101;clear BK108;clear HB;have HO_11:=n0_;have BK101:=n1_;have BK108:=n2_;have HB:=n3_;have BK109:=n4_;have GW109:=n5_;have GE109:=n6_;have NB101_109:=n7_;have NB109_101:=n8_;have NB108_109:=n9_;have NB109_108:=n10_;clear n0_ n1_ n2_ n3_ n4_ n5_ n6_ n7_ n8_ n9_ n10_;clear hb hbox hg;have hnb44:=NB108_109.out;have hnc44:=NB109_108.out;have hcz45_0 : w43.cell? ⟨gb108,0,none⟩ = some (.int .i64 ((zd l1 x38_2).f0)):=(zb BK108.out 0).trans rfl;have hcz45_1 : w43.cell? ⟨gb108,1,none⟩ = some (.int .i64 ((zd l1 x38_2).f1)):=(zb BK108.out 1).trans rfl;have hcz45_2 : w43.cell? ⟨gb108,2,none⟩ = some (.int .i64 ((zd l1 x38_2).f2)):=(zb BK108.out 2).trans rfl;have hcz45_3 : w43.cell? ⟨gb108,3,none⟩ = some (.int .u64 ((zd l1 x38_2).f3.f0)):=(zb BK108.out 3).trans rfl;have hcz45_4 : w43.cell? ⟨gb108,4,none⟩ = some (.int .u64 ((zd l1 x38_2).f3.f1)):=(zb BK108.out 4).trans rfl;have hfz45_0:=z8 BK108.out 0;have hfz45_1:=z8 BK108.out 1;have hfz45_2:=z8 BK108.out 2;have hfz45_3:=z8 BK108.out 3;have hfz45_4:=z8 BK108.out 4;have p113 : 0 ≤ (((zd l1 x38_2).f1) : Int):=of_decide_eq_true (by first|(with_reducible assumption)|assumption);have q113 : ((zd l1 x38_2).f1) < (l2.length : Int):=of_decide_eq_true (by first|(with_reducible assumption)|assumption);obtain ⟨ad113,e113,hx113_0,hx113_1⟩:=z2d HR2.out ((zd l1 x38_2).f1) p113 q113;cases e113;replace hx113_0:=(HB.out.cell (World.block_lt_of_cell? w _ hx113_0)).trans hx113_0;replace hx113_1:=(HB.out.cell (World.block_lt_of_cell? w _ hx113_1)).trans hx113_1;replace p113:=eq_true p113;replace q113:=eq_true q113;have hnb46:=NB109_101.out;have hnc46:=NB101_109.out;have hcz47_0 : w43.cell? ⟨gb109,0,none⟩ = some (.int .u64 0):=(zb BK109.out 0).trans rfl;have hcz47_1 : w43.cell? ⟨gb109,1,none⟩ = some (.int .u64 0):=(zb BK109.out 1).trans rfl;have hfz47_0:=z8 BK109.out 0;have hfz47_1:=z8 BK109.out 1)|((with_reducible refine zW (b:=.append) (xs:=#[.tmp 82,.tmp 84]) rfl ?_);at_builtin;refine Kd.z1h k51 (w0:=w) w.heap.size rfl (.tmp 82) (.tmp 84) 37 51 (.agg #[(.int .u64 0),(.int .u64 0)]) 16 rfl Try.underlying37 info51 rfl (by decide) (by omega) u11 x11_2 (⟨(zT l2 ((zd l1 x38_2).f1)).f0,(zT l2 ((zd l1 x38_2).f1)).f1⟩ : S51) [.int .u64 ((zT l2 ((zd l1 x38_2).f1)).f0),.int .u64 ((zT l2 ((zd l1 x38_2).f1)).f1)] (fun k_=>k_ ≠ gb101 ∧ k_ ≠ gb109) (fun _=>False) rfl (by first|(go_simp;done)|(go_simp;rfl)) ?aP (fun _ hk=>hk.elim) ?aF ?aO ?aB ?aS ?aL ?_;(case aP=>exact z1Q _ _ _ (⟨(zT l2 ((zd l1 x38_2).f1)).f0,(zT l2 ((zd l1 x38_2).f1)).f1⟩ : S51));(case aB=>exact (by repeat (first|(with_reducible first|exact HB.out|apply z4|apply z0|apply z3|refine z9 ?_ GE101.out|refine z9 ?_ GE108.out|refine z9 ?_ GE109.out)|exact HB.out)));(case aF=>exact (fun k_ hk=>⟨Kd.freshB (g:=gb101) (o:=.cells #[.int .u64 x102000_1,.int .u64 x102001_1] 51 (0,0)) (by (with_reducible repeat (first|refine z2 ?_ _|refine z5 ?_|refine z1 ?_ _));refine zs ?_ NB101_109.out _;(with_reducible repeat (first|refine z2 ?_ _|refine z5 ?_|refine z1 ?_ _));refine zs ?_ NB101_109.out _;(with_reducible repeat (first|refine z2 ?_ _|refine z5 ?_|refine z1 ?_ _));exact BK101.out) k_ hk,Kd.freshB (g:=gb109) (o:=.cells #[.int .u64 ((zT l2 ((zd l1 x38_2).f1)).f0),.int .u64 ((zT l2 ((zd l1 x38_2).f1)).f1)] 51 (0,0)) (by (with_reducible repeat (first|refine z2 ?_ _|refine z5 ?_|refine z1 ?_ _));refine zq (cs:=#[.int .u64 ((zT l2 ((zd l1 x38_2).f1)).f0),.int .u64 0]) ?_ 1 _ rfl;(with_reducible repeat (first|refine z2 ?_ _|refine z5 ?_|refine z1 ?_ _));refine zq (cs:=#[.int .u64 0,.int .u64 0]) ?_ 0 _ rfl;(with_reducible repeat (first|refine z2 ?_ _|refine z5 ?_|refine z1 ?_ _));exact BK109.out) k_ hk⟩));(case aO=>exact (by (with_reducible repeat (first|apply Kd.zx|apply Kd.zy|apply Kd.zD));exact Kd.z1d (Kd.z1g (p:=⟨gb109,1,none⟩) (Kd.z1g (p:=⟨gb109,0,none⟩) (Kd.z1d HO_11.out (fun k_ hk=>(⟨hk,hk.2⟩ : _ ∧ k_ ≠ gb109))) (fun _ hk=>hk.2) (.int .u64 ((zT l2 ((zd l1 x38_2).f1)).f0))) (fun _ hk=>hk.2) (.int .u64 ((zT l2 ((zd l1 x38_2).f1)).f1))) (fun _ hk=>⟨hk.1.1,hk.1.2⟩)));(case aS=>exact (zf (by repeat (first|(with_reducible first|exact HB.out|apply z4|apply z0|apply z3|refine z9 ?_ GE101.out|refine z9 ?_ GE108.out|refine z9 ?_ GE109.out)|exact HB.out))));(case aL=>have:=LMc39.out;omega);intro v115 w48 ho hb hg hat;rw [← Ny114.out] at ho;have n0_:=z7.mk (z1i (g:=gb101) (o:=.cells #[.int .u64 x102000_1,.int .u64 x102001_1] 51 (0,0)) (by (with_reducible repeat (first|refine z2 ?_ _|refine z5 ?_|refine z1 ?_ _));refine zs ?_ NB101_109.out _;(with_reducible repeat (first|refine z2 ?_ _|refine z5 ?_|refine z1 ?_ _));refine zs ?_ NB101_109.out _;(with_reducible repeat (first|refine z2 ?_ _|refine z5 ?_|refine z1 ?_ _));exact BK101.out) hg (Kd.zt HO_11.out (fun _ hk=>hk.1)));have n1_:=z7.mk (z1i (g:=gb108) (o:=.cells #[.int .i64 ((zd l1 x38_2).f0),.int .i64 ((zd l1 x38_2).f1),.int .i64 ((zd l1 x38_2).f2),.int .u64 ((zd l1 x38_2).f3.f0),.int .u64 ((zd l1 x38_2).f3.f1)] 87 (0,0)) (by (with_reducible repeat (first|refine z2 ?_ _|refine z5 ?_|refine z1 ?_ _));refine zs ?_ NB108_109.out _;(with_reducible repeat (first|refine z2 ?_ _|refine z5 ?_|refine z1 ?_ _));refine zs ?_ NB108_109.out _;(with_reducible repeat (first|refine z2 ?_ _|refine z5 ?_|refine z1 ?_ _));exact BK108.out) hg (Kd.R_ne HO_11.out BK108.out (by decide)));have n2_:=z7.mk (z1i (g:=gb109) (o:=.cells #[.int .u64 ((zT l2 ((zd l1 x38_2).f1)).f0),.int .u64 ((zT l2 ((zd l1 x38_2).f1)).f1)] 51 (0,0)) (by (with_reducible repeat (first|refine z2 ?_ _|refine z5 ?_|refine z1 ?_ _));refine zq (cs:=#[.int .u64 ((zT l2 ((zd l1 x38_2).f1)).f0),.int .u64 0]) ?_ 1 _ rfl;(with_reducible repeat (first|refine z2 ?_ _|refine z5 ?_|refine z1 ?_ _));refine zq (cs:=#[.int .u64 0,.int .u64 0]) ?_ 0 _ rfl;(with_reducible repeat (first|refine z2 ?_ _|refine z5 ?_|refine z1 ?_ _));exact BK109.out) hg (Kd.zt HO_11.out (fun _ hk=>hk.2)));have n3_:=z7.mk (hb);have n4_:=z7.mk (ho);clear BK101;clear BK108;clear BK109;clear HB;clear HO_11;have BK101:=n0_;have BK108:=n1_;have BK109:=n2_;have HB:=n3_;have HO116:=n4_;clear n0_ n1_ n2_ n3_ n4_;clear ho hb hg hat))
       go_roundg k2
       case measure=>have:=HK1.out;have:=HK2.out;omega
       case rel=>exact ⟨(y114),(wrap64 (x38_2 + 1)),(by first|rfl|(simp;done)|(simp [*];done)),H',⟨by have:=HK1.out;have:=HK2.out;omega⟩,⟨by (with_reducible repeat (first|apply Kd.zx|apply Kd.zy|apply Kd.zD));exact Kd.z1d HO116.out (fun _ hk=>hk.1)⟩,⟨by (with_reducible repeat (first|refine z2 ?_ _|refine z5 ?_|refine z1 ?_ _));exact BK101.out⟩,⟨by repeat (first|(with_reducible first|exact HB.out|apply z4|apply z0|apply z3|refine z9 ?_ GE101.out|refine z9 ?_ GE108.out|refine z9 ?_ GE109.out)|exact HB.out)⟩⟩
     rw [if_neg c36] at H
     have c36b0 : (((zd l1 x38_2).f0) == 2) = false:=beq_eq_false_iff_ne.mpr c36
     have c36b1 : (((zd l1 x38_2).f0) != 2) = true:=bne_iff_ne.mpr c36
     by_cases c49 : ((zd l1 x38_2).f0) = 3
     · rw [if_pos c49] at H
       have c49b0 : (((zd l1 x38_2).f0) == 3) = true:=beq_iff_eq.mpr c49
       have c49b1 : (((zd l1 x38_2).f0) != 3) = false:=bne_eq_false_iff_eq.mpr c49
       clear c49
       by_cases c50 : 0 ≤ ((zd l1 x38_2).f1)
       rotate_left
       · rw [if_neg c50] at H
         exact absurd H (by simp)
       rw [if_pos c50] at H
       have c50b0 : decide (0 ≤ ((zd l1 x38_2).f1)) = true:=decide_eq_true c50
       clear c50
       by_cases c51 : ((zd l1 x38_2).f1) < (x11_2.length : Int)
       rotate_left
       · rw [if_neg c51] at H
         exact absurd H (by simp)
       rw [if_pos c51] at H
       have c51b0 : decide (((zd l1 x38_2).f1) < (x11_2.length : Int)) = true:=decide_eq_true c51
       clear c51
       by_cases c52 : 0 ≤ ((zd l1 x38_2).f2)
       rotate_left
       · rw [if_neg c52] at H
         exact absurd H (by simp)
       rw [if_pos c52] at H
       have c52b0 : decide (0 ≤ ((zd l1 x38_2).f2)) = true:=decide_eq_true c52
       clear c52
       by_cases c53 : ((zd l1 x38_2).f2) < (x11_2.length : Int)
       rotate_left
       · rw [if_neg c53] at H
         exact absurd H (by simp)
       rw [if_pos c53] at H
       have c53b0 : decide (((zd l1 x38_2).f2) < (x11_2.length : Int)) = true:=decide_eq_true c53
       clear c53
       replace H:=Option.bind_eq_some_iff.mp H
       obtain ⟨⟨t119,t120⟩,A540,H⟩:=H
       replace H : (if x11_2.length < 8796093022208 then (zz.l1 k2 a0 l2 (x11_2 ++ [(⟨t119,t120⟩ : S51)]) l1 (l1.length : Int) (wrap64 (x38_2 + 1))) else (none)) = some (r1,r2,r3):=H
       have A54:=z7.mk A540
       clear A540
       by_cases c55 : x11_2.length < 8796093022208
       rotate_left
       · rw [if_neg c55] at H
         exact absurd H (by simp)
       rw [if_pos c55] at H
       have LMc55:=z7.mk c55
       clear c55
       obtain ⟨y121,hy121⟩ : ∃ y_ : List (S51),y_ = (x11_2 ++ [(⟨t119,t120⟩ : S51)]):=⟨_,rfl⟩
       replace H : (zz.l1 k2 a0 l2 y121 l1 (l1.length : Int) (wrap64 (x38_2 + 1))) = some (r1,r2,r3):=by first|(rw [hy121];with_reducible exact H)|(have H2_:=(Option.bind_some _ _).symm.trans H;rw [hy121];with_reducible exact H2_)|(have H2_:=(Option.bind_some _ _).symm.trans H;with_reducible exact H2_)|with_reducible exact H|(rw [hy121];exact H)|exact H
       have Ny121:=z7.mk hy121
       clear hy121
       have H':=z7.mk H
       clear H
       have p107 : 0 ≤ (x38_2 : Int):=of_decide_eq_true (by first|(with_reducible assumption)|assumption)
       have q107 : x38_2 < (l1.length : Int):=of_decide_eq_true (by first|(with_reducible assumption)|assumption)
       obtain ⟨ad107,e107,hx107_0,hx107_1,hx107_2,hx107_3,hx107_4⟩:=z1R HR1.out x38_2 p107 q107
       cases e107
       replace hx107_0:=(HB.out.cell (World.block_lt_of_cell? w _ hx107_0)).trans hx107_0
       replace hx107_1:=(HB.out.cell (World.block_lt_of_cell? w _ hx107_1)).trans hx107_1
       replace hx107_2:=(HB.out.cell (World.block_lt_of_cell? w _ hx107_2)).trans hx107_2
       replace hx107_3:=(HB.out.cell (World.block_lt_of_cell? w _ hx107_3)).trans hx107_3
       replace hx107_4:=(HB.out.cell (World.block_lt_of_cell? w _ hx107_4)).trans hx107_4
       replace p107:=eq_true p107
       replace q107:=eq_true q107
       try go_wp2_with (first|((with_reducible refine zG (N:=13) rfl ?_);refine zE ?hg (N:=13) ?hd (cs:=#[.int .i64 0,.int .i64 0,.int .i64 0,.int .u64 0,.int .u64 0]) (t:=87) ?hr ?_;(case hd=>rfl);(case hg=>rfl);(case hr=>first|(go_simp;done)|(go_simp;rfl));intro gb108 hg w56 hbox hb;have n0_:=z7.mk (Kd.zY (by (with_reducible repeat (first|apply Kd.zx|apply Kd.zy|apply Kd.zD));exact HO_11.out) hb);have n1_:=z7.mk (zk (g:=gb101) (o:=.cells #[.int .u64 x102000_1,.int .u64 x102001_1] 51 (0,0)) (by (with_reducible repeat (first|refine z2 ?_ _|refine z5 ?_|refine z1 ?_ _));exact BK101.out) hb);have n2_:=z7.mk (zg (by repeat (first|(with_reducible first|exact HB.out|apply z4|apply z0|apply z3|refine z9 ?_ GE101.out)|exact HB.out)) hb);have n3_:=z7.mk (hbox);have n4_:=z7.mk ((by rw [hg];exact (zf (by repeat (first|(with_reducible first|exact HB.out|apply z4|apply z0|apply z3|refine z9 ?_ GE101.out)|exact HB.out))) : w.heap.size ≤ gb108));have n5_:=z7.mk ((by rw [hg];exact (zf (by repeat (first|(with_reducible first|exact HB.out|apply z4|apply z0|apply z3|refine z9 ?_ GE101.out)|exact HB.out))) : w.heap.size ≤ gb108));have n6_:=z7.mk ((by rw [hg];exact Nat.ne_of_lt (zP (g:=gb101) (o:=.cells #[.int .u64 x102000_1,.int .u64 x102001_1] 51 (0,0)) (by (with_reducible repeat (first|refine z2 ?_ _|refine z5 ?_|refine z1 ?_ _));exact BK101.out)) : gb101 ≠ gb108));have n7_:=z7.mk ((by rw [hg];exact Nat.ne_of_gt (zP (g:=gb101) (o:=.cells #[.int .u64 x102000_1,.int .u64 x102001_1] 51 (0,0)) (by (with_reducible repeat (first|refine z2 ?_ _|refine z5 ?_|refine z1 ?_ _));exact BK101.out)) : gb108 ≠ gb101));clear HO_11;clear BK101;clear HB;have HO_11:=n0_;have BK101:=n1_;have HB:=n2_;have BK108:=n3_;have GW108:=n4_;have GE108:=n5_;have NB101_108:=n6_;have NB108_101:=n7_;clear n0_ n1_ n2_ n3_ n4_ n5_ n6_ n7_;clear hb hbox hg;have hnb57:=NB108_101.out;have hnc57:=NB101_108.out;have hcz58_0 : w56.cell? ⟨gb108,0,none⟩ = some (.int .i64 0):=(zb BK108.out 0).trans rfl;have hcz58_1 : w56.cell? ⟨gb108,1,none⟩ = some (.int .i64 0):=(zb BK108.out 1).trans rfl;have hcz58_2 : w56.cell? ⟨gb108,2,none⟩ = some (.int .i64 0):=(zb BK108.out 2).trans rfl;have hcz58_3 : w56.cell? ⟨gb108,3,none⟩ = some (.int .u64 0):=(zb BK108.out 3).trans rfl;have hcz58_4 : w56.cell? ⟨gb108,4,none⟩ = some (.int .u64 0):=(zb BK108.out 4).trans rfl;have hfz58_0:=z8 BK108.out 0;have hfz58_1:=z8 BK108.out 1;have hfz58_2:=z8 BK108.out 2;have hfz58_3:=z8 BK108.out 3;have hfz58_4:=z8 BK108.out 4)|((with_reducible refine zG (N:=14) rfl ?_);refine zE ?hg (N:=14) ?hd (cs:=#[.int .u64 0,.int .u64 0]) (t:=51) ?hr ?_;(case hd=>rfl);(case hg=>rfl);(case hr=>first|(go_simp;done)|(go_simp;rfl));intro gb109 hg w59 hbox hb;have n0_:=z7.mk (Kd.zY (Kd.z1S (by (with_reducible repeat (first|apply Kd.zx|apply Kd.zy|apply Kd.zD));exact (Kd.z1d (Kd.z1g (p:=⟨gb108,4,none⟩) (Kd.z1g (p:=⟨gb108,3,none⟩) (Kd.z1g (p:=⟨gb108,2,none⟩) (Kd.z1g (p:=⟨gb108,1,none⟩) (Kd.z1g (p:=⟨gb108,0,none⟩) (Kd.z1L HO_11.out BK108.out (by decide)) (fun _ hk=>hk.2) (.int .i64 ((zd l1 x38_2).f0))) (fun _ hk=>hk.2) (.int .i64 ((zd l1 x38_2).f1))) (fun _ hk=>hk.2) (.int .i64 ((zd l1 x38_2).f2))) (fun _ hk=>hk.2) (.int .u64 ((zd l1 x38_2).f3.f0))) (fun _ hk=>hk.2) (.int .u64 ((zd l1 x38_2).f3.f1))) (fun _ h_=>h_.1))) gb109 (Nat.le_of_eq hg.symm)) hb);have n1_:=z7.mk (zk (g:=gb101) (o:=.cells #[.int .u64 x102000_1,.int .u64 x102001_1] 51 (0,0)) (by (with_reducible repeat (first|refine z2 ?_ _|refine z5 ?_|refine z1 ?_ _));refine zs ?_ NB101_108.out _;(with_reducible repeat (first|refine z2 ?_ _|refine z5 ?_|refine z1 ?_ _));refine zs ?_ NB101_108.out _;(with_reducible repeat (first|refine z2 ?_ _|refine z5 ?_|refine z1 ?_ _));refine zs ?_ NB101_108.out _;(with_reducible repeat (first|refine z2 ?_ _|refine z5 ?_|refine z1 ?_ _));refine zs ?_ NB101_108.out _;(with_reducible repeat (first|refine z2 ?_ _|refine z5 ?_|refine z1 ?_ _));refine zs ?_ NB101_108.out _;(with_reducible repeat (first|refine z2 ?_ _|refine z5 ?_|refine z1 ?_ _));exact BK101.out) hb);have n2_:=z7.mk (zk (g:=gb108) (o:=.cells #[.int .i64 ((zd l1 x38_2).f0),.int .i64 ((zd l1 x38_2).f1),.int .i64 ((zd l1 x38_2).f2),.int .u64 ((zd l1 x38_2).f3.f0),.int .u64 ((zd l1 x38_2).f3.f1)] 87 (0,0)) (by (with_reducible repeat (first|refine z2 ?_ _|refine z5 ?_|refine z1 ?_ _));refine zq (cs:=#[.int .i64 ((zd l1 x38_2).f0),.int .i64 ((zd l1 x38_2).f1),.int .i64 ((zd l1 x38_2).f2),.int .u64 ((zd l1 x38_2).f3.f0),.int .u64 0]) ?_ 4 _ rfl;(with_reducible repeat (first|refine z2 ?_ _|refine z5 ?_|refine z1 ?_ _));refine zq (cs:=#[.int .i64 ((zd l1 x38_2).f0),.int .i64 ((zd l1 x38_2).f1),.int .i64 ((zd l1 x38_2).f2),.int .u64 0,.int .u64 0]) ?_ 3 _ rfl;(with_reducible repeat (first|refine z2 ?_ _|refine z5 ?_|refine z1 ?_ _));refine zq (cs:=#[.int .i64 ((zd l1 x38_2).f0),.int .i64 ((zd l1 x38_2).f1),.int .i64 0,.int .u64 0,.int .u64 0]) ?_ 2 _ rfl;(with_reducible repeat (first|refine z2 ?_ _|refine z5 ?_|refine z1 ?_ _));refine zq (cs:=#[.int .i64 ((zd l1 x38_2).f0),.int .i64 0,.int .i64 0,.int .u64 0,.int .u64 0]) ?_ 1 _ rfl;(with_reducible repeat (first|refine z2 ?_ _|refine z5 ?_|refine z1 ?_ _));refine zq (cs:=#[.int .i64 0,.int .i64 0,.int .i64 0,.int .u64 0,.int .u64 0]) ?_ 0 _ rfl;(with_reducible repeat (first|refine z2 ?_ _|refine z5 ?_|refine z1 ?_ _));exact BK108.out) hb);have n3_:=z7.mk (zg (by repeat (first|(with_reducible first|exact HB.out|apply z4|apply z0|apply z3|refine z9 ?_ GE101.out|refine z9 ?_ GE108.out)|exact HB.out)) hb);have n4_:=z7.mk (hbox);have n5_:=z7.mk ((by rw [hg];exact (zf (by repeat (first|(with_reducible first|exact HB.out|apply z4|apply z0|apply z3|refine z9 ?_ GE101.out|refine z9 ?_ GE108.out)|exact HB.out))) : w.heap.size ≤ gb109));have n6_:=z7.mk ((by rw [hg];exact (zf (by repeat (first|(with_reducible first|exact HB.out|apply z4|apply z0|apply z3|refine z9 ?_ GE101.out|refine z9 ?_ GE108.out)|exact HB.out))) : w.heap.size ≤ gb109));have n7_:=z7.mk ((by rw [hg];exact Nat.ne_of_lt (zP (g:=gb101) (o:=.cells #[.int .u64 x102000_1,.int .u64 x102001_1] 51 (0,0)) (by (with_reducible repeat (first|refine z2 ?_ _|refine z5 ?_|refine z1 ?_ _));refine zs ?_ NB101_108.out _;(with_reducible repeat (first|refine z2 ?_ _|refine z5 ?_|refine z1 ?_ _));refine zs ?_ NB101_108.out _;(with_reducible repeat (first|refine z2 ?_ _|refine z5 ?_|refine z1 ?_ _));refine zs ?_ NB101_108.out _;(with_reducible repeat (first|refine z2 ?_ _|refine z5 ?_|refine z1 ?_ _));refine zs ?_ NB101_108.out _;(with_reducible repeat (first|refine z2 ?_ _|refine z5 ?_|refine z1 ?_ _));refine zs ?_ NB101_108.out _;(with_reducible repeat (first|refine z2 ?_ _|refine z5 ?_|refine z1 ?_ _));exact BK101.out)) : gb101 ≠ gb109));have n8_:=z7.mk ((by rw [hg];exact Nat.ne_of_gt (zP (g:=gb101) (o:=.cells #[.int .u64 x102000_1,.int .u64 x102001_1] 51 (0,0)) (by (with_reducible repeat (first|refine z2 ?_ _|refine z5 ?_|refine z1 ?_ _));refine zs ?_ NB101_108.out _;(with_reducible repeat (first|refine z2 ?_ _|refine z5 ?_|refine z1 ?_ _));refine zs ?_ NB101_108.out _;(with_reducible repeat (first|refine z2 ?_ _|refine z5 ?_|refine z1 ?_ _));refine zs ?_ NB101_108.out _;(with_reducible repeat (first|refine z2 ?_ _|refine z5 ?_|refine z1 ?_ _));refine zs ?_ NB101_108.out _;(with_reducible repeat (first|refine z2 ?_ _|refine z5 ?_|refine z1 ?_ _));refine zs ?_ NB101_108.out _;(with_reducible repeat (first|refine z2 ?_ _|refine z5 ?_|refine z1 ?_ _));exact BK101.out)) : gb109 ≠ gb101));have n9_:=z7.mk ((by rw [hg];exact Nat.ne_of_lt (zP (g:=gb108) (o:=.cells #[.int .i64 ((zd l1 x38_2).f0),.int .i64 ((zd l1 x38_2).f1),.int .i64 ((zd l1 x38_2).f2),.int .u64 ((zd l1 x38_2).f3.f0),.int .u64 ((zd l1 x38_2).f3.f1)] 87 (0,0)) (by (with_reducible repeat (first|refine z2 ?_ _|refine z5 ?_|refine z1 ?_ _));refine zq (cs:=#[.int .i64 ((zd l1 x38_2).f0),.int .i64 ((zd l1 x38_2).f1),.int .i64 ((zd l1 x38_2).f2),.int .u64 ((zd l1 x38_2).f3.f0),.int .u64 0]) ?_ 4 _ rfl;(with_reducible repeat (first|refine z2 ?_ _|refine z5 ?_|refine z1 ?_ _));refine zq (cs:=#[.int .i64 ((zd l1 x38_2).f0),.int .i64 ((zd l1 x38_2).f1),.int .i64 ((zd l1 x38_2).f2),.int .u64 0,.int .u64 0]) ?_ 3 _ rfl;(with_reducible repeat (first|refine z2 ?_ _|refine z5 ?_|refine z1 ?_ _));refine zq (cs:=#[.int .i64 ((zd l1 x38_2).f0),.int .i64 ((zd l1 x38_2).f1),.int .i64 0,.int .u64 0,.int .u64 0]) ?_ 2 _ rfl;(with_reducible repeat (first|refine z2 ?_ _|refine z5 ?_|refine z1 ?_ _));refine zq (cs:=#[.int .i64 ((zd l1 x38_2).f0),.int .i64 0,.int .i64 0,.int .u64 0,.int .u64 0]) ?_ 1 _ rfl;(with_reducible repeat (first|refine z2 ?_ _|refine z5 ?_|refine z1 ?_ _));refine zq (cs:=#[.int .i64 0,.int .i64 0,.int .i64 0,.int .u64 0,.int .u64 0]) ?_ 0 _ rfl;(with_reducible repeat (first|refine z2 ?_ _|refine z5 ?_|refine z1 ?_ _));exact BK108.out)) : gb108 ≠ gb109));have n10_:=z7.mk ((by rw [hg];exact Nat.ne_of_gt (zP (g:=gb108) (o:=.cells #[.int .i64 ((zd l1 x38_2).f0),.int .i64 ((zd l1 x38_2).f1),.int .i64 ((zd l1 x38_2).f2),.int .u64 ((zd l1 x38_2).f3.f0),.int .u64 ((zd l1 x38_2).f3.f1)] 87 (0,0)) (by (with_reducible repeat (first|refine z2 ?_ _|refine z5 ?_|refine z1 ?_ _));refine zq (cs:=#[.int .i64 ((zd l1 x38_2).f0),.int .i64 ((zd l1 x38_2).f1),.int .i64 ((zd l1 x38_2).f2),.int .u64 ((zd l1 x38_2).f3.f0),.int .u64 0]) ?_ 4 _ rfl;(with_reducible repeat (first|refine z2 ?_ _|refine z5 ?_|refine z1 ?_ _));refine zq (cs:=#[.int .i64 ((zd l1 x38_2).f0),.int .i64 ((zd l1 x38_2).f1),.int .i64 ((zd l1 x38_2).f2),.int .u64 0,.int .u64 0]) ?_ 3 _ rfl;(with_reducible repeat (first|refine z2 ?_ _|refine z5 ?_|refine z1 ?_ _));refine zq (cs:=#[.int .i64 ((zd l1 x38_2).f0),.int .i64 ((zd l1 x38_2).f1),.int .i64 0,.int .u64 0,.int .u64 0]) ?_ 2 _ rfl;(with_reducible repeat (first|refine z2 ?_ _|refine z5 ?_|refine z1 ?_ _));refine zq (cs:=#[.int .i64 ((zd l1 x38_2).f0),.int .i64 0,.int .i64 0,.int .u64 0,.int .u64 0]) ?_ 1 _ rfl;(with_reducible repeat (first|refine z2 ?_ _|refine z5 ?_|refine z1 ?_ _));refine zq (cs:=#[.int .i64 0,.int .i64 0,.int .i64 0,.int .u64 0,.int .u64 0]) ?_ 0 _ rfl;(with_reducible repeat (first|refine z2 ?_ _|refine z5 ?_|refine z1 ?_ _));exact BK108.out)) : gb109 ≠ gb108));clear HO_11;clear BK101;clear BK108;clear HB;have HO_11:=n0_;have BK101:=n1_;have BK108:=n2_;have HB:=n3_;have BK109:=n4_;have GW109:=n5_;have GE109:=n6_;have NB101_109:=n7_;have NB109_101:=n8_;have NB108_109:=n9_;have NB109_108:=n10_;clear n0_ n1_ n2_ n3_ n4_ n5_ n6_ n7_ n8_ n9_ n10_;clear hb hbox hg;have hnb60:=NB108_109.out;have hnc60:=NB109_108.out;have hcz61_0 : w59.cell? ⟨gb108,0,none⟩ = some (.int .i64 ((zd l1 x38_2).f0)):=(zb BK108.out 0).trans rfl;have hcz61_1 : w59.cell? ⟨gb108,1,none⟩ = some (.int .i64 ((zd l1 x38_2).f1)):=(zb BK108.out 1).trans rfl;have hcz61_2 : w59.cell? ⟨gb108,2,none⟩ = some (.int .i64 ((zd l1 x38_2).f2)):=(zb BK108.out 2).trans rfl;have hcz61_3 : w59.cell? ⟨gb108,3,none⟩ = some (.int .u64 ((zd l1 x38_2).f3.f0)):=(zb BK108.out 3).trans rfl;have hcz61_4 : w59.cell? ⟨gb108,4,none⟩ = some (.int .u64 ((zd l1 x38_2).f3.f1)):=(zb BK108.out 4).trans rfl;have hfz61_0:=z8 BK108.out 0;have hfz61_1:=z8 BK108.out 1;have hfz61_2:=z8 BK108.out 2;have hfz61_3:=z8 BK108.out 3;have hfz61_4:=z8 BK108.out 4))
       have n0_:=z7.mk (Kd.zD HO_11.out)
       have n1_:=z7.mk (z5 BK101.out)
       have n2_:=z7.mk (z5 BK108.out)
       have n3_:=z7.mk (z5 BK109.out)
       have n4_:=z7.mk (z3 HB.out)
       clear HO_11
       clear BK101
       clear BK108
       clear BK109
       clear HB
       have HO_11:=n0_
       have BK101:=n1_
       have BK108:=n2_
       have BK109:=n3_
       have HB:=n4_
       clear n0_ n1_ n2_ n3_ n4_
       obtain ⟨Ao63,co63,eo63⟩:=Kd.z1q HO_11.out
       (first|subst eo63|(injection eo63 with f1_ f2_ f3_;have f4_:=f1_.symm;have f5_:=f3_.symm;clear f1_ f2_ f3_;subst f4_;subst f5_))
       have p117 : 0 ≤ (((zd l1 x38_2).f1) : Int):=of_decide_eq_true (by first|(with_reducible assumption)|assumption)
       have q117 : ((zd l1 x38_2).f1) < (x11_2.length : Int):=of_decide_eq_true (by first|(with_reducible assumption)|assumption)
       obtain ⟨ad117,e117,hx117_0,hx117_1⟩:=z2d (Kd.zO HO_11.out).2.2 ((zd l1 x38_2).f1) p117 q117
       cases e117
       replace p117:=eq_true p117
       replace q117:=eq_true q117
       have p118 : 0 ≤ (((zd l1 x38_2).f2) : Int):=of_decide_eq_true (by first|(with_reducible assumption)|assumption)
       have q118 : ((zd l1 x38_2).f2) < (x11_2.length : Int):=of_decide_eq_true (by first|(with_reducible assumption)|assumption)
       obtain ⟨ad118,e118,hx118_0,hx118_1⟩:=z2d (Kd.zO HO_11.out).2.2 ((zd l1 x38_2).f2) p118 q118
       obtain rfl : ad117 = ad118:=(by injection e118)
       replace p118:=eq_true p118
       replace q118:=eq_true q118
       refine start_ (n:=12) (S:=fun w'=>w'.cell? ⟨gb108,0,none⟩ = some (.int .i64 ((zd l1 x38_2).f0)) ∧ w'.cell? ⟨gb108,1,none⟩ = some (.int .i64 ((zd l1 x38_2).f1)) ∧ w'.cell? ⟨gb108,2,none⟩ = some (.int .i64 ((zd l1 x38_2).f2)) ∧ w'.cell? ⟨gb108,3,none⟩ = some (.int .u64 ((zd l1 x38_2).f3.f0)) ∧ w'.cell? ⟨gb108,4,none⟩ = some (.int .u64 ((zd l1 x38_2).f3.f1)) ∧ w'.cell? (ad117.add ((((zd l1 x38_2).f1)).toNat * 2)) = some (.int .u64 ((zT x11_2 ((zd l1 x38_2).f1)).f0)) ∧ w'.cell? ⟨(ad117.add ((((zd l1 x38_2).f1)).toNat * 2)).block,(ad117.add ((((zd l1 x38_2).f1)).toNat * 2)).off + 1,none⟩ = some (.int .u64 ((zT x11_2 ((zd l1 x38_2).f1)).f1)) ∧ w'.cell? (ad117.add ((((zd l1 x38_2).f2)).toNat * 2)) = some (.int .u64 ((zT x11_2 ((zd l1 x38_2).f2)).f0)) ∧ w'.cell? ⟨(ad117.add ((((zd l1 x38_2).f2)).toNat * 2)).block,(ad117.add ((((zd l1 x38_2).f2)).toNat * 2)).off + 1,none⟩ = some (.int .u64 ((zT x11_2 ((zd l1 x38_2).f2)).f1))) (ds:=[]) #[false,false,false,false,false,false,false,false,false,false,false,false] (by kernel_rfl) rfl rfl ⟨(zb BK108.out 0).trans rfl,(zb BK108.out 1).trans rfl,(zb BK108.out 2).trans rfl,(zb BK108.out 3).trans rfl,(zb BK108.out 4).trans rfl,hx117_0,hx117_1,hx118_0,hx118_1⟩ (fun hHeld=>?_);refine z1K zz.tab21 zz.bits21 (fun HT_ HW_=>?_)
       generalize w59.drew = w62 at HO_11 BK101 BK108 BK109 HB hx117_0 hx117_1 hx118_0 hx118_1 hHeld ⊢
       refine pure_ (i:=0) (N:=some 57) (v:=?_) (a':=?_) #[true,false,false,false,false,false,false,false,false,false,false,false] rfl rfl (zU HT_.out (by kernel_rfl)) (fun _ _ _ h=>h) (Or.inl ⟨by rfl,?_⟩) ?_ ?_
       rotate_left
       · intro w'
         go_simp
         with_reducible rfl
       rotate_left
       · simp only [Act.put,List.setIfInBounds_toArray,List.set_cons_zero,List.set_cons_succ,zH,zL]
         rfl
       refine pure_ (i:=1) (N:=some 58) (v:=?_) (a':=?_) #[true,true,false,false,false,false,false,false,false,false,false,false] rfl rfl (zU HT_.out (by kernel_rfl)) (fun _ _ _ h=>h) (Or.inl ⟨by rfl,?_⟩) ?_ ?_
       rotate_left
       · intro w'
         go_simp
         with_reducible rfl
       rotate_left
       · simp only [Act.put,List.setIfInBounds_toArray,List.set_cons_zero,List.set_cons_succ,zH,zL]
         rfl
       refine pure_ (i:=5) (N:=some 62) (v:=?_) (a':=?_) #[true,true,false,false,false,true,false,false,false,false,false,false] rfl rfl (zU HT_.out (by kernel_rfl)) (fun _ _ _ h=>h) (Or.inl ⟨by rfl,?_⟩) ?_ ?_
       rotate_left
       · intro w'
         go_simp
         with_reducible rfl
       rotate_left
       · simp only [Act.put,List.setIfInBounds_toArray,List.set_cons_zero,List.set_cons_succ,zH,zL]
         rfl
       refine pure_ (i:=6) (N:=some 63) (v:=?_) (a':=?_) #[true,true,false,false,false,true,true,false,false,false,false,false] rfl rfl (zU HT_.out (by kernel_rfl)) (fun _ _ _ h=>h) (Or.inl ⟨by rfl,?_⟩) ?_ ?_
       rotate_left
       · intro w'
         go_simp
         with_reducible rfl
       rotate_left
       · simp only [Act.put,List.setIfInBounds_toArray,List.set_cons_zero,List.set_cons_succ,zH,zL]
         rfl
       refine take_ (i:=2) (N:=some 59) (v:=?_) (a':=?_) #[true,true,true,false,false,true,true,false,false,false,false,false] rfl rfl (z1c HT_.out HW_.out (by kernel_rfl)) (fun _ _ _ h=>h) (Or.inl ⟨by rfl,?_⟩) hHeld ?_ ?_
       rotate_left
       · rintro w' ⟨s0,s1,s2,s3,s4,s5,s6,s7,s8⟩
         go_simp
         with_reducible rfl
       rotate_left
       · simp only [Act.put,List.setIfInBounds_toArray,List.set_cons_zero,List.set_cons_succ,zH,zL]
         rfl
       refine pure_ (i:=3) (N:=some 60) (v:=?_) (a':=?_) #[true,true,true,true,false,true,true,false,false,false,false,false] rfl rfl (zU HT_.out (by kernel_rfl)) (fun _ _ _ h=>h) (Or.inl ⟨by rfl,?_⟩) ?_ ?_
       rotate_left
       · intro w'
         go_simp
         with_reducible rfl
       rotate_left
       · simp only [Act.put,List.setIfInBounds_toArray,List.set_cons_zero,List.set_cons_succ,zH,zL]
         rfl
       refine take_ (i:=4) (N:=some 61) (v:=?_) (a':=?_) #[true,true,true,true,true,true,true,false,false,false,false,false] rfl rfl (z1c HT_.out HW_.out (by kernel_rfl)) (fun _ _ _ h=>h) (Or.inl ⟨by rfl,?_⟩) hHeld ?_ ?_
       rotate_left
       · rintro w' ⟨s0,s1,s2,s3,s4,s5,s6,s7,s8⟩
         go_simp
         with_reducible rfl
       rotate_left
       · simp only [Act.put,List.setIfInBounds_toArray,List.set_cons_zero,List.set_cons_succ,zH,zL]
         rfl
       refine take_ (i:=7) (N:=some 64) (v:=?_) (a':=?_) #[true,true,true,true,true,true,true,true,false,false,false,false] rfl rfl (z1c HT_.out HW_.out (by kernel_rfl)) (fun _ _ _ h=>h) (Or.inl ⟨by rfl,?_⟩) hHeld ?_ ?_
       rotate_left
       · rintro w' ⟨s0,s1,s2,s3,s4,s5,s6,s7,s8⟩
         go_simp
         with_reducible rfl
       rotate_left
       · simp only [Act.put,List.setIfInBounds_toArray,List.set_cons_zero,List.set_cons_succ,zH,zL]
         rfl
       refine pure_ (i:=8) (N:=some 65) (v:=?_) (a':=?_) #[true,true,true,true,true,true,true,true,true,false,false,false] rfl rfl (zU HT_.out (by kernel_rfl)) (fun _ _ _ h=>h) (Or.inl ⟨by rfl,?_⟩) ?_ ?_
       rotate_left
       · intro w'
         go_simp
         with_reducible rfl
       rotate_left
       · simp only [Act.put,List.setIfInBounds_toArray,List.set_cons_zero,List.set_cons_succ,zH,zL]
         rfl
       refine take_ (i:=9) (N:=some 66) (v:=?_) (a':=?_) #[true,true,true,true,true,true,true,true,true,true,false,false] rfl rfl (z1c HT_.out HW_.out (by kernel_rfl)) (fun _ _ _ h=>h) (Or.inl ⟨by rfl,?_⟩) hHeld ?_ ?_
       rotate_left
       · rintro w' ⟨s0,s1,s2,s3,s4,s5,s6,s7,s8⟩
         go_simp
         with_reducible rfl
       rotate_left
       · simp only [Act.put,List.setIfInBounds_toArray,List.set_cons_zero,List.set_cons_succ,zH,zL]
         rfl
       refine one_ (i:=10) (N:=some 67) #[true,true,true,true,true,true,true,true,true,true,true,false] rfl rfl (z1I HT_.out (by kernel_rfl)) (by decide) (fun K hK=>?_)
       refine goes_ Try.func40 (by kernel_rfl) rfl #[.agg #[.int .u64 ((zT x11_2 ((zd l1 x38_2).f1)).f0),.int .u64 ((zT x11_2 ((zd l1 x38_2).f1)).f1)],.agg #[.int .u64 ((zT x11_2 ((zd l1 x38_2).f2)).f0),.int .u64 ((zT x11_2 ((zd l1 x38_2).f2)).f1)]] (by rfl) rfl rfl (by (try simp only [List.map_toArray,List.map_cons,List.map_nil]);first|done|rfl|(simp only [List.length_drop,List.length_take];rfl)) ?_
       with_reducible refine (z25.calls ((zT x11_2 ((zd l1 x38_2).f1)).f0) ((zT x11_2 ((zd l1 x38_2).f1)).f1) ((zT x11_2 ((zd l1 x38_2).f2)).f0) ((zT x11_2 ((zd l1 x38_2).f2)).f1) t119 t120 _ A54.out).mono ?_
       rintro e w64 ⟨rfl,hb⟩
       have HS5_:=(hb.cell (World.block_lt_of_cell? _ _ (hHeld.2.2.2.2.2.1))).trans (hHeld.2.2.2.2.2.1)
       have HS6_:=(hb.cell (World.block_lt_of_cell? _ _ (hHeld.2.2.2.2.2.2.1))).trans (hHeld.2.2.2.2.2.2.1)
       have HS7_:=(hb.cell (World.block_lt_of_cell? _ _ (hHeld.2.2.2.2.2.2.2.1))).trans (hHeld.2.2.2.2.2.2.2.1)
       have HS8_:=(hb.cell (World.block_lt_of_cell? _ _ (hHeld.2.2.2.2.2.2.2.2))).trans (hHeld.2.2.2.2.2.2.2.2)
       refine ⟨_,rfl,?_⟩
       have n0_:=z7.mk (Kd.zY (by (with_reducible repeat (first|apply Kd.zx|apply Kd.zy|apply Kd.zD));exact HO_11.out) hb)
       have n1_:=z7.mk (zk (g:=gb101) (o:=.cells #[.int .u64 x102000_1,.int .u64 x102001_1] 51 (0,0)) (by (with_reducible repeat (first|refine z2 ?_ _|refine z5 ?_|refine z1 ?_ _));exact BK101.out) hb)
       have n2_:=z7.mk (zk (g:=gb108) (o:=.cells #[.int .i64 ((zd l1 x38_2).f0),.int .i64 ((zd l1 x38_2).f1),.int .i64 ((zd l1 x38_2).f2),.int .u64 ((zd l1 x38_2).f3.f0),.int .u64 ((zd l1 x38_2).f3.f1)] 87 (0,0)) (by (with_reducible repeat (first|refine z2 ?_ _|refine z5 ?_|refine z1 ?_ _));exact BK108.out) hb)
       have n3_:=z7.mk (zk (g:=gb109) (o:=.cells #[.int .u64 0,.int .u64 0] 51 (0,0)) (by (with_reducible repeat (first|refine z2 ?_ _|refine z5 ?_|refine z1 ?_ _));exact BK109.out) hb)
       have n4_:=z7.mk (zg (by repeat (first|(with_reducible first|exact HB.out|apply z4|apply z0|apply z3|refine z9 ?_ GE101.out|refine z9 ?_ GE108.out|refine z9 ?_ GE109.out)|exact HB.out)) hb)
       clear HO_11
       clear BK101
       clear BK108
       clear BK109
       clear HB
       have HO_11:=n0_
       have BK101:=n1_
       have BK108:=n2_
       have BK109:=n3_
       have HB:=n4_
       clear n0_ n1_ n2_ n3_ n4_
       (try clear hb)
       (try clear hb2)
       (try clear hk)
       (try clear hi)
       refine hK.out _ _ ⟨(zb BK108.out 0).trans rfl,(zb BK108.out 1).trans rfl,(zb BK108.out 2).trans rfl,(zb BK108.out 3).trans rfl,(zb BK108.out 4).trans rfl,HS5_,HS6_,HS7_,HS8_⟩ (fun hHeld=>?_)
       clear hK K
       refine norm_ (a':=?_) ?_ ?_
       rotate_left
       · show Act.put _ (some 67) _ = _
         simp only [Act.put,List.setIfInBounds_toArray,List.set_cons_zero,List.set_cons_succ,zH,zL]
         rfl
       refine one_ (i:=11) (N:=none) #[true,true,true,true,true,true,true,true,true,true,true,true] rfl rfl (z1I HT_.out (by kernel_rfl)) (by decide) (fun K hK=>?_)
       have hs65 : w64.cell? ⟨gb109,0,none⟩ = some (.int .u64 0):=(zb BK109.out 0).trans rfl
       have hfs65:=z8 BK109.out 0
       have hns65_0:=NB101_109.out
       have hns65_1:=NB108_109.out
       have hms65_0:=NB109_101.out
       have hms65_1:=NB109_108.out
       have hs66 : w64.cell? ⟨gb109,1,none⟩ = some (.int .u64 0):=(zb BK109.out 1).trans rfl
       have hfs66:=z8 BK109.out 1
       have hns66_0:=NB101_109.out
       have hns66_1:=NB108_109.out
       have hms66_0:=NB109_101.out
       have hms66_1:=NB109_108.out
       refine skip_ (w1:=?_) (by rfl) rfl ?_ ?_
       rotate_left
       · go_simp
         rfl
       refine hK.out _ _ ⟨((zn (p:=⟨gb109,_,none⟩) NB108_109.out _).trans (((zn (p:=⟨gb109,_,none⟩) NB108_109.out _).trans (hHeld.1)))),((zn (p:=⟨gb109,_,none⟩) NB108_109.out _).trans (((zn (p:=⟨gb109,_,none⟩) NB108_109.out _).trans (hHeld.2.1)))),((zn (p:=⟨gb109,_,none⟩) NB108_109.out _).trans (((zn (p:=⟨gb109,_,none⟩) NB108_109.out _).trans (hHeld.2.2.1)))),((zn (p:=⟨gb109,_,none⟩) NB108_109.out _).trans (((zn (p:=⟨gb109,_,none⟩) NB108_109.out _).trans (hHeld.2.2.2.1)))),((zn (p:=⟨gb109,_,none⟩) NB108_109.out _).trans (((zn (p:=⟨gb109,_,none⟩) NB108_109.out _).trans (hHeld.2.2.2.2.1)))),((zn (p:=⟨gb109,_,none⟩) (by first|exact Kd.zp (Kd.zt HO_11.out (fun _ hk=>hk.2))|(rw [z6];exact Kd.zp (Kd.zt HO_11.out (fun _ hk=>hk.2)))|(show (Addr.add _ _).block ≠ _;rw [z6];exact Kd.zp (Kd.zt HO_11.out (fun _ hk=>hk.2)))|(dsimp only;exact Kd.zp (Kd.zt HO_11.out (fun _ hk=>hk.2)))) _).trans (((zn (p:=⟨gb109,_,none⟩) (by first|exact Kd.zp (Kd.zt HO_11.out (fun _ hk=>hk.2))|(rw [z6];exact Kd.zp (Kd.zt HO_11.out (fun _ hk=>hk.2)))|(show (Addr.add _ _).block ≠ _;rw [z6];exact Kd.zp (Kd.zt HO_11.out (fun _ hk=>hk.2)))|(dsimp only;exact Kd.zp (Kd.zt HO_11.out (fun _ hk=>hk.2)))) _).trans (hHeld.2.2.2.2.2.1)))),((zn (p:=⟨gb109,_,none⟩) (by first|exact Kd.zp (Kd.zt HO_11.out (fun _ hk=>hk.2))|(rw [z6];exact Kd.zp (Kd.zt HO_11.out (fun _ hk=>hk.2)))|(show (Addr.add _ _).block ≠ _;rw [z6];exact Kd.zp (Kd.zt HO_11.out (fun _ hk=>hk.2)))|(dsimp only;exact Kd.zp (Kd.zt HO_11.out (fun _ hk=>hk.2)))) _).trans (((zn (p:=⟨gb109,_,none⟩) (by first|exact Kd.zp (Kd.zt HO_11.out (fun _ hk=>hk.2))|(rw [z6];exact Kd.zp (Kd.zt HO_11.out (fun _ hk=>hk.2)))|(show (Addr.add _ _).block ≠ _;rw [z6];exact Kd.zp (Kd.zt HO_11.out (fun _ hk=>hk.2)))|(dsimp only;exact Kd.zp (Kd.zt HO_11.out (fun _ hk=>hk.2)))) _).trans (hHeld.2.2.2.2.2.2.1)))),((zn (p:=⟨gb109,_,none⟩) (by first|exact Kd.zp (Kd.zt HO_11.out (fun _ hk=>hk.2))|(rw [z6];exact Kd.zp (Kd.zt HO_11.out (fun _ hk=>hk.2)))|(show (Addr.add _ _).block ≠ _;rw [z6];exact Kd.zp (Kd.zt HO_11.out (fun _ hk=>hk.2)))|(dsimp only;exact Kd.zp (Kd.zt HO_11.out (fun _ hk=>hk.2)))) _).trans (((zn (p:=⟨gb109,_,none⟩) (by first|exact Kd.zp (Kd.zt HO_11.out (fun _ hk=>hk.2))|(rw [z6];exact Kd.zp (Kd.zt HO_11.out (fun _ hk=>hk.2)))|(show (Addr.add _ _).block ≠ _;rw [z6];exact Kd.zp (Kd.zt HO_11.out (fun _ hk=>hk.2)))|(dsimp only;exact Kd.zp (Kd.zt HO_11.out (fun _ hk=>hk.2)))) _).trans (hHeld.2.2.2.2.2.2.2.1)))),((zn (p:=⟨gb109,_,none⟩) (by first|exact Kd.zp (Kd.zt HO_11.out (fun _ hk=>hk.2))|(rw [z6];exact Kd.zp (Kd.zt HO_11.out (fun _ hk=>hk.2)))|(show (Addr.add _ _).block ≠ _;rw [z6];exact Kd.zp (Kd.zt HO_11.out (fun _ hk=>hk.2)))|(dsimp only;exact Kd.zp (Kd.zt HO_11.out (fun _ hk=>hk.2)))) _).trans (((zn (p:=⟨gb109,_,none⟩) (by first|exact Kd.zp (Kd.zt HO_11.out (fun _ hk=>hk.2))|(rw [z6];exact Kd.zp (Kd.zt HO_11.out (fun _ hk=>hk.2)))|(show (Addr.add _ _).block ≠ _;rw [z6];exact Kd.zp (Kd.zt HO_11.out (fun _ hk=>hk.2)))|(dsimp only;exact Kd.zp (Kd.zt HO_11.out (fun _ hk=>hk.2)))) _).trans (hHeld.2.2.2.2.2.2.2.2))))⟩ (fun hHeld=>?_)
       clear hK K
       refine done_ (z27 HT_.out (by kernel_rfl)) ?_
       have hnb67:=NB109_101.out
       have hnc67:=NB101_109.out
       have hcz68_0 : w64.cell? ⟨gb109,0,none⟩ = some (.int .u64 0):=(zb BK109.out 0).trans rfl
       have hcz68_1 : w64.cell? ⟨gb109,1,none⟩ = some (.int .u64 0):=(zb BK109.out 1).trans rfl
       have hfz68_0:=z8 BK109.out 0
       have hfz68_1:=z8 BK109.out 1
       try go_wp2_with (first|((with_reducible refine zW (b:=.append) (xs:=#[.tmp 82,.tmp 84]) rfl ?_);at_builtin;refine Kd.z1h k51 (w0:=w) w.heap.size rfl (.tmp 82) (.tmp 84) 37 51 (.agg #[(.int .u64 0),(.int .u64 0)]) 16 rfl Try.underlying37 info51 rfl (by decide) (by omega) (.slice (some ad117) x11_2.length co63) x11_2 (⟨t119,t120⟩ : S51) [.int .u64 t119,.int .u64 t120] (fun k_=>k_ ≠ gb101 ∧ k_ ≠ gb109) (fun _=>False) rfl (by first|(go_simp;done)|(go_simp;rfl)) ?aP (fun _ hk=>hk.elim) ?aF ?aO ?aB ?aS ?aL ?_;(case aP=>exact z1Q _ _ _ (⟨t119,t120⟩ : S51));(case aB=>exact (by repeat (first|(with_reducible first|exact HB.out|apply z4|apply z0|apply z3|refine z9 ?_ GE101.out|refine z9 ?_ GE108.out|refine z9 ?_ GE109.out)|exact HB.out)));(case aF=>exact (fun k_ hk=>⟨Kd.freshB (g:=gb101) (o:=.cells #[.int .u64 x102000_1,.int .u64 x102001_1] 51 (0,0)) (by (with_reducible repeat (first|refine z2 ?_ _|refine z5 ?_|refine z1 ?_ _));refine zs ?_ NB101_109.out _;(with_reducible repeat (first|refine z2 ?_ _|refine z5 ?_|refine z1 ?_ _));refine zs ?_ NB101_109.out _;(with_reducible repeat (first|refine z2 ?_ _|refine z5 ?_|refine z1 ?_ _));exact BK101.out) k_ hk,Kd.freshB (g:=gb109) (o:=.cells #[.int .u64 t119,.int .u64 t120] 51 (0,0)) (by (with_reducible repeat (first|refine z2 ?_ _|refine z5 ?_|refine z1 ?_ _));refine zq (cs:=#[.int .u64 t119,.int .u64 0]) ?_ 1 _ rfl;(with_reducible repeat (first|refine z2 ?_ _|refine z5 ?_|refine z1 ?_ _));refine zq (cs:=#[.int .u64 0,.int .u64 0]) ?_ 0 _ rfl;(with_reducible repeat (first|refine z2 ?_ _|refine z5 ?_|refine z1 ?_ _));exact BK109.out) k_ hk⟩));(case aO=>exact (by (with_reducible repeat (first|apply Kd.zx|apply Kd.zy|apply Kd.zD));exact Kd.z1d (Kd.z1g (p:=⟨gb109,1,none⟩) (Kd.z1g (p:=⟨gb109,0,none⟩) (Kd.z1d HO_11.out (fun k_ hk=>(⟨hk,hk.2⟩ : _ ∧ k_ ≠ gb109))) (fun _ hk=>hk.2) (.int .u64 t119)) (fun _ hk=>hk.2) (.int .u64 t120)) (fun _ hk=>⟨hk.1.1,hk.1.2⟩)));(case aS=>exact (zf (by repeat (first|(with_reducible first|exact HB.out|apply z4|apply z0|apply z3|refine z9 ?_ GE101.out|refine z9 ?_ GE108.out|refine z9 ?_ GE109.out)|exact HB.out))));(case aL=>have:=LMc55.out;omega);intro v122 w69 ho hb hg hat;rw [← Ny121.out] at ho;have n0_:=z7.mk (z1i (g:=gb101) (o:=.cells #[.int .u64 x102000_1,.int .u64 x102001_1] 51 (0,0)) (by (with_reducible repeat (first|refine z2 ?_ _|refine z5 ?_|refine z1 ?_ _));refine zs ?_ NB101_109.out _;(with_reducible repeat (first|refine z2 ?_ _|refine z5 ?_|refine z1 ?_ _));refine zs ?_ NB101_109.out _;(with_reducible repeat (first|refine z2 ?_ _|refine z5 ?_|refine z1 ?_ _));exact BK101.out) hg (Kd.zt HO_11.out (fun _ hk=>hk.1)));have n1_:=z7.mk (z1i (g:=gb108) (o:=.cells #[.int .i64 ((zd l1 x38_2).f0),.int .i64 ((zd l1 x38_2).f1),.int .i64 ((zd l1 x38_2).f2),.int .u64 ((zd l1 x38_2).f3.f0),.int .u64 ((zd l1 x38_2).f3.f1)] 87 (0,0)) (by (with_reducible repeat (first|refine z2 ?_ _|refine z5 ?_|refine z1 ?_ _));refine zs ?_ NB108_109.out _;(with_reducible repeat (first|refine z2 ?_ _|refine z5 ?_|refine z1 ?_ _));refine zs ?_ NB108_109.out _;(with_reducible repeat (first|refine z2 ?_ _|refine z5 ?_|refine z1 ?_ _));exact BK108.out) hg (Kd.R_ne HO_11.out BK108.out (by decide)));have n2_:=z7.mk (z1i (g:=gb109) (o:=.cells #[.int .u64 t119,.int .u64 t120] 51 (0,0)) (by (with_reducible repeat (first|refine z2 ?_ _|refine z5 ?_|refine z1 ?_ _));refine zq (cs:=#[.int .u64 t119,.int .u64 0]) ?_ 1 _ rfl;(with_reducible repeat (first|refine z2 ?_ _|refine z5 ?_|refine z1 ?_ _));refine zq (cs:=#[.int .u64 0,.int .u64 0]) ?_ 0 _ rfl;(with_reducible repeat (first|refine z2 ?_ _|refine z5 ?_|refine z1 ?_ _));exact BK109.out) hg (Kd.zt HO_11.out (fun _ hk=>hk.2)));have n3_:=z7.mk (hb);have n4_:=z7.mk (ho);clear BK101;clear BK108;clear BK109;clear HB;clear HO_11;have BK101:=n0_;have BK108:=n1_;have BK109:=n2_;have HB:=n3_;have HO123:=n4_;clear n0_ n1_ n2_ n3_ n4_;clear ho hb hg hat))
       go_roundg k2
       case measure=>have:=HK1.out;have:=HK2.out;omega
       case rel=>exact ⟨(y121),(wrap64 (x38_2 + 1)),(by first|rfl|(simp;done)|(simp [*];done)),H',⟨by have:=HK1.out;have:=HK2.out;omega⟩,⟨by (with_reducible repeat (first|apply Kd.zx|apply Kd.zy|apply Kd.zD));exact Kd.z1d HO123.out (fun _ hk=>hk.1)⟩,⟨by (with_reducible repeat (first|refine z2 ?_ _|refine z5 ?_|refine z1 ?_ _));exact BK101.out⟩,⟨by repeat (first|(with_reducible first|exact HB.out|apply z4|apply z0|apply z3|refine z9 ?_ GE101.out|refine z9 ?_ GE108.out|refine z9 ?_ GE109.out)|exact HB.out)⟩⟩
     rw [if_neg c49] at H
     have c49b0 : (((zd l1 x38_2).f0) == 3) = false:=beq_eq_false_iff_ne.mpr c49
     have c49b1 : (((zd l1 x38_2).f0) != 3) = true:=bne_iff_ne.mpr c49
     by_cases c70 : ((zd l1 x38_2).f0) = 4
     rotate_left
     · rw [if_neg c70] at H
       have c70b0 : (((zd l1 x38_2).f0) == 4) = false:=beq_eq_false_iff_ne.mpr c70
       have c70b1 : (((zd l1 x38_2).f0) != 4) = true:=bne_iff_ne.mpr c70
       by_cases c91 : x11_2.length < 8796093022208
       rotate_left
       · rw [if_neg c91] at H
         exact absurd H (by simp)
       rw [if_pos c91] at H
       have LMc91:=z7.mk c91
       clear c91
       obtain ⟨y131,hy131⟩ : ∃ y_ : List (S51),y_ = (x11_2 ++ [(⟨0,0⟩ : S51)]):=⟨_,rfl⟩
       replace H : (zz.l1 k2 a0 l2 y131 l1 (l1.length : Int) (wrap64 (x38_2 + 1))) = some (r1,r2,r3):=by first|(rw [hy131];with_reducible exact H)|(have H2_:=(Option.bind_some _ _).symm.trans H;rw [hy131];with_reducible exact H2_)|(have H2_:=(Option.bind_some _ _).symm.trans H;with_reducible exact H2_)|with_reducible exact H|(rw [hy131];exact H)|exact H
       have Ny131:=z7.mk hy131
       clear hy131
       have H':=z7.mk H
       clear H
       have p107 : 0 ≤ (x38_2 : Int):=of_decide_eq_true (by first|(with_reducible assumption)|assumption)
       have q107 : x38_2 < (l1.length : Int):=of_decide_eq_true (by first|(with_reducible assumption)|assumption)
       obtain ⟨ad107,e107,hx107_0,hx107_1,hx107_2,hx107_3,hx107_4⟩:=z1R HR1.out x38_2 p107 q107
       cases e107
       replace hx107_0:=(HB.out.cell (World.block_lt_of_cell? w _ hx107_0)).trans hx107_0
       replace hx107_1:=(HB.out.cell (World.block_lt_of_cell? w _ hx107_1)).trans hx107_1
       replace hx107_2:=(HB.out.cell (World.block_lt_of_cell? w _ hx107_2)).trans hx107_2
       replace hx107_3:=(HB.out.cell (World.block_lt_of_cell? w _ hx107_3)).trans hx107_3
       replace hx107_4:=(HB.out.cell (World.block_lt_of_cell? w _ hx107_4)).trans hx107_4
       replace p107:=eq_true p107
       replace q107:=eq_true q107
       go_wp2_with (first|((with_reducible refine zG (N:=13) rfl ?_);refine zE ?hg (N:=13) ?hd (cs:=#[.int .i64 0,.int .i64 0,.int .i64 0,.int .u64 0,.int .u64 0]) (t:=87) ?hr ?_;(case hd=>rfl);(case hg=>rfl);(case hr=>first|(go_simp;done)|(go_simp;rfl));intro gb108 hg w92 hbox hb;have n0_:=z7.mk (Kd.zY (by (with_reducible repeat (first|apply Kd.zx|apply Kd.zy|apply Kd.zD));exact HO_11.out) hb);have n1_:=z7.mk (zk (g:=gb101) (o:=.cells #[.int .u64 x102000_1,.int .u64 x102001_1] 51 (0,0)) (by (with_reducible repeat (first|refine z2 ?_ _|refine z5 ?_|refine z1 ?_ _));exact BK101.out) hb);have n2_:=z7.mk (zg (by repeat (first|(with_reducible first|exact HB.out|apply z4|apply z0|apply z3|refine z9 ?_ GE101.out)|exact HB.out)) hb);have n3_:=z7.mk (hbox);have n4_:=z7.mk ((by rw [hg];exact (zf (by repeat (first|(with_reducible first|exact HB.out|apply z4|apply z0|apply z3|refine z9 ?_ GE101.out)|exact HB.out))) : w.heap.size ≤ gb108));have n5_:=z7.mk ((by rw [hg];exact (zf (by repeat (first|(with_reducible first|exact HB.out|apply z4|apply z0|apply z3|refine z9 ?_ GE101.out)|exact HB.out))) : w.heap.size ≤ gb108));have n6_:=z7.mk ((by rw [hg];exact Nat.ne_of_lt (zP (g:=gb101) (o:=.cells #[.int .u64 x102000_1,.int .u64 x102001_1] 51 (0,0)) (by (with_reducible repeat (first|refine z2 ?_ _|refine z5 ?_|refine z1 ?_ _));exact BK101.out)) : gb101 ≠ gb108));have n7_:=z7.mk ((by rw [hg];exact Nat.ne_of_gt (zP (g:=gb101) (o:=.cells #[.int .u64 x102000_1,.int .u64 x102001_1] 51 (0,0)) (by (with_reducible repeat (first|refine z2 ?_ _|refine z5 ?_|refine z1 ?_ _));exact BK101.out)) : gb108 ≠ gb101));clear HO_11;clear BK101;clear HB;have HO_11:=n0_;have BK101:=n1_;have HB:=n2_;have BK108:=n3_;have GW108:=n4_;have GE108:=n5_;have NB101_108:=n6_;have NB108_101:=n7_;clear n0_ n1_ n2_ n3_ n4_ n5_ n6_ n7_;clear hb hbox hg;have hnb93:=NB108_101.out;have hnc93:=NB101_108.out;have hcz94_0 : w92.cell? ⟨gb108,0,none⟩ = some (.int .i64 0):=(zb BK108.out 0).trans rfl;have hcz94_1 : w92.cell? ⟨gb108,1,none⟩ = some (.int .i64 0):=(zb BK108.out 1).trans rfl;have hcz94_2 : w92.cell? ⟨gb108,2,none⟩ = some (.int .i64 0):=(zb BK108.out 2).trans rfl;have hcz94_3 : w92.cell? ⟨gb108,3,none⟩ = some (.int .u64 0):=(zb BK108.out 3).trans rfl;have hcz94_4 : w92.cell? ⟨gb108,4,none⟩ = some (.int .u64 0):=(zb BK108.out 4).trans rfl;have hfz94_0:=z8 BK108.out 0;have hfz94_1:=z8 BK108.out 1;have hfz94_2:=z8 BK108.out 2;have hfz94_3:=z8 BK108.out 3;have hfz94_4:=z8 BK108.out 4)|((with_reducible refine zG (N:=14) rfl ?_);refine zE ?hg (N:=14) ?hd (cs:=#[.int .u64 0,.int .u64 0]) (t:=51) ?hr ?_;(case hd=>rfl);(case hg=>rfl);(case hr=>first|(go_simp;done)|(go_simp;rfl));intro gb109 hg w95 hbox hb;have n0_:=z7.mk (Kd.zY (Kd.z1S (by (with_reducible repeat (first|apply Kd.zx|apply Kd.zy|apply Kd.zD));exact (Kd.z1d (Kd.z1g (p:=⟨gb108,4,none⟩) (Kd.z1g (p:=⟨gb108,3,none⟩) (Kd.z1g (p:=⟨gb108,2,none⟩) (Kd.z1g (p:=⟨gb108,1,none⟩) (Kd.z1g (p:=⟨gb108,0,none⟩) (Kd.z1L HO_11.out BK108.out (by decide)) (fun _ hk=>hk.2) (.int .i64 ((zd l1 x38_2).f0))) (fun _ hk=>hk.2) (.int .i64 ((zd l1 x38_2).f1))) (fun _ hk=>hk.2) (.int .i64 ((zd l1 x38_2).f2))) (fun _ hk=>hk.2) (.int .u64 ((zd l1 x38_2).f3.f0))) (fun _ hk=>hk.2) (.int .u64 ((zd l1 x38_2).f3.f1))) (fun _ h_=>h_.1))) gb109 (Nat.le_of_eq hg.symm)) hb);have n1_:=z7.mk (zk (g:=gb101) (o:=.cells #[.int .u64 x102000_1,.int .u64 x102001_1] 51 (0,0)) (by (with_reducible repeat (first|refine z2 ?_ _|refine z5 ?_|refine z1 ?_ _));refine zs ?_ NB101_108.out _;(with_reducible repeat (first|refine z2 ?_ _|refine z5 ?_|refine z1 ?_ _));refine zs ?_ NB101_108.out _;(with_reducible repeat (first|refine z2 ?_ _|refine z5 ?_|refine z1 ?_ _));refine zs ?_ NB101_108.out _;(with_reducible repeat (first|refine z2 ?_ _|refine z5 ?_|refine z1 ?_ _));refine zs ?_ NB101_108.out _;(with_reducible repeat (first|refine z2 ?_ _|refine z5 ?_|refine z1 ?_ _));refine zs ?_ NB101_108.out _;(with_reducible repeat (first|refine z2 ?_ _|refine z5 ?_|refine z1 ?_ _));exact BK101.out) hb);have n2_:=z7.mk (zk (g:=gb108) (o:=.cells #[.int .i64 ((zd l1 x38_2).f0),.int .i64 ((zd l1 x38_2).f1),.int .i64 ((zd l1 x38_2).f2),.int .u64 ((zd l1 x38_2).f3.f0),.int .u64 ((zd l1 x38_2).f3.f1)] 87 (0,0)) (by (with_reducible repeat (first|refine z2 ?_ _|refine z5 ?_|refine z1 ?_ _));refine zq (cs:=#[.int .i64 ((zd l1 x38_2).f0),.int .i64 ((zd l1 x38_2).f1),.int .i64 ((zd l1 x38_2).f2),.int .u64 ((zd l1 x38_2).f3.f0),.int .u64 0]) ?_ 4 _ rfl;(with_reducible repeat (first|refine z2 ?_ _|refine z5 ?_|refine z1 ?_ _));refine zq (cs:=#[.int .i64 ((zd l1 x38_2).f0),.int .i64 ((zd l1 x38_2).f1),.int .i64 ((zd l1 x38_2).f2),.int .u64 0,.int .u64 0]) ?_ 3 _ rfl;(with_reducible repeat (first|refine z2 ?_ _|refine z5 ?_|refine z1 ?_ _));refine zq (cs:=#[.int .i64 ((zd l1 x38_2).f0),.int .i64 ((zd l1 x38_2).f1),.int .i64 0,.int .u64 0,.int .u64 0]) ?_ 2 _ rfl;(with_reducible repeat (first|refine z2 ?_ _|refine z5 ?_|refine z1 ?_ _));refine zq (cs:=#[.int .i64 ((zd l1 x38_2).f0),.int .i64 0,.int .i64 0,.int .u64 0,.int .u64 0]) ?_ 1 _ rfl;(with_reducible repeat (first|refine z2 ?_ _|refine z5 ?_|refine z1 ?_ _));refine zq (cs:=#[.int .i64 0,.int .i64 0,.int .i64 0,.int .u64 0,.int .u64 0]) ?_ 0 _ rfl;(with_reducible repeat (first|refine z2 ?_ _|refine z5 ?_|refine z1 ?_ _));exact BK108.out) hb);have n3_:=z7.mk (zg (by repeat (first|(with_reducible first|exact HB.out|apply z4|apply z0|apply z3|refine z9 ?_ GE101.out|refine z9 ?_ GE108.out)|exact HB.out)) hb);have n4_:=z7.mk (hbox);have n5_:=z7.mk ((by rw [hg];exact (zf (by repeat (first|(with_reducible first|exact HB.out|apply z4|apply z0|apply z3|refine z9 ?_ GE101.out|refine z9 ?_ GE108.out)|exact HB.out))) : w.heap.size ≤ gb109));have n6_:=z7.mk ((by rw [hg];exact (zf (by repeat (first|(with_reducible first|exact HB.out|apply z4|apply z0|apply z3|refine z9 ?_ GE101.out|refine z9 ?_ GE108.out)|exact HB.out))) : w.heap.size ≤ gb109));have n7_:=z7.mk ((by rw [hg];exact Nat.ne_of_lt (zP (g:=gb101) (o:=.cells #[.int .u64 x102000_1,.int .u64 x102001_1] 51 (0,0)) (by (with_reducible repeat (first|refine z2 ?_ _|refine z5 ?_|refine z1 ?_ _));refine zs ?_ NB101_108.out _;(with_reducible repeat (first|refine z2 ?_ _|refine z5 ?_|refine z1 ?_ _));refine zs ?_ NB101_108.out _;(with_reducible repeat (first|refine z2 ?_ _|refine z5 ?_|refine z1 ?_ _));refine zs ?_ NB101_108.out _;(with_reducible repeat (first|refine z2 ?_ _|refine z5 ?_|refine z1 ?_ _));refine zs ?_ NB101_108.out _;(with_reducible repeat (first|refine z2 ?_ _|refine z5 ?_|refine z1 ?_ _));refine zs ?_ NB101_108.out _;(with_reducible repeat (first|refine z2 ?_ _|refine z5 ?_|refine z1 ?_ _));exact BK101.out)) : gb101 ≠ gb109));have n8_:=z7.mk ((by rw [hg];exact Nat.ne_of_gt (zP (g:=gb101) (o:=.cells #[.int .u64 x102000_1,.int .u64 x102001_1] 51 (0,0)) (by (with_reducible repeat (first|refine z2 ?_ _|refine z5 ?_|refine z1 ?_ _));refine zs ?_ NB101_108.out _;(with_reducible repeat (first|refine z2 ?_ _|refine z5 ?_|refine z1 ?_ _));refine zs ?_ NB101_108.out _;(with_reducible repeat (first|refine z2 ?_ _|refine z5 ?_|refine z1 ?_ _));refine zs ?_ NB101_108.out _;(with_reducible repeat (first|refine z2 ?_ _|refine z5 ?_|refine z1 ?_ _));refine zs ?_ NB101_108.out _;(with_reducible repeat (first|refine z2 ?_ _|refine z5 ?_|refine z1 ?_ _));refine zs ?_ NB101_108.out _;(with_reducible repeat (first|refine z2 ?_ _|refine z5 ?_|refine z1 ?_ _));exact BK101.out)) : gb109 ≠ gb101));have n9_:=z7.mk ((by rw [hg];exact Nat.ne_of_lt (zP (g:=gb108) (o:=.cells #[.int .i64 ((zd l1 x38_2).f0),.int .i64 ((zd l1 x38_2).f1),.int .i64 ((zd l1 x38_2).f2),.int .u64 ((zd l1 x38_2).f3.f0),.int .u64 ((zd l1 x38_2).f3.f1)] 87 (0,0)) (by (with_reducible repeat (first|refine z2 ?_ _|refine z5 ?_|refine z1 ?_ _));refine zq (cs:=#[.int .i64 ((zd l1 x38_2).f0),.int .i64 ((zd l1 x38_2).f1),.int .i64 ((zd l1 x38_2).f2),.int .u64 ((zd l1 x38_2).f3.f0),.int .u64 0]) ?_ 4 _ rfl;(with_reducible repeat (first|refine z2 ?_ _|refine z5 ?_|refine z1 ?_ _));refine zq (cs:=#[.int .i64 ((zd l1 x38_2).f0),.int .i64 ((zd l1 x38_2).f1),.int .i64 ((zd l1 x38_2).f2),.int .u64 0,.int .u64 0]) ?_ 3 _ rfl;(with_reducible repeat (first|refine z2 ?_ _|refine z5 ?_|refine z1 ?_ _));refine zq (cs:=#[.int .i64 ((zd l1 x38_2).f0),.int .i64 ((zd l1 x38_2).f1),.int .i64 0,.int .u64 0,.int .u64 0]) ?_ 2 _ rfl;(with_reducible repeat (first|refine z2 ?_ _|refine z5 ?_|refine z1 ?_ _));refine zq (cs:=#[.int .i64 ((zd l1 x38_2).f0),.int .i64 0,.int .i64 0,.int .u64 0,.int .u64 0]) ?_ 1 _ rfl;(with_reducible repeat (first|refine z2 ?_ _|refine z5 ?_|refine z1 ?_ _));refine zq (cs:=#[.int .i64 0,.int .i64 0,.int .i64 0,.int .u64 0,.int .u64 0]) ?_ 0 _ rfl;(with_reducible repeat (first|refine z2 ?_ _|refine z5 ?_|refine z1 ?_ _));exact BK108.out)) : gb108 ≠ gb109));have n10_:=z7.mk ((by rw [hg];exact Nat.ne_of_gt (zP (g:=gb108) (o:=.cells #[.int .i64 ((zd l1 x38_2).f0),.int .i64 ((zd l1 x38_2).f1),.int .i64 ((zd l1 x38_2).f2),.int .u64 ((zd l1 x38_2).f3.f0),.int .u64 ((zd l1 x38_2).f3.f1)] 87 (0,0)) (by (with_reducible repeat (first|refine z2 ?_ _|refine z5 ?_|refine z1 ?_ _));refine zq (cs:=#[.int .i64 ((zd l1 x38_2).f0),.int .i64 ((zd l1 x38_2).f1),.int .i64 ((zd l1 x38_2).f2),.int .u64 ((zd l1 x38_2).f3.f0),.int .u64 0]) ?_ 4 _ rfl;(with_reducible repeat (first|refine z2 ?_ _|refine z5 ?_|refine z1 ?_ _));refine zq (cs:=#[.int .i64 ((zd l1 x38_2).f0),.int .i64 ((zd l1 x38_2).f1),.int .i64 ((zd l1 x38_2).f2),.int .u64 0,.int .u64 0]) ?_ 3 _ rfl;(with_reducible repeat (first|refine z2 ?_ _|refine z5 ?_|refine z1 ?_ _));refine zq (cs:=#[.int .i64 ((zd l1 x38_2).f0),.int .i64 ((zd l1 x38_2).f1),.int .i64 0,.int .u64 0,.int .u64 0]) ?_ 2 _ rfl;(with_reducible repeat (first|refine z2 ?_ _|refine z5 ?_|refine z1 ?_ _));refine zq (cs:=#[.int .i64 ((zd l1 x38_2).f0),.int .i64 0,.int .i64 0,.int .u64 0,.int .u64 0]) ?_ 1 _ rfl;(with_reducible repeat (first|refine z2 ?_ _|refine z5 ?_|refine z1 ?_ _));refine zq (cs:=#[.int .i64 0,.int .i64 0,.int .i64 0,.int .u64 0,.int .u64 0]) ?_ 0 _ rfl;(with_reducible repeat (first|refine z2 ?_ _|refine z5 ?_|refine z1 ?_ _));exact BK108.out)) : gb109 ≠ gb108));clear HO_11;clear BK101;clear BK108;clear HB;have HO_11:=n0_;have BK101:=n1_;have BK108:=n2_;have HB:=n3_;have BK109:=n4_;have GW109:=n5_;have GE109:=n6_;have NB101_109:=n7_;have NB109_101:=n8_;have NB108_109:=n9_;have NB109_108:=n10_;clear n0_ n1_ n2_ n3_ n4_ n5_ n6_ n7_ n8_ n9_ n10_;clear hb hbox hg;have hnb96:=NB108_109.out;have hnc96:=NB109_108.out;have hcz97_0 : w95.cell? ⟨gb108,0,none⟩ = some (.int .i64 ((zd l1 x38_2).f0)):=(zb BK108.out 0).trans rfl;have hcz97_1 : w95.cell? ⟨gb108,1,none⟩ = some (.int .i64 ((zd l1 x38_2).f1)):=(zb BK108.out 1).trans rfl;have hcz97_2 : w95.cell? ⟨gb108,2,none⟩ = some (.int .i64 ((zd l1 x38_2).f2)):=(zb BK108.out 2).trans rfl;have hcz97_3 : w95.cell? ⟨gb108,3,none⟩ = some (.int .u64 ((zd l1 x38_2).f3.f0)):=(zb BK108.out 3).trans rfl;have hcz97_4 : w95.cell? ⟨gb108,4,none⟩ = some (.int .u64 ((zd l1 x38_2).f3.f1)):=(zb BK108.out 4).trans rfl;have hfz97_0:=z8 BK108.out 0;have hfz97_1:=z8 BK108.out 1;have hfz97_2:=z8 BK108.out 2;have hfz97_3:=z8 BK108.out 3;have hfz97_4:=z8 BK108.out 4;have hnb98:=NB109_101.out;have hnc98:=NB101_109.out;have hcz99_0 : w95.cell? ⟨gb109,0,none⟩ = some (.int .u64 0):=(zb BK109.out 0).trans rfl;have hcz99_1 : w95.cell? ⟨gb109,1,none⟩ = some (.int .u64 0):=(zb BK109.out 1).trans rfl;have hfz99_0:=z8 BK109.out 0;have hfz99_1:=z8 BK109.out 1)|((with_reducible refine zW (b:=.append) (xs:=#[.tmp 82,.tmp 84]) rfl ?_);at_builtin;refine Kd.z1h k51 (w0:=w) w.heap.size rfl (.tmp 82) (.tmp 84) 37 51 (.agg #[(.int .u64 0),(.int .u64 0)]) 16 rfl Try.underlying37 info51 rfl (by decide) (by omega) u11 x11_2 (⟨0,0⟩ : S51) [.int .u64 0,.int .u64 0] (fun k_=>k_ ≠ gb101 ∧ k_ ≠ gb109) (fun _=>False) rfl rfl ?aP (fun _ hk=>hk.elim) ?aF ?aO ?aB ?aS ?aL ?_;(case aP=>exact z1Q _ _ _ (⟨0,0⟩ : S51));(case aB=>exact (by repeat (first|(with_reducible first|exact HB.out|apply z4|apply z0|apply z3|refine z9 ?_ GE101.out|refine z9 ?_ GE108.out|refine z9 ?_ GE109.out)|exact HB.out)));(case aF=>exact (fun k_ hk=>⟨Kd.freshB (g:=gb101) (o:=.cells #[.int .u64 x102000_1,.int .u64 x102001_1] 51 (0,0)) (by (with_reducible repeat (first|refine z2 ?_ _|refine z5 ?_|refine z1 ?_ _));exact BK101.out) k_ hk,Kd.freshB (g:=gb109) (o:=.cells #[.int .u64 0,.int .u64 0] 51 (0,0)) (by (with_reducible repeat (first|refine z2 ?_ _|refine z5 ?_|refine z1 ?_ _));exact BK109.out) k_ hk⟩));(case aO=>exact (by (with_reducible repeat (first|apply Kd.zx|apply Kd.zy|apply Kd.zD));exact HO_11.out));(case aS=>exact (zf (by repeat (first|(with_reducible first|exact HB.out|apply z4|apply z0|apply z3|refine z9 ?_ GE101.out|refine z9 ?_ GE108.out|refine z9 ?_ GE109.out)|exact HB.out))));(case aL=>have:=LMc91.out;omega);intro v132 w100 ho hb hg hat;rw [← Ny131.out] at ho;have n0_:=z7.mk (z1i (g:=gb101) (o:=.cells #[.int .u64 x102000_1,.int .u64 x102001_1] 51 (0,0)) (by (with_reducible repeat (first|refine z2 ?_ _|refine z5 ?_|refine z1 ?_ _));exact BK101.out) hg (Kd.zt HO_11.out (fun _ hk=>hk.1)));have n1_:=z7.mk (z1i (g:=gb108) (o:=.cells #[.int .i64 ((zd l1 x38_2).f0),.int .i64 ((zd l1 x38_2).f1),.int .i64 ((zd l1 x38_2).f2),.int .u64 ((zd l1 x38_2).f3.f0),.int .u64 ((zd l1 x38_2).f3.f1)] 87 (0,0)) (by (with_reducible repeat (first|refine z2 ?_ _|refine z5 ?_|refine z1 ?_ _));exact BK108.out) hg (Kd.R_ne HO_11.out BK108.out (by decide)));have n2_:=z7.mk (z1i (g:=gb109) (o:=.cells #[.int .u64 0,.int .u64 0] 51 (0,0)) (by (with_reducible repeat (first|refine z2 ?_ _|refine z5 ?_|refine z1 ?_ _));exact BK109.out) hg (Kd.zt HO_11.out (fun _ hk=>hk.2)));have n3_:=z7.mk (hb);have n4_:=z7.mk (ho);clear BK101;clear BK108;clear BK109;clear HB;clear HO_11;have BK101:=n0_;have BK108:=n1_;have BK109:=n2_;have HB:=n3_;have HO133:=n4_;clear n0_ n1_ n2_ n3_ n4_;clear ho hb hg hat))
       go_roundg k2
       case measure=>have:=HK1.out;have:=HK2.out;omega
       case rel=>exact ⟨(y131),(wrap64 (x38_2 + 1)),(by first|rfl|(simp;done)|(simp [*];done)),H',⟨by have:=HK1.out;have:=HK2.out;omega⟩,⟨by (with_reducible repeat (first|apply Kd.zx|apply Kd.zy|apply Kd.zD));exact Kd.z1d HO133.out (fun _ hk=>hk.1)⟩,⟨by (with_reducible repeat (first|refine z2 ?_ _|refine z5 ?_|refine z1 ?_ _));exact BK101.out⟩,⟨by repeat (first|(with_reducible first|exact HB.out|apply z4|apply z0|apply z3|refine z9 ?_ GE101.out|refine z9 ?_ GE108.out|refine z9 ?_ GE109.out)|exact HB.out)⟩⟩
     rw [if_pos c70] at H
     have c70b0 : (((zd l1 x38_2).f0) == 4) = true:=beq_iff_eq.mpr c70
     have c70b1 : (((zd l1 x38_2).f0) != 4) = false:=bne_eq_false_iff_eq.mpr c70
     clear c70
     by_cases c71 : 0 ≤ ((zd l1 x38_2).f1)
     rotate_left
     · rw [if_neg c71] at H
       exact absurd H (by simp)
     rw [if_pos c71] at H
     have c71b0 : decide (0 ≤ ((zd l1 x38_2).f1)) = true:=decide_eq_true c71
     clear c71
     by_cases c72 : ((zd l1 x38_2).f1) < (x11_2.length : Int)
     rotate_left
     · rw [if_neg c72] at H
       exact absurd H (by simp)
     rw [if_pos c72] at H
     have c72b0 : decide (((zd l1 x38_2).f1) < (x11_2.length : Int)) = true:=decide_eq_true c72
     clear c72
     by_cases c73 : 0 ≤ ((zd l1 x38_2).f2)
     rotate_left
     · rw [if_neg c73] at H
       exact absurd H (by simp)
     rw [if_pos c73] at H
     have c73b0 : decide (0 ≤ ((zd l1 x38_2).f2)) = true:=decide_eq_true c73
     clear c73
     by_cases c74 : ((zd l1 x38_2).f2) < (x11_2.length : Int)
     rotate_left
     · rw [if_neg c74] at H
       exact absurd H (by simp)
     rw [if_pos c74] at H
     have c74b0 : decide (((zd l1 x38_2).f2) < (x11_2.length : Int)) = true:=decide_eq_true c74
     clear c74
     replace H:=Option.bind_eq_some_iff.mp H
     obtain ⟨⟨t126,t127⟩,A750,H⟩:=H
     replace H : (if x11_2.length < 8796093022208 then (zz.l1 k2 a0 l2 (x11_2 ++ [(⟨t126,t127⟩ : S51)]) l1 (l1.length : Int) (wrap64 (x38_2 + 1))) else (none)) = some (r1,r2,r3):=H
     have A75:=z7.mk A750
     clear A750
     by_cases c76 : x11_2.length < 8796093022208
     rotate_left
     · rw [if_neg c76] at H
       exact absurd H (by simp)
     rw [if_pos c76] at H
     have LMc76:=z7.mk c76
     clear c76
     obtain ⟨y128,hy128⟩ : ∃ y_ : List (S51),y_ = (x11_2 ++ [(⟨t126,t127⟩ : S51)]):=⟨_,rfl⟩
     replace H : (zz.l1 k2 a0 l2 y128 l1 (l1.length : Int) (wrap64 (x38_2 + 1))) = some (r1,r2,r3):=by first|(rw [hy128];with_reducible exact H)|(have H2_:=(Option.bind_some _ _).symm.trans H;rw [hy128];with_reducible exact H2_)|(have H2_:=(Option.bind_some _ _).symm.trans H;with_reducible exact H2_)|with_reducible exact H|(rw [hy128];exact H)|exact H
     have Ny128:=z7.mk hy128
     clear hy128
     have H':=z7.mk H
     clear H
     have p107 : 0 ≤ (x38_2 : Int):=of_decide_eq_true (by first|(with_reducible assumption)|assumption)
     have q107 : x38_2 < (l1.length : Int):=of_decide_eq_true (by first|(with_reducible assumption)|assumption)
     obtain ⟨ad107,e107,hx107_0,hx107_1,hx107_2,hx107_3,hx107_4⟩:=z1R HR1.out x38_2 p107 q107
     cases e107
     replace hx107_0:=(HB.out.cell (World.block_lt_of_cell? w _ hx107_0)).trans hx107_0
     replace hx107_1:=(HB.out.cell (World.block_lt_of_cell? w _ hx107_1)).trans hx107_1
     replace hx107_2:=(HB.out.cell (World.block_lt_of_cell? w _ hx107_2)).trans hx107_2
     replace hx107_3:=(HB.out.cell (World.block_lt_of_cell? w _ hx107_3)).trans hx107_3
     replace hx107_4:=(HB.out.cell (World.block_lt_of_cell? w _ hx107_4)).trans hx107_4
     replace p107:=eq_true p107
     replace q107:=eq_true q107
     try go_wp2_with (first|((with_reducible refine zG (N:=13) rfl ?_);refine zE ?hg (N:=13) ?hd (cs:=#[.int .i64 0,.int .i64 0,.int .i64 0,.int .u64 0,.int .u64 0]) (t:=87) ?hr ?_;(case hd=>rfl);(case hg=>rfl);(case hr=>first|(go_simp;done)|(go_simp;rfl));intro gb108 hg w77 hbox hb;have n0_:=z7.mk (Kd.zY (by (with_reducible repeat (first|apply Kd.zx|apply Kd.zy|apply Kd.zD));exact HO_11.out) hb);have n1_:=z7.mk (zk (g:=gb101) (o:=.cells #[.int .u64 x102000_1,.int .u64 x102001_1] 51 (0,0)) (by (with_reducible repeat (first|refine z2 ?_ _|refine z5 ?_|refine z1 ?_ _));exact BK101.out) hb);have n2_:=z7.mk (zg (by repeat (first|(with_reducible first|exact HB.out|apply z4|apply z0|apply z3|refine z9 ?_ GE101.out)|exact HB.out)) hb);have n3_:=z7.mk (hbox);have n4_:=z7.mk ((by rw [hg];exact (zf (by repeat (first|(with_reducible first|exact HB.out|apply z4|apply z0|apply z3|refine z9 ?_ GE101.out)|exact HB.out))) : w.heap.size ≤ gb108));have n5_:=z7.mk ((by rw [hg];exact (zf (by repeat (first|(with_reducible first|exact HB.out|apply z4|apply z0|apply z3|refine z9 ?_ GE101.out)|exact HB.out))) : w.heap.size ≤ gb108));have n6_:=z7.mk ((by rw [hg];exact Nat.ne_of_lt (zP (g:=gb101) (o:=.cells #[.int .u64 x102000_1,.int .u64 x102001_1] 51 (0,0)) (by (with_reducible repeat (first|refine z2 ?_ _|refine z5 ?_|refine z1 ?_ _));exact BK101.out)) : gb101 ≠ gb108));have n7_:=z7.mk ((by rw [hg];exact Nat.ne_of_gt (zP (g:=gb101) (o:=.cells #[.int .u64 x102000_1,.int .u64 x102001_1] 51 (0,0)) (by (with_reducible repeat (first|refine z2 ?_ _|refine z5 ?_|refine z1 ?_ _));exact BK101.out)) : gb108 ≠ gb101));clear HO_11;clear BK101;clear HB;have HO_11:=n0_;have BK101:=n1_;have HB:=n2_;have BK108:=n3_;have GW108:=n4_;have GE108:=n5_;have NB101_108:=n6_;have NB108_101:=n7_;clear n0_ n1_ n2_ n3_ n4_ n5_ n6_ n7_;clear hb hbox hg;have hnb78:=NB108_101.out;have hnc78:=NB101_108.out;have hcz79_0 : w77.cell? ⟨gb108,0,none⟩ = some (.int .i64 0):=(zb BK108.out 0).trans rfl;have hcz79_1 : w77.cell? ⟨gb108,1,none⟩ = some (.int .i64 0):=(zb BK108.out 1).trans rfl;have hcz79_2 : w77.cell? ⟨gb108,2,none⟩ = some (.int .i64 0):=(zb BK108.out 2).trans rfl;have hcz79_3 : w77.cell? ⟨gb108,3,none⟩ = some (.int .u64 0):=(zb BK108.out 3).trans rfl;have hcz79_4 : w77.cell? ⟨gb108,4,none⟩ = some (.int .u64 0):=(zb BK108.out 4).trans rfl;have hfz79_0:=z8 BK108.out 0;have hfz79_1:=z8 BK108.out 1;have hfz79_2:=z8 BK108.out 2;have hfz79_3:=z8 BK108.out 3;have hfz79_4:=z8 BK108.out 4)|((with_reducible refine zG (N:=14) rfl ?_);refine zE ?hg (N:=14) ?hd (cs:=#[.int .u64 0,.int .u64 0]) (t:=51) ?hr ?_;(case hd=>rfl);(case hg=>rfl);(case hr=>first|(go_simp;done)|(go_simp;rfl));intro gb109 hg w80 hbox hb;have n0_:=z7.mk (Kd.zY (Kd.z1S (by (with_reducible repeat (first|apply Kd.zx|apply Kd.zy|apply Kd.zD));exact (Kd.z1d (Kd.z1g (p:=⟨gb108,4,none⟩) (Kd.z1g (p:=⟨gb108,3,none⟩) (Kd.z1g (p:=⟨gb108,2,none⟩) (Kd.z1g (p:=⟨gb108,1,none⟩) (Kd.z1g (p:=⟨gb108,0,none⟩) (Kd.z1L HO_11.out BK108.out (by decide)) (fun _ hk=>hk.2) (.int .i64 ((zd l1 x38_2).f0))) (fun _ hk=>hk.2) (.int .i64 ((zd l1 x38_2).f1))) (fun _ hk=>hk.2) (.int .i64 ((zd l1 x38_2).f2))) (fun _ hk=>hk.2) (.int .u64 ((zd l1 x38_2).f3.f0))) (fun _ hk=>hk.2) (.int .u64 ((zd l1 x38_2).f3.f1))) (fun _ h_=>h_.1))) gb109 (Nat.le_of_eq hg.symm)) hb);have n1_:=z7.mk (zk (g:=gb101) (o:=.cells #[.int .u64 x102000_1,.int .u64 x102001_1] 51 (0,0)) (by (with_reducible repeat (first|refine z2 ?_ _|refine z5 ?_|refine z1 ?_ _));refine zs ?_ NB101_108.out _;(with_reducible repeat (first|refine z2 ?_ _|refine z5 ?_|refine z1 ?_ _));refine zs ?_ NB101_108.out _;(with_reducible repeat (first|refine z2 ?_ _|refine z5 ?_|refine z1 ?_ _));refine zs ?_ NB101_108.out _;(with_reducible repeat (first|refine z2 ?_ _|refine z5 ?_|refine z1 ?_ _));refine zs ?_ NB101_108.out _;(with_reducible repeat (first|refine z2 ?_ _|refine z5 ?_|refine z1 ?_ _));refine zs ?_ NB101_108.out _;(with_reducible repeat (first|refine z2 ?_ _|refine z5 ?_|refine z1 ?_ _));exact BK101.out) hb);have n2_:=z7.mk (zk (g:=gb108) (o:=.cells #[.int .i64 ((zd l1 x38_2).f0),.int .i64 ((zd l1 x38_2).f1),.int .i64 ((zd l1 x38_2).f2),.int .u64 ((zd l1 x38_2).f3.f0),.int .u64 ((zd l1 x38_2).f3.f1)] 87 (0,0)) (by (with_reducible repeat (first|refine z2 ?_ _|refine z5 ?_|refine z1 ?_ _));refine zq (cs:=#[.int .i64 ((zd l1 x38_2).f0),.int .i64 ((zd l1 x38_2).f1),.int .i64 ((zd l1 x38_2).f2),.int .u64 ((zd l1 x38_2).f3.f0),.int .u64 0]) ?_ 4 _ rfl;(with_reducible repeat (first|refine z2 ?_ _|refine z5 ?_|refine z1 ?_ _));refine zq (cs:=#[.int .i64 ((zd l1 x38_2).f0),.int .i64 ((zd l1 x38_2).f1),.int .i64 ((zd l1 x38_2).f2),.int .u64 0,.int .u64 0]) ?_ 3 _ rfl;(with_reducible repeat (first|refine z2 ?_ _|refine z5 ?_|refine z1 ?_ _));refine zq (cs:=#[.int .i64 ((zd l1 x38_2).f0),.int .i64 ((zd l1 x38_2).f1),.int .i64 0,.int .u64 0,.int .u64 0]) ?_ 2 _ rfl;(with_reducible repeat (first|refine z2 ?_ _|refine z5 ?_|refine z1 ?_ _));refine zq (cs:=#[.int .i64 ((zd l1 x38_2).f0),.int .i64 0,.int .i64 0,.int .u64 0,.int .u64 0]) ?_ 1 _ rfl;(with_reducible repeat (first|refine z2 ?_ _|refine z5 ?_|refine z1 ?_ _));refine zq (cs:=#[.int .i64 0,.int .i64 0,.int .i64 0,.int .u64 0,.int .u64 0]) ?_ 0 _ rfl;(with_reducible repeat (first|refine z2 ?_ _|refine z5 ?_|refine z1 ?_ _));exact BK108.out) hb);have n3_:=z7.mk (zg (by repeat (first|(with_reducible first|exact HB.out|apply z4|apply z0|apply z3|refine z9 ?_ GE101.out|refine z9 ?_ GE108.out)|exact HB.out)) hb);have n4_:=z7.mk (hbox);have n5_:=z7.mk ((by rw [hg];exact (zf (by repeat (first|(with_reducible first|exact HB.out|apply z4|apply z0|apply z3|refine z9 ?_ GE101.out|refine z9 ?_ GE108.out)|exact HB.out))) : w.heap.size ≤ gb109));have n6_:=z7.mk ((by rw [hg];exact (zf (by repeat (first|(with_reducible first|exact HB.out|apply z4|apply z0|apply z3|refine z9 ?_ GE101.out|refine z9 ?_ GE108.out)|exact HB.out))) : w.heap.size ≤ gb109));have n7_:=z7.mk ((by rw [hg];exact Nat.ne_of_lt (zP (g:=gb101) (o:=.cells #[.int .u64 x102000_1,.int .u64 x102001_1] 51 (0,0)) (by (with_reducible repeat (first|refine z2 ?_ _|refine z5 ?_|refine z1 ?_ _));refine zs ?_ NB101_108.out _;(with_reducible repeat (first|refine z2 ?_ _|refine z5 ?_|refine z1 ?_ _));refine zs ?_ NB101_108.out _;(with_reducible repeat (first|refine z2 ?_ _|refine z5 ?_|refine z1 ?_ _));refine zs ?_ NB101_108.out _;(with_reducible repeat (first|refine z2 ?_ _|refine z5 ?_|refine z1 ?_ _));refine zs ?_ NB101_108.out _;(with_reducible repeat (first|refine z2 ?_ _|refine z5 ?_|refine z1 ?_ _));refine zs ?_ NB101_108.out _;(with_reducible repeat (first|refine z2 ?_ _|refine z5 ?_|refine z1 ?_ _));exact BK101.out)) : gb101 ≠ gb109));have n8_:=z7.mk ((by rw [hg];exact Nat.ne_of_gt (zP (g:=gb101) (o:=.cells #[.int .u64 x102000_1,.int .u64 x102001_1] 51 (0,0)) (by (with_reducible repeat (first|refine z2 ?_ _|refine z5 ?_|refine z1 ?_ _));refine zs ?_ NB101_108.out _;(with_reducible repeat (first|refine z2 ?_ _|refine z5 ?_|refine z1 ?_ _));refine zs ?_ NB101_108.out _;(with_reducible repeat (first|refine z2 ?_ _|refine z5 ?_|refine z1 ?_ _));refine zs ?_ NB101_108.out _;(with_reducible repeat (first|refine z2 ?_ _|refine z5 ?_|refine z1 ?_ _));refine zs ?_ NB101_108.out _;(with_reducible repeat (first|refine z2 ?_ _|refine z5 ?_|refine z1 ?_ _));refine zs ?_ NB101_108.out _;(with_reducible repeat (first|refine z2 ?_ _|refine z5 ?_|refine z1 ?_ _));exact BK101.out)) : gb109 ≠ gb101));have n9_:=z7.mk ((by rw [hg];exact Nat.ne_of_lt (zP (g:=gb108) (o:=.cells #[.int .i64 ((zd l1 x38_2).f0),.int .i64 ((zd l1 x38_2).f1),.int .i64 ((zd l1 x38_2).f2),.int .u64 ((zd l1 x38_2).f3.f0),.int .u64 ((zd l1 x38_2).f3.f1)] 87 (0,0)) (by (with_reducible repeat (first|refine z2 ?_ _|refine z5 ?_|refine z1 ?_ _));refine zq (cs:=#[.int .i64 ((zd l1 x38_2).f0),.int .i64 ((zd l1 x38_2).f1),.int .i64 ((zd l1 x38_2).f2),.int .u64 ((zd l1 x38_2).f3.f0),.int .u64 0]) ?_ 4 _ rfl;(with_reducible repeat (first|refine z2 ?_ _|refine z5 ?_|refine z1 ?_ _));refine zq (cs:=#[.int .i64 ((zd l1 x38_2).f0),.int .i64 ((zd l1 x38_2).f1),.int .i64 ((zd l1 x38_2).f2),.int .u64 0,.int .u64 0]) ?_ 3 _ rfl;(with_reducible repeat (first|refine z2 ?_ _|refine z5 ?_|refine z1 ?_ _));refine zq (cs:=#[.int .i64 ((zd l1 x38_2).f0),.int .i64 ((zd l1 x38_2).f1),.int .i64 0,.int .u64 0,.int .u64 0]) ?_ 2 _ rfl;(with_reducible repeat (first|refine z2 ?_ _|refine z5 ?_|refine z1 ?_ _));refine zq (cs:=#[.int .i64 ((zd l1 x38_2).f0),.int .i64 0,.int .i64 0,.int .u64 0,.int .u64 0]) ?_ 1 _ rfl;(with_reducible repeat (first|refine z2 ?_ _|refine z5 ?_|refine z1 ?_ _));refine zq (cs:=#[.int .i64 0,.int .i64 0,.int .i64 0,.int .u64 0,.int .u64 0]) ?_ 0 _ rfl;(with_reducible repeat (first|refine z2 ?_ _|refine z5 ?_|refine z1 ?_ _));exact BK108.out)) : gb108 ≠ gb109));have n10_:=z7.mk ((by rw [hg];exact Nat.ne_of_gt (zP (g:=gb108) (o:=.cells #[.int .i64 ((zd l1 x38_2).f0),.int .i64 ((zd l1 x38_2).f1),.int .i64 ((zd l1 x38_2).f2),.int .u64 ((zd l1 x38_2).f3.f0),.int .u64 ((zd l1 x38_2).f3.f1)] 87 (0,0)) (by (with_reducible repeat (first|refine z2 ?_ _|refine z5 ?_|refine z1 ?_ _));refine zq (cs:=#[.int .i64 ((zd l1 x38_2).f0),.int .i64 ((zd l1 x38_2).f1),.int .i64 ((zd l1 x38_2).f2),.int .u64 ((zd l1 x38_2).f3.f0),.int .u64 0]) ?_ 4 _ rfl;(with_reducible repeat (first|refine z2 ?_ _|refine z5 ?_|refine z1 ?_ _));refine zq (cs:=#[.int .i64 ((zd l1 x38_2).f0),.int .i64 ((zd l1 x38_2).f1),.int .i64 ((zd l1 x38_2).f2),.int .u64 0,.int .u64 0]) ?_ 3 _ rfl;(with_reducible repeat (first|refine z2 ?_ _|refine z5 ?_|refine z1 ?_ _));refine zq (cs:=#[.int .i64 ((zd l1 x38_2).f0),.int .i64 ((zd l1 x38_2).f1),.int .i64 0,.int .u64 0,.int .u64 0]) ?_ 2 _ rfl;(with_reducible repeat (first|refine z2 ?_ _|refine z5 ?_|refine z1 ?_ _));refine zq (cs:=#[.int .i64 ((zd l1 x38_2).f0),.int .i64 0,.int .i64 0,.int .u64 0,.int .u64 0]) ?_ 1 _ rfl;(with_reducible repeat (first|refine z2 ?_ _|refine z5 ?_|refine z1 ?_ _));refine zq (cs:=#[.int .i64 0,.int .i64 0,.int .i64 0,.int .u64 0,.int .u64 0]) ?_ 0 _ rfl;(with_reducible repeat (first|refine z2 ?_ _|refine z5 ?_|refine z1 ?_ _));exact BK108.out)) : gb109 ≠ gb108));clear HO_11;clear BK101;clear BK108;clear HB;have HO_11:=n0_;have BK101:=n1_;have BK108:=n2_;have HB:=n3_;have BK109:=n4_;have GW109:=n5_;have GE109:=n6_;have NB101_109:=n7_;have NB109_101:=n8_;have NB108_109:=n9_;have NB109_108:=n10_;clear n0_ n1_ n2_ n3_ n4_ n5_ n6_ n7_ n8_ n9_ n10_;clear hb hbox hg;have hnb81:=NB108_109.out;have hnc81:=NB109_108.out;have hcz82_0 : w80.cell? ⟨gb108,0,none⟩ = some (.int .i64 ((zd l1 x38_2).f0)):=(zb BK108.out 0).trans rfl;have hcz82_1 : w80.cell? ⟨gb108,1,none⟩ = some (.int .i64 ((zd l1 x38_2).f1)):=(zb BK108.out 1).trans rfl;have hcz82_2 : w80.cell? ⟨gb108,2,none⟩ = some (.int .i64 ((zd l1 x38_2).f2)):=(zb BK108.out 2).trans rfl;have hcz82_3 : w80.cell? ⟨gb108,3,none⟩ = some (.int .u64 ((zd l1 x38_2).f3.f0)):=(zb BK108.out 3).trans rfl;have hcz82_4 : w80.cell? ⟨gb108,4,none⟩ = some (.int .u64 ((zd l1 x38_2).f3.f1)):=(zb BK108.out 4).trans rfl;have hfz82_0:=z8 BK108.out 0;have hfz82_1:=z8 BK108.out 1;have hfz82_2:=z8 BK108.out 2;have hfz82_3:=z8 BK108.out 3;have hfz82_4:=z8 BK108.out 4))
     have n0_:=z7.mk (Kd.zD HO_11.out)
     have n1_:=z7.mk (z5 BK101.out)
     have n2_:=z7.mk (z5 BK108.out)
     have n3_:=z7.mk (z5 BK109.out)
     have n4_:=z7.mk (z3 HB.out)
     clear HO_11
     clear BK101
     clear BK108
     clear BK109
     clear HB
     have HO_11:=n0_
     have BK101:=n1_
     have BK108:=n2_
     have BK109:=n3_
     have HB:=n4_
     clear n0_ n1_ n2_ n3_ n4_
     obtain ⟨Ao84,co84,eo84⟩:=Kd.z1q HO_11.out
     (first|subst eo84|(injection eo84 with f1_ f2_ f3_;have f4_:=f1_.symm;have f5_:=f3_.symm;clear f1_ f2_ f3_;subst f4_;subst f5_))
     have p124 : 0 ≤ (((zd l1 x38_2).f1) : Int):=of_decide_eq_true (by first|(with_reducible assumption)|assumption)
     have q124 : ((zd l1 x38_2).f1) < (x11_2.length : Int):=of_decide_eq_true (by first|(with_reducible assumption)|assumption)
     obtain ⟨ad124,e124,hx124_0,hx124_1⟩:=z2d (Kd.zO HO_11.out).2.2 ((zd l1 x38_2).f1) p124 q124
     cases e124
     replace p124:=eq_true p124
     replace q124:=eq_true q124
     have p125 : 0 ≤ (((zd l1 x38_2).f2) : Int):=of_decide_eq_true (by first|(with_reducible assumption)|assumption)
     have q125 : ((zd l1 x38_2).f2) < (x11_2.length : Int):=of_decide_eq_true (by first|(with_reducible assumption)|assumption)
     obtain ⟨ad125,e125,hx125_0,hx125_1⟩:=z2d (Kd.zO HO_11.out).2.2 ((zd l1 x38_2).f2) p125 q125
     obtain rfl : ad124 = ad125:=(by injection e125)
     replace p125:=eq_true p125
     replace q125:=eq_true q125
     refine start_ (n:=13) (S:=fun w'=>w'.cell? ⟨gb108,0,none⟩ = some (.int .i64 ((zd l1 x38_2).f0)) ∧ w'.cell? ⟨gb108,1,none⟩ = some (.int .i64 ((zd l1 x38_2).f1)) ∧ w'.cell? ⟨gb108,2,none⟩ = some (.int .i64 ((zd l1 x38_2).f2)) ∧ w'.cell? ⟨gb108,3,none⟩ = some (.int .u64 ((zd l1 x38_2).f3.f0)) ∧ w'.cell? ⟨gb108,4,none⟩ = some (.int .u64 ((zd l1 x38_2).f3.f1)) ∧ w'.cell? (ad124.add ((((zd l1 x38_2).f1)).toNat * 2)) = some (.int .u64 ((zT x11_2 ((zd l1 x38_2).f1)).f0)) ∧ w'.cell? ⟨(ad124.add ((((zd l1 x38_2).f1)).toNat * 2)).block,(ad124.add ((((zd l1 x38_2).f1)).toNat * 2)).off + 1,none⟩ = some (.int .u64 ((zT x11_2 ((zd l1 x38_2).f1)).f1)) ∧ w'.cell? (ad124.add ((((zd l1 x38_2).f2)).toNat * 2)) = some (.int .u64 ((zT x11_2 ((zd l1 x38_2).f2)).f0)) ∧ w'.cell? ⟨(ad124.add ((((zd l1 x38_2).f2)).toNat * 2)).block,(ad124.add ((((zd l1 x38_2).f2)).toNat * 2)).off + 1,none⟩ = some (.int .u64 ((zT x11_2 ((zd l1 x38_2).f2)).f1))) (ds:=[]) #[false,false,false,false,false,false,false,false,false,false,false,false,false] (by kernel_rfl) rfl rfl ⟨(zb BK108.out 0).trans rfl,(zb BK108.out 1).trans rfl,(zb BK108.out 2).trans rfl,(zb BK108.out 3).trans rfl,(zb BK108.out 4).trans rfl,hx124_0,hx124_1,hx125_0,hx125_1⟩ (fun hHeld=>?_);refine z1K zz.tab23 zz.bits23 (fun HT_ HW_=>?_)
     generalize w80.drew = w83 at HO_11 BK101 BK108 BK109 HB hx124_0 hx124_1 hx125_0 hx125_1 hHeld ⊢
     refine pure_ (i:=0) (N:=some 70) (v:=?_) (a':=?_) #[true,false,false,false,false,false,false,false,false,false,false,false,false] rfl rfl (zU HT_.out (by kernel_rfl)) (fun _ _ _ h=>h) (Or.inl ⟨by rfl,?_⟩) ?_ ?_
     rotate_left
     · intro w'
       go_simp
       with_reducible rfl
     rotate_left
     · simp only [Act.put,List.setIfInBounds_toArray,List.set_cons_zero,List.set_cons_succ,zH,zL]
       rfl
     refine pure_ (i:=1) (N:=some 71) (v:=?_) (a':=?_) #[true,true,false,false,false,false,false,false,false,false,false,false,false] rfl rfl (zU HT_.out (by kernel_rfl)) (fun _ _ _ h=>h) (Or.inl ⟨by rfl,?_⟩) ?_ ?_
     rotate_left
     · intro w'
       go_simp
       with_reducible rfl
     rotate_left
     · simp only [Act.put,List.setIfInBounds_toArray,List.set_cons_zero,List.set_cons_succ,zH,zL]
       rfl
     refine pure_ (i:=2) (N:=some 72) (v:=?_) (a':=?_) #[true,true,true,false,false,false,false,false,false,false,false,false,false] rfl rfl (zU HT_.out (by kernel_rfl)) (fun _ _ _ h=>h) (Or.inl ⟨by rfl,?_⟩) ?_ ?_
     rotate_left
     · intro w'
       go_simp
       with_reducible rfl
     rotate_left
     · simp only [Act.put,List.setIfInBounds_toArray,List.set_cons_zero,List.set_cons_succ,zH,zL]
       rfl
     refine pure_ (i:=6) (N:=some 76) (v:=?_) (a':=?_) #[true,true,true,false,false,false,true,false,false,false,false,false,false] rfl rfl (zU HT_.out (by kernel_rfl)) (fun _ _ _ h=>h) (Or.inl ⟨by rfl,?_⟩) ?_ ?_
     rotate_left
     · intro w'
       go_simp
       with_reducible rfl
     rotate_left
     · simp only [Act.put,List.setIfInBounds_toArray,List.set_cons_zero,List.set_cons_succ,zH,zL]
       rfl
     refine pure_ (i:=7) (N:=some 77) (v:=?_) (a':=?_) #[true,true,true,false,false,false,true,true,false,false,false,false,false] rfl rfl (zU HT_.out (by kernel_rfl)) (fun _ _ _ h=>h) (Or.inl ⟨by rfl,?_⟩) ?_ ?_
     rotate_left
     · intro w'
       go_simp
       with_reducible rfl
     rotate_left
     · simp only [Act.put,List.setIfInBounds_toArray,List.set_cons_zero,List.set_cons_succ,zH,zL]
       rfl
     refine take_ (i:=3) (N:=some 73) (v:=?_) (a':=?_) #[true,true,true,true,false,false,true,true,false,false,false,false,false] rfl rfl (z1c HT_.out HW_.out (by kernel_rfl)) (fun _ _ _ h=>h) (Or.inl ⟨by rfl,?_⟩) hHeld ?_ ?_
     rotate_left
     · rintro w' ⟨s0,s1,s2,s3,s4,s5,s6,s7,s8⟩
       go_simp
       with_reducible rfl
     rotate_left
     · simp only [Act.put,List.setIfInBounds_toArray,List.set_cons_zero,List.set_cons_succ,zH,zL]
       rfl
     refine pure_ (i:=4) (N:=some 74) (v:=?_) (a':=?_) #[true,true,true,true,true,false,true,true,false,false,false,false,false] rfl rfl (zU HT_.out (by kernel_rfl)) (fun _ _ _ h=>h) (Or.inl ⟨by rfl,?_⟩) ?_ ?_
     rotate_left
     · intro w'
       go_simp
       with_reducible rfl
     rotate_left
     · simp only [Act.put,List.setIfInBounds_toArray,List.set_cons_zero,List.set_cons_succ,zH,zL]
       rfl
     refine take_ (i:=5) (N:=some 75) (v:=?_) (a':=?_) #[true,true,true,true,true,true,true,true,false,false,false,false,false] rfl rfl (z1c HT_.out HW_.out (by kernel_rfl)) (fun _ _ _ h=>h) (Or.inl ⟨by rfl,?_⟩) hHeld ?_ ?_
     rotate_left
     · rintro w' ⟨s0,s1,s2,s3,s4,s5,s6,s7,s8⟩
       go_simp
       with_reducible rfl
     rotate_left
     · simp only [Act.put,List.setIfInBounds_toArray,List.set_cons_zero,List.set_cons_succ,zH,zL]
       rfl
     refine take_ (i:=8) (N:=some 78) (v:=?_) (a':=?_) #[true,true,true,true,true,true,true,true,true,false,false,false,false] rfl rfl (z1c HT_.out HW_.out (by kernel_rfl)) (fun _ _ _ h=>h) (Or.inl ⟨by rfl,?_⟩) hHeld ?_ ?_
     rotate_left
     · rintro w' ⟨s0,s1,s2,s3,s4,s5,s6,s7,s8⟩
       go_simp
       with_reducible rfl
     rotate_left
     · simp only [Act.put,List.setIfInBounds_toArray,List.set_cons_zero,List.set_cons_succ,zH,zL]
       rfl
     refine pure_ (i:=9) (N:=some 79) (v:=?_) (a':=?_) #[true,true,true,true,true,true,true,true,true,true,false,false,false] rfl rfl (zU HT_.out (by kernel_rfl)) (fun _ _ _ h=>h) (Or.inl ⟨by rfl,?_⟩) ?_ ?_
     rotate_left
     · intro w'
       go_simp
       with_reducible rfl
     rotate_left
     · simp only [Act.put,List.setIfInBounds_toArray,List.set_cons_zero,List.set_cons_succ,zH,zL]
       rfl
     refine take_ (i:=10) (N:=some 80) (v:=?_) (a':=?_) #[true,true,true,true,true,true,true,true,true,true,true,false,false] rfl rfl (z1c HT_.out HW_.out (by kernel_rfl)) (fun _ _ _ h=>h) (Or.inl ⟨by rfl,?_⟩) hHeld ?_ ?_
     rotate_left
     · rintro w' ⟨s0,s1,s2,s3,s4,s5,s6,s7,s8⟩
       go_simp
       with_reducible rfl
     rotate_left
     · simp only [Act.put,List.setIfInBounds_toArray,List.set_cons_zero,List.set_cons_succ,zH,zL]
       rfl
     refine one_ (i:=11) (N:=some 81) #[true,true,true,true,true,true,true,true,true,true,true,true,false] rfl rfl (z1I HT_.out (by kernel_rfl)) (by decide) (fun K hK=>?_)
     refine goes_ Try.func41 (by kernel_rfl) rfl #[.int .i64 a0,.agg #[.int .u64 ((zT x11_2 ((zd l1 x38_2).f1)).f0),.int .u64 ((zT x11_2 ((zd l1 x38_2).f1)).f1)],.agg #[.int .u64 ((zT x11_2 ((zd l1 x38_2).f2)).f0),.int .u64 ((zT x11_2 ((zd l1 x38_2).f2)).f1)]] (by rfl) rfl rfl (by (try simp only [List.map_toArray,List.map_cons,List.map_nil]);first|done|rfl|(simp only [List.length_drop,List.length_take];rfl)) ?_
     with_reducible refine (zZ.calls k2 a0 ((zT x11_2 ((zd l1 x38_2).f1)).f0) ((zT x11_2 ((zd l1 x38_2).f1)).f1) ((zT x11_2 ((zd l1 x38_2).f2)).f0) ((zT x11_2 ((zd l1 x38_2).f2)).f1) t126 t127 _ A75.out).mono ?_
     rintro e w85 ⟨rfl,hb⟩
     have HS5_:=(hb.cell (World.block_lt_of_cell? _ _ (hHeld.2.2.2.2.2.1))).trans (hHeld.2.2.2.2.2.1)
     have HS6_:=(hb.cell (World.block_lt_of_cell? _ _ (hHeld.2.2.2.2.2.2.1))).trans (hHeld.2.2.2.2.2.2.1)
     have HS7_:=(hb.cell (World.block_lt_of_cell? _ _ (hHeld.2.2.2.2.2.2.2.1))).trans (hHeld.2.2.2.2.2.2.2.1)
     have HS8_:=(hb.cell (World.block_lt_of_cell? _ _ (hHeld.2.2.2.2.2.2.2.2))).trans (hHeld.2.2.2.2.2.2.2.2)
     refine ⟨_,rfl,?_⟩
     have n0_:=z7.mk (Kd.zY (by (with_reducible repeat (first|apply Kd.zx|apply Kd.zy|apply Kd.zD));exact HO_11.out) hb)
     have n1_:=z7.mk (zk (g:=gb101) (o:=.cells #[.int .u64 x102000_1,.int .u64 x102001_1] 51 (0,0)) (by (with_reducible repeat (first|refine z2 ?_ _|refine z5 ?_|refine z1 ?_ _));exact BK101.out) hb)
     have n2_:=z7.mk (zk (g:=gb108) (o:=.cells #[.int .i64 ((zd l1 x38_2).f0),.int .i64 ((zd l1 x38_2).f1),.int .i64 ((zd l1 x38_2).f2),.int .u64 ((zd l1 x38_2).f3.f0),.int .u64 ((zd l1 x38_2).f3.f1)] 87 (0,0)) (by (with_reducible repeat (first|refine z2 ?_ _|refine z5 ?_|refine z1 ?_ _));exact BK108.out) hb)
     have n3_:=z7.mk (zk (g:=gb109) (o:=.cells #[.int .u64 0,.int .u64 0] 51 (0,0)) (by (with_reducible repeat (first|refine z2 ?_ _|refine z5 ?_|refine z1 ?_ _));exact BK109.out) hb)
     have n4_:=z7.mk (zg (by repeat (first|(with_reducible first|exact HB.out|apply z4|apply z0|apply z3|refine z9 ?_ GE101.out|refine z9 ?_ GE108.out|refine z9 ?_ GE109.out)|exact HB.out)) hb)
     clear HO_11
     clear BK101
     clear BK108
     clear BK109
     clear HB
     have HO_11:=n0_
     have BK101:=n1_
     have BK108:=n2_
     have BK109:=n3_
     have HB:=n4_
     clear n0_ n1_ n2_ n3_ n4_
     (try clear hb)
     (try clear hb2)
     (try clear hk)
     (try clear hi)
     refine hK.out _ _ ⟨(zb BK108.out 0).trans rfl,(zb BK108.out 1).trans rfl,(zb BK108.out 2).trans rfl,(zb BK108.out 3).trans rfl,(zb BK108.out 4).trans rfl,HS5_,HS6_,HS7_,HS8_⟩ (fun hHeld=>?_)
     clear hK K
     refine norm_ (a':=?_) ?_ ?_
     rotate_left
     · show Act.put _ (some 81) _ = _
       simp only [Act.put,List.setIfInBounds_toArray,List.set_cons_zero,List.set_cons_succ,zH,zL]
       rfl
     refine one_ (i:=12) (N:=none) #[true,true,true,true,true,true,true,true,true,true,true,true,true] rfl rfl (z1I HT_.out (by kernel_rfl)) (by decide) (fun K hK=>?_)
     have hs86 : w85.cell? ⟨gb109,0,none⟩ = some (.int .u64 0):=(zb BK109.out 0).trans rfl
     have hfs86:=z8 BK109.out 0
     have hns86_0:=NB101_109.out
     have hns86_1:=NB108_109.out
     have hms86_0:=NB109_101.out
     have hms86_1:=NB109_108.out
     have hs87 : w85.cell? ⟨gb109,1,none⟩ = some (.int .u64 0):=(zb BK109.out 1).trans rfl
     have hfs87:=z8 BK109.out 1
     have hns87_0:=NB101_109.out
     have hns87_1:=NB108_109.out
     have hms87_0:=NB109_101.out
     have hms87_1:=NB109_108.out
     refine skip_ (w1:=?_) (by rfl) rfl ?_ ?_
     rotate_left
     · go_simp
       rfl
     refine hK.out _ _ ⟨((zn (p:=⟨gb109,_,none⟩) NB108_109.out _).trans (((zn (p:=⟨gb109,_,none⟩) NB108_109.out _).trans (hHeld.1)))),((zn (p:=⟨gb109,_,none⟩) NB108_109.out _).trans (((zn (p:=⟨gb109,_,none⟩) NB108_109.out _).trans (hHeld.2.1)))),((zn (p:=⟨gb109,_,none⟩) NB108_109.out _).trans (((zn (p:=⟨gb109,_,none⟩) NB108_109.out _).trans (hHeld.2.2.1)))),((zn (p:=⟨gb109,_,none⟩) NB108_109.out _).trans (((zn (p:=⟨gb109,_,none⟩) NB108_109.out _).trans (hHeld.2.2.2.1)))),((zn (p:=⟨gb109,_,none⟩) NB108_109.out _).trans (((zn (p:=⟨gb109,_,none⟩) NB108_109.out _).trans (hHeld.2.2.2.2.1)))),((zn (p:=⟨gb109,_,none⟩) (by first|exact Kd.zp (Kd.zt HO_11.out (fun _ hk=>hk.2))|(rw [z6];exact Kd.zp (Kd.zt HO_11.out (fun _ hk=>hk.2)))|(show (Addr.add _ _).block ≠ _;rw [z6];exact Kd.zp (Kd.zt HO_11.out (fun _ hk=>hk.2)))|(dsimp only;exact Kd.zp (Kd.zt HO_11.out (fun _ hk=>hk.2)))) _).trans (((zn (p:=⟨gb109,_,none⟩) (by first|exact Kd.zp (Kd.zt HO_11.out (fun _ hk=>hk.2))|(rw [z6];exact Kd.zp (Kd.zt HO_11.out (fun _ hk=>hk.2)))|(show (Addr.add _ _).block ≠ _;rw [z6];exact Kd.zp (Kd.zt HO_11.out (fun _ hk=>hk.2)))|(dsimp only;exact Kd.zp (Kd.zt HO_11.out (fun _ hk=>hk.2)))) _).trans (hHeld.2.2.2.2.2.1)))),((zn (p:=⟨gb109,_,none⟩) (by first|exact Kd.zp (Kd.zt HO_11.out (fun _ hk=>hk.2))|(rw [z6];exact Kd.zp (Kd.zt HO_11.out (fun _ hk=>hk.2)))|(show (Addr.add _ _).block ≠ _;rw [z6];exact Kd.zp (Kd.zt HO_11.out (fun _ hk=>hk.2)))|(dsimp only;exact Kd.zp (Kd.zt HO_11.out (fun _ hk=>hk.2)))) _).trans (((zn (p:=⟨gb109,_,none⟩) (by first|exact Kd.zp (Kd.zt HO_11.out (fun _ hk=>hk.2))|(rw [z6];exact Kd.zp (Kd.zt HO_11.out (fun _ hk=>hk.2)))|(show (Addr.add _ _).block ≠ _;rw [z6];exact Kd.zp (Kd.zt HO_11.out (fun _ hk=>hk.2)))|(dsimp only;exact Kd.zp (Kd.zt HO_11.out (fun _ hk=>hk.2)))) _).trans (hHeld.2.2.2.2.2.2.1)))),((zn (p:=⟨gb109,_,none⟩) (by first|exact Kd.zp (Kd.zt HO_11.out (fun _ hk=>hk.2))|(rw [z6];exact Kd.zp (Kd.zt HO_11.out (fun _ hk=>hk.2)))|(show (Addr.add _ _).block ≠ _;rw [z6];exact Kd.zp (Kd.zt HO_11.out (fun _ hk=>hk.2)))|(dsimp only;exact Kd.zp (Kd.zt HO_11.out (fun _ hk=>hk.2)))) _).trans (((zn (p:=⟨gb109,_,none⟩) (by first|exact Kd.zp (Kd.zt HO_11.out (fun _ hk=>hk.2))|(rw [z6];exact Kd.zp (Kd.zt HO_11.out (fun _ hk=>hk.2)))|(show (Addr.add _ _).block ≠ _;rw [z6];exact Kd.zp (Kd.zt HO_11.out (fun _ hk=>hk.2)))|(dsimp only;exact Kd.zp (Kd.zt HO_11.out (fun _ hk=>hk.2)))) _).trans (hHeld.2.2.2.2.2.2.2.1)))),((zn (p:=⟨gb109,_,none⟩) (by first|exact Kd.zp (Kd.zt HO_11.out (fun _ hk=>hk.2))|(rw [z6];exact Kd.zp (Kd.zt HO_11.out (fun _ hk=>hk.2)))|(show (Addr.add _ _).block ≠ _;rw [z6];exact Kd.zp (Kd.zt HO_11.out (fun _ hk=>hk.2)))|(dsimp only;exact Kd.zp (Kd.zt HO_11.out (fun _ hk=>hk.2)))) _).trans (((zn (p:=⟨gb109,_,none⟩) (by first|exact Kd.zp (Kd.zt HO_11.out (fun _ hk=>hk.2))|(rw [z6];exact Kd.zp (Kd.zt HO_11.out (fun _ hk=>hk.2)))|(show (Addr.add _ _).block ≠ _;rw [z6];exact Kd.zp (Kd.zt HO_11.out (fun _ hk=>hk.2)))|(dsimp only;exact Kd.zp (Kd.zt HO_11.out (fun _ hk=>hk.2)))) _).trans (hHeld.2.2.2.2.2.2.2.2))))⟩ (fun hHeld=>?_)
     clear hK K
     refine done_ (z27 HT_.out (by kernel_rfl)) ?_
     have hnb88:=NB109_101.out
     have hnc88:=NB101_109.out
     have hcz89_0 : w85.cell? ⟨gb109,0,none⟩ = some (.int .u64 0):=(zb BK109.out 0).trans rfl
     have hcz89_1 : w85.cell? ⟨gb109,1,none⟩ = some (.int .u64 0):=(zb BK109.out 1).trans rfl
     have hfz89_0:=z8 BK109.out 0
     have hfz89_1:=z8 BK109.out 1
     try go_wp2_with (first|((with_reducible refine zW (b:=.append) (xs:=#[.tmp 82,.tmp 84]) rfl ?_);at_builtin;refine Kd.z1h k51 (w0:=w) w.heap.size rfl (.tmp 82) (.tmp 84) 37 51 (.agg #[(.int .u64 0),(.int .u64 0)]) 16 rfl Try.underlying37 info51 rfl (by decide) (by omega) (.slice (some ad124) x11_2.length co84) x11_2 (⟨t126,t127⟩ : S51) [.int .u64 t126,.int .u64 t127] (fun k_=>k_ ≠ gb101 ∧ k_ ≠ gb109) (fun _=>False) rfl (by first|(go_simp;done)|(go_simp;rfl)) ?aP (fun _ hk=>hk.elim) ?aF ?aO ?aB ?aS ?aL ?_;(case aP=>exact z1Q _ _ _ (⟨t126,t127⟩ : S51));(case aB=>exact (by repeat (first|(with_reducible first|exact HB.out|apply z4|apply z0|apply z3|refine z9 ?_ GE101.out|refine z9 ?_ GE108.out|refine z9 ?_ GE109.out)|exact HB.out)));(case aF=>exact (fun k_ hk=>⟨Kd.freshB (g:=gb101) (o:=.cells #[.int .u64 x102000_1,.int .u64 x102001_1] 51 (0,0)) (by (with_reducible repeat (first|refine z2 ?_ _|refine z5 ?_|refine z1 ?_ _));refine zs ?_ NB101_109.out _;(with_reducible repeat (first|refine z2 ?_ _|refine z5 ?_|refine z1 ?_ _));refine zs ?_ NB101_109.out _;(with_reducible repeat (first|refine z2 ?_ _|refine z5 ?_|refine z1 ?_ _));exact BK101.out) k_ hk,Kd.freshB (g:=gb109) (o:=.cells #[.int .u64 t126,.int .u64 t127] 51 (0,0)) (by (with_reducible repeat (first|refine z2 ?_ _|refine z5 ?_|refine z1 ?_ _));refine zq (cs:=#[.int .u64 t126,.int .u64 0]) ?_ 1 _ rfl;(with_reducible repeat (first|refine z2 ?_ _|refine z5 ?_|refine z1 ?_ _));refine zq (cs:=#[.int .u64 0,.int .u64 0]) ?_ 0 _ rfl;(with_reducible repeat (first|refine z2 ?_ _|refine z5 ?_|refine z1 ?_ _));exact BK109.out) k_ hk⟩));(case aO=>exact (by (with_reducible repeat (first|apply Kd.zx|apply Kd.zy|apply Kd.zD));exact Kd.z1d (Kd.z1g (p:=⟨gb109,1,none⟩) (Kd.z1g (p:=⟨gb109,0,none⟩) (Kd.z1d HO_11.out (fun k_ hk=>(⟨hk,hk.2⟩ : _ ∧ k_ ≠ gb109))) (fun _ hk=>hk.2) (.int .u64 t126)) (fun _ hk=>hk.2) (.int .u64 t127)) (fun _ hk=>⟨hk.1.1,hk.1.2⟩)));(case aS=>exact (zf (by repeat (first|(with_reducible first|exact HB.out|apply z4|apply z0|apply z3|refine z9 ?_ GE101.out|refine z9 ?_ GE108.out|refine z9 ?_ GE109.out)|exact HB.out))));(case aL=>have:=LMc76.out;omega);intro v129 w90 ho hb hg hat;rw [← Ny128.out] at ho;have n0_:=z7.mk (z1i (g:=gb101) (o:=.cells #[.int .u64 x102000_1,.int .u64 x102001_1] 51 (0,0)) (by (with_reducible repeat (first|refine z2 ?_ _|refine z5 ?_|refine z1 ?_ _));refine zs ?_ NB101_109.out _;(with_reducible repeat (first|refine z2 ?_ _|refine z5 ?_|refine z1 ?_ _));refine zs ?_ NB101_109.out _;(with_reducible repeat (first|refine z2 ?_ _|refine z5 ?_|refine z1 ?_ _));exact BK101.out) hg (Kd.zt HO_11.out (fun _ hk=>hk.1)));have n1_:=z7.mk (z1i (g:=gb108) (o:=.cells #[.int .i64 ((zd l1 x38_2).f0),.int .i64 ((zd l1 x38_2).f1),.int .i64 ((zd l1 x38_2).f2),.int .u64 ((zd l1 x38_2).f3.f0),.int .u64 ((zd l1 x38_2).f3.f1)] 87 (0,0)) (by (with_reducible repeat (first|refine z2 ?_ _|refine z5 ?_|refine z1 ?_ _));refine zs ?_ NB108_109.out _;(with_reducible repeat (first|refine z2 ?_ _|refine z5 ?_|refine z1 ?_ _));refine zs ?_ NB108_109.out _;(with_reducible repeat (first|refine z2 ?_ _|refine z5 ?_|refine z1 ?_ _));exact BK108.out) hg (Kd.R_ne HO_11.out BK108.out (by decide)));have n2_:=z7.mk (z1i (g:=gb109) (o:=.cells #[.int .u64 t126,.int .u64 t127] 51 (0,0)) (by (with_reducible repeat (first|refine z2 ?_ _|refine z5 ?_|refine z1 ?_ _));refine zq (cs:=#[.int .u64 t126,.int .u64 0]) ?_ 1 _ rfl;(with_reducible repeat (first|refine z2 ?_ _|refine z5 ?_|refine z1 ?_ _));refine zq (cs:=#[.int .u64 0,.int .u64 0]) ?_ 0 _ rfl;(with_reducible repeat (first|refine z2 ?_ _|refine z5 ?_|refine z1 ?_ _));exact BK109.out) hg (Kd.zt HO_11.out (fun _ hk=>hk.2)));have n3_:=z7.mk (hb);have n4_:=z7.mk (ho);clear BK101;clear BK108;clear BK109;clear HB;clear HO_11;have BK101:=n0_;have BK108:=n1_;have BK109:=n2_;have HB:=n3_;have HO130:=n4_;clear n0_ n1_ n2_ n3_ n4_;clear ho hb hg hat))
     go_roundg k2
     case measure=>have:=HK1.out;have:=HK2.out;omega
     case rel=>exact ⟨(y128),(wrap64 (x38_2 + 1)),(by first|rfl|(simp;done)|(simp [*];done)),H',⟨by have:=HK1.out;have:=HK2.out;omega⟩,⟨by (with_reducible repeat (first|apply Kd.zx|apply Kd.zy|apply Kd.zD));exact Kd.z1d HO130.out (fun _ hk=>hk.1)⟩,⟨by (with_reducible repeat (first|refine z2 ?_ _|refine z5 ?_|refine z1 ?_ _));exact BK101.out⟩,⟨by repeat (first|(with_reducible first|exact HB.out|apply z4|apply z0|apply z3|refine z9 ?_ GE101.out|refine z9 ?_ GE108.out|refine z9 ?_ GE109.out)|exact HB.out)⟩⟩
end Go.Proofs.Ytngcaphdkgihmaa.P
namespace Go.Proofs.Ytngcaphdkgihmaa.P
open Go.RowKit Go.Proofs.YtngcaphdkgihmaaW.PrintWords Go.Proofs.YtngcaphdkgihmaaW.PrintLast Go.Proofs.YtngcaphdkgihmaaW.PrintMore
attribute [local go_sem] z17 z19 z1e z1f z12 z13 z18 z1a   -- for this text's walks alone
set_option linter.unusedVariables false
set_option linter.unusedSimpArgs false
def zV.f  : Option ((List (S87))):=some (([(⟨2,0,0,(⟨0,0⟩ : S51)⟩ : S87),(⟨2,1,0,(⟨0,0⟩ : S51)⟩ : S87),(⟨4,0,1,(⟨0,0⟩ : S51)⟩ : S87),(⟨1,0,0,(⟨0,1⟩ : S51)⟩ : S87),(⟨3,2,3,(⟨0,0⟩ : S51)⟩ : S87)] : List (S87)))
set_option maxHeartbeats 8000000 in
set_option maxRecDepth 100000 in
theorem zV.calls  (r : List (S87)) (w : World) (h : zV.f  = some r) :
 Calls Try.prog 84 #[] w fun e w'=>∃ v0_ : Value,e = .returned (v0_) ∧ Kd.R k87 87 w' w.heap.size (fun _=>True) v0_ r ∧ Below w.heap.size w w':=by
 have hu87:=Try.underlying87
 have hu51:=Try.underlying51
 have HB:=z7.mk (Below.refl w.heap.size w)
 have H : (some (([(⟨2,0,0,(⟨0,0⟩ : S51)⟩ : S87),(⟨2,1,0,(⟨0,0⟩ : S51)⟩ : S87),(⟨4,0,1,(⟨0,0⟩ : S51)⟩ : S87),(⟨1,0,0,(⟨0,1⟩ : S51)⟩ : S87),(⟨3,2,3,(⟨0,0⟩ : S51)⟩ : S87)] : List (S87)))) = some r:=h
 clear h
 obtain ⟨y101,hy101⟩ : ∃ y_ : List (S87),y_ = (([(⟨2,0,0,(⟨0,0⟩ : S51)⟩ : S87),(⟨2,1,0,(⟨0,0⟩ : S51)⟩ : S87),(⟨4,0,1,(⟨0,0⟩ : S51)⟩ : S87),(⟨1,0,0,(⟨0,1⟩ : S51)⟩ : S87),(⟨3,2,3,(⟨0,0⟩ : S51)⟩ : S87)] : List (S87))):=⟨_,rfl⟩
 replace H : (some y101) = some r:=by first|(rw [hy101];with_reducible exact H)|(have H2_:=(Option.bind_some _ _).symm.trans H;rw [hy101];with_reducible exact H2_)|(have H2_:=(Option.bind_some _ _).symm.trans H;with_reducible exact H2_)|with_reducible exact H|(rw [hy101];exact H)|exact H
 have Ny101:=z7.mk hy101
 clear hy101
 obtain rfl:=Option.some.inj H
 go_enter Try.func84,Try.ntmps84
 go_wp2_with (first|((with_reducible refine zG (N:=7) rfl ?_);refine Kd.z4D k87 _ 87 ?hg (N:=7) ?hd (xs:=([(⟨2,0,0,(⟨0,0⟩ : S51)⟩ : S87),(⟨2,1,0,(⟨0,0⟩ : S51)⟩ : S87),(⟨4,0,1,(⟨0,0⟩ : S51)⟩ : S87),(⟨1,0,0,(⟨0,1⟩ : S51)⟩ : S87),(⟨3,2,3,(⟨0,0⟩ : S51)⟩ : S87)] : List (S87))) (inner:=[.int .i64 2,.int .i64 0,.int .i64 0,.int .u64 0,.int .u64 0,.int .i64 2,.int .i64 1,.int .i64 0,.int .u64 0,.int .u64 0,.int .i64 4,.int .i64 0,.int .i64 1,.int .u64 0,.int .u64 0,.int .i64 1,.int .i64 0,.int .i64 0,.int .u64 0,.int .u64 1,.int .i64 3,.int .i64 2,.int .i64 3,.int .u64 0,.int .u64 0]) (ok:=fun _=>True) (okp:=fun _=>True) ?hr ?hp (fun _ hk=>hk) trivial (Below.refl _ _) (Nat.le_refl _) (by simp) ?_;(case hd=>rfl);(case hg=>rfl);(case hr=>first|(go_simp;done)|(go_simp;rfl));(case hp=>exact (Reps.c5 (show Kd.M k87 _ _ _ (⟨2,0,0,(⟨0,0⟩ : S51)⟩ : S87) [.int .i64 2,.int .i64 0,.int .i64 0,.int .u64 0,.int .u64 0] from (z36 _ _ _ (⟨2,0,0,(⟨0,0⟩ : S51)⟩ : S87) )) (Reps.c5 (show Kd.M k87 _ _ _ (⟨2,1,0,(⟨0,0⟩ : S51)⟩ : S87) [.int .i64 2,.int .i64 1,.int .i64 0,.int .u64 0,.int .u64 0] from (z36 _ _ _ (⟨2,1,0,(⟨0,0⟩ : S51)⟩ : S87) )) (Reps.c5 (show Kd.M k87 _ _ _ (⟨4,0,1,(⟨0,0⟩ : S51)⟩ : S87) [.int .i64 4,.int .i64 0,.int .i64 1,.int .u64 0,.int .u64 0] from (z36 _ _ _ (⟨4,0,1,(⟨0,0⟩ : S51)⟩ : S87) )) (Reps.c5 (show Kd.M k87 _ _ _ (⟨1,0,0,(⟨0,1⟩ : S51)⟩ : S87) [.int .i64 1,.int .i64 0,.int .i64 0,.int .u64 0,.int .u64 1] from (z36 _ _ _ (⟨1,0,0,(⟨0,1⟩ : S51)⟩ : S87) )) (Reps.c5 (show Kd.M k87 _ _ _ (⟨3,2,3,(⟨0,0⟩ : S51)⟩ : S87) [.int .i64 3,.int .i64 2,.int .i64 3,.int .u64 0,.int .u64 0] from (z36 _ _ _ (⟨3,2,3,(⟨0,0⟩ : S51)⟩ : S87) )) (Reps.none _ _)))))));intro v102 w1 ho2 hb hg_ hnew_;clear hg_ hnew_;(first|rw [← Ny101.out] at ho2|(simp only [Int.reduceToNat] at ho2;rw [← Ny101.out] at ho2));have n0_:=z7.mk (Kd.z1A ho2 (zf (by repeat (first|(with_reducible first|exact HB.out|apply z4|apply z0|apply z3)|exact HB.out))));have n1_:=z7.mk (zg (by repeat (first|(with_reducible first|exact HB.out|apply z4|apply z0|apply z3)|exact HB.out)) hb);clear HB;have HO103:=n0_;have HB:=n1_;clear n0_ n1_;clear hb ho2))
 go_ret
 exact ⟨_,by first|rfl|(simp [zl,zm] <;> rfl)|(simp [*,zl,zm] <;> rfl),by (with_reducible repeat (first|apply Kd.zx|apply Kd.zy|apply Kd.zD));exact HO103.out,by repeat (first|(with_reducible first|exact HB.out|apply z4|apply z0|apply z3)|exact HB.out)⟩
end Go.Proofs.Ytngcaphdkgihmaa.P

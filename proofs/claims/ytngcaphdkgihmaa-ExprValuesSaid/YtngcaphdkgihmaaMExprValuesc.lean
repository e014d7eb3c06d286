/- Own text: merged by wip/tools/pack.py out of what the law ExprValues reaches. -/
import Derived.Test.YtngcaphdkgihmaaMExprValuesb
namespace Go.Proofs.Ytngcaphdkgihmaa.P
open Go.RowKit Go.Proofs.YtngcaphdkgihmaaW.PrintWords Go.Proofs.YtngcaphdkgihmaaW.PrintLast Go.Proofs.YtngcaphdkgihmaaW.PrintMore
attribute [local go_sem] z14 z16 z1b z1c z10 z11 z15 z17   -- for this text's walks alone
set_option linter.unusedVariables false
set_option linter.unusedSimpArgs false
attribute [local go_sem high] eqA51
mutual
def zH.j0 : Nat → Int → Int → List Int → Bool → Int → Int → Int → Int → Int → Int → Int → Option (Int × Int)
 | 0,_,_,_,_,_,_,_,_,_,_,_=>none
 | k + 1,x0,x1,x3,x12,x102000,x102001,x102002,x102003,x102004,x103000,x103001=>if x12 = true then ((zO.f k x0 x102003 x102004).bind fun t103=>(if t103 = true then (some (0,0)) else (some (0,5)))) else (if x102000 = 2 then (if x102002 = 0 then (zH.j1 k x1 x3 (x102003 == x103000 && (x102004 == x103001)) x102000 x102001 x102002 x102003 x102004 x103000 x103001) else (zH.j1 k x1 x3 false x102000 x102001 x102002 x102003 x102004 x103000 x103001)) else (zH.j1 k x1 x3 false x102000 x102001 x102002 x102003 x102004 x103000 x103001))
def zH.j1 : Nat → Int → List Int → Bool → Int → Int → Int → Int → Int → Int → Int → Option (Int × Int)
 | 0,_,_,_,_,_,_,_,_,_,_=>none
 | k + 1,x1,x3,x31,x102000,x102001,x102002,x102003,x102004,x103000,x103001=>if x31 = true then (if x102001 < 0 then (some (0,4)) else (if x102001 ≥ x1 then (some (0,4)) else (some (1,0)))) else (if x102000 = 3 then (if (x102003 == x103000 && (x102004 == x103001)) = true then ((z1n.f x102000 x102001 x102002 x102003 x102004 (x3.length : Int)).bind fun t104=>(zH.j2 k x3 t104 x102000 x102001 x102002 x102003 x102004 x103000 x103001)) else (zH.j2 k x3 false x102000 x102001 x102002 x102003 x102004 x103000 x103001)) else (zH.j2 k x3 false x102000 x102001 x102002 x102003 x102004 x103000 x103001))
def zH.j2 : Nat → List Int → Bool → Int → Int → Int → Int → Int → Int → Int → Option (Int × Int)
 | 0,_,_,_,_,_,_,_,_,_=>none
 | k + 1,x3,x55,x102000,x102001,x102002,x102003,x102004,x103000,x103001=>if x55 = true then (if 0 ≤ x102001 then (if x102001 < (x3.length : Int) then (if 0 ≤ x102002 then (if x102002 < (x3.length : Int) then (some (mx (rd x3 x102001) (rd x3 x102002),0)) else (none)) else (none)) else (none)) else (none)) else (if x102000 = 4 then (if (x102003 == x103000 && (x102004 == x103001)) = true then ((z1n.f x102000 x102001 x102002 x102003 x102004 (x3.length : Int)).bind fun t107=>(if t107 = true then (if 0 ≤ x102001 then (if x102001 < (x3.length : Int) then (if 0 ≤ x102002 then (if x102002 < (x3.length : Int) then (some (wrap64 ((rd x3 x102001) + (rd x3 x102002)),0)) else (none)) else (none)) else (none)) else (none)) else (some (0,3)))) else (some (0,3))) else (some (0,3)))
end
def zH.f (k : Nat) (a0 : Int) (a1 : Int) (a2_0 : Int) (a2_1 : Int) (a2_2 : Int) (a2_3 : Int) (a2_4 : Int) (l3 : List Int) : Option (Int × Int):=if a2_0 = 1 then (if a2_1 = 0 then (zH.j0 k a0 a1 l3 (a2_2 == 0) a2_0 a2_1 a2_2 a2_3 a2_4 0 0) else (zH.j0 k a0 a1 l3 false a2_0 a2_1 a2_2 a2_3 a2_4 0 0)) else (zH.j0 k a0 a1 l3 false a2_0 a2_1 a2_2 a2_3 a2_4 0 0)
theorem zH.z18 : ∀ k,(∀ y0 y1 y2 y3 y4 y5 y6 y7 y8 y9 y10,LeO (zH.j0 k y0 y1 y2 y3 y4 y5 y6 y7 y8 y9 y10) (zH.j0 (k + 1) y0 y1 y2 y3 y4 y5 y6 y7 y8 y9 y10)) ∧ (∀ y0 y1 y2 y3 y4 y5 y6 y7 y8 y9,LeO (zH.j1 k y0 y1 y2 y3 y4 y5 y6 y7 y8 y9) (zH.j1 (k + 1) y0 y1 y2 y3 y4 y5 y6 y7 y8 y9)) ∧ (∀ y0 y1 y2 y3 y4 y5 y6 y7 y8,LeO (zH.j2 k y0 y1 y2 y3 y4 y5 y6 y7 y8) (zH.j2 (k + 1) y0 y1 y2 y3 y4 y5 y6 y7 y8))
 | 0=>⟨fun _ _ _ _ _ _ _ _ _ _ _ r h=>by simp [zH.j0] at h,fun _ _ _ _ _ _ _ _ _ _ r h=>by simp [zH.j1] at h,fun _ _ _ _ _ _ _ _ _ r h=>by simp [zH.j2] at h⟩
 | k + 1=>by
  obtain ⟨ih0,ih1,ih2⟩:=zH.z18 k
  refine ⟨?_,?_,?_⟩
  · intro y0 y1 y2 y3 y4 y5 y6 y7 y8 y9 y10
    unfold zH.j0
    repeat' first
    | (with_reducible exact ih0 _ _ _ _ _ _ _ _ _ _ _)
    | (with_reducible exact ih1 _ _ _ _ _ _ _ _ _ _)
    | (with_reducible exact ih2 _ _ _ _ _ _ _ _ _)
    | (with_reducible exact zO.mono _ _ _ _)
    | (with_reducible exact LeO.refl _)
    | (with_reducible exact LeO.none _)
    | (with_reducible refine LeO.ite ?_ ?_)
    | (with_reducible refine LeO.bind ?_ (fun _=>?_))
    | exact ih0 _ _ _ _ _ _ _ _ _ _ _
    | exact ih1 _ _ _ _ _ _ _ _ _ _
    | exact ih2 _ _ _ _ _ _ _ _ _
    | exact zO.mono _ _ _ _
    | exact LeO.none _
    | refine LeO.ite ?_ ?_
    | refine LeO.bind ?_ (fun _=>?_)
  · intro y0 y1 y2 y3 y4 y5 y6 y7 y8 y9
    unfold zH.j1
    repeat' first
    | (with_reducible exact ih0 _ _ _ _ _ _ _ _ _ _ _)
    | (with_reducible exact ih1 _ _ _ _ _ _ _ _ _ _)
    | (with_reducible exact ih2 _ _ _ _ _ _ _ _ _)
    | (with_reducible exact zO.mono _ _ _ _)
    | (with_reducible exact LeO.refl _)
    | (with_reducible exact LeO.none _)
    | (with_reducible refine LeO.ite ?_ ?_)
    | (with_reducible refine LeO.bind ?_ (fun _=>?_))
    | exact ih0 _ _ _ _ _ _ _ _ _ _ _
    | exact ih1 _ _ _ _ _ _ _ _ _ _
    | exact ih2 _ _ _ _ _ _ _ _ _
    | exact zO.mono _ _ _ _
    | exact LeO.none _
    | refine LeO.ite ?_ ?_
    | refine LeO.bind ?_ (fun _=>?_)
  · intro y0 y1 y2 y3 y4 y5 y6 y7 y8
    unfold zH.j2
    repeat' first
    | (with_reducible exact ih0 _ _ _ _ _ _ _ _ _ _ _)
    | (with_reducible exact ih1 _ _ _ _ _ _ _ _ _ _)
    | (with_reducible exact ih2 _ _ _ _ _ _ _ _ _)
    | (with_reducible exact zO.mono _ _ _ _)
    | (with_reducible exact LeO.refl _)
    | (with_reducible exact LeO.none _)
    | (with_reducible refine LeO.ite ?_ ?_)
    | (with_reducible refine LeO.bind ?_ (fun _=>?_))
    | exact ih0 _ _ _ _ _ _ _ _ _ _ _
    | exact ih1 _ _ _ _ _ _ _ _ _ _
    | exact ih2 _ _ _ _ _ _ _ _ _
    | exact zO.mono _ _ _ _
    | exact LeO.none _
    | refine LeO.ite ?_ ?_
    | refine LeO.bind ?_ (fun _=>?_)
theorem zH.mono : ∀ a0 a1 a2 a3 a4 a5 a6 a7 k,LeO (zH.f k a0 a1 a2 a3 a4 a5 a6 a7) (zH.f (k + 1) a0 a1 a2 a3 a4 a5 a6 a7):=by
 intro a0 a1 a2 a3 a4 a5 a6 a7 k
 obtain ⟨ih0,ih1,ih2⟩:=zH.z18 k
 unfold zH.f
 repeat' first
  | (with_reducible exact ih0 _ _ _ _ _ _ _ _ _ _ _)
  | (with_reducible exact ih1 _ _ _ _ _ _ _ _ _ _)
  | (with_reducible exact ih2 _ _ _ _ _ _ _ _ _)
  | (with_reducible exact zO.mono _ _ _ _)
  | (with_reducible exact LeO.refl _)
  | (with_reducible exact LeO.none _)
  | (with_reducible refine LeO.ite ?_ ?_)
  | (with_reducible refine LeO.bind ?_ (fun _=>?_))
  | exact ih0 _ _ _ _ _ _ _ _ _ _ _
  | exact ih1 _ _ _ _ _ _ _ _ _ _
  | exact ih2 _ _ _ _ _ _ _ _ _
  | exact zO.mono _ _ _ _
  | exact LeO.none _
  | refine LeO.ite ?_ ?_
  | refine LeO.bind ?_ (fun _=>?_)
set_option maxHeartbeats 8000000 in
set_option maxRecDepth 100000 in
theorem zH.calls (k : Nat) (a0 : Int) (a1 : Int) (a2_0 : Int) (a2_1 : Int) (a2_2 : Int) (a2_3 : Int) (a2_4 : Int) (A3 : Option Addr) (c3 : Nat) (l3 : List Int) (r1 : Int) (r2 : Int) (w : World) (hr3 : Kd.C (Kd.int .i64) w A3 l3.length l3) (hc3 : l3.length ≤ c3) (h : zH.f k a0 a1 a2_0 a2_1 a2_2 a2_3 a2_4 l3 = some (r1,r2)) :
 Calls Try.prog 99 #[.int .i64 a0,.int .i64 a1,.agg #[.int .i64 a2_0,.int .i64 a2_1,.int .i64 a2_2,.int .u64 a2_3,.int .u64 a2_4],.slice A3 l3.length c3] w fun e w'=>e = .returned (.tuple #[.int .i64 r1,.int .i64 r2]) ∧ Below w.heap.size w w':=by
 have hu87:=Try.underlying87
 have hu51:=Try.underlying51
 have HR3:=z7.mk hr3
 have HC3:=z7.mk hc3
 clear hr3 hc3
 have HB:=z7.mk (Below.refl w.heap.size w)
 have H : (if a2_0 = 1 then (if a2_1 = 0 then (zH.j0 k a0 a1 l3 (a2_2 == 0) a2_0 a2_1 a2_2 a2_3 a2_4 0 0) else (zH.j0 k a0 a1 l3 false a2_0 a2_1 a2_2 a2_3 a2_4 0 0)) else (zH.j0 k a0 a1 l3 false a2_0 a2_1 a2_2 a2_3 a2_4 0 0)) = some (r1,r2):=h
 clear h
 have HC5:=z7.mk H
 clear H
 go_enter Try.func99,Try.ntmps99
 go_upto_region 2 with (first|((with_reducible refine zM (N:=6) rfl ?_);(try (refine z1L (by rfl) ?_;dsimp only));refine zI ?hg (N:=6) ?hd (cs:=#[.int .i64 a2_0,.int .i64 a2_1,.int .i64 a2_2,.int .u64 a2_3,.int .u64 a2_4]) (t:=87) ?hr ?_;(case hd=>rfl);(case hg=>rfl);(case hr=>first|(go_simp;done)|(go_simp;rfl));intro gb101 hg w6 hbox hb;have n0_:=z7.mk (zi (by repeat (first|(with_reducible first|exact HB.out|apply z4|apply z0|apply z3)|exact HB.out)) hb);have n1_:=z7.mk (hbox);have n2_:=z7.mk ((by rw [hg];exact (zf (by repeat (first|(with_reducible first|exact HB.out|apply z4|apply z0|apply z3)|exact HB.out))) : w.heap.size ≤ gb101));have n3_:=z7.mk ((by rw [hg];exact (zf (by repeat (first|(with_reducible first|exact HB.out|apply z4|apply z0|apply z3)|exact HB.out))) : w.heap.size ≤ gb101));clear HB;have HB:=n0_;have BK101:=n1_;have GW101:=n2_;have GE101:=n3_;clear n0_ n1_ n2_ n3_;clear hb hbox hg)|((with_reducible refine zM (N:=10) rfl ?_);(try (refine z1L (by rfl) ?_;dsimp only));refine zI ?hg (N:=10) ?hd (cs:=#[.int .u64 0,.int .u64 0]) (t:=51) ?hr ?_;(case hd=>rfl);(case hg=>rfl);(case hr=>first|(go_simp;done)|(go_simp;rfl));intro gb102 hg w7 hbox hb;have n0_:=z7.mk (zj (g:=gb101) (o:=.cells #[.int .i64 a2_0,.int .i64 a2_1,.int .i64 a2_2,.int .u64 a2_3,.int .u64 a2_4] 87 (0,0)) (by (with_reducible repeat (first|refine z2 ?_ _|refine z5 ?_|refine z1 ?_ _));exact BK101.out) hb);have n1_:=z7.mk (zi (by repeat (first|(with_reducible first|exact HB.out|apply z4|apply z0|apply z3|refine z8 ?_ GE101.out)|exact HB.out)) hb);have n2_:=z7.mk (hbox);have n3_:=z7.mk ((by rw [hg];exact (zf (by repeat (first|(with_reducible first|exact HB.out|apply z4|apply z0|apply z3|refine z8 ?_ GE101.out)|exact HB.out))) : w.heap.size ≤ gb102));have n4_:=z7.mk ((by rw [hg];exact (zf (by repeat (first|(with_reducible first|exact HB.out|apply z4|apply z0|apply z3|refine z8 ?_ GE101.out)|exact HB.out))) : w.heap.size ≤ gb102));have n5_:=z7.mk ((by rw [hg];exact Nat.ne_of_lt (zP (g:=gb101) (o:=.cells #[.int .i64 a2_0,.int .i64 a2_1,.int .i64 a2_2,.int .u64 a2_3,.int .u64 a2_4] 87 (0,0)) (by (with_reducible repeat (first|refine z2 ?_ _|refine z5 ?_|refine z1 ?_ _));exact BK101.out)) : gb101 ≠ gb102));have n6_:=z7.mk ((by rw [hg];exact Nat.ne_of_gt (zP (g:=gb101) (o:=.cells #[.int .i64 a2_0,.int .i64 a2_1,.int .i64 a2_2,.int .u64 a2_3,.int .u64 a2_4] 87 (0,0)) (by (with_reducible repeat (first|refine z2 ?_ _|refine z5 ?_|refine z1 ?_ _));exact BK101.out)) : gb102 ≠ gb101));clear BK101;clear HB;have BK101:=n0_;have HB:=n1_;have BK102:=n2_;have GW102:=n3_;have GE102:=n4_;have NB101_102:=n5_;have NB102_101:=n6_;clear n0_ n1_ n2_ n3_ n4_ n5_ n6_;clear hb hbox hg;have hnb8:=NB102_101.out;have hnc8:=NB101_102.out;have hcz9_0 : w7.cell? ⟨gb102,0,none⟩ = some (.int .u64 0):=(zb BK102.out 0).trans rfl;have hcz9_1 : w7.cell? ⟨gb102,1,none⟩ = some (.int .u64 0):=(zb BK102.out 1).trans rfl;have hfz9_0:=z9 BK102.out 0;have hfz9_1:=z9 BK102.out 1))
 repeat (go_quiet (first|((with_reducible refine zM (N:=6) rfl ?_);(try (refine z1L (by rfl) ?_;dsimp only));refine zI ?hg (N:=6) ?hd (cs:=#[.int .i64 a2_0,.int .i64 a2_1,.int .i64 a2_2,.int .u64 a2_3,.int .u64 a2_4]) (t:=87) ?hr ?_;(case hd=>rfl);(case hg=>rfl);(case hr=>first|(go_simp;done)|(go_simp;rfl));intro gb101 hg w6 hbox hb;have n0_:=z7.mk (zi (by repeat (first|(with_reducible first|exact HB.out|apply z4|apply z0|apply z3)|exact HB.out)) hb);have n1_:=z7.mk (hbox);have n2_:=z7.mk ((by rw [hg];exact (zf (by repeat (first|(with_reducible first|exact HB.out|apply z4|apply z0|apply z3)|exact HB.out))) : w.heap.size ≤ gb101));have n3_:=z7.mk ((by rw [hg];exact (zf (by repeat (first|(with_reducible first|exact HB.out|apply z4|apply z0|apply z3)|exact HB.out))) : w.heap.size ≤ gb101));clear HB;have HB:=n0_;have BK101:=n1_;have GW101:=n2_;have GE101:=n3_;clear n0_ n1_ n2_ n3_;clear hb hbox hg)|((with_reducible refine zM (N:=10) rfl ?_);(try (refine z1L (by rfl) ?_;dsimp only));refine zI ?hg (N:=10) ?hd (cs:=#[.int .u64 0,.int .u64 0]) (t:=51) ?hr ?_;(case hd=>rfl);(case hg=>rfl);(case hr=>first|(go_simp;done)|(go_simp;rfl));intro gb102 hg w7 hbox hb;have n0_:=z7.mk (zj (g:=gb101) (o:=.cells #[.int .i64 a2_0,.int .i64 a2_1,.int .i64 a2_2,.int .u64 a2_3,.int .u64 a2_4] 87 (0,0)) (by (with_reducible repeat (first|refine z2 ?_ _|refine z5 ?_|refine z1 ?_ _));exact BK101.out) hb);have n1_:=z7.mk (zi (by repeat (first|(with_reducible first|exact HB.out|apply z4|apply z0|apply z3|refine z8 ?_ GE101.out)|exact HB.out)) hb);have n2_:=z7.mk (hbox);have n3_:=z7.mk ((by rw [hg];exact (zf (by repeat (first|(with_reducible first|exact HB.out|apply z4|apply z0|apply z3|refine z8 ?_ GE101.out)|exact HB.out))) : w.heap.size ≤ gb102));have n4_:=z7.mk ((by rw [hg];exact (zf (by repeat (first|(with_reducible first|exact HB.out|apply z4|apply z0|apply z3|refine z8 ?_ GE101.out)|exact HB.out))) : w.heap.size ≤ gb102));have n5_:=z7.mk ((by rw [hg];exact Nat.ne_of_lt (zP (g:=gb101) (o:=.cells #[.int .i64 a2_0,.int .i64 a2_1,.int .i64 a2_2,.int .u64 a2_3,.int .u64 a2_4] 87 (0,0)) (by (with_reducible repeat (first|refine z2 ?_ _|refine z5 ?_|refine z1 ?_ _));exact BK101.out)) : gb101 ≠ gb102));have n6_:=z7.mk ((by rw [hg];exact Nat.ne_of_gt (zP (g:=gb101) (o:=.cells #[.int .i64 a2_0,.int .i64 a2_1,.int .i64 a2_2,.int .u64 a2_3,.int .u64 a2_4] 87 (0,0)) (by (with_reducible repeat (first|refine z2 ?_ _|refine z5 ?_|refine z1 ?_ _));exact BK101.out)) : gb102 ≠ gb101));clear BK101;clear HB;have BK101:=n0_;have HB:=n1_;have BK102:=n2_;have GW102:=n3_;have GE102:=n4_;have NB101_102:=n5_;have NB102_101:=n6_;clear n0_ n1_ n2_ n3_ n4_ n5_ n6_;clear hb hbox hg;have hnb8:=NB102_101.out;have hnc8:=NB101_102.out;have hcz9_0 : w7.cell? ⟨gb102,0,none⟩ = some (.int .u64 0):=(zb BK102.out 0).trans rfl;have hcz9_1 : w7.cell? ⟨gb102,1,none⟩ = some (.int .u64 0):=(zb BK102.out 1).trans rfl;have hfz9_0:=z9 BK102.out 0;have hfz9_1:=z9 BK102.out 1));go_upto_region 2 with (first|((with_reducible refine zM (N:=6) rfl ?_);(try (refine z1L (by rfl) ?_;dsimp only));refine zI ?hg (N:=6) ?hd (cs:=#[.int .i64 a2_0,.int .i64 a2_1,.int .i64 a2_2,.int .u64 a2_3,.int .u64 a2_4]) (t:=87) ?hr ?_;(case hd=>rfl);(case hg=>rfl);(case hr=>first|(go_simp;done)|(go_simp;rfl));intro gb101 hg w6 hbox hb;have n0_:=z7.mk (zi (by repeat (first|(with_reducible first|exact HB.out|apply z4|apply z0|apply z3)|exact HB.out)) hb);have n1_:=z7.mk (hbox);have n2_:=z7.mk ((by rw [hg];exact (zf (by repeat (first|(with_reducible first|exact HB.out|apply z4|apply z0|apply z3)|exact HB.out))) : w.heap.size ≤ gb101));have n3_:=z7.mk ((by rw [hg];exact (zf (by repeat (first|(with_reducible first|exact HB.out|apply z4|apply z0|apply z3)|exact HB.out))) : w.heap.size ≤ gb101));clear HB;have HB:=n0_;have BK101:=n1_;have GW101:=n2_;have GE101:=n3_;clear n0_ n1_ n2_ n3_;clear hb hbox hg)|((with_reducible refine zM (N:=10) rfl ?_);(try (refine z1L (by rfl) ?_;dsimp only));refine zI ?hg (N:=10) ?hd (cs:=#[.int .u64 0,.int .u64 0]) (t:=51) ?hr ?_;(case hd=>rfl);(case hg=>rfl);(case hr=>first|(go_simp;done)|(go_simp;rfl));intro gb102 hg w7 hbox hb;have n0_:=z7.mk (zj (g:=gb101) (o:=.cells #[.int .i64 a2_0,.int .i64 a2_1,.int .i64 a2_2,.int .u64 a2_3,.int .u64 a2_4] 87 (0,0)) (by (with_reducible repeat (first|refine z2 ?_ _|refine z5 ?_|refine z1 ?_ _));exact BK101.out) hb);have n1_:=z7.mk (zi (by repeat (first|(with_reducible first|exact HB.out|apply z4|apply z0|apply z3|refine z8 ?_ GE101.out)|exact HB.out)) hb);have n2_:=z7.mk (hbox);have n3_:=z7.mk ((by rw [hg];exact (zf (by repeat (first|(with_reducible first|exact HB.out|apply z4|apply z0|apply z3|refine z8 ?_ GE101.out)|exact HB.out))) : w.heap.size ≤ gb102));have n4_:=z7.mk ((by rw [hg];exact (zf (by repeat (first|(with_reducible first|exact HB.out|apply z4|apply z0|apply z3|refine z8 ?_ GE101.out)|exact HB.out))) : w.heap.size ≤ gb102));have n5_:=z7.mk ((by rw [hg];exact Nat.ne_of_lt (zP (g:=gb101) (o:=.cells #[.int .i64 a2_0,.int .i64 a2_1,.int .i64 a2_2,.int .u64 a2_3,.int .u64 a2_4] 87 (0,0)) (by (with_reducible repeat (first|refine z2 ?_ _|refine z5 ?_|refine z1 ?_ _));exact BK101.out)) : gb101 ≠ gb102));have n6_:=z7.mk ((by rw [hg];exact Nat.ne_of_gt (zP (g:=gb101) (o:=.cells #[.int .i64 a2_0,.int .i64 a2_1,.int .i64 a2_2,.int .u64 a2_3,.int .u64 a2_4] 87 (0,0)) (by (with_reducible repeat (first|refine z2 ?_ _|refine z5 ?_|refine z1 ?_ _));exact BK101.out)) : gb102 ≠ gb101));clear BK101;clear HB;have BK101:=n0_;have HB:=n1_;have BK102:=n2_;have GW102:=n3_;have GE102:=n4_;have NB101_102:=n5_;have NB102_101:=n6_;clear n0_ n1_ n2_ n3_ n4_ n5_ n6_;clear hb hbox hg;have hnb8:=NB102_101.out;have hnc8:=NB101_102.out;have hcz9_0 : w7.cell? ⟨gb102,0,none⟩ = some (.int .u64 0):=(zb BK102.out 0).trans rfl;have hcz9_1 : w7.cell? ⟨gb102,1,none⟩ = some (.int .u64 0):=(zb BK102.out 1).trans rfl;have hfz9_0:=z9 BK102.out 0;have hfz9_1:=z9 BK102.out 1)))
 (try simp only [Act.put,List.setIfInBounds_toArray,List.set_cons_zero,List.set_cons_succ])
 go_cut [12] (fun v12 wc=>∃ (kq : Nat) (x12_4 : Bool),v12 = .bool x12_4 ∧ z7 (zH.j0 kq a0 a1 l3 x12_4 a2_0 a2_1 a2_2 a2_3 a2_4 0 0 = some (r1,r2)) ∧ z7 (kq ≤ k) ∧ z7 (wc.heap[gb101]? = some (.cells #[.int .i64 a2_0,.int .i64 a2_1,.int .i64 a2_2,.int .u64 a2_3,.int .u64 a2_4] 87 (0,0))) ∧ z7 (wc.heap[gb102]? = some (.cells #[.int .u64 0,.int .u64 0] 51 (0,0))) ∧ z7 (Below w.heap.size w wc))
 case first =>
  have H:=HC5.out
  clear HC5
  by_cases c10 : a2_0 = 1
  rotate_left
  · rw [if_neg c10] at H
    have c10b0 : (a2_0 == 1) = false:=beq_eq_false_iff_ne.mpr c10
    have c10b1 : (a2_0 != 1) = true:=bne_iff_ne.mpr c10
    (first|rw [c10b0]|(simp only [zD,zF];rw [c10b0])|skip)
    have H':=z7.mk H
    clear H
    have hnb16:=NB101_102.out
    have hnc16:=NB102_101.out
    have hcz17_0 : w7.cell? ⟨gb101,0,none⟩ = some (.int .i64 a2_0):=(zb BK101.out 0).trans rfl
    have hcz17_1 : w7.cell? ⟨gb101,1,none⟩ = some (.int .i64 a2_1):=(zb BK101.out 1).trans rfl
    have hcz17_2 : w7.cell? ⟨gb101,2,none⟩ = some (.int .i64 a2_2):=(zb BK101.out 2).trans rfl
    have hcz17_3 : w7.cell? ⟨gb101,3,none⟩ = some (.int .u64 a2_3):=(zb BK101.out 3).trans rfl
    have hcz17_4 : w7.cell? ⟨gb101,4,none⟩ = some (.int .u64 a2_4):=(zb BK101.out 4).trans rfl
    have hfz17_0:=z9 BK101.out 0
    have hfz17_1:=z9 BK101.out 1
    have hfz17_2:=z9 BK101.out 2
    have hfz17_3:=z9 BK101.out 3
    have hfz17_4:=z9 BK101.out 4
    go_wp2
    repeat (go_quiet (fail);try go_wp2)
    go_meet
    case rel=>exact ⟨_,(false),(by first|rfl|(simp;done)|(simp [*];done)),H',⟨by first|omega|exact Nat.le_refl _⟩,⟨by (with_reducible repeat (first|refine z2 ?_ _|refine z5 ?_|refine z1 ?_ _));refine zs ?_ NB101_102.out _;(with_reducible repeat (first|refine z2 ?_ _|refine z5 ?_|refine z1 ?_ _));refine zs ?_ NB101_102.out _;(with_reducible repeat (first|refine z2 ?_ _|refine z5 ?_|refine z1 ?_ _));exact BK101.out⟩,⟨by (with_reducible repeat (first|refine z2 ?_ _|refine z5 ?_|refine z1 ?_ _));refine zq (cs:=#[.int .u64 0,.int .u64 0]) ?_ 1 _ rfl;(with_reducible repeat (first|refine z2 ?_ _|refine z5 ?_|refine z1 ?_ _));refine zq (cs:=#[.int .u64 0,.int .u64 0]) ?_ 0 _ rfl;(with_reducible repeat (first|refine z2 ?_ _|refine z5 ?_|refine z1 ?_ _));exact BK102.out⟩,⟨by repeat (first|(with_reducible first|exact HB.out|apply z4|apply z0|apply z3|refine z8 ?_ GE101.out|refine z8 ?_ GE102.out)|exact HB.out)⟩⟩
  rw [if_pos c10] at H
  have c10b0 : (a2_0 == 1) = true:=beq_iff_eq.mpr c10
  have c10b1 : (a2_0 != 1) = false:=bne_eq_false_iff_eq.mpr c10
  clear c10
  (first|rw [c10b0]|(simp only [zD,zF];rw [c10b0])|skip)
  by_cases c11 : a2_1 = 0
  rotate_left
  · rw [if_neg c11] at H
    have c11b0 : (a2_1 == 0) = false:=beq_eq_false_iff_ne.mpr c11
    have c11b1 : (a2_1 != 0) = true:=bne_iff_ne.mpr c11
    have H':=z7.mk H
    clear H
    have hnb14:=NB101_102.out
    have hnc14:=NB102_101.out
    have hcz15_0 : w7.cell? ⟨gb101,0,none⟩ = some (.int .i64 a2_0):=(zb BK101.out 0).trans rfl
    have hcz15_1 : w7.cell? ⟨gb101,1,none⟩ = some (.int .i64 a2_1):=(zb BK101.out 1).trans rfl
    have hcz15_2 : w7.cell? ⟨gb101,2,none⟩ = some (.int .i64 a2_2):=(zb BK101.out 2).trans rfl
    have hcz15_3 : w7.cell? ⟨gb101,3,none⟩ = some (.int .u64 a2_3):=(zb BK101.out 3).trans rfl
    have hcz15_4 : w7.cell? ⟨gb101,4,none⟩ = some (.int .u64 a2_4):=(zb BK101.out 4).trans rfl
    have hfz15_0:=z9 BK101.out 0
    have hfz15_1:=z9 BK101.out 1
    have hfz15_2:=z9 BK101.out 2
    have hfz15_3:=z9 BK101.out 3
    have hfz15_4:=z9 BK101.out 4
    go_wp2
    repeat (go_quiet (fail);try go_wp2)
    go_meet
    case rel=>exact ⟨_,(false),(by first|rfl|(simp;done)|(simp [*];done)),H',⟨by first|omega|exact Nat.le_refl _⟩,⟨by (with_reducible repeat (first|refine z2 ?_ _|refine z5 ?_|refine z1 ?_ _));refine zs ?_ NB101_102.out _;(with_reducible repeat (first|refine z2 ?_ _|refine z5 ?_|refine z1 ?_ _));refine zs ?_ NB101_102.out _;(with_reducible repeat (first|refine z2 ?_ _|refine z5 ?_|refine z1 ?_ _));exact BK101.out⟩,⟨by (with_reducible repeat (first|refine z2 ?_ _|refine z5 ?_|refine z1 ?_ _));refine zq (cs:=#[.int .u64 0,.int .u64 0]) ?_ 1 _ rfl;(with_reducible repeat (first|refine z2 ?_ _|refine z5 ?_|refine z1 ?_ _));refine zq (cs:=#[.int .u64 0,.int .u64 0]) ?_ 0 _ rfl;(with_reducible repeat (first|refine z2 ?_ _|refine z5 ?_|refine z1 ?_ _));exact BK102.out⟩,⟨by repeat (first|(with_reducible first|exact HB.out|apply z4|apply z0|apply z3|refine z8 ?_ GE101.out|refine z8 ?_ GE102.out)|exact HB.out)⟩⟩
  rw [if_pos c11] at H
  have c11b0 : (a2_1 == 0) = true:=beq_iff_eq.mpr c11
  have c11b1 : (a2_1 != 0) = false:=bne_eq_false_iff_eq.mpr c11
  clear c11
  have H':=z7.mk H
  clear H
  have hnb12:=NB101_102.out
  have hnc12:=NB102_101.out
  have hcz13_0 : w7.cell? ⟨gb101,0,none⟩ = some (.int .i64 a2_0):=(zb BK101.out 0).trans rfl
  have hcz13_1 : w7.cell? ⟨gb101,1,none⟩ = some (.int .i64 a2_1):=(zb BK101.out 1).trans rfl
  have hcz13_2 : w7.cell? ⟨gb101,2,none⟩ = some (.int .i64 a2_2):=(zb BK101.out 2).trans rfl
  have hcz13_3 : w7.cell? ⟨gb101,3,none⟩ = some (.int .u64 a2_3):=(zb BK101.out 3).trans rfl
  have hcz13_4 : w7.cell? ⟨gb101,4,none⟩ = some (.int .u64 a2_4):=(zb BK101.out 4).trans rfl
  have hfz13_0:=z9 BK101.out 0
  have hfz13_1:=z9 BK101.out 1
  have hfz13_2:=z9 BK101.out 2
  have hfz13_3:=z9 BK101.out 3
  have hfz13_4:=z9 BK101.out 4
  go_wp2
  repeat (go_quiet (fail);try go_wp2)
  go_meet
  case rel=>exact ⟨_,((a2_2 == 0)),(by first|rfl|(simp;done)|(simp [*];done)),H',⟨by first|omega|exact Nat.le_refl _⟩,⟨by (with_reducible repeat (first|refine z2 ?_ _|refine z5 ?_|refine z1 ?_ _));refine zs ?_ NB101_102.out _;(with_reducible repeat (first|refine z2 ?_ _|refine z5 ?_|refine z1 ?_ _));refine zs ?_ NB101_102.out _;(with_reducible repeat (first|refine z2 ?_ _|refine z5 ?_|refine z1 ?_ _));exact BK101.out⟩,⟨by (with_reducible repeat (first|refine z2 ?_ _|refine z5 ?_|refine z1 ?_ _));refine zq (cs:=#[.int .u64 0,.int .u64 0]) ?_ 1 _ rfl;(with_reducible repeat (first|refine z2 ?_ _|refine z5 ?_|refine z1 ?_ _));refine zq (cs:=#[.int .u64 0,.int .u64 0]) ?_ 0 _ rfl;(with_reducible repeat (first|refine z2 ?_ _|refine z5 ?_|refine z1 ?_ _));exact BK102.out⟩,⟨by repeat (first|(with_reducible first|exact HB.out|apply z4|apply z0|apply z3|refine z8 ?_ GE101.out|refine z8 ?_ GE102.out)|exact HB.out)⟩⟩
 case rest =>
  clear HC5
  (try clear c1);(try clear p2);(try clear c3);(try clear c8);(try clear c9);(try clear c10);(try clear c10b0);(try clear c10b1);(try clear c11);(try clear c11b0);(try clear c11b1);(try clear c12);(try clear c14);(try clear c16);(try clear hcz13_0);(try clear hcz13_1);(try clear hcz13_2);(try clear hcz13_3);(try clear hcz13_4);(try clear hcz15_0);(try clear hcz15_1);(try clear hcz15_2);(try clear hcz15_3);(try clear hcz15_4);(try clear hcz17_0);(try clear hcz17_1);(try clear hcz17_2);(try clear hcz17_3);(try clear hcz17_4);(try clear hcz9_0);(try clear hcz9_1);(try clear hfz13_0);(try clear hfz13_1);(try clear hfz13_2);(try clear hfz13_3);(try clear hfz13_4);(try clear hfz15_0);(try clear hfz15_1);(try clear hfz15_2);(try clear hfz15_3);(try clear hfz15_4);(try clear hfz17_0);(try clear hfz17_1);(try clear hfz17_2);(try clear hfz17_3);(try clear hfz17_4);(try clear hfz9_0);(try clear hfz9_1)
  obtain ⟨kq,x12_4,rfl,HA,HJ4,BK101,BK102,HB⟩:=hcut
  cases kq with
  | zero=>exact absurd HA.out (by simp [zH.j0])
  | succ kj4 =>
   have H:=HA.out
   clear HA
   simp only [zH.j0] at H
   by_cases c18 : x12_4 = true
   · subst c18
     have H1 : ((zO.f kj4 a0 a2_3 a2_4).bind fun t103=>(if t103 = true then (some (0,0)) else (some (0,5)))) = some (r1,r2):=by rw [if_pos rfl] at H;exact H
     clear H
     have H:=H1
     clear H1
     replace H:=Option.bind_eq_some_iff.mp H
     obtain ⟨t103,A190,H⟩:=H
     replace H : (if t103 = true then (some (0,0)) else (some (0,5))) = some (r1,r2):=H
     have A19:=z7.mk A190
     clear A190
     by_cases c20 : t103 = true
     · subst c20
       have H1 : (some (0,0)) = some (r1,r2):=by rw [if_pos rfl] at H;exact H
       clear H
       have H:=H1
       clear H1
       simp only [Option.some.injEq,Prod.mk.injEq] at H
       obtain ⟨rfl,rfl⟩:=H
       have hnb21:=NB101_102.out
       have hnc21:=NB102_101.out
       have hcz22_0 : wc.cell? ⟨gb101,0,none⟩ = some (.int .i64 a2_0):=(zb BK101.out 0).trans rfl
       have hcz22_1 : wc.cell? ⟨gb101,1,none⟩ = some (.int .i64 a2_1):=(zb BK101.out 1).trans rfl
       have hcz22_2 : wc.cell? ⟨gb101,2,none⟩ = some (.int .i64 a2_2):=(zb BK101.out 2).trans rfl
       have hcz22_3 : wc.cell? ⟨gb101,3,none⟩ = some (.int .u64 a2_3):=(zb BK101.out 3).trans rfl
       have hcz22_4 : wc.cell? ⟨gb101,4,none⟩ = some (.int .u64 a2_4):=(zb BK101.out 4).trans rfl
       have hfz22_0:=z9 BK101.out 0
       have hfz22_1:=z9 BK101.out 1
       have hfz22_2:=z9 BK101.out 2
       have hfz22_3:=z9 BK101.out 3
       have hfz22_4:=z9 BK101.out 4
       go_wp2_with (first|(go_at_call 67;(with_reducible refine (zO.calls kj4 a0 a2_3 a2_4 true _ A19.out).mono ?_);rintro e w23 ⟨rfl,hb⟩;have n0_:=z7.mk (zj (g:=gb101) (o:=.cells #[.int .i64 a2_0,.int .i64 a2_1,.int .i64 a2_2,.int .u64 a2_3,.int .u64 a2_4] 87 (0,0)) (by (with_reducible repeat (first|refine z2 ?_ _|refine z5 ?_|refine z1 ?_ _));exact BK101.out) hb);have n1_:=z7.mk (zj (g:=gb102) (o:=.cells #[.int .u64 0,.int .u64 0] 51 (0,0)) (by (with_reducible repeat (first|refine z2 ?_ _|refine z5 ?_|refine z1 ?_ _));exact BK102.out) hb);have n2_:=z7.mk (zi (by repeat (first|(with_reducible first|exact HB.out|apply z4|apply z0|apply z3|refine z8 ?_ GE101.out|refine z8 ?_ GE102.out)|exact HB.out)) hb);clear BK101;clear BK102;clear HB;have BK101:=n0_;have BK102:=n1_;have HB:=n2_;clear n0_ n1_ n2_;(try clear hb);(try clear hb2);(try clear hk);(try clear hi)))
       repeat (go_quiet (first|(go_at_call 67;(with_reducible refine (zO.calls kj4 a0 a2_3 a2_4 true _ A19.out).mono ?_);rintro e w23 ⟨rfl,hb⟩;have n0_:=z7.mk (zj (g:=gb101) (o:=.cells #[.int .i64 a2_0,.int .i64 a2_1,.int .i64 a2_2,.int .u64 a2_3,.int .u64 a2_4] 87 (0,0)) (by (with_reducible repeat (first|refine z2 ?_ _|refine z5 ?_|refine z1 ?_ _));exact BK101.out) hb);have n1_:=z7.mk (zj (g:=gb102) (o:=.cells #[.int .u64 0,.int .u64 0] 51 (0,0)) (by (with_reducible repeat (first|refine z2 ?_ _|refine z5 ?_|refine z1 ?_ _));exact BK102.out) hb);have n2_:=z7.mk (zi (by repeat (first|(with_reducible first|exact HB.out|apply z4|apply z0|apply z3|refine z8 ?_ GE101.out|refine z8 ?_ GE102.out)|exact HB.out)) hb);clear BK101;clear BK102;clear HB;have BK101:=n0_;have BK102:=n1_;have HB:=n2_;clear n0_ n1_ n2_;(try clear hb);(try clear hb2);(try clear hk);(try clear hi)));try go_wp2_with (first|(go_at_call 67;(with_reducible refine (zO.calls kj4 a0 a2_3 a2_4 true _ A19.out).mono ?_);rintro e w23 ⟨rfl,hb⟩;have n0_:=z7.mk (zj (g:=gb101) (o:=.cells #[.int .i64 a2_0,.int .i64 a2_1,.int .i64 a2_2,.int .u64 a2_3,.int .u64 a2_4] 87 (0,0)) (by (with_reducible repeat (first|refine z2 ?_ _|refine z5 ?_|refine z1 ?_ _));exact BK101.out) hb);have n1_:=z7.mk (zj (g:=gb102) (o:=.cells #[.int .u64 0,.int .u64 0] 51 (0,0)) (by (with_reducible repeat (first|refine z2 ?_ _|refine z5 ?_|refine z1 ?_ _));exact BK102.out) hb);have n2_:=z7.mk (zi (by repeat (first|(with_reducible first|exact HB.out|apply z4|apply z0|apply z3|refine z8 ?_ GE101.out|refine z8 ?_ GE102.out)|exact HB.out)) hb);clear BK101;clear BK102;clear HB;have BK101:=n0_;have BK102:=n1_;have HB:=n2_;clear n0_ n1_ n2_;(try clear hb);(try clear hb2);(try clear hk);(try clear hi))))
       go_ret2
       exact ⟨by first|rfl|(simp [zl,zm] <;> rfl)|(simp [*,zl,zm] <;> rfl),by repeat (first|(with_reducible first|exact HB.out|apply z4|apply z0|apply z3|refine z8 ?_ GE101.out|refine z8 ?_ GE102.out)|exact HB.out)⟩
     replace c20:=Bool.eq_false_iff.mpr c20
     subst c20
     have H1 : (some (0,5)) = some (r1,r2):=by rw [if_neg (show ¬ (false = true) by decide)] at H;exact H
     clear H
     have H:=H1
     clear H1
     simp only [Option.some.injEq,Prod.mk.injEq] at H
     obtain ⟨rfl,rfl⟩:=H
     have hnb24:=NB101_102.out
     have hnc24:=NB102_101.out
     have hcz25_0 : wc.cell? ⟨gb101,0,none⟩ = some (.int .i64 a2_0):=(zb BK101.out 0).trans rfl
     have hcz25_1 : wc.cell? ⟨gb101,1,none⟩ = some (.int .i64 a2_1):=(zb BK101.out 1).trans rfl
     have hcz25_2 : wc.cell? ⟨gb101,2,none⟩ = some (.int .i64 a2_2):=(zb BK101.out 2).trans rfl
     have hcz25_3 : wc.cell? ⟨gb101,3,none⟩ = some (.int .u64 a2_3):=(zb BK101.out 3).trans rfl
     have hcz25_4 : wc.cell? ⟨gb101,4,none⟩ = some (.int .u64 a2_4):=(zb BK101.out 4).trans rfl
     have hfz25_0:=z9 BK101.out 0
     have hfz25_1:=z9 BK101.out 1
     have hfz25_2:=z9 BK101.out 2
     have hfz25_3:=z9 BK101.out 3
     have hfz25_4:=z9 BK101.out 4
     go_wp2_with (first|(go_at_call 67;(with_reducible refine (zO.calls kj4 a0 a2_3 a2_4 false _ A19.out).mono ?_);rintro e w26 ⟨rfl,hb⟩;have n0_:=z7.mk (zj (g:=gb101) (o:=.cells #[.int .i64 a2_0,.int .i64 a2_1,.int .i64 a2_2,.int .u64 a2_3,.int .u64 a2_4] 87 (0,0)) (by (with_reducible repeat (first|refine z2 ?_ _|refine z5 ?_|refine z1 ?_ _));exact BK101.out) hb);have n1_:=z7.mk (zj (g:=gb102) (o:=.cells #[.int .u64 0,.int .u64 0] 51 (0,0)) (by (with_reducible repeat (first|refine z2 ?_ _|refine z5 ?_|refine z1 ?_ _));exact BK102.out) hb);have n2_:=z7.mk (zi (by repeat (first|(with_reducible first|exact HB.out|apply z4|apply z0|apply z3|refine z8 ?_ GE101.out|refine z8 ?_ GE102.out)|exact HB.out)) hb);clear BK101;clear BK102;clear HB;have BK101:=n0_;have BK102:=n1_;have HB:=n2_;clear n0_ n1_ n2_;(try clear hb);(try clear hb2);(try clear hk);(try clear hi)))
     repeat (go_quiet (first|(go_at_call 67;(with_reducible refine (zO.calls kj4 a0 a2_3 a2_4 false _ A19.out).mono ?_);rintro e w26 ⟨rfl,hb⟩;have n0_:=z7.mk (zj (g:=gb101) (o:=.cells #[.int .i64 a2_0,.int .i64 a2_1,.int .i64 a2_2,.int .u64 a2_3,.int .u64 a2_4] 87 (0,0)) (by (with_reducible repeat (first|refine z2 ?_ _|refine z5 ?_|refine z1 ?_ _));exact BK101.out) hb);have n1_:=z7.mk (zj (g:=gb102) (o:=.cells #[.int .u64 0,.int .u64 0] 51 (0,0)) (by (with_reducible repeat (first|refine z2 ?_ _|refine z5 ?_|refine z1 ?_ _));exact BK102.out) hb);have n2_:=z7.mk (zi (by repeat (first|(with_reducible first|exact HB.out|apply z4|apply z0|apply z3|refine z8 ?_ GE101.out|refine z8 ?_ GE102.out)|exact HB.out)) hb);clear BK101;clear BK102;clear HB;have BK101:=n0_;have BK102:=n1_;have HB:=n2_;clear n0_ n1_ n2_;(try clear hb);(try clear hb2);(try clear hk);(try clear hi)));try go_wp2_with (first|(go_at_call 67;(with_reducible refine (zO.calls kj4 a0 a2_3 a2_4 false _ A19.out).mono ?_);rintro e w26 ⟨rfl,hb⟩;have n0_:=z7.mk (zj (g:=gb101) (o:=.cells #[.int .i64 a2_0,.int .i64 a2_1,.int .i64 a2_2,.int .u64 a2_3,.int .u64 a2_4] 87 (0,0)) (by (with_reducible repeat (first|refine z2 ?_ _|refine z5 ?_|refine z1 ?_ _));exact BK101.out) hb);have n1_:=z7.mk (zj (g:=gb102) (o:=.cells #[.int .u64 0,.int .u64 0] 51 (0,0)) (by (with_reducible repeat (first|refine z2 ?_ _|refine z5 ?_|refine z1 ?_ _));exact BK102.out) hb);have n2_:=z7.mk (zi (by repeat (first|(with_reducible first|exact HB.out|apply z4|apply z0|apply z3|refine z8 ?_ GE101.out|refine z8 ?_ GE102.out)|exact HB.out)) hb);clear BK101;clear BK102;clear HB;have BK101:=n0_;have BK102:=n1_;have HB:=n2_;clear n0_ n1_ n2_;(try clear hb);(try clear hb2);(try clear hk);(try clear hi))))
     go_ret2
     exact ⟨by first|rfl|(simp [zl,zm] <;> rfl)|(simp [*,zl,zm] <;> rfl),by repeat (first|(with_reducible first|exact HB.out|apply z4|apply z0|apply z3|refine z8 ?_ GE101.out|refine z8 ?_ GE102.out)|exact HB.out)⟩
   replace c18:=Bool.eq_false_iff.mpr c18
   subst c18
   have H1 : (if a2_0 = 2 then (if a2_2 = 0 then (zH.j1 kj4 a1 l3 (a2_3 == 0 && (a2_4 == 0)) a2_0 a2_1 a2_2 a2_3 a2_4 0 0) else (zH.j1 kj4 a1 l3 false a2_0 a2_1 a2_2 a2_3 a2_4 0 0)) else (zH.j1 kj4 a1 l3 false a2_0 a2_1 a2_2 a2_3 a2_4 0 0)) = some (r1,r2):=by rw [if_neg (show ¬ (false = true) by decide)] at H;exact H
   clear H
   have H:=H1
   clear H1
   have HC27:=z7.mk H
   clear H
   go_upto_region 6 with (fail)
   repeat (go_quiet (fail);go_upto_region 6 with (fail))
   go_cut [31] (fun v31 wc=>∃ (kq : Nat) (x31_26 : Bool),v31 = .bool x31_26 ∧ z7 (zH.j1 kq a1 l3 x31_26 a2_0 a2_1 a2_2 a2_3 a2_4 0 0 = some (r1,r2)) ∧ z7 (kq ≤ kj4) ∧ z7 (wc.heap[gb101]? = some (.cells #[.int .i64 a2_0,.int .i64 a2_1,.int .i64 a2_2,.int .u64 a2_3,.int .u64 a2_4] 87 (0,0))) ∧ z7 (wc.heap[gb102]? = some (.cells #[.int .u64 0,.int .u64 0] 51 (0,0))) ∧ z7 (Below w.heap.size w wc))
   case first =>
    have H:=HC27.out
    clear HC27
    by_cases c28 : a2_0 = 2
    rotate_left
    · rw [if_neg c28] at H
      have c28b0 : (a2_0 == 2) = false:=beq_eq_false_iff_ne.mpr c28
      have c28b1 : (a2_0 != 2) = true:=bne_iff_ne.mpr c28
      (first|rw [c28b0]|(simp only [zD,zF];rw [c28b0])|skip)
      have H':=z7.mk H
      clear H
      have hnb35:=NB101_102.out
      have hnc35:=NB102_101.out
      have hcz36_0 : wc.cell? ⟨gb101,0,none⟩ = some (.int .i64 a2_0):=(zb BK101.out 0).trans rfl
      have hcz36_1 : wc.cell? ⟨gb101,1,none⟩ = some (.int .i64 a2_1):=(zb BK101.out 1).trans rfl
      have hcz36_2 : wc.cell? ⟨gb101,2,none⟩ = some (.int .i64 a2_2):=(zb BK101.out 2).trans rfl
      have hcz36_3 : wc.cell? ⟨gb101,3,none⟩ = some (.int .u64 a2_3):=(zb BK101.out 3).trans rfl
      have hcz36_4 : wc.cell? ⟨gb101,4,none⟩ = some (.int .u64 a2_4):=(zb BK101.out 4).trans rfl
      have hfz36_0:=z9 BK101.out 0
      have hfz36_1:=z9 BK101.out 1
      have hfz36_2:=z9 BK101.out 2
      have hfz36_3:=z9 BK101.out 3
      have hfz36_4:=z9 BK101.out 4
      go_wp2
      repeat (go_quiet (fail);try go_wp2)
      go_meet
      case rel=>exact ⟨_,(false),(by first|rfl|(simp;done)|(simp [*];done)),H',⟨by have:=HJ4.out;first|omega|exact Nat.le_refl _⟩,⟨by (with_reducible repeat (first|refine z2 ?_ _|refine z5 ?_|refine z1 ?_ _));exact BK101.out⟩,⟨by (with_reducible repeat (first|refine z2 ?_ _|refine z5 ?_|refine z1 ?_ _));exact BK102.out⟩,⟨by repeat (first|(with_reducible first|exact HB.out|apply z4|apply z0|apply z3|refine z8 ?_ GE101.out|refine z8 ?_ GE102.out)|exact HB.out)⟩⟩
    rw [if_pos c28] at H
    have c28b0 : (a2_0 == 2) = true:=beq_iff_eq.mpr c28
    have c28b1 : (a2_0 != 2) = false:=bne_eq_false_iff_eq.mpr c28
    clear c28
    (first|rw [c28b0]|(simp only [zD,zF];rw [c28b0])|skip)
    by_cases c29 : a2_2 = 0
    rotate_left
    · rw [if_neg c29] at H
      have c29b0 : (a2_2 == 0) = false:=beq_eq_false_iff_ne.mpr c29
      have c29b1 : (a2_2 != 0) = true:=bne_iff_ne.mpr c29
      have H':=z7.mk H
      clear H
      have hnb33:=NB101_102.out
      have hnc33:=NB102_101.out
      have hcz34_0 : wc.cell? ⟨gb101,0,none⟩ = some (.int .i64 a2_0):=(zb BK101.out 0).trans rfl
      have hcz34_1 : wc.cell? ⟨gb101,1,none⟩ = some (.int .i64 a2_1):=(zb BK101.out 1).trans rfl
      have hcz34_2 : wc.cell? ⟨gb101,2,none⟩ = some (.int .i64 a2_2):=(zb BK101.out 2).trans rfl
      have hcz34_3 : wc.cell? ⟨gb101,3,none⟩ = some (.int .u64 a2_3):=(zb BK101.out 3).trans rfl
      have hcz34_4 : wc.cell? ⟨gb101,4,none⟩ = some (.int .u64 a2_4):=(zb BK101.out 4).trans rfl
      have hfz34_0:=z9 BK101.out 0
      have hfz34_1:=z9 BK101.out 1
      have hfz34_2:=z9 BK101.out 2
      have hfz34_3:=z9 BK101.out 3
      have hfz34_4:=z9 BK101.out 4
      go_wp2
      repeat (go_quiet (fail);try go_wp2)
      go_meet
      case rel=>exact ⟨_,(false),(by first|rfl|(simp;done)|(simp [*];done)),H',⟨by have:=HJ4.out;first|omega|exact Nat.le_refl _⟩,⟨by (with_reducible repeat (first|refine z2 ?_ _|refine z5 ?_|refine z1 ?_ _));exact BK101.out⟩,⟨by (with_reducible repeat (first|refine z2 ?_ _|refine z5 ?_|refine z1 ?_ _));exact BK102.out⟩,⟨by repeat (first|(with_reducible first|exact HB.out|apply z4|apply z0|apply z3|refine z8 ?_ GE101.out|refine z8 ?_ GE102.out)|exact HB.out)⟩⟩
    rw [if_pos c29] at H
    have c29b0 : (a2_2 == 0) = true:=beq_iff_eq.mpr c29
    have c29b1 : (a2_2 != 0) = false:=bne_eq_false_iff_eq.mpr c29
    clear c29
    have H':=z7.mk H
    clear H
    have hnb30:=NB101_102.out
    have hnc30:=NB102_101.out
    have hcz31_0 : wc.cell? ⟨gb101,0,none⟩ = some (.int .i64 a2_0):=(zb BK101.out 0).trans rfl
    have hcz31_1 : wc.cell? ⟨gb101,1,none⟩ = some (.int .i64 a2_1):=(zb BK101.out 1).trans rfl
    have hcz31_2 : wc.cell? ⟨gb101,2,none⟩ = some (.int .i64 a2_2):=(zb BK101.out 2).trans rfl
    have hcz31_3 : wc.cell? ⟨gb101,3,none⟩ = some (.int .u64 a2_3):=(zb BK101.out 3).trans rfl
    have hcz31_4 : wc.cell? ⟨gb101,4,none⟩ = some (.int .u64 a2_4):=(zb BK101.out 4).trans rfl
    have hfz31_0:=z9 BK101.out 0
    have hfz31_1:=z9 BK101.out 1
    have hfz31_2:=z9 BK101.out 2
    have hfz31_3:=z9 BK101.out 3
    have hfz31_4:=z9 BK101.out 4
    have hcz32_0 : wc.cell? ⟨gb102,0,none⟩ = some (.int .u64 0):=(zb BK102.out 0).trans rfl
    have hcz32_1 : wc.cell? ⟨gb102,1,none⟩ = some (.int .u64 0):=(zb BK102.out 1).trans rfl
    have hfz32_0:=z9 BK102.out 0
    have hfz32_1:=z9 BK102.out 1
    go_wp2
    repeat (go_quiet (fail);try go_wp2)
    go_meet
    case rel=>exact ⟨_,((a2_3 == 0 && (a2_4 == 0))),(by first|rfl|(simp;done)|(simp [*];done)),H',⟨by have:=HJ4.out;first|omega|exact Nat.le_refl _⟩,⟨by (with_reducible repeat (first|refine z2 ?_ _|refine z5 ?_|refine z1 ?_ _));exact BK101.out⟩,⟨by (with_reducible repeat (first|refine z2 ?_ _|refine z5 ?_|refine z1 ?_ _));exact BK102.out⟩,⟨by repeat (first|(with_reducible first|exact HB.out|apply z4|apply z0|apply z3|refine z8 ?_ GE101.out|refine z8 ?_ GE102.out)|exact HB.out)⟩⟩
   case rest =>
    clear HC27
    (try clear c1);(try clear c2);(try clear p2);(try clear c3);(try clear c8);(try clear c9);(try clear c10);(try clear c10b0);(try clear c10b1);(try clear c11);(try clear c11b0);(try clear c11b1);(try clear c12);(try clear c14);(try clear c16);(try clear c18);(try clear c20);(try clear c21);(try clear c24);(try clear c28);(try clear c28b0);(try clear c28b1);(try clear c29);(try clear c29b0);(try clear c29b1);(try clear c30);(try clear c33);(try clear c35);(try clear hcz13_0);(try clear hcz13_1);(try clear hcz13_2);(try clear hcz13_3);(try clear hcz13_4);(try clear hcz15_0);(try clear hcz15_1);(try clear hcz15_2);(try clear hcz15_3);(try clear hcz15_4);(try clear hcz17_0);(try clear hcz17_1);(try clear hcz17_2);(try clear hcz17_3);(try clear hcz17_4);(try clear hcz22_0);(try clear hcz22_1);(try clear hcz22_2);(try clear hcz22_3);(try clear hcz22_4);(try clear hcz25_0);(try clear hcz25_1);(try clear hcz25_2);(try clear hcz25_3);(try clear hcz25_4);(try clear hcz31_0);(try clear hcz31_1);(try clear hcz31_2);(try clear hcz31_3);(try clear hcz31_4);(try clear hcz32_0);(try clear hcz32_1);(try clear hcz34_0);(try clear hcz34_1);(try clear hcz34_2);(try clear hcz34_3);(try clear hcz34_4);(try clear hcz36_0);(try clear hcz36_1);(try clear hcz36_2);(try clear hcz36_3);(try clear hcz36_4);(try clear hcz9_0);(try clear hcz9_1);(try clear hfz13_0);(try clear hfz13_1);(try clear hfz13_2);(try clear hfz13_3);(try clear hfz13_4);(try clear hfz15_0);(try clear hfz15_1);(try clear hfz15_2);(try clear hfz15_3);(try clear hfz15_4);(try clear hfz17_0);(try clear hfz17_1);(try clear hfz17_2);(try clear hfz17_3);(try clear hfz17_4);(try clear hfz22_0);(try clear hfz22_1);(try clear hfz22_2);(try clear hfz22_3);(try clear hfz22_4);(try clear hfz25_0);(try clear hfz25_1);(try clear hfz25_2);(try clear hfz25_3);(try clear hfz25_4);(try clear hfz31_0);(try clear hfz31_1);(try clear hfz31_2);(try clear hfz31_3);(try clear hfz31_4);(try clear hfz32_0);(try clear hfz32_1);(try clear hfz34_0);(try clear hfz34_1);(try clear hfz34_2);(try clear hfz34_3);(try clear hfz34_4);(try clear hfz36_0);(try clear hfz36_1);(try clear hfz36_2);(try clear hfz36_3);(try clear hfz36_4);(try clear hfz9_0);(try clear hfz9_1);(try clear p2)
    obtain ⟨kq,x31_26,rfl,HA,HJ26,BK101,BK102,HB⟩:=hcut
    cases kq with
    | zero=>exact absurd HA.out (by simp [zH.j1])
    | succ kj26 =>
     have H:=HA.out
     clear HA
     simp only [zH.j1] at H
     by_cases c37 : x31_26 = true
     · subst c37
       have H1 : (if a2_1 < 0 then (some (0,4)) else (if a2_1 ≥ a1 then (some (0,4)) else (some (1,0)))) = some (r1,r2):=by rw [if_pos rfl] at H;exact H
       clear H
       have H:=H1
       clear H1
       by_cases c38 : a2_1 < 0
       · rw [if_pos c38] at H
         have c38b0 : decide (a2_1 < 0) = true:=decide_eq_true c38
         clear c38
         simp only [Option.some.injEq,Prod.mk.injEq] at H
         obtain ⟨rfl,rfl⟩:=H
         have hnb39:=NB101_102.out
         have hnc39:=NB102_101.out
         have hcz40_0 : wc.cell? ⟨gb101,0,none⟩ = some (.int .i64 a2_0):=(zb BK101.out 0).trans rfl
         have hcz40_1 : wc.cell? ⟨gb101,1,none⟩ = some (.int .i64 a2_1):=(zb BK101.out 1).trans rfl
         have hcz40_2 : wc.cell? ⟨gb101,2,none⟩ = some (.int .i64 a2_2):=(zb BK101.out 2).trans rfl
         have hcz40_3 : wc.cell? ⟨gb101,3,none⟩ = some (.int .u64 a2_3):=(zb BK101.out 3).trans rfl
         have hcz40_4 : wc.cell? ⟨gb101,4,none⟩ = some (.int .u64 a2_4):=(zb BK101.out 4).trans rfl
         have hfz40_0:=z9 BK101.out 0
         have hfz40_1:=z9 BK101.out 1
         have hfz40_2:=z9 BK101.out 2
         have hfz40_3:=z9 BK101.out 3
         have hfz40_4:=z9 BK101.out 4
         go_wp2
         repeat (go_quiet (fail);try go_wp2)
         go_ret2
         exact ⟨by first|rfl|(simp [zl,zm] <;> rfl)|(simp [*,zl,zm] <;> rfl),by repeat (first|(with_reducible first|exact HB.out|apply z4|apply z0|apply z3|refine z8 ?_ GE101.out|refine z8 ?_ GE102.out)|exact HB.out)⟩
       rw [if_neg c38] at H
       have c38b0 : decide (a2_1 < 0) = false:=decide_eq_false c38
       clear c38
       by_cases c41 : a2_1 ≥ a1
       rotate_left
       · rw [if_neg c41] at H
         have c41b0 : decide (a1 ≤ a2_1) = false:=decide_eq_false c41
         clear c41
         simp only [Option.some.injEq,Prod.mk.injEq] at H
         obtain ⟨rfl,rfl⟩:=H
         have hnb44:=NB101_102.out
         have hnc44:=NB102_101.out
         have hcz45_0 : wc.cell? ⟨gb101,0,none⟩ = some (.int .i64 a2_0):=(zb BK101.out 0).trans rfl
         have hcz45_1 : wc.cell? ⟨gb101,1,none⟩ = some (.int .i64 a2_1):=(zb BK101.out 1).trans rfl
         have hcz45_2 : wc.cell? ⟨gb101,2,none⟩ = some (.int .i64 a2_2):=(zb BK101.out 2).trans rfl
         have hcz45_3 : wc.cell? ⟨gb101,3,none⟩ = some (.int .u64 a2_3):=(zb BK101.out 3).trans rfl
         have hcz45_4 : wc.cell? ⟨gb101,4,none⟩ = some (.int .u64 a2_4):=(zb BK101.out 4).trans rfl
         have hfz45_0:=z9 BK101.out 0
         have hfz45_1:=z9 BK101.out 1
         have hfz45_2:=z9 BK101.out 2
         have hfz45_3:=z9 BK101.out 3
         have hfz45_4:=z9 BK101.out 4
         go_wp2
         repeat (go_quiet (fail);try go_wp2)
         go_ret2
         exact ⟨by first|rfl|(simp [zl,zm] <;> rfl)|(simp [*,zl,zm] <;> rfl),by repeat (first|(with_reducible first|exact HB.out|apply z4|apply z0|apply z3|refine z8 ?_ GE101.out|refine z8 ?_ GE102.out)|exact HB.out)⟩
       rw [if_pos c41] at H
       have c41b0 : decide (a1 ≤ a2_1) = true:=decide_eq_true c41
       clear c41
       simp only [Option.some.injEq,Prod.mk.injEq] at H
       obtain ⟨rfl,rfl⟩:=H
       have hnb42:=NB101_102.out
       have hnc42:=NB102_101.out
       have hcz43_0 : wc.cell? ⟨gb101,0,none⟩ = some (.int .i64 a2_0):=(zb BK101.out 0).trans rfl
       have hcz43_1 : wc.cell? ⟨gb101,1,none⟩ = some (.int .i64 a2_1):=(zb BK101.out 1).trans rfl
       have hcz43_2 : wc.cell? ⟨gb101,2,none⟩ = some (.int .i64 a2_2):=(zb BK101.out 2).trans rfl
       have hcz43_3 : wc.cell? ⟨gb101,3,none⟩ = some (.int .u64 a2_3):=(zb BK101.out 3).trans rfl
       have hcz43_4 : wc.cell? ⟨gb101,4,none⟩ = some (.int .u64 a2_4):=(zb BK101.out 4).trans rfl
       have hfz43_0:=z9 BK101.out 0
       have hfz43_1:=z9 BK101.out 1
       have hfz43_2:=z9 BK101.out 2
       have hfz43_3:=z9 BK101.out 3
       have hfz43_4:=z9 BK101.out 4
       go_wp2
       repeat (go_quiet (fail);try go_wp2)
       go_ret2
       exact ⟨by first|rfl|(simp [zl,zm] <;> rfl)|(simp [*,zl,zm] <;> rfl),by repeat (first|(with_reducible first|exact HB.out|apply z4|apply z0|apply z3|refine z8 ?_ GE101.out|refine z8 ?_ GE102.out)|exact HB.out)⟩
     replace c37:=Bool.eq_false_iff.mpr c37
     subst c37
     have H1 : (if a2_0 = 3 then (if (a2_3 == 0 && (a2_4 == 0)) = true then ((z1n.f a2_0 a2_1 a2_2 a2_3 a2_4 (l3.length : Int)).bind fun t104=>(zH.j2 kj26 l3 t104 a2_0 a2_1 a2_2 a2_3 a2_4 0 0)) else (zH.j2 kj26 l3 false a2_0 a2_1 a2_2 a2_3 a2_4 0 0)) else (zH.j2 kj26 l3 false a2_0 a2_1 a2_2 a2_3 a2_4 0 0)) = some (r1,r2):=by rw [if_neg (show ¬ (false = true) by decide)] at H;exact H
     clear H
     have H:=H1
     clear H1
     have HC46:=z7.mk H
     clear H
     go_upto_region 10 with (fail)
     repeat (go_quiet (fail);go_upto_region 10 with (fail))
     go_cut [55] (fun v55 wc=>∃ (kq : Nat) (x55_45 : Bool),v55 = .bool x55_45 ∧ z7 (zH.j2 kq l3 x55_45 a2_0 a2_1 a2_2 a2_3 a2_4 0 0 = some (r1,r2)) ∧ z7 (kq ≤ kj26) ∧ z7 (wc.heap[gb101]? = some (.cells #[.int .i64 a2_0,.int .i64 a2_1,.int .i64 a2_2,.int .u64 a2_3,.int .u64 a2_4] 87 (0,0))) ∧ z7 (wc.heap[gb102]? = some (.cells #[.int .u64 0,.int .u64 0] 51 (0,0))) ∧ z7 (Below w.heap.size w wc))
     case first =>
      have H:=HC46.out
      clear HC46
      by_cases c47 : a2_0 = 3
      rotate_left
      · rw [if_neg c47] at H
        have c47b0 : (a2_0 == 3) = false:=beq_eq_false_iff_ne.mpr c47
        have c47b1 : (a2_0 != 3) = true:=bne_iff_ne.mpr c47
        (first|rw [c47b0]|(simp only [zD,zF];rw [c47b0])|skip)
        have H':=z7.mk H
        clear H
        have hnb57:=NB101_102.out
        have hnc57:=NB102_101.out
        have hcz58_0 : wc.cell? ⟨gb101,0,none⟩ = some (.int .i64 a2_0):=(zb BK101.out 0).trans rfl
        have hcz58_1 : wc.cell? ⟨gb101,1,none⟩ = some (.int .i64 a2_1):=(zb BK101.out 1).trans rfl
        have hcz58_2 : wc.cell? ⟨gb101,2,none⟩ = some (.int .i64 a2_2):=(zb BK101.out 2).trans rfl
        have hcz58_3 : wc.cell? ⟨gb101,3,none⟩ = some (.int .u64 a2_3):=(zb BK101.out 3).trans rfl
        have hcz58_4 : wc.cell? ⟨gb101,4,none⟩ = some (.int .u64 a2_4):=(zb BK101.out 4).trans rfl
        have hfz58_0:=z9 BK101.out 0
        have hfz58_1:=z9 BK101.out 1
        have hfz58_2:=z9 BK101.out 2
        have hfz58_3:=z9 BK101.out 3
        have hfz58_4:=z9 BK101.out 4
        go_wp2
        repeat (go_quiet (fail);try go_wp2)
        go_meet
        case rel=>exact ⟨_,(false),(by first|rfl|(simp;done)|(simp [*];done)),H',⟨by have:=HJ4.out;have:=HJ26.out;first|omega|exact Nat.le_refl _⟩,⟨by (with_reducible repeat (first|refine z2 ?_ _|refine z5 ?_|refine z1 ?_ _));exact BK101.out⟩,⟨by (with_reducible repeat (first|refine z2 ?_ _|refine z5 ?_|refine z1 ?_ _));exact BK102.out⟩,⟨by repeat (first|(with_reducible first|exact HB.out|apply z4|apply z0|apply z3|refine z8 ?_ GE101.out|refine z8 ?_ GE102.out)|exact HB.out)⟩⟩
      rw [if_pos c47] at H
      have c47b0 : (a2_0 == 3) = true:=beq_iff_eq.mpr c47
      have c47b1 : (a2_0 != 3) = false:=bne_eq_false_iff_eq.mpr c47
      clear c47
      (first|rw [c47b0]|(simp only [zD,zF];rw [c47b0])|skip)
      by_cases c48 : (a2_3 == 0 && (a2_4 == 0)) = true
      rotate_left
      · rw [if_neg c48] at H
        have c48b0 : (a2_3 == 0 && (a2_4 == 0)) = false:=by simpa using c48
        (try (have c48b1 : decide (a2_3 = 0 && (a2_4 == 0)) = false:=by simpa using c48))
        (try (have c48b2 : (a2_3 == 0 && (a2_4 == 0)) = false:=by simpa using c48))
        (try (have c48b3 : ¬ (a2_3 = 0 && (a2_4 == 0)):=by simpa using c48))
        clear c48
        have H':=z7.mk H
        clear H
        have hnb54:=NB101_102.out
        have hnc54:=NB102_101.out
        have hcz55_0 : wc.cell? ⟨gb101,0,none⟩ = some (.int .i64 a2_0):=(zb BK101.out 0).trans rfl
        have hcz55_1 : wc.cell? ⟨gb101,1,none⟩ = some (.int .i64 a2_1):=(zb BK101.out 1).trans rfl
        have hcz55_2 : wc.cell? ⟨gb101,2,none⟩ = some (.int .i64 a2_2):=(zb BK101.out 2).trans rfl
        have hcz55_3 : wc.cell? ⟨gb101,3,none⟩ = some (.int .u64 a2_3):=(zb BK101.out 3).trans rfl
        have hcz55_4 : wc.cell? ⟨gb101,4,none⟩ = some (.int .u64 a2_4):=(zb BK101.out 4).trans rfl
        have hfz55_0:=z9 BK101.out 0
        have hfz55_1:=z9 BK101.out 1
        have hfz55_2:=z9 BK101.out 2
        have hfz55_3:=z9 BK101.out 3
        have hfz55_4:=z9 BK101.out 4
        have hcz56_0 : wc.cell? ⟨gb102,0,none⟩ = some (.int .u64 0):=(zb BK102.out 0).trans rfl
        have hcz56_1 : wc.cell? ⟨gb102,1,none⟩ = some (.int .u64 0):=(zb BK102.out 1).trans rfl
        have hfz56_0:=z9 BK102.out 0
        have hfz56_1:=z9 BK102.out 1
        go_wp2
        repeat (go_quiet (fail);try go_wp2)
        go_meet
        case rel=>exact ⟨_,(false),(by first|rfl|(simp;done)|(simp [*];done)),H',⟨by have:=HJ4.out;have:=HJ26.out;first|omega|exact Nat.le_refl _⟩,⟨by (with_reducible repeat (first|refine z2 ?_ _|refine z5 ?_|refine z1 ?_ _));exact BK101.out⟩,⟨by (with_reducible repeat (first|refine z2 ?_ _|refine z5 ?_|refine z1 ?_ _));exact BK102.out⟩,⟨by repeat (first|(with_reducible first|exact HB.out|apply z4|apply z0|apply z3|refine z8 ?_ GE101.out|refine z8 ?_ GE102.out)|exact HB.out)⟩⟩
      rw [if_pos c48] at H
      have c48b0 : (a2_3 == 0 && (a2_4 == 0)) = true:=c48
      (try (have c48b1 : decide (a2_3 = 0 && (a2_4 == 0)) = true:=by simpa using c48))
      (try (have c48b2 : (a2_3 == 0 && (a2_4 == 0)) = true:=by simpa using c48))
      clear c48
      replace H:=Option.bind_eq_some_iff.mp H
      obtain ⟨t104,A490,H⟩:=H
      replace H : (zH.j2 kj26 l3 t104 a2_0 a2_1 a2_2 a2_3 a2_4 0 0) = some (r1,r2):=H
      have A49:=z7.mk A490
      clear A490
      have H':=z7.mk H
      clear H
      have hnb50:=NB101_102.out
      have hnc50:=NB102_101.out
      have hcz51_0 : wc.cell? ⟨gb101,0,none⟩ = some (.int .i64 a2_0):=(zb BK101.out 0).trans rfl
      have hcz51_1 : wc.cell? ⟨gb101,1,none⟩ = some (.int .i64 a2_1):=(zb BK101.out 1).trans rfl
      have hcz51_2 : wc.cell? ⟨gb101,2,none⟩ = some (.int .i64 a2_2):=(zb BK101.out 2).trans rfl
      have hcz51_3 : wc.cell? ⟨gb101,3,none⟩ = some (.int .u64 a2_3):=(zb BK101.out 3).trans rfl
      have hcz51_4 : wc.cell? ⟨gb101,4,none⟩ = some (.int .u64 a2_4):=(zb BK101.out 4).trans rfl
      have hfz51_0:=z9 BK101.out 0
      have hfz51_1:=z9 BK101.out 1
      have hfz51_2:=z9 BK101.out 2
      have hfz51_3:=z9 BK101.out 3
      have hfz51_4:=z9 BK101.out 4
      have hcz52_0 : wc.cell? ⟨gb102,0,none⟩ = some (.int .u64 0):=(zb BK102.out 0).trans rfl
      have hcz52_1 : wc.cell? ⟨gb102,1,none⟩ = some (.int .u64 0):=(zb BK102.out 1).trans rfl
      have hfz52_0:=z9 BK102.out 0
      have hfz52_1:=z9 BK102.out 1
      go_wp2_with (first|(go_at_call 105;(with_reducible refine (z1n.calls a2_0 a2_1 a2_2 a2_3 a2_4 (l3.length : Int) t104 _ A49.out).mono ?_);rintro e w53 ⟨rfl,hb⟩;have n0_:=z7.mk (zj (g:=gb101) (o:=.cells #[.int .i64 a2_0,.int .i64 a2_1,.int .i64 a2_2,.int .u64 a2_3,.int .u64 a2_4] 87 (0,0)) (by (with_reducible repeat (first|refine z2 ?_ _|refine z5 ?_|refine z1 ?_ _));exact BK101.out) hb);have n1_:=z7.mk (zj (g:=gb102) (o:=.cells #[.int .u64 0,.int .u64 0] 51 (0,0)) (by (with_reducible repeat (first|refine z2 ?_ _|refine z5 ?_|refine z1 ?_ _));exact BK102.out) hb);have n2_:=z7.mk (zi (by repeat (first|(with_reducible first|exact HB.out|apply z4|apply z0|apply z3|refine z8 ?_ GE101.out|refine z8 ?_ GE102.out)|exact HB.out)) hb);clear BK101;clear BK102;clear HB;have BK101:=n0_;have BK102:=n1_;have HB:=n2_;clear n0_ n1_ n2_;(try clear hb);(try clear hb2);(try clear hk);(try clear hi)))
      repeat (go_quiet (first|(go_at_call 105;(with_reducible refine (z1n.calls a2_0 a2_1 a2_2 a2_3 a2_4 (l3.length : Int) t104 _ A49.out).mono ?_);rintro e w53 ⟨rfl,hb⟩;have n0_:=z7.mk (zj (g:=gb101) (o:=.cells #[.int .i64 a2_0,.int .i64 a2_1,.int .i64 a2_2,.int .u64 a2_3,.int .u64 a2_4] 87 (0,0)) (by (with_reducible repeat (first|refine z2 ?_ _|refine z5 ?_|refine z1 ?_ _));exact BK101.out) hb);have n1_:=z7.mk (zj (g:=gb102) (o:=.cells #[.int .u64 0,.int .u64 0] 51 (0,0)) (by (with_reducible repeat (first|refine z2 ?_ _|refine z5 ?_|refine z1 ?_ _));exact BK102.out) hb);have n2_:=z7.mk (zi (by repeat (first|(with_reducible first|exact HB.out|apply z4|apply z0|apply z3|refine z8 ?_ GE101.out|refine z8 ?_ GE102.out)|exact HB.out)) hb);clear BK101;clear BK102;clear HB;have BK101:=n0_;have BK102:=n1_;have HB:=n2_;clear n0_ n1_ n2_;(try clear hb);(try clear hb2);(try clear hk);(try clear hi)));try go_wp2_with (first|(go_at_call 105;(with_reducible refine (z1n.calls a2_0 a2_1 a2_2 a2_3 a2_4 (l3.length : Int) t104 _ A49.out).mono ?_);rintro e w53 ⟨rfl,hb⟩;have n0_:=z7.mk (zj (g:=gb101) (o:=.cells #[.int .i64 a2_0,.int .i64 a2_1,.int .i64 a2_2,.int .u64 a2_3,.int .u64 a2_4] 87 (0,0)) (by (with_reducible repeat (first|refine z2 ?_ _|refine z5 ?_|refine z1 ?_ _));exact BK101.out) hb);have n1_:=z7.mk (zj (g:=gb102) (o:=.cells #[.int .u64 0,.int .u64 0] 51 (0,0)) (by (with_reducible repeat (first|refine z2 ?_ _|refine z5 ?_|refine z1 ?_ _));exact BK102.out) hb);have n2_:=z7.mk (zi (by repeat (first|(with_reducible first|exact HB.out|apply z4|apply z0|apply z3|refine z8 ?_ GE101.out|refine z8 ?_ GE102.out)|exact HB.out)) hb);clear BK101;clear BK102;clear HB;have BK101:=n0_;have BK102:=n1_;have HB:=n2_;clear n0_ n1_ n2_;(try clear hb);(try clear hb2);(try clear hk);(try clear hi))))
      go_meet
      case rel=>exact ⟨_,(t104),(by first|rfl|(simp;done)|(simp [*];done)),H',⟨by have:=HJ4.out;have:=HJ26.out;first|omega|exact Nat.le_refl _⟩,⟨by (with_reducible repeat (first|refine z2 ?_ _|refine z5 ?_|refine z1 ?_ _));exact BK101.out⟩,⟨by (with_reducible repeat (first|refine z2 ?_ _|refine z5 ?_|refine z1 ?_ _));exact BK102.out⟩,⟨by repeat (first|(with_reducible first|exact HB.out|apply z4|apply z0|apply z3|refine z8 ?_ GE101.out|refine z8 ?_ GE102.out)|exact HB.out)⟩⟩
     case rest =>
      clear HC46
      (try clear c1);(try clear c2);(try clear p2);(try clear c3);(try clear c4);(try clear c5);(try clear c8);(try clear c9);(try clear c10);(try clear c10b0);(try clear c10b1);(try clear c11);(try clear c11b0);(try clear c11b1);(try clear c12);(try clear c14);(try clear c16);(try clear c18);(try clear c20);(try clear c21);(try clear c24);(try clear c28);(try clear c28b0);(try clear c28b1);(try clear c29);(try clear c29b0);(try clear c29b1);(try clear c30);(try clear c33);(try clear c35);(try clear c37);(try clear c38);(try clear c38b0);(try clear c39);(try clear c41);(try clear c41b0);(try clear c42);(try clear c44);(try clear c47);(try clear c47b0);(try clear c47b1);(try clear c48);(try clear c48b0);(try clear c48b1);(try clear c48b2);(try clear c50);(try clear c54);(try clear c57);(try clear hcz13_0);(try clear hcz13_1);(try clear hcz13_2);(try clear hcz13_3);(try clear hcz13_4);(try clear hcz15_0);(try clear hcz15_1);(try clear hcz15_2);(try clear hcz15_3);(try clear hcz15_4);(try clear hcz17_0);(try clear hcz17_1);(try clear hcz17_2);(try clear hcz17_3);(try clear hcz17_4);(try clear hcz22_0);(try clear hcz22_1);(try clear hcz22_2);(try clear hcz22_3);(try clear hcz22_4);(try clear hcz25_0);(try clear hcz25_1);(try clear hcz25_2);(try clear hcz25_3);(try clear hcz25_4);(try clear hcz31_0);(try clear hcz31_1);(try clear hcz31_2);(try clear hcz31_3);(try clear hcz31_4);(try clear hcz32_0);(try clear hcz32_1);(try clear hcz34_0);(try clear hcz34_1);(try clear hcz34_2);(try clear hcz34_3);(try clear hcz34_4);(try clear hcz36_0);(try clear hcz36_1);(try clear hcz36_2);(try clear hcz36_3);(try clear hcz36_4);(try clear hcz40_0);(try clear hcz40_1);(try clear hcz40_2);(try clear hcz40_3);(try clear hcz40_4);(try clear hcz43_0);(try clear hcz43_1);(try clear hcz43_2);(try clear hcz43_3);(try clear hcz43_4);(try clear hcz45_0);(try clear hcz45_1);(try clear hcz45_2);(try clear hcz45_3);(try clear hcz45_4);(try clear hcz51_0);(try clear hcz51_1);(try clear hcz51_2);(try clear hcz51_3);(try clear hcz51_4);(try clear hcz52_0);(try clear hcz52_1);(try clear hcz55_0);(try clear hcz55_1);(try clear hcz55_2);(try clear hcz55_3);(try clear hcz55_4);(try clear hcz56_0);(try clear hcz56_1);(try clear hcz58_0);(try clear hcz58_1);(try clear hcz58_2);(try clear hcz58_3);(try clear hcz58_4);(try clear hcz9_0);(try clear hcz9_1);(try clear hfz13_0);(try clear hfz13_1);(try clear hfz13_2);(try clear hfz13_3);(try clear hfz13_4);(try clear hfz15_0);(try clear hfz15_1);(try clear hfz15_2);(try clear hfz15_3);(try clear hfz15_4);(try clear hfz17_0);(try clear hfz17_1);(try clear hfz17_2);(try clear hfz17_3);(try clear hfz17_4);(try clear hfz22_0);(try clear hfz22_1);(try clear hfz22_2);(try clear hfz22_3);(try clear hfz22_4);(try clear hfz25_0);(try clear hfz25_1);(try clear hfz25_2);(try clear hfz25_3);(try clear hfz25_4);(try clear hfz31_0);(try clear hfz31_1);(try clear hfz31_2);(try clear hfz31_3);(try clear hfz31_4);(try clear hfz32_0);(try clear hfz32_1);(try clear hfz34_0);(try clear hfz34_1);(try clear hfz34_2);(try clear hfz34_3);(try clear hfz34_4);(try clear hfz36_0);(try clear hfz36_1);(try clear hfz36_2);(try clear hfz36_3);(try clear hfz36_4);(try clear hfz40_0);(try clear hfz40_1);(try clear hfz40_2);(try clear hfz40_3);(try clear hfz40_4);(try clear hfz43_0);(try clear hfz43_1);(try clear hfz43_2);(try clear hfz43_3);(try clear hfz43_4);(try clear hfz45_0);(try clear hfz45_1);(try clear hfz45_2);(try clear hfz45_3);(try clear hfz45_4);(try clear hfz51_0);(try clear hfz51_1);(try clear hfz51_2);(try clear hfz51_3);(try clear hfz51_4);(try clear hfz52_0);(try clear hfz52_1);(try clear hfz55_0);(try clear hfz55_1);(try clear hfz55_2);(try clear hfz55_3);(try clear hfz55_4);(try clear hfz56_0);(try clear hfz56_1);(try clear hfz58_0);(try clear hfz58_1);(try clear hfz58_2);(try clear hfz58_3);(try clear hfz58_4);(try clear hfz9_0);(try clear hfz9_1);(try clear p2)
      obtain ⟨kq,x55_45,rfl,HA,HJ45,BK101,BK102,HB⟩:=hcut
      cases kq with
      | zero=>exact absurd HA.out (by simp [zH.j2])
      | succ kj45 =>
       have H:=HA.out
       clear HA
       simp only [zH.j2] at H
       by_cases c59 : x55_45 = true
       · subst c59
         have H1 : (if 0 ≤ a2_1 then (if a2_1 < (l3.length : Int) then (if 0 ≤ a2_2 then (if a2_2 < (l3.length : Int) then (some (mx (rd l3 a2_1) (rd l3 a2_2),0)) else (none)) else (none)) else (none)) else (none)) = some (r1,r2):=by rw [if_pos rfl] at H;exact H
         clear H
         have H:=H1
         clear H1
         by_cases c60 : 0 ≤ a2_1
         rotate_left
         · rw [if_neg c60] at H
           exact absurd H (by simp)
         rw [if_pos c60] at H
         have c60b0 : decide (0 ≤ a2_1) = true:=decide_eq_true c60
         clear c60
         by_cases c61 : a2_1 < (l3.length : Int)
         rotate_left
         · rw [if_neg c61] at H
           exact absurd H (by simp)
         rw [if_pos c61] at H
         have c61b0 : decide (a2_1 < (l3.length : Int)) = true:=decide_eq_true c61
         clear c61
         by_cases c62 : 0 ≤ a2_2
         rotate_left
         · rw [if_neg c62] at H
           exact absurd H (by simp)
         rw [if_pos c62] at H
         have c62b0 : decide (0 ≤ a2_2) = true:=decide_eq_true c62
         clear c62
         by_cases c63 : a2_2 < (l3.length : Int)
         rotate_left
         · rw [if_neg c63] at H
           exact absurd H (by simp)
         rw [if_pos c63] at H
         have c63b0 : decide (a2_2 < (l3.length : Int)) = true:=decide_eq_true c63
         clear c63
         obtain ⟨ji64,hji64⟩ : ∃ j_ : Int,(mx (rd l3 a2_1) (rd l3 a2_2)) = j_:=⟨_,rfl⟩
         replace H : (some (ji64,0)) = some (r1,r2):=by first|(rw [hji64] at H;exact H)|(simp only [hji64] at H ⊢;exact H)
         have hji64_ : (if (rd l3 a2_1) < (rd l3 a2_2) then (rd l3 a2_2) else (rd l3 a2_1)) = ji64:=hji64
         simp only [Option.some.injEq,Prod.mk.injEq] at H
         obtain ⟨rfl,rfl⟩:=H
         have hnb65:=NB101_102.out
         have hnc65:=NB102_101.out
         have hcz66_0 : wc.cell? ⟨gb101,0,none⟩ = some (.int .i64 a2_0):=(zb BK101.out 0).trans rfl
         have hcz66_1 : wc.cell? ⟨gb101,1,none⟩ = some (.int .i64 a2_1):=(zb BK101.out 1).trans rfl
         have hcz66_2 : wc.cell? ⟨gb101,2,none⟩ = some (.int .i64 a2_2):=(zb BK101.out 2).trans rfl
         have hcz66_3 : wc.cell? ⟨gb101,3,none⟩ = some (.int .u64 a2_3):=(zb BK101.out 3).trans rfl
         have hcz66_4 : wc.cell? ⟨gb101,4,none⟩ = some (.int .u64 a2_4):=(zb BK101.out 4).trans rfl
         have hfz66_0:=z9 BK101.out 0
         have hfz66_1:=z9 BK101.out 1
         have hfz66_2:=z9 BK101.out 2
         have hfz66_3:=z9 BK101.out 3
         have hfz66_4:=z9 BK101.out 4
         have p105 : 0 ≤ (a2_1 : Int):=of_decide_eq_true (by first|(with_reducible assumption)|assumption)
         have q105 : a2_1 < (l3.length : Int):=of_decide_eq_true (by first|(with_reducible assumption)|assumption)
         obtain ⟨ad105,e105,hx105_0⟩:=Kd.z1v HR3.out a2_1 p105 q105
         cases e105
         replace hx105_0:=(HB.out.cell (World.block_lt_of_cell? w _ hx105_0)).trans hx105_0
         replace p105:=eq_true p105
         replace q105:=eq_true q105
         have p106 : 0 ≤ (a2_2 : Int):=of_decide_eq_true (by first|(with_reducible assumption)|assumption)
         have q106 : a2_2 < (l3.length : Int):=of_decide_eq_true (by first|(with_reducible assumption)|assumption)
         obtain ⟨ad106,e106,hx106_0⟩:=Kd.z1v HR3.out a2_2 p106 q106
         obtain rfl : ad105 = ad106:=(by injection e106)
         replace hx106_0:=(HB.out.cell (World.block_lt_of_cell? w _ hx106_0)).trans hx106_0
         replace p106:=eq_true p106
         replace q106:=eq_true q106
         go_wp2
         repeat (go_quiet (fail);try go_wp2)
         go_ret2
         exact ⟨by first|rfl|(simp [zl,zm] <;> rfl)|(simp only [← hji64];first|rfl|(simp [zl,zm] <;> rfl))|(simp [*,zl,zm] <;> rfl),by repeat (first|(with_reducible first|exact HB.out|apply z4|apply z0|apply z3|refine z8 ?_ GE101.out|refine z8 ?_ GE102.out)|exact HB.out)⟩
       replace c59:=Bool.eq_false_iff.mpr c59
       subst c59
       have H1 : (if a2_0 = 4 then (if (a2_3 == 0 && (a2_4 == 0)) = true then ((z1n.f a2_0 a2_1 a2_2 a2_3 a2_4 (l3.length : Int)).bind fun t107=>(if t107 = true then (if 0 ≤ a2_1 then (if a2_1 < (l3.length : Int) then (if 0 ≤ a2_2 then (if a2_2 < (l3.length : Int) then (some (wrap64 ((rd l3 a2_1) + (rd l3 a2_2)),0)) else (none)) else (none)) else (none)) else (none)) else (some (0,3)))) else (some (0,3))) else (some (0,3))) = some (r1,r2):=by rw [if_neg (show ¬ (false = true) by decide)] at H;exact H
       clear H
       have H:=H1
       clear H1
       by_cases c67 : a2_0 = 4
       rotate_left
       · rw [if_neg c67] at H
         have c67b0 : (a2_0 == 4) = false:=beq_eq_false_iff_ne.mpr c67
         have c67b1 : (a2_0 != 4) = true:=bne_iff_ne.mpr c67
         simp only [Option.some.injEq,Prod.mk.injEq] at H
         obtain ⟨rfl,rfl⟩:=H
         have hnb87:=NB101_102.out
         have hnc87:=NB102_101.out
         have hcz88_0 : wc.cell? ⟨gb101,0,none⟩ = some (.int .i64 a2_0):=(zb BK101.out 0).trans rfl
         have hcz88_1 : wc.cell? ⟨gb101,1,none⟩ = some (.int .i64 a2_1):=(zb BK101.out 1).trans rfl
         have hcz88_2 : wc.cell? ⟨gb101,2,none⟩ = some (.int .i64 a2_2):=(zb BK101.out 2).trans rfl
         have hcz88_3 : wc.cell? ⟨gb101,3,none⟩ = some (.int .u64 a2_3):=(zb BK101.out 3).trans rfl
         have hcz88_4 : wc.cell? ⟨gb101,4,none⟩ = some (.int .u64 a2_4):=(zb BK101.out 4).trans rfl
         have hfz88_0:=z9 BK101.out 0
         have hfz88_1:=z9 BK101.out 1
         have hfz88_2:=z9 BK101.out 2
         have hfz88_3:=z9 BK101.out 3
         have hfz88_4:=z9 BK101.out 4
         go_wp2
         repeat (go_quiet (fail);try go_wp2)
         go_ret2
         exact ⟨by first|rfl|(simp [zl,zm] <;> rfl)|(simp [*,zl,zm] <;> rfl),by repeat (first|(with_reducible first|exact HB.out|apply z4|apply z0|apply z3|refine z8 ?_ GE101.out|refine z8 ?_ GE102.out)|exact HB.out)⟩
       rw [if_pos c67] at H
       have c67b0 : (a2_0 == 4) = true:=beq_iff_eq.mpr c67
       have c67b1 : (a2_0 != 4) = false:=bne_eq_false_iff_eq.mpr c67
       clear c67
       by_cases c68 : (a2_3 == 0 && (a2_4 == 0)) = true
       rotate_left
       · rw [if_neg c68] at H
         have c68b0 : (a2_3 == 0 && (a2_4 == 0)) = false:=by simpa using c68
         (try (have c68b1 : decide (a2_3 = 0 && (a2_4 == 0)) = false:=by simpa using c68))
         (try (have c68b2 : (a2_3 == 0 && (a2_4 == 0)) = false:=by simpa using c68))
         (try (have c68b3 : ¬ (a2_3 = 0 && (a2_4 == 0)):=by simpa using c68))
         clear c68
         simp only [Option.some.injEq,Prod.mk.injEq] at H
         obtain ⟨rfl,rfl⟩:=H
         have hnb84:=NB101_102.out
         have hnc84:=NB102_101.out
         have hcz85_0 : wc.cell? ⟨gb101,0,none⟩ = some (.int .i64 a2_0):=(zb BK101.out 0).trans rfl
         have hcz85_1 : wc.cell? ⟨gb101,1,none⟩ = some (.int .i64 a2_1):=(zb BK101.out 1).trans rfl
         have hcz85_2 : wc.cell? ⟨gb101,2,none⟩ = some (.int .i64 a2_2):=(zb BK101.out 2).trans rfl
         have hcz85_3 : wc.cell? ⟨gb101,3,none⟩ = some (.int .u64 a2_3):=(zb BK101.out 3).trans rfl
         have hcz85_4 : wc.cell? ⟨gb101,4,none⟩ = some (.int .u64 a2_4):=(zb BK101.out 4).trans rfl
         have hfz85_0:=z9 BK101.out 0
         have hfz85_1:=z9 BK101.out 1
         have hfz85_2:=z9 BK101.out 2
         have hfz85_3:=z9 BK101.out 3
         have hfz85_4:=z9 BK101.out 4
         have hcz86_0 : wc.cell? ⟨gb102,0,none⟩ = some (.int .u64 0):=(zb BK102.out 0).trans rfl
         have hcz86_1 : wc.cell? ⟨gb102,1,none⟩ = some (.int .u64 0):=(zb BK102.out 1).trans rfl
         have hfz86_0:=z9 BK102.out 0
         have hfz86_1:=z9 BK102.out 1
         go_wp2
         repeat (go_quiet (fail);try go_wp2)
         go_ret2
         exact ⟨by first|rfl|(simp [zl,zm] <;> rfl)|(simp [*,zl,zm] <;> rfl),by repeat (first|(with_reducible first|exact HB.out|apply z4|apply z0|apply z3|refine z8 ?_ GE101.out|refine z8 ?_ GE102.out)|exact HB.out)⟩
       rw [if_pos c68] at H
       have c68b0 : (a2_3 == 0 && (a2_4 == 0)) = true:=c68
       (try (have c68b1 : decide (a2_3 = 0 && (a2_4 == 0)) = true:=by simpa using c68))
       (try (have c68b2 : (a2_3 == 0 && (a2_4 == 0)) = true:=by simpa using c68))
       clear c68
       replace H:=Option.bind_eq_some_iff.mp H
       obtain ⟨t107,A690,H⟩:=H
       replace H : (if t107 = true then (if 0 ≤ a2_1 then (if a2_1 < (l3.length : Int) then (if 0 ≤ a2_2 then (if a2_2 < (l3.length : Int) then (some (wrap64 ((rd l3 a2_1) + (rd l3 a2_2)),0)) else (none)) else (none)) else (none)) else (none)) else (some (0,3))) = some (r1,r2):=H
       have A69:=z7.mk A690
       clear A690
       by_cases c70 : t107 = true
       rotate_left
       · replace c70:=Bool.eq_false_iff.mpr c70
         subst c70
         have H1 : (some (0,3)) = some (r1,r2):=by rw [if_neg (show ¬ (false = true) by decide)] at H;exact H
         clear H
         have H:=H1
         clear H1
         simp only [Option.some.injEq,Prod.mk.injEq] at H
         obtain ⟨rfl,rfl⟩:=H
         have hnb80:=NB101_102.out
         have hnc80:=NB102_101.out
         have hcz81_0 : wc.cell? ⟨gb101,0,none⟩ = some (.int .i64 a2_0):=(zb BK101.out 0).trans rfl
         have hcz81_1 : wc.cell? ⟨gb101,1,none⟩ = some (.int .i64 a2_1):=(zb BK101.out 1).trans rfl
         have hcz81_2 : wc.cell? ⟨gb101,2,none⟩ = some (.int .i64 a2_2):=(zb BK101.out 2).trans rfl
         have hcz81_3 : wc.cell? ⟨gb101,3,none⟩ = some (.int .u64 a2_3):=(zb BK101.out 3).trans rfl
         have hcz81_4 : wc.cell? ⟨gb101,4,none⟩ = some (.int .u64 a2_4):=(zb BK101.out 4).trans rfl
         have hfz81_0:=z9 BK101.out 0
         have hfz81_1:=z9 BK101.out 1
         have hfz81_2:=z9 BK101.out 2
         have hfz81_3:=z9 BK101.out 3
         have hfz81_4:=z9 BK101.out 4
         have hcz82_0 : wc.cell? ⟨gb102,0,none⟩ = some (.int .u64 0):=(zb BK102.out 0).trans rfl
         have hcz82_1 : wc.cell? ⟨gb102,1,none⟩ = some (.int .u64 0):=(zb BK102.out 1).trans rfl
         have hfz82_0:=z9 BK102.out 0
         have hfz82_1:=z9 BK102.out 1
         go_wp2_with (first|(go_at_call 105;(with_reducible refine (z1n.calls a2_0 a2_1 a2_2 a2_3 a2_4 (l3.length : Int) false _ A69.out).mono ?_);rintro e w83 ⟨rfl,hb⟩;have n0_:=z7.mk (zj (g:=gb101) (o:=.cells #[.int .i64 a2_0,.int .i64 a2_1,.int .i64 a2_2,.int .u64 a2_3,.int .u64 a2_4] 87 (0,0)) (by (with_reducible repeat (first|refine z2 ?_ _|refine z5 ?_|refine z1 ?_ _));exact BK101.out) hb);have n1_:=z7.mk (zj (g:=gb102) (o:=.cells #[.int .u64 0,.int .u64 0] 51 (0,0)) (by (with_reducible repeat (first|refine z2 ?_ _|refine z5 ?_|refine z1 ?_ _));exact BK102.out) hb);have n2_:=z7.mk (zi (by repeat (first|(with_reducible first|exact HB.out|apply z4|apply z0|apply z3|refine z8 ?_ GE101.out|refine z8 ?_ GE102.out)|exact HB.out)) hb);clear BK101;clear BK102;clear HB;have BK101:=n0_;have BK102:=n1_;have HB:=n2_;clear n0_ n1_ n2_;(try clear hb);(try clear hb2);(try clear hk);(try clear hi)))
         repeat (go_quiet (first|(go_at_call 105;(with_reducible refine (z1n.calls a2_0 a2_1 a2_2 a2_3 a2_4 (l3.length : Int) false _ A69.out).mono ?_);rintro e w83 ⟨rfl,hb⟩;have n0_:=z7.mk (zj (g:=gb101) (o:=.cells #[.int .i64 a2_0,.int .i64 a2_1,.int .i64 a2_2,.int .u64 a2_3,.int .u64 a2_4] 87 (0,0)) (by (with_reducible repeat (first|refine z2 ?_ _|refine z5 ?_|refine z1 ?_ _));exact BK101.out) hb);have n1_:=z7.mk (zj (g:=gb102) (o:=.cells #[.int .u64 0,.int .u64 0] 51 (0,0)) (by (with_reducible repeat (first|refine z2 ?_ _|refine z5 ?_|refine z1 ?_ _));exact BK102.out) hb);have n2_:=z7.mk (zi (by repeat (first|(with_reducible first|exact HB.out|apply z4|apply z0|apply z3|refine z8 ?_ GE101.out|refine z8 ?_ GE102.out)|exact HB.out)) hb);clear BK101;clear BK102;clear HB;have BK101:=n0_;have BK102:=n1_;have HB:=n2_;clear n0_ n1_ n2_;(try clear hb);(try clear hb2);(try clear hk);(try clear hi)));try go_wp2_with (first|(go_at_call 105;(with_reducible refine (z1n.calls a2_0 a2_1 a2_2 a2_3 a2_4 (l3.length : Int) false _ A69.out).mono ?_);rintro e w83 ⟨rfl,hb⟩;have n0_:=z7.mk (zj (g:=gb101) (o:=.cells #[.int .i64 a2_0,.int .i64 a2_1,.int .i64 a2_2,.int .u64 a2_3,.int .u64 a2_4] 87 (0,0)) (by (with_reducible repeat (first|refine z2 ?_ _|refine z5 ?_|refine z1 ?_ _));exact BK101.out) hb);have n1_:=z7.mk (zj (g:=gb102) (o:=.cells #[.int .u64 0,.int .u64 0] 51 (0,0)) (by (with_reducible repeat (first|refine z2 ?_ _|refine z5 ?_|refine z1 ?_ _));exact BK102.out) hb);have n2_:=z7.mk (zi (by repeat (first|(with_reducible first|exact HB.out|apply z4|apply z0|apply z3|refine z8 ?_ GE101.out|refine z8 ?_ GE102.out)|exact HB.out)) hb);clear BK101;clear BK102;clear HB;have BK101:=n0_;have BK102:=n1_;have HB:=n2_;clear n0_ n1_ n2_;(try clear hb);(try clear hb2);(try clear hk);(try clear hi))))
         go_ret2
         exact ⟨by first|rfl|(simp [zl,zm] <;> rfl)|(simp [*,zl,zm] <;> rfl),by repeat (first|(with_reducible first|exact HB.out|apply z4|apply z0|apply z3|refine z8 ?_ GE101.out|refine z8 ?_ GE102.out)|exact HB.out)⟩
       subst c70
       have H1 : (if 0 ≤ a2_1 then (if a2_1 < (l3.length : Int) then (if 0 ≤ a2_2 then (if a2_2 < (l3.length : Int) then (some (wrap64 ((rd l3 a2_1) + (rd l3 a2_2)),0)) else (none)) else (none)) else (none)) else (none)) = some (r1,r2):=by rw [if_pos rfl] at H;exact H
       clear H
       have H:=H1
       clear H1
       by_cases c71 : 0 ≤ a2_1
       rotate_left
       · rw [if_neg c71] at H
         exact absurd H (by simp)
       rw [if_pos c71] at H
       have c71b0 : decide (0 ≤ a2_1) = true:=decide_eq_true c71
       clear c71
       by_cases c72 : a2_1 < (l3.length : Int)
       rotate_left
       · rw [if_neg c72] at H
         exact absurd H (by simp)
       rw [if_pos c72] at H
       have c72b0 : decide (a2_1 < (l3.length : Int)) = true:=decide_eq_true c72
       clear c72
       by_cases c73 : 0 ≤ a2_2
       rotate_left
       · rw [if_neg c73] at H
         exact absurd H (by simp)
       rw [if_pos c73] at H
       have c73b0 : decide (0 ≤ a2_2) = true:=decide_eq_true c73
       clear c73
       by_cases c74 : a2_2 < (l3.length : Int)
       rotate_left
       · rw [if_neg c74] at H
         exact absurd H (by simp)
       rw [if_pos c74] at H
       have c74b0 : decide (a2_2 < (l3.length : Int)) = true:=decide_eq_true c74
       clear c74
       simp only [Option.some.injEq,Prod.mk.injEq] at H
       obtain ⟨rfl,rfl⟩:=H
       have hnb75:=NB101_102.out
       have hnc75:=NB102_101.out
       have hcz76_0 : wc.cell? ⟨gb101,0,none⟩ = some (.int .i64 a2_0):=(zb BK101.out 0).trans rfl
       have hcz76_1 : wc.cell? ⟨gb101,1,none⟩ = some (.int .i64 a2_1):=(zb BK101.out 1).trans rfl
       have hcz76_2 : wc.cell? ⟨gb101,2,none⟩ = some (.int .i64 a2_2):=(zb BK101.out 2).trans rfl
       have hcz76_3 : wc.cell? ⟨gb101,3,none⟩ = some (.int .u64 a2_3):=(zb BK101.out 3).trans rfl
       have hcz76_4 : wc.cell? ⟨gb101,4,none⟩ = some (.int .u64 a2_4):=(zb BK101.out 4).trans rfl
       have hfz76_0:=z9 BK101.out 0
       have hfz76_1:=z9 BK101.out 1
       have hfz76_2:=z9 BK101.out 2
       have hfz76_3:=z9 BK101.out 3
       have hfz76_4:=z9 BK101.out 4
       have hcz77_0 : wc.cell? ⟨gb102,0,none⟩ = some (.int .u64 0):=(zb BK102.out 0).trans rfl
       have hcz77_1 : wc.cell? ⟨gb102,1,none⟩ = some (.int .u64 0):=(zb BK102.out 1).trans rfl
       have hfz77_0:=z9 BK102.out 0
       have hfz77_1:=z9 BK102.out 1
       go_wp2_with (first|(go_at_call 105;(with_reducible refine (z1n.calls a2_0 a2_1 a2_2 a2_3 a2_4 (l3.length : Int) true _ A69.out).mono ?_);rintro e w78 ⟨rfl,hb⟩;have n0_:=z7.mk (zj (g:=gb101) (o:=.cells #[.int .i64 a2_0,.int .i64 a2_1,.int .i64 a2_2,.int .u64 a2_3,.int .u64 a2_4] 87 (0,0)) (by (with_reducible repeat (first|refine z2 ?_ _|refine z5 ?_|refine z1 ?_ _));exact BK101.out) hb);have n1_:=z7.mk (zj (g:=gb102) (o:=.cells #[.int .u64 0,.int .u64 0] 51 (0,0)) (by (with_reducible repeat (first|refine z2 ?_ _|refine z5 ?_|refine z1 ?_ _));exact BK102.out) hb);have n2_:=z7.mk (zi (by repeat (first|(with_reducible first|exact HB.out|apply z4|apply z0|apply z3|refine z8 ?_ GE101.out|refine z8 ?_ GE102.out)|exact HB.out)) hb);clear BK101;clear BK102;clear HB;have BK101:=n0_;have BK102:=n1_;have HB:=n2_;clear n0_ n1_ n2_;(try clear hb);(try clear hb2);(try clear hk);(try clear hi);have hcz79_0 : w78.cell? ⟨gb101,0,none⟩ = some (.int .i64 a2_0):=(zb BK101.out 0).trans rfl;have hcz79_1 : w78.cell? ⟨gb101,1,none⟩ = some (.int .i64 a2_1):=(zb BK101.out 1).trans rfl;have hcz79_2 : w78.cell? ⟨gb101,2,none⟩ = some (.int .i64 a2_2):=(zb BK101.out 2).trans rfl;have hcz79_3 : w78.cell? ⟨gb101,3,none⟩ = some (.int .u64 a2_3):=(zb BK101.out 3).trans rfl;have hcz79_4 : w78.cell? ⟨gb101,4,none⟩ = some (.int .u64 a2_4):=(zb BK101.out 4).trans rfl;have hfz79_0:=z9 BK101.out 0;have hfz79_1:=z9 BK101.out 1;have hfz79_2:=z9 BK101.out 2;have hfz79_3:=z9 BK101.out 3;have hfz79_4:=z9 BK101.out 4;have p108 : 0 ≤ (a2_1 : Int):=of_decide_eq_true (by first|(with_reducible assumption)|assumption);have q108 : a2_1 < (l3.length : Int):=of_decide_eq_true (by first|(with_reducible assumption)|assumption);obtain ⟨ad108,e108,hx108_0⟩:=Kd.z1v HR3.out a2_1 p108 q108;cases e108;replace hx108_0:=(HB.out.cell (World.block_lt_of_cell? w _ hx108_0)).trans hx108_0;replace p108:=eq_true p108;replace q108:=eq_true q108;have p109 : 0 ≤ (a2_2 : Int):=of_decide_eq_true (by first|(with_reducible assumption)|assumption);have q109 : a2_2 < (l3.length : Int):=of_decide_eq_true (by first|(with_reducible assumption)|assumption);obtain ⟨ad109,e109,hx109_0⟩:=Kd.z1v HR3.out a2_2 p109 q109;obtain rfl : ad108 = ad109:=(by injection e109);replace hx109_0:=(HB.out.cell (World.block_lt_of_cell? w _ hx109_0)).trans hx109_0;replace p109:=eq_true p109;replace q109:=eq_true q109))
       repeat (go_quiet (first|(go_at_call 105;(with_reducible refine (z1n.calls a2_0 a2_1 a2_2 a2_3 a2_4 (l3.length : Int) true _ A69.out).mono ?_);rintro e w78 ⟨rfl,hb⟩;have n0_:=z7.mk (zj (g:=gb101) (o:=.cells #[.int .i64 a2_0,.int .i64 a2_1,.int .i64 a2_2,.int .u64 a2_3,.int .u64 a2_4] 87 (0,0)) (by (with_reducible repeat (first|refine z2 ?_ _|refine z5 ?_|refine z1 ?_ _));exact BK101.out) hb);have n1_:=z7.mk (zj (g:=gb102) (o:=.cells #[.int .u64 0,.int .u64 0] 51 (0,0)) (by (with_reducible repeat (first|refine z2 ?_ _|refine z5 ?_|refine z1 ?_ _));exact BK102.out) hb);have n2_:=z7.mk (zi (by repeat (first|(with_reducible first|exact HB.out|apply z4|apply z0|apply z3|refine z8 ?_ GE101.out|refine z8 ?_ GE102.out)|exact HB.out)) hb);clear BK101;clear BK102;clear HB;have BK101:=n0_;have BK102:=n1_;have HB:=n2_;clear n0_ n1_ n2_;(try clear hb);(try clear hb2);(try clear hk);(try clear hi);have hcz79_0 : w78.cell? ⟨gb101,0,none⟩ = some (.int .i64 a2_0):=(zb BK101.out 0).trans rfl;have hcz79_1 : w78.cell? ⟨gb101,1,none⟩ = some (.int .i64 a2_1):=(zb BK101.out 1).trans rfl;have hcz79_2 : w78.cell? ⟨gb101,2,none⟩ = some (.int .i64 a2_2):=(zb BK101.out 2).trans rfl;have hcz79_3 : w78.cell? ⟨gb101,3,none⟩ = some (.int .u64 a2_3):=(zb BK101.out 3).trans rfl;have hcz79_4 : w78.cell? ⟨gb101,4,none⟩ = some (.int .u64 a2_4):=(zb BK101.out 4).trans rfl;have hfz79_0:=z9 BK101.out 0;have hfz79_1:=z9 BK101.out 1;have hfz79_2:=z9 BK101.out 2;have hfz79_3:=z9 BK101.out 3;have hfz79_4:=z9 BK101.out 4;have p108 : 0 ≤ (a2_1 : Int):=of_decide_eq_true (by first|(with_reducible assumption)|assumption);have q108 : a2_1 < (l3.length : Int):=of_decide_eq_true (by first|(with_reducible assumption)|assumption);obtain ⟨ad108,e108,hx108_0⟩:=Kd.z1v HR3.out a2_1 p108 q108;cases e108;replace hx108_0:=(HB.out.cell (World.block_lt_of_cell? w _ hx108_0)).trans hx108_0;replace p108:=eq_true p108;replace q108:=eq_true q108;have p109 : 0 ≤ (a2_2 : Int):=of_decide_eq_true (by first|(with_reducible assumption)|assumption);have q109 : a2_2 < (l3.length : Int):=of_decide_eq_true (by first|(with_reducible assumption)|assumption);obtain ⟨ad109,e109,hx109_0⟩:=Kd.z1v HR3.out a2_2 p109 q109;obtain rfl : ad108 = ad109:=(by injection e109);replace hx109_0:=(HB.out.cell (World.block_lt_of_cell? w _ hx109_0)).trans hx109_0;replace p109:=eq_true p109;replace q109:=eq_true q109));try go_wp2_with (first|(go_at_call 105;(with_reducible refine (z1n.calls a2_0 a2_1 a2_2 a2_3 a2_4 (l3.length : Int) true _ A69.out).mono ?_);rintro e w78 ⟨rfl,hb⟩;have n0_:=z7.mk (zj (g:=gb101) (o:=.cells #[.int .i64 a2_0,.int .i64 a2_1,.int .i64 a2_2,.int .u64 a2_3,.int .u64 a2_4] 87 (0,0)) (by (with_reducible repeat (first|refine z2 ?_ _|refine z5 ?_|refine z1 ?_ _));exact BK101.out) hb);have n1_:=z7.mk (zj (g:=gb102) (o:=.cells #[.int .u64 0,.int .u64 0] 51 (0,0)) (by (with_reducible repeat (first|refine z2 ?_ _|refine z5 ?_|refine z1 ?_ _));exact BK102.out) hb);have n2_:=z7.mk (zi (by repeat (first|(with_reducible first|exact HB.out|apply z4|apply z0|apply z3|refine z8 ?_ GE101.out|refine z8 ?_ GE102.out)|exact HB.out)) hb);clear BK101;clear BK102;clear HB;have BK101:=n0_;have BK102:=n1_;have HB:=n2_;clear n0_ n1_ n2_;(try clear hb);(try clear hb2);(try clear hk);(try clear hi);have hcz79_0 : w78.cell? ⟨gb101,0,none⟩ = some (.int .i64 a2_0):=(zb BK101.out 0).trans rfl;have hcz79_1 : w78.cell? ⟨gb101,1,none⟩ = some (.int .i64 a2_1):=(zb BK101.out 1).trans rfl;have hcz79_2 : w78.cell? ⟨gb101,2,none⟩ = some (.int .i64 a2_2):=(zb BK101.out 2).trans rfl;have hcz79_3 : w78.cell? ⟨gb101,3,none⟩ = some (.int .u64 a2_3):=(zb BK101.out 3).trans rfl;have hcz79_4 : w78.cell? ⟨gb101,4,none⟩ = some (.int .u64 a2_4):=(zb BK101.out 4).trans rfl;have hfz79_0:=z9 BK101.out 0;have hfz79_1:=z9 BK101.out 1;have hfz79_2:=z9 BK101.out 2;have hfz79_3:=z9 BK101.out 3;have hfz79_4:=z9 BK101.out 4;have p108 : 0 ≤ (a2_1 : Int):=of_decide_eq_true (by first|(with_reducible assumption)|assumption);have q108 : a2_1 < (l3.length : Int):=of_decide_eq_true (by first|(with_reducible assumption)|assumption);obtain ⟨ad108,e108,hx108_0⟩:=Kd.z1v HR3.out a2_1 p108 q108;cases e108;replace hx108_0:=(HB.out.cell (World.block_lt_of_cell? w _ hx108_0)).trans hx108_0;replace p108:=eq_true p108;replace q108:=eq_true q108;have p109 : 0 ≤ (a2_2 : Int):=of_decide_eq_true (by first|(with_reducible assumption)|assumption);have q109 : a2_2 < (l3.length : Int):=of_decide_eq_true (by first|(with_reducible assumption)|assumption);obtain ⟨ad109,e109,hx109_0⟩:=Kd.z1v HR3.out a2_2 p109 q109;obtain rfl : ad108 = ad109:=(by injection e109);replace hx109_0:=(HB.out.cell (World.block_lt_of_cell? w _ hx109_0)).trans hx109_0;replace p109:=eq_true p109;replace q109:=eq_true q109)))
       go_ret2
       exact ⟨by first|rfl|(simp [zl,zm] <;> rfl)|(simp [*,zl,zm] <;> rfl),by repeat (first|(with_reducible first|exact HB.out|apply z4|apply z0|apply z3|refine z8 ?_ GE101.out|refine z8 ?_ GE102.out)|exact HB.out)⟩
end Go.Proofs.Ytngcaphdkgihmaa.P
namespace Go.Proofs.Ytngcaphdkgihmaa.P
open Go.RowKit Go.Proofs.YtngcaphdkgihmaaW.PrintWords Go.Proofs.YtngcaphdkgihmaaW.PrintLast Go.Proofs.YtngcaphdkgihmaaW.PrintMore
attribute [local go_sem] z14 z16 z1b z1c z10 z11 z15 z17   -- for this text's walks alone
set_option linter.unusedVariables false
set_option linter.unusedSimpArgs false
mutual
def zu.j0 : Nat → Int → Int → List (S87) → Bool → Option (List Int × Int)
 | 0,_,_,_,_=>none
 | k + 1,x0,x1,x2,x13=>if x13 = true then (some (([] : List Int),1)) else (if (x2.length : Int) = 0 then (some (([] : List Int),3)) else (if (x2.length : Int) > 200 then (some (([] : List Int),2)) else (zu.l0 k x0 x1 ([] : List Int) x2 (x2.length : Int) 0)))
def zu.l0 : Nat → Int → Int → List Int → List (S87) → Int → Int → Option (List Int × Int)
 | 0,_,_,_,_,_,_=>none
 | k + 1,x0,x1,x8,x29,x30,x31=>if x31 < x30 then (if 0 ≤ x31 then (if x31 < (x29.length : Int) then ((zH.f k x0 x1 ((zd x29 x31).f0) ((zd x29 x31).f1) ((zd x29 x31).f2) ((zd x29 x31).f3.f0) ((zd x29 x31).f3.f1) x8).bind fun bt104=>(if bt104.2 = 0 then (zu.j2 k x0 x1 x8 bt104.1 bt104.2 x29 x30 x31 (decide (bt104.1 > 8))) else (zu.j2 k x0 x1 x8 bt104.1 bt104.2 x29 x30 x31 false))) else (none)) else (none)) else (some (x8,0))
def zu.j2 : Nat → Int → Int → List Int → Int → Int → List (S87) → Int → Int → Bool → Option (List Int × Int)
 | 0,_,_,_,_,_,_,_,_,_=>none
 | k + 1,x0,x1,x8,x11,x12,x29,x30,x31,x48=>if x48 = true then (some (([] : List Int),7)) else (if x12 = 0 then (if x8.length < 17592186044416 then (zu.l0 k x0 x1 (x8 ++ [x11]) x29 x30 (wrap64 (x31 + 1))) else (none)) else (some (([] : List Int),x12)))
end
def zu.f (k : Nat) (a0 : Int) (a1 : Int) (l2 : List (S87)) : Option (List Int × Int):=(zS.f k a0).bind fun t101=>(if t101 = 0 then (zu.j0 k a0 a1 l2 true) else (zu.j0 k a0 a1 l2 (decide (a1 < 0))))
theorem zu.z18 : ∀ k,(∀ y0 y1 y2 y3,LeO (zu.j0 k y0 y1 y2 y3) (zu.j0 (k + 1) y0 y1 y2 y3)) ∧ (∀ y0 y1 y2 y3 y4 y5,LeO (zu.l0 k y0 y1 y2 y3 y4 y5) (zu.l0 (k + 1) y0 y1 y2 y3 y4 y5)) ∧ (∀ y0 y1 y2 y3 y4 y5 y6 y7 y8,LeO (zu.j2 k y0 y1 y2 y3 y4 y5 y6 y7 y8) (zu.j2 (k + 1) y0 y1 y2 y3 y4 y5 y6 y7 y8))
 | 0=>⟨fun _ _ _ _ r h=>by simp [zu.j0] at h,fun _ _ _ _ _ _ r h=>by simp [zu.l0] at h,fun _ _ _ _ _ _ _ _ _ r h=>by simp [zu.j2] at h⟩
 | k + 1=>by
  obtain ⟨ih0,ih1,ih2⟩:=zu.z18 k
  refine ⟨?_,?_,?_⟩
  · intro y0 y1 y2 y3
    unfold zu.j0
    repeat' first
    | (with_reducible exact ih0 _ _ _ _)
    | (with_reducible exact ih1 _ _ _ _ _ _)
    | (with_reducible exact ih2 _ _ _ _ _ _ _ _ _)
    | (with_reducible exact zH.mono _ _ _ _ _ _ _ _ _)
    | (with_reducible exact zS.mono _ _)
    | (with_reducible exact LeO.refl _)
    | (with_reducible exact LeO.none _)
    | (with_reducible refine LeO.ite ?_ ?_)
    | (with_reducible refine LeO.bind ?_ (fun _=>?_))
    | exact ih0 _ _ _ _
    | exact ih1 _ _ _ _ _ _
    | exact ih2 _ _ _ _ _ _ _ _ _
    | exact zH.mono _ _ _ _ _ _ _ _ _
    | exact zS.mono _ _
    | exact LeO.none _
    | refine LeO.ite ?_ ?_
    | refine LeO.bind ?_ (fun _=>?_)
  · intro y0 y1 y2 y3 y4 y5
    unfold zu.l0
    repeat' first
    | (with_reducible exact ih0 _ _ _ _)
    | (with_reducible exact ih1 _ _ _ _ _ _)
    | (with_reducible exact ih2 _ _ _ _ _ _ _ _ _)
    | (with_reducible exact zH.mono _ _ _ _ _ _ _ _ _)
    | (with_reducible exact zS.mono _ _)
    | (with_reducible exact LeO.refl _)
    | (with_reducible exact LeO.none _)
    | (with_reducible refine LeO.ite ?_ ?_)
    | (with_reducible refine LeO.bind ?_ (fun _=>?_))
    | exact ih0 _ _ _ _
    | exact ih1 _ _ _ _ _ _
    | exact ih2 _ _ _ _ _ _ _ _ _
    | exact zH.mono _ _ _ _ _ _ _ _ _
    | exact zS.mono _ _
    | exact LeO.none _
    | refine LeO.ite ?_ ?_
    | refine LeO.bind ?_ (fun _=>?_)
  · intro y0 y1 y2 y3 y4 y5 y6 y7 y8
    unfold zu.j2
    repeat' first
    | (with_reducible exact ih0 _ _ _ _)
    | (with_reducible exact ih1 _ _ _ _ _ _)
    | (with_reducible exact ih2 _ _ _ _ _ _ _ _ _)
    | (with_reducible exact zH.mono _ _ _ _ _ _ _ _ _)
    | (with_reducible exact zS.mono _ _)
    | (with_reducible exact LeO.refl _)
    | (with_reducible exact LeO.none _)
    | (with_reducible refine LeO.ite ?_ ?_)
    | (with_reducible refine LeO.bind ?_ (fun _=>?_))
    | exact ih0 _ _ _ _
    | exact ih1 _ _ _ _ _ _
    | exact ih2 _ _ _ _ _ _ _ _ _
    | exact zH.mono _ _ _ _ _ _ _ _ _
    | exact zS.mono _ _
    | exact LeO.none _
    | refine LeO.ite ?_ ?_
    | refine LeO.bind ?_ (fun _=>?_)
theorem zu.mono : ∀ a0 a1 a2 k,LeO (zu.f k a0 a1 a2) (zu.f (k + 1) a0 a1 a2):=by
 intro a0 a1 a2 k
 obtain ⟨ih0,ih1,ih2⟩:=zu.z18 k
 unfold zu.f
 repeat' first
  | (with_reducible exact ih0 _ _ _ _)
  | (with_reducible exact ih1 _ _ _ _ _ _)
  | (with_reducible exact ih2 _ _ _ _ _ _ _ _ _)
  | (with_reducible exact zH.mono _ _ _ _ _ _ _ _ _)
  | (with_reducible exact zS.mono _ _)
  | (with_reducible exact LeO.refl _)
  | (with_reducible exact LeO.none _)
  | (with_reducible refine LeO.ite ?_ ?_)
  | (with_reducible refine LeO.bind ?_ (fun _=>?_))
  | exact ih0 _ _ _ _
  | exact ih1 _ _ _ _ _ _
  | exact ih2 _ _ _ _ _ _ _ _ _
  | exact zH.mono _ _ _ _ _ _ _ _ _
  | exact zS.mono _ _
  | exact LeO.none _
  | refine LeO.ite ?_ ?_
  | refine LeO.bind ?_ (fun _=>?_)
set_option maxHeartbeats 8000000 in
set_option maxRecDepth 100000 in
theorem zu.calls (k : Nat) (a0 : Int) (a1 : Int) (A2 : Option Addr) (c2 : Nat) (l2 : List (S87)) (r1 : List Int) (r2 : Int) (w : World) (hr2 : Kd.C k87 w A2 l2.length l2) (hc2 : l2.length ≤ c2) (h : zu.f k a0 a1 l2 = some (r1,r2)) :
 Calls Try.prog 88 #[.int .i64 a0,.int .i64 a1,.slice A2 l2.length c2] w fun e w'=>∃ v0_ : Value,e = .returned (.tuple #[v0_,.int .i64 r2]) ∧ Kd.R (Kd.int .i64) 3 w' w.heap.size (fun _=>True) v0_ r1 ∧ Below w.heap.size w w':=by
 have hu87:=Try.underlying87
 have HR2:=z7.mk hr2
 have HC2:=z7.mk hc2
 clear hr2 hc2
 have HB:=z7.mk (Below.refl w.heap.size w)
 have H : ((zS.f k a0).bind fun t101=>(if t101 = 0 then (zu.j0 k a0 a1 l2 true) else (zu.j0 k a0 a1 l2 (decide (a1 < 0))))) = some (r1,r2):=h
 clear h
 have HC4:=z7.mk H
 clear H
 go_enter Try.func88,Try.ntmps88
 go_upto_region 1 with (fail)
 go_cut [13] (fun v13 wc=>∃ (kq : Nat) (x13_3 : Bool),v13 = .bool x13_3 ∧ z7 (zu.j0 kq a0 a1 l2 x13_3 = some (r1,r2)) ∧ z7 (kq ≤ k) ∧ z7 (Below w.heap.size w wc))
 case first =>
  have H:=HC4.out
  clear HC4
  replace H:=Option.bind_eq_some_iff.mp H
  obtain ⟨t101,A50,H⟩:=H
  replace H : (if t101 = 0 then (zu.j0 k a0 a1 l2 true) else (zu.j0 k a0 a1 l2 (decide (a1 < 0)))) = some (r1,r2):=H
  have A5:=z7.mk A50
  clear A50
  by_cases c6 : t101 = 0
  rotate_left
  · rw [if_neg c6] at H
    have c6b0 : (t101 == 0) = false:=beq_eq_false_iff_ne.mpr c6
    have c6b1 : (t101 != 0) = true:=bne_iff_ne.mpr c6
    (first|rw [c6b0]|(simp only [zD,zF];rw [c6b0])|skip)
    have H':=z7.mk H
    clear H
    go_wp2_with (first|((with_reducible refine zG (f:=78) rfl ?_);refine goesL_ (some 15) rfl rfl Try.func78 (by kernel_rfl) rfl #[.int .i64 a0] rfl (by (try simp only [List.map_toArray,List.map_cons,List.map_nil]);first|done|rfl|(simp only [List.length_drop,List.length_take];rfl)) ?_;(with_reducible refine (zS.calls k a0 t101 _ A5.out).mono ?_);rintro e w' ⟨rfl,⟨nd,rfl⟩⟩;refine ⟨_,rfl,?_⟩))
    go_meet
    case rel=>exact ⟨_,(decide (a1 < 0)),(by first|rfl|(simp;done)|(simp [*];done)),H',⟨by first|omega|exact Nat.le_refl _⟩,⟨by repeat (first|(with_reducible first|exact HB.out|apply z4|apply z0|apply z3)|exact HB.out)⟩⟩
  rw [if_pos c6] at H
  have c6b0 : (t101 == 0) = true:=beq_iff_eq.mpr c6
  have c6b1 : (t101 != 0) = false:=bne_eq_false_iff_eq.mpr c6
  clear c6
  (first|rw [c6b0]|(simp only [zD,zF];rw [c6b0])|skip)
  have H':=z7.mk H
  clear H
  go_wp2_with (first|((with_reducible refine zG (f:=78) rfl ?_);refine goesL_ (some 15) rfl rfl Try.func78 (by kernel_rfl) rfl #[.int .i64 a0] rfl (by (try simp only [List.map_toArray,List.map_cons,List.map_nil]);first|done|rfl|(simp only [List.length_drop,List.length_take];rfl)) ?_;(with_reducible refine (zS.calls k a0 t101 _ A5.out).mono ?_);rintro e w' ⟨rfl,⟨nd,rfl⟩⟩;refine ⟨_,rfl,?_⟩))
  go_meet
  case rel=>exact ⟨_,(true),(by first|rfl|(simp;done)|(simp [*];done)),H',⟨by first|omega|exact Nat.le_refl _⟩,⟨by repeat (first|(with_reducible first|exact HB.out|apply z4|apply z0|apply z3)|exact HB.out)⟩⟩
 case rest =>
  clear HC4
  (try clear c2);(try clear p2);(try clear c6);(try clear c6b0);(try clear c6b1)
  obtain ⟨kq,x13_3,rfl,HA,HJ3,HB⟩:=hcut
  cases kq with
  | zero=>exact absurd HA.out (by simp [zu.j0])
  | succ kj3 =>
   have H:=HA.out
   clear HA
   simp only [zu.j0] at H
   by_cases c7 : x13_3 = true
   · subst c7
     have H1 : (some (([] : List Int),1)) = some (r1,r2):=by rw [if_pos rfl] at H;exact H
     clear H
     have H:=H1
     clear H1
     simp only [Option.some.injEq,Prod.mk.injEq] at H
     obtain ⟨rfl,rfl⟩:=H
     go_wp2
     go_ret2
     exact ⟨_,by first|rfl|(simp [zl,zm] <;> rfl)|(simp [*,zl,zm] <;> rfl),by first|exact Kd.z2t _ _ _ _ _|exact Kd.z2V _ _ _ _ _|exact Kd.z2Z _ _ _ _ _|exact Kd.z2X _ _ _ _ _|exact Kd.z2Y _ _ _ _ _,by repeat (first|(with_reducible first|exact HB.out|apply z4|apply z0|apply z3)|exact HB.out)⟩
   replace c7:=Bool.eq_false_iff.mpr c7
   subst c7
   have H1 : (if (l2.length : Int) = 0 then (some (([] : List Int),3)) else (if (l2.length : Int) > 200 then (some (([] : List Int),2)) else (zu.l0 kj3 a0 a1 ([] : List Int) l2 (l2.length : Int) 0))) = some (r1,r2):=by rw [if_neg (show ¬ (false = true) by decide)] at H;exact H
   clear H
   have H:=H1
   clear H1
   by_cases c8 : (l2.length : Int) = 0
   · rw [if_pos c8] at H
     have c8b0 : ((l2.length : Int) == 0) = true:=beq_iff_eq.mpr c8
     have c8b1 : ((l2.length : Int) != 0) = false:=bne_eq_false_iff_eq.mpr c8
     clear c8
     simp only [Option.some.injEq,Prod.mk.injEq] at H
     obtain ⟨rfl,rfl⟩:=H
     go_wp2
     go_ret2
     exact ⟨_,by first|rfl|(simp [zl,zm] <;> rfl)|(simp [*,zl,zm] <;> rfl),by first|exact Kd.z2t _ _ _ _ _|exact Kd.z2V _ _ _ _ _|exact Kd.z2Z _ _ _ _ _|exact Kd.z2X _ _ _ _ _|exact Kd.z2Y _ _ _ _ _,by repeat (first|(with_reducible first|exact HB.out|apply z4|apply z0|apply z3)|exact HB.out)⟩
   rw [if_neg c8] at H
   have c8b0 : ((l2.length : Int) == 0) = false:=beq_eq_false_iff_ne.mpr c8
   have c8b1 : ((l2.length : Int) != 0) = true:=bne_iff_ne.mpr c8
   have c8b2 : ¬ (l2 = []):=fun h_=>c8 (by rw [h_];rfl)
   by_cases c9 : (l2.length : Int) > 200
   · rw [if_pos c9] at H
     have c9b0 : decide (200 < (l2.length : Int)) = true:=decide_eq_true c9
     have c9b1 : decide (200 < l2.length) = true:=decide_eq_true (by omega)
     clear c9
     simp only [Option.some.injEq,Prod.mk.injEq] at H
     obtain ⟨rfl,rfl⟩:=H
     go_wp2
     go_ret2
     exact ⟨_,by first|rfl|(simp [zl,zm] <;> rfl)|(simp [*,zl,zm] <;> rfl),by first|exact Kd.z2t _ _ _ _ _|exact Kd.z2V _ _ _ _ _|exact Kd.z2Z _ _ _ _ _|exact Kd.z2X _ _ _ _ _|exact Kd.z2Y _ _ _ _ _,by repeat (first|(with_reducible first|exact HB.out|apply z4|apply z0|apply z3)|exact HB.out)⟩
   rw [if_neg c9] at H
   have c9b0 : decide (200 < (l2.length : Int)) = false:=decide_eq_false c9
   have c9b1 : decide (200 < l2.length) = false:=decide_eq_false (by omega)
   clear c9
   have H':=z7.mk H
   clear H
   go_wp2
   go_loopg [8,31] kj3 (fun kq v8 v31 w'=>∃ (x8_2 : List Int) (x31_2 : Int),v31 = .int .i64 x31_2 ∧ z7 (zu.l0 kq a0 a1 x8_2 l2 (l2.length : Int) x31_2 = some (r1,r2)) ∧ z7 (kq ≤ kj3) ∧ z7 (Kd.R (Kd.int .i64) 3 w' w.heap.size (fun _=>True) v8 x8_2) ∧ z7 (Below w.heap.size w w'))
   case atStart=>exact ⟨(([] : List Int)),(0),(by first|rfl|(simp;done)|(simp [*];done)),H',⟨Nat.le_refl _⟩,⟨by first|exact Kd.z2t _ _ _ _ _|exact Kd.z2V _ _ _ _ _|exact Kd.z2Z _ _ _ _ _|exact Kd.z2X _ _ _ _ _|exact Kd.z2Y _ _ _ _ _⟩,⟨by repeat (first|(with_reducible first|exact HB.out|apply z4|apply z0|apply z3)|exact HB.out)⟩⟩
   case round =>
    clear H'
    (try clear c2);(try clear p2);(try clear c6);(try clear c6b0);(try clear c6b1);(try clear c7);(try clear c8);(try clear c8b0);(try clear c8b1);(try clear c8b2);(try clear c9);(try clear c9b0);(try clear c9b1);(try clear p2)
    obtain ⟨x8_2,x31_2,rfl,HA,HK2,HO_8,HB⟩:=hrel
    cases gk with
    | zero=>exact absurd HA.out (by simp [zu.l0])
    | succ k2 =>
     have H:=HA.out
     clear HA
     simp only [zu.l0] at H
     by_cases c10 : x31_2 < (l2.length : Int)
     rotate_left
     · rw [if_neg c10] at H
       have c10b0 : decide (x31_2 < (l2.length : Int)) = false:=decide_eq_false c10
       clear c10
       simp only [Option.some.injEq,Prod.mk.injEq] at H
       obtain ⟨rfl,rfl⟩:=H
       go_wp2
       go_ret2
       exact ⟨_,by first|rfl|(simp [zl,zm] <;> rfl)|(simp [*,zl,zm] <;> rfl),by (with_reducible repeat (first|apply Kd.zw|apply Kd.zx|apply Kd.zC));exact HO_8.out,by repeat (first|(with_reducible first|exact HB.out|apply z4|apply z0|apply z3)|exact HB.out)⟩
     rw [if_pos c10] at H
     have c10b0 : decide (x31_2 < (l2.length : Int)) = true:=decide_eq_true c10
     clear c10
     by_cases c11 : 0 ≤ x31_2
     rotate_left
     · rw [if_neg c11] at H
       exact absurd H (by simp)
     rw [if_pos c11] at H
     have c11b0 : decide (0 ≤ x31_2) = true:=decide_eq_true c11
     clear c11
     by_cases c12 : x31_2 < (l2.length : Int)
     rotate_left
     · rw [if_neg c12] at H
       exact absurd H (by simp)
     rw [if_pos c12] at H
     have c12b0 : decide (x31_2 < (l2.length : Int)) = true:=decide_eq_true c12
     clear c12
     replace H:=Option.bind_eq_some_iff.mp H
     obtain ⟨⟨t104,t105⟩,A130,H⟩:=H
     replace H : (if t105 = 0 then (zu.j2 k2 a0 a1 x8_2 t104 t105 l2 (l2.length : Int) x31_2 (decide (t104 > 8))) else (zu.j2 k2 a0 a1 x8_2 t104 t105 l2 (l2.length : Int) x31_2 false)) = some (r1,r2):=H
     have A13:=z7.mk A130
     clear A130
     have HC14:=z7.mk H
     clear H
     have p102 : 0 ≤ (x31_2 : Int):=of_decide_eq_true (by first|(with_reducible assumption)|assumption)
     have q102 : x31_2 < (l2.length : Int):=of_decide_eq_true (by first|(with_reducible assumption)|assumption)
     obtain ⟨ad102,e102,hx102_0,hx102_1,hx102_2,hx102_3,hx102_4⟩:=z22 HR2.out x31_2 p102 q102
     cases e102
     replace hx102_0:=(HB.out.cell (World.block_lt_of_cell? w _ hx102_0)).trans hx102_0
     replace hx102_1:=(HB.out.cell (World.block_lt_of_cell? w _ hx102_1)).trans hx102_1
     replace hx102_2:=(HB.out.cell (World.block_lt_of_cell? w _ hx102_2)).trans hx102_2
     replace hx102_3:=(HB.out.cell (World.block_lt_of_cell? w _ hx102_3)).trans hx102_3
     replace hx102_4:=(HB.out.cell (World.block_lt_of_cell? w _ hx102_4)).trans hx102_4
     replace p102:=eq_true p102
     replace q102:=eq_true q102
     go_upto_region 12 with (first|((with_reducible refine zM (N:=10) rfl ?_);refine zI ?hg (N:=10) ?hd (cs:=#[.int .i64 0,.int .i64 0,.int .i64 0,.int .u64 0,.int .u64 0]) (t:=87) ?hr ?_;(case hd=>rfl);(case hg=>rfl);(case hr=>first|(go_simp;done)|(go_simp;rfl));intro gb103 hg w15 hbox hb;have n0_:=z7.mk (Kd.zV (by (with_reducible repeat (first|apply Kd.zw|apply Kd.zx|apply Kd.zC));exact HO_8.out) hb);have n1_:=z7.mk (zi (by repeat (first|(with_reducible first|exact HB.out|apply z4|apply z0|apply z3)|exact HB.out)) hb);have n2_:=z7.mk (hbox);have n3_:=z7.mk ((by rw [hg];exact (zf (by repeat (first|(with_reducible first|exact HB.out|apply z4|apply z0|apply z3)|exact HB.out))) : w.heap.size ≤ gb103));have n4_:=z7.mk ((by rw [hg];exact (zf (by repeat (first|(with_reducible first|exact HB.out|apply z4|apply z0|apply z3)|exact HB.out))) : w.heap.size ≤ gb103));clear HO_8;clear HB;have HO_8:=n0_;have HB:=n1_;have BK103:=n2_;have GW103:=n3_;have GE103:=n4_;clear n0_ n1_ n2_ n3_ n4_;clear hb hbox hg;have hcz16_0 : w15.cell? ⟨gb103,0,none⟩ = some (.int .i64 0):=(zb BK103.out 0).trans rfl;have hcz16_1 : w15.cell? ⟨gb103,1,none⟩ = some (.int .i64 0):=(zb BK103.out 1).trans rfl;have hcz16_2 : w15.cell? ⟨gb103,2,none⟩ = some (.int .i64 0):=(zb BK103.out 2).trans rfl;have hcz16_3 : w15.cell? ⟨gb103,3,none⟩ = some (.int .u64 0):=(zb BK103.out 3).trans rfl;have hcz16_4 : w15.cell? ⟨gb103,4,none⟩ = some (.int .u64 0):=(zb BK103.out 4).trans rfl;have hfz16_0:=z9 BK103.out 0;have hfz16_1:=z9 BK103.out 1;have hfz16_2:=z9 BK103.out 2;have hfz16_3:=z9 BK103.out 3;have hfz16_4:=z9 BK103.out 4;obtain ⟨Ao17,co17,eo17⟩:=Kd.z1o HO_8.out;subst eo17)|((with_reducible refine zG (f:=99) rfl ?_);refine goesL_ (some 40) rfl rfl Try.func99 (by kernel_rfl) rfl #[.int .i64 a0,.int .i64 a1,.agg #[.int .i64 ((zd l2 x31_2).f0),.int .i64 ((zd l2 x31_2).f1),.int .i64 ((zd l2 x31_2).f2),.int .u64 ((zd l2 x31_2).f3.f0),.int .u64 ((zd l2 x31_2).f3.f1)],.slice Ao17 x8_2.length co17] rfl (by (try simp only [List.map_toArray,List.map_cons,List.map_nil]);first|done|rfl|(simp only [List.length_drop,List.length_take];rfl)) ?_;(with_reducible refine (zH.calls k2 a0 a1 ((zd l2 x31_2).f0) ((zd l2 x31_2).f1) ((zd l2 x31_2).f2) ((zd l2 x31_2).f3.f0) ((zd l2 x31_2).f3.f1) _ _ x8_2 t104 t105 _ ?side1 ?side2 A13.out).mono ?_);(case side1=>refine (Kd.zQ (e:=3) (base:=w.heap.size) (ok:=fun k_=>True) (n:=x8_2.length) (c:=co17) ?_).2.2;exact (by (with_reducible repeat (first|apply Kd.zw|apply Kd.zx|apply Kd.zC));exact (Kd.z1a (Kd.z1d (p:=⟨gb103,4,none⟩) (Kd.z1d (p:=⟨gb103,3,none⟩) (Kd.z1d (p:=⟨gb103,2,none⟩) (Kd.z1d (p:=⟨gb103,1,none⟩) (Kd.z1d (p:=⟨gb103,0,none⟩) (Kd.z1J HO_8.out BK103.out (by decide)) (fun _ hk=>hk.2) (.int .i64 ((zd l2 x31_2).f0))) (fun _ hk=>hk.2) (.int .i64 ((zd l2 x31_2).f1))) (fun _ hk=>hk.2) (.int .i64 ((zd l2 x31_2).f2))) (fun _ hk=>hk.2) (.int .u64 ((zd l2 x31_2).f3.f0))) (fun _ hk=>hk.2) (.int .u64 ((zd l2 x31_2).f3.f1))) (fun _ h_=>h_.1))));(case side2=>exact (Kd.zQ HO_8.out).2.1);rintro e w18 ⟨rfl,hb⟩;refine ⟨_,rfl,?_⟩;have n0_:=z7.mk (Kd.zV (by (with_reducible repeat (first|apply Kd.zw|apply Kd.zx|apply Kd.zC));exact (Kd.z1a (Kd.z1d (p:=⟨gb103,4,none⟩) (Kd.z1d (p:=⟨gb103,3,none⟩) (Kd.z1d (p:=⟨gb103,2,none⟩) (Kd.z1d (p:=⟨gb103,1,none⟩) (Kd.z1d (p:=⟨gb103,0,none⟩) (Kd.z1J HO_8.out BK103.out (by decide)) (fun _ hk=>hk.2) (.int .i64 ((zd l2 x31_2).f0))) (fun _ hk=>hk.2) (.int .i64 ((zd l2 x31_2).f1))) (fun _ hk=>hk.2) (.int .i64 ((zd l2 x31_2).f2))) (fun _ hk=>hk.2) (.int .u64 ((zd l2 x31_2).f3.f0))) (fun _ hk=>hk.2) (.int .u64 ((zd l2 x31_2).f3.f1))) (fun _ h_=>h_.1))) hb);have n1_:=z7.mk (zj (g:=gb103) (o:=.cells #[.int .i64 ((zd l2 x31_2).f0),.int .i64 ((zd l2 x31_2).f1),.int .i64 ((zd l2 x31_2).f2),.int .u64 ((zd l2 x31_2).f3.f0),.int .u64 ((zd l2 x31_2).f3.f1)] 87 (0,0)) (by (with_reducible repeat (first|refine z2 ?_ _|refine z5 ?_|refine z1 ?_ _));refine zq (cs:=#[.int .i64 ((zd l2 x31_2).f0),.int .i64 ((zd l2 x31_2).f1),.int .i64 ((zd l2 x31_2).f2),.int .u64 ((zd l2 x31_2).f3.f0),.int .u64 0]) ?_ 4 _ rfl;(with_reducible repeat (first|refine z2 ?_ _|refine z5 ?_|refine z1 ?_ _));refine zq (cs:=#[.int .i64 ((zd l2 x31_2).f0),.int .i64 ((zd l2 x31_2).f1),.int .i64 ((zd l2 x31_2).f2),.int .u64 0,.int .u64 0]) ?_ 3 _ rfl;(with_reducible repeat (first|refine z2 ?_ _|refine z5 ?_|refine z1 ?_ _));refine zq (cs:=#[.int .i64 ((zd l2 x31_2).f0),.int .i64 ((zd l2 x31_2).f1),.int .i64 0,.int .u64 0,.int .u64 0]) ?_ 2 _ rfl;(with_reducible repeat (first|refine z2 ?_ _|refine z5 ?_|refine z1 ?_ _));refine zq (cs:=#[.int .i64 ((zd l2 x31_2).f0),.int .i64 0,.int .i64 0,.int .u64 0,.int .u64 0]) ?_ 1 _ rfl;(with_reducible repeat (first|refine z2 ?_ _|refine z5 ?_|refine z1 ?_ _));refine zq (cs:=#[.int .i64 0,.int .i64 0,.int .i64 0,.int .u64 0,.int .u64 0]) ?_ 0 _ rfl;(with_reducible repeat (first|refine z2 ?_ _|refine z5 ?_|refine z1 ?_ _));exact BK103.out) hb);have n2_:=z7.mk (zi (by repeat (first|(with_reducible first|exact HB.out|apply z4|apply z0|apply z3|refine z8 ?_ GE103.out)|exact HB.out)) hb);clear HO_8;clear BK103;clear HB;have HO_8:=n0_;have BK103:=n1_;have HB:=n2_;clear n0_ n1_ n2_;(try clear hb);(try clear hb2);(try clear hk);(try clear hi)))
     (try simp only [Act.put,List.setIfInBounds_toArray,List.set_cons_zero,List.set_cons_succ])
     go_cut [48] (fun v48 wc=>∃ (kq : Nat) (x48_13 : Bool),v48 = .bool x48_13 ∧ z7 (zu.j2 kq a0 a1 x8_2 t104 t105 l2 (l2.length : Int) x31_2 x48_13 = some (r1,r2)) ∧ z7 (kq ≤ k2) ∧ z7 (Kd.R (Kd.int .i64) 3 wc w.heap.size (fun _=>True) (.slice Ao17 x8_2.length co17) x8_2) ∧ z7 (wc.heap[gb103]? = some (.cells #[.int .i64 ((zd l2 x31_2).f0),.int .i64 ((zd l2 x31_2).f1),.int .i64 ((zd l2 x31_2).f2),.int .u64 ((zd l2 x31_2).f3.f0),.int .u64 ((zd l2 x31_2).f3.f1)] 87 (0,0))) ∧ z7 (Below w.heap.size w wc))
     case first =>
      have H:=HC14.out
      clear HC14
      by_cases c19 : t105 = 0
      rotate_left
      · rw [if_neg c19] at H
        have c19b0 : (t105 == 0) = false:=beq_eq_false_iff_ne.mpr c19
        have c19b1 : (t105 != 0) = true:=bne_iff_ne.mpr c19
        (first|rw [c19b0]|(simp only [zD,zF];rw [c19b0])|skip)
        have H':=z7.mk H
        clear H
        go_wp2
        go_meet
        case rel=>exact ⟨_,(false),(by first|rfl|(simp;done)|(simp [*];done)),H',⟨by have:=HJ3.out;have:=HK2.out;first|omega|exact Nat.le_refl _⟩,⟨by (with_reducible repeat (first|apply Kd.zw|apply Kd.zx|apply Kd.zC));exact HO_8.out⟩,⟨by (with_reducible repeat (first|refine z2 ?_ _|refine z5 ?_|refine z1 ?_ _));exact BK103.out⟩,⟨by repeat (first|(with_reducible first|exact HB.out|apply z4|apply z0|apply z3|refine z8 ?_ GE103.out)|exact HB.out)⟩⟩
      rw [if_pos c19] at H
      have c19b0 : (t105 == 0) = true:=beq_iff_eq.mpr c19
      have c19b1 : (t105 != 0) = false:=bne_eq_false_iff_eq.mpr c19
      clear c19
      (first|rw [c19b0]|(simp only [zD,zF];rw [c19b0])|skip)
      have H':=z7.mk H
      clear H
      go_wp2
      go_meet
      case rel=>exact ⟨_,(decide (t104 > 8)),(by first|rfl|(simp;done)|(simp [*];done)),H',⟨by have:=HJ3.out;have:=HK2.out;first|omega|exact Nat.le_refl _⟩,⟨by (with_reducible repeat (first|apply Kd.zw|apply Kd.zx|apply Kd.zC));exact HO_8.out⟩,⟨by (with_reducible repeat (first|refine z2 ?_ _|refine z5 ?_|refine z1 ?_ _));exact BK103.out⟩,⟨by repeat (first|(with_reducible first|exact HB.out|apply z4|apply z0|apply z3|refine z8 ?_ GE103.out)|exact HB.out)⟩⟩
     case rest =>
      clear HC14
      (try clear c1);(try clear p1);(try clear q1);(try clear hx1);(try clear c2);(try clear p2);(try clear c6);(try clear c6b0);(try clear c6b1);(try clear c7);(try clear c8);(try clear c8b0);(try clear c8b1);(try clear c8b2);(try clear c9);(try clear c9b0);(try clear c9b1);(try clear c10);(try clear c10b0);(try clear p10);(try clear q10);(try clear hx10);(try clear c11);(try clear c11b0);(try clear c12);(try clear c12b0);(try clear c19);(try clear c19b0);(try clear c19b1);(try clear hcz16_0);(try clear hcz16_1);(try clear hcz16_2);(try clear hcz16_3);(try clear hcz16_4);(try clear hfz16_0);(try clear hfz16_1);(try clear hfz16_2);(try clear hfz16_3);(try clear hfz16_4);(try clear hx102_0);(try clear hx102_1);(try clear hx102_2);(try clear hx102_3);(try clear hx102_4);(try clear p102);(try clear p2);(try clear q102)
      obtain ⟨kq,x48_13,rfl,HA,HJ13,HO_8,BK103,HB⟩:=hcut
      cases kq with
      | zero=>exact absurd HA.out (by simp [zu.j2])
      | succ kj13 =>
       have H:=HA.out
       clear HA
       simp only [zu.j2] at H
       by_cases c20 : x48_13 = true
       · subst c20
         have H1 : (some (([] : List Int),7)) = some (r1,r2):=by rw [if_pos rfl] at H;exact H
         clear H
         have H:=H1
         clear H1
         simp only [Option.some.injEq,Prod.mk.injEq] at H
         obtain ⟨rfl,rfl⟩:=H
         go_wp2
         go_ret2
         exact ⟨_,by first|rfl|(simp [zl,zm] <;> rfl)|(simp [*,zl,zm] <;> rfl),by first|exact Kd.z2t _ _ _ _ _|exact Kd.z2V _ _ _ _ _|exact Kd.z2Z _ _ _ _ _|exact Kd.z2X _ _ _ _ _|exact Kd.z2Y _ _ _ _ _,by repeat (first|(with_reducible first|exact HB.out|apply z4|apply z0|apply z3|refine z8 ?_ GE103.out)|exact HB.out)⟩
       replace c20:=Bool.eq_false_iff.mpr c20
       subst c20
       have H1 : (if t105 = 0 then (if x8_2.length < 17592186044416 then (zu.l0 kj13 a0 a1 (x8_2 ++ [t104]) l2 (l2.length : Int) (wrap64 (x31_2 + 1))) else (none)) else (some (([] : List Int),t105))) = some (r1,r2):=by rw [if_neg (show ¬ (false = true) by decide)] at H;exact H
       clear H
       have H:=H1
       clear H1
       by_cases c21 : t105 = 0
       rotate_left
       · rw [if_neg c21] at H
         have c21b0 : (t105 == 0) = false:=beq_eq_false_iff_ne.mpr c21
         have c21b1 : (t105 != 0) = true:=bne_iff_ne.mpr c21
         simp only [Option.some.injEq,Prod.mk.injEq] at H
         obtain ⟨rfl,rfl⟩:=H
         go_wp2
         go_ret2
         exact ⟨_,by first|rfl|(simp [zl,zm] <;> rfl)|(simp [*,zl,zm] <;> rfl),by first|exact Kd.z2t _ _ _ _ _|exact Kd.z2V _ _ _ _ _|exact Kd.z2Z _ _ _ _ _|exact Kd.z2X _ _ _ _ _|exact Kd.z2Y _ _ _ _ _,by repeat (first|(with_reducible first|exact HB.out|apply z4|apply z0|apply z3|refine z8 ?_ GE103.out)|exact HB.out)⟩
       rw [if_pos c21] at H
       have c21b0 : (t105 == 0) = true:=beq_iff_eq.mpr c21
       have c21b1 : (t105 != 0) = false:=bne_eq_false_iff_eq.mpr c21
       clear c21
       by_cases c22 : x8_2.length < 17592186044416
       rotate_left
       · rw [if_neg c22] at H
         exact absurd H (by simp)
       rw [if_pos c22] at H
       have LMc22:=z7.mk c22
       clear c22
       obtain ⟨y106,hy106⟩ : ∃ y_ : List Int,y_ = (x8_2 ++ [t104]):=⟨_,rfl⟩
       replace H : (zu.l0 kj13 a0 a1 y106 l2 (l2.length : Int) (wrap64 (x31_2 + 1))) = some (r1,r2):=by first|(rw [hy106];with_reducible exact H)|(have H2_:=(Option.bind_some _ _).symm.trans H;rw [hy106];with_reducible exact H2_)|(have H2_:=(Option.bind_some _ _).symm.trans H;with_reducible exact H2_)|with_reducible exact H|(rw [hy106];exact H)|exact H
       have Ny106:=z7.mk hy106
       clear hy106
       have H':=z7.mk H
       clear H
       go_wp2_with (first|((with_reducible refine zX (b:=.append) (xs:=#[.tmp 52,.tmp 54]) rfl ?_);at_builtin;refine Kd.z1e (Kd.int .i64) (w0:=w) w.heap.size rfl (.tmp 52) (.tmp 54) 31 3 (.int .i64 0) 8 rfl Try.underlying31 info3 rfl (by decide) (by omega) (.slice Ao17 x8_2.length co17) x8_2 t104 [.int .i64 t104] (fun _=>True) (fun _=>False) rfl rfl ?aP (fun _ hk=>hk.elim) ?aF ?aO ?aB ?aS ?aL ?_;(case aP=>exact rfl);(case aB=>exact (by repeat (first|(with_reducible first|exact HB.out|apply z4|apply z0|apply z3|refine z8 ?_ GE103.out)|exact HB.out)));(case aF=>exact (fun _ _=>trivial));(case aO=>exact (by (with_reducible repeat (first|apply Kd.zw|apply Kd.zx|apply Kd.zC));exact HO_8.out));(case aS=>exact (zf (by repeat (first|(with_reducible first|exact HB.out|apply z4|apply z0|apply z3|refine z8 ?_ GE103.out)|exact HB.out))));(case aL=>have:=LMc22.out;omega);intro v107 w23 ho hb hg hat;rw [← Ny106.out] at ho;have n0_:=z7.mk (z1f (g:=gb103) (o:=.cells #[.int .i64 ((zd l2 x31_2).f0),.int .i64 ((zd l2 x31_2).f1),.int .i64 ((zd l2 x31_2).f2),.int .u64 ((zd l2 x31_2).f3.f0),.int .u64 ((zd l2 x31_2).f3.f1)] 87 (0,0)) (by (with_reducible repeat (first|refine z2 ?_ _|refine z5 ?_|refine z1 ?_ _));exact BK103.out) hg (Kd.R_ne HO_8.out BK103.out (by decide)));have n1_:=z7.mk (hb);have n2_:=z7.mk (ho);clear BK103;clear HB;clear HO_8;have BK103:=n0_;have HB:=n1_;have HO108:=n2_;clear n0_ n1_ n2_;clear ho hb hg hat))
       go_roundg kj13
       case measure=>have:=HJ3.out;have:=HK2.out;have:=HJ13.out;omega
       case rel=>exact ⟨(y106),(wrap64 (x31_2 + 1)),(by first|rfl|(simp;done)|(simp [*];done)),H',⟨by have:=HJ3.out;have:=HK2.out;have:=HJ13.out;omega⟩,⟨by (with_reducible repeat (first|apply Kd.zw|apply Kd.zx|apply Kd.zC));exact HO108.out⟩,⟨by repeat (first|(with_reducible first|exact HB.out|apply z4|apply z0|apply z3|refine z8 ?_ GE103.out)|exact HB.out)⟩⟩
end Go.Proofs.Ytngcaphdkgihmaa.P
namespace Go.Proofs.Ytngcaphdkgihmaa.P
open Go.RowKit Go.Proofs.YtngcaphdkgihmaaW.PrintWords Go.Proofs.YtngcaphdkgihmaaW.PrintLast Go.Proofs.YtngcaphdkgihmaaW.PrintMore
attribute [local go_sem] z14 z16 z1b z1c z10 z11 z15 z17   -- for this text's walks alone
set_option linter.unusedVariables false
set_option linter.unusedSimpArgs false
def z1j.f (k : Nat) (a0 : Int) (a1 : Int) (l2 : List (S87)) : Option (Int):=(zu.f k a0 a1 l2).bind fun bt101=>(some bt101.2)
theorem z1j.mono : ∀ a0 a1 a2 k,LeO (z1j.f k a0 a1 a2) (z1j.f (k + 1) a0 a1 a2):=by
 intro a0 a1 a2 k
 unfold z1j.f
 repeat' first
  | (with_reducible exact zu.mono _ _ _ _)
  | (with_reducible exact LeO.refl _)
  | (with_reducible exact LeO.none _)
  | (with_reducible refine LeO.ite ?_ ?_)
  | (with_reducible refine LeO.bind ?_ (fun _=>?_))
  | exact zu.mono _ _ _ _
  | exact LeO.none _
  | refine LeO.ite ?_ ?_
  | refine LeO.bind ?_ (fun _=>?_)
set_option maxHeartbeats 8000000 in
set_option maxRecDepth 100000 in
theorem z1j.calls (k : Nat) (a0 : Int) (a1 : Int) (A2 : Option Addr) (c2 : Nat) (l2 : List (S87)) (r : Int) (w : World) (hr2 : Kd.C k87 w A2 l2.length l2) (hc2 : l2.length ≤ c2) (h : z1j.f k a0 a1 l2 = some r) :
 Calls Try.prog 56 #[.int .i64 a0,.int .i64 a1,.slice A2 l2.length c2] w fun e w'=>e = .returned (.int .i64 r) ∧ Below w.heap.size w w':=by
 have HR2:=z7.mk hr2
 have HC2:=z7.mk hc2
 clear hr2 hc2
 have HB:=z7.mk (Below.refl w.heap.size w)
 have H : ((zu.f k a0 a1 l2).bind fun bt101=>(some bt101.2)) = some r:=h
 clear h
 replace H:=Option.bind_eq_some_iff.mp H
 obtain ⟨⟨t101,t102⟩,A40,H⟩:=H
 replace H : (some t102) = some r:=H
 have A4:=z7.mk A40
 clear A40
 obtain rfl:=Option.some.inj H
 go_enter Try.func56,Try.ntmps56
 go_wp2_with (first|((with_reducible refine zG (f:=88) rfl ?_);refine goesL_ (some 13) rfl rfl Try.func88 (by kernel_rfl) rfl #[.int .i64 a0,.int .i64 a1,.slice A2 l2.length c2] rfl (by (try simp only [List.map_toArray,List.map_cons,List.map_nil]);first|done|rfl|(simp only [List.length_drop,List.length_take];rfl)) ?_;(with_reducible refine (zu.calls k a0 a1 _ _ l2 t101 t102 _ ?side1 ?side2 A4.out).mono ?_);(case side1=>repeat (first|exact HR2.out|(with_reducible refine Kd.z1q ?_ _)|(with_reducible refine Kd.z1r ?_ _)|(with_reducible refine Kd.z1B ?_)));(case side2=>exact HC2.out);rintro e w5 ⟨v103,rfl,ho0,hb⟩;refine ⟨_,rfl,?_⟩;have n0_:=z7.mk (Kd.z1y ho0 (zf (by repeat (first|(with_reducible first|exact HB.out|apply z4|apply z0|apply z3)|exact HB.out))));have n1_:=z7.mk (zi (by repeat (first|(with_reducible first|exact HB.out|apply z4|apply z0|apply z3)|exact HB.out)) hb);clear HB;have HO104:=n0_;have HB:=n1_;clear n0_ n1_;(try clear hb);(try clear hb2);(try clear hk);(try clear hi);(try clear ho0)))
 go_ret
 exact ⟨by first|rfl|(simp [zl,zm] <;> rfl)|(simp [*,zl,zm] <;> rfl),by repeat (first|(with_reducible first|exact HB.out|apply z4|apply z0|apply z3)|exact HB.out)⟩
end Go.Proofs.Ytngcaphdkgihmaa.P

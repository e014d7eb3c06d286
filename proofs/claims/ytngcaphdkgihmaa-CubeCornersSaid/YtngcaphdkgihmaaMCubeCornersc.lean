/- Own text: merged by wip/tools/pack.py out of what the law CubeCorners reaches. -/
import Derived.Deep.Slices
import Derived.OpenShut
import Derived.ProofKit
import Derived.Laws.BitsLemmas
import Derived.Test.YtngcaphdkgihmaaMCubeCornersa
import Derived.Test.YtngcaphdkgihmaaMCubeCornersb
namespace Go.Proofs.Ytngcaphdkgihmaa.P
open Go.RowKit Go.Proofs.YtngcaphdkgihmaaW.PrintWords Go.Proofs.YtngcaphdkgihmaaW.PrintLast Go.Proofs.YtngcaphdkgihmaaW.PrintMore
attribute [local go_sem] zS zU z12 z13 zK zL zT zV   -- for this text's walks alone
set_option linter.unusedVariables false
set_option linter.unusedSimpArgs false
def z17.f (k : Nat) (a0 : Int) (l1 : List (S51)) (l2 : List (S51)) : Option (Int × Int × Int):=(zz.f k a0).bind fun t102=>(if t102 = 0 then (some (0,0,1)) else ((zB.f k (l1.length : Int)).bind fun t103=>(if t103 = (l2.length : Int) then ((zu.f k a0 l1 l2).bind fun bt104=>(if bt104.2 = 0 then (if 0 < (bt104.1.length : Int) then (some ((zE bt104.1 0).f0,(zE bt104.1 0).f1,0)) else (none)) else (some (0,0,bt104.2)))) else (some (0,0,6)))))
theorem z17.mono : ∀ a0 a1 a2 k,LeO (z17.f k a0 a1 a2) (z17.f (k + 1) a0 a1 a2):=by
 intro a0 a1 a2 k
 unfold z17.f
 repeat' first
  | (with_reducible exact zu.mono _ _ _ _)
  | (with_reducible exact zB.mono _ _)
  | (with_reducible exact zz.mono _ _)
  | (with_reducible exact LeO.refl _)
  | (with_reducible exact LeO.none _)
  | (with_reducible refine LeO.ite ?_ ?_)
  | (with_reducible refine LeO.bind ?_ (fun _=>?_))
  | exact zu.mono _ _ _ _
  | exact zB.mono _ _
  | exact zz.mono _ _
  | exact LeO.none _
  | refine LeO.ite ?_ ?_
  | refine LeO.bind ?_ (fun _=>?_)
set_option maxHeartbeats 8000000 in
set_option maxRecDepth 100000 in
theorem z17.calls (k : Nat) (a0 : Int) (A1 : Option Addr) (c1 : Nat) (l1 : List (S51)) (A2 : Option Addr) (c2 : Nat) (l2 : List (S51)) (r1 : Int) (r2 : Int) (r3 : Int) (w : World) (hr1 : Kd.C k51 w A1 l1.length l1) (hc1 : l1.length ≤ c1) (hr2 : Kd.C k51 w A2 l2.length l2) (hc2 : l2.length ≤ c2) (h : z17.f k a0 l1 l2 = some (r1,r2,r3)) :
 Calls Try.prog 35 #[.int .i64 a0,.slice A1 l1.length c1,.slice A2 l2.length c2] w fun e w'=>e = .returned (.tuple #[.agg #[.int .u64 r1,.int .u64 r2],.int .i64 r3]) ∧ Below w.heap.size w w':=by
 have hu51:=Try.underlying51
 have HR1:=z3.mk hr1
 have HC1:=z3.mk hc1
 clear hr1 hc1
 have HR2:=z3.mk hr2
 have HC2:=z3.mk hc2
 clear hr2 hc2
 have HB:=z3.mk (Below.refl w.heap.size w)
 have H : ((zz.f k a0).bind fun t102=>(if t102 = 0 then (some (0,0,1)) else ((zB.f k (l1.length : Int)).bind fun t103=>(if t103 = (l2.length : Int) then ((zu.f k a0 l1 l2).bind fun bt104=>(if bt104.2 = 0 then (if 0 < (bt104.1.length : Int) then (some ((zE bt104.1 0).f0,(zE bt104.1 0).f1,0)) else (none)) else (some (0,0,bt104.2)))) else (some (0,0,6)))))) = some (r1,r2,r3):=h
 clear h
 replace H:=Option.bind_eq_some_iff.mp H
 obtain ⟨t102,A40,H⟩:=H
 replace H : (if t102 = 0 then (some (0,0,1)) else ((zB.f k (l1.length : Int)).bind fun t103=>(if t103 = (l2.length : Int) then ((zu.f k a0 l1 l2).bind fun bt104=>(if bt104.2 = 0 then (if 0 < (bt104.1.length : Int) then (some ((zE bt104.1 0).f0,(zE bt104.1 0).f1,0)) else (none)) else (some (0,0,bt104.2)))) else (some (0,0,6))))) = some (r1,r2,r3):=H
 have A4:=z3.mk A40
 clear A40
 by_cases c5 : t102 = 0
 · rw [if_pos c5] at H
   have c5b0 : (t102 == 0) = true:=beq_iff_eq.mpr c5
   have c5b1 : (t102 != 0) = false:=bne_eq_false_iff_eq.mpr c5
   clear c5
   simp only [Option.some.injEq,Prod.mk.injEq] at H
   obtain ⟨rfl,rfl,rfl⟩:=H
   go_enter Try.func35,Try.ntmps35
   go_wp2_with (first|((with_reducible refine zA (N:=6) rfl ?_);refine zy ?hg (N:=6) ?hd (cs:=#[.int .u64 0,.int .u64 0]) (t:=51) ?hr ?_;(case hd=>rfl);(case hg=>rfl);(case hr=>first|(go_simp;done)|(go_simp;rfl));intro gb101 hg w6 hbox hb;have n0_:=z3.mk (zc (by repeat (first|(with_reducible first|exact HB.out|apply z2|apply z0|apply z1)|exact HB.out)) hb);have n1_:=z3.mk (hbox);have n2_:=z3.mk ((by rw [hg];exact (zd (by repeat (first|(with_reducible first|exact HB.out|apply z2|apply z0|apply z1)|exact HB.out))) : w.heap.size ≤ gb101));have n3_:=z3.mk ((by rw [hg];exact (zd (by repeat (first|(with_reducible first|exact HB.out|apply z2|apply z0|apply z1)|exact HB.out))) : w.heap.size ≤ gb101));clear HB;have HB:=n0_;have BK101:=n1_;have GW101:=n2_;have GE101:=n3_;clear n0_ n1_ n2_ n3_;clear hb hbox hg)|((with_reducible refine zt (f:=78) rfl ?_);refine goesL_ (some 12) rfl rfl Try.func78 (by kernel_rfl) rfl #[.int .i64 a0] rfl (by (try simp only [List.map_toArray,List.map_cons,List.map_nil]);first|done|rfl|(simp only [List.length_drop,List.length_take];rfl)) ?_;(with_reducible refine (zz.calls k a0 t102 _ A4.out).mono ?_);rintro e w' ⟨rfl,⟨nd,rfl⟩⟩;refine ⟨_,rfl,?_⟩;(try (rw [z1B w6];generalize hq_ : World.drewN w6 _ = w6;have n0_ : z3 (w6.heap[gb101]? = some (.cells #[.int .u64 0,.int .u64 0] 51 (0,0))):=⟨by rw [← hq_];exact (by (with_reducible repeat (first|refine z5 ?_ _|refine z8 ?_|refine z4 ?_ _));exact BK101.out)⟩;have n1_ : z3 (Below w.heap.size w w6):=⟨by rw [← hq_];exact (by repeat (first|(with_reducible first|exact HB.out|apply z2|apply z0|apply z1|refine z7 ?_ GE101.out)|exact HB.out))⟩;clear BK101 HB hq_;have BK101:=n0_;have HB:=n1_;clear n0_ n1_));have hcz7_0 : w6.cell? ⟨gb101,0,none⟩ = some (.int .u64 0):=(za BK101.out 0).trans rfl;have hcz7_1 : w6.cell? ⟨gb101,1,none⟩ = some (.int .u64 0):=(za BK101.out 1).trans rfl;have hfz7_0:=zb BK101.out 0;have hfz7_1:=zb BK101.out 1))
   refine bodyPost_ret (z2f rfl _ _ gb101 51 #[.int .u64 0,.int .u64 0] (0,0) _ rfl (by (with_reducible repeat (first|refine z5 ?_ _|refine z8 ?_|refine z4 ?_ _));refine zH (cs:=#[.int .u64 0,.int .u64 0]) ?_ 1 _ rfl;(with_reducible repeat (first|refine z5 ?_ _|refine z8 ?_|refine z4 ?_ _));refine zH (cs:=#[.int .u64 0,.int .u64 0]) ?_ 0 _ rfl;(with_reducible repeat (first|refine z5 ?_ _|refine z8 ?_|refine z4 ?_ _));exact BK101.out) Try.underlying51 rfl (by kernel_rfl)) rfl ?_
   exact ⟨by first|rfl|(simp [zf,zg] <;> rfl)|(simp [*,zf,zg] <;> rfl),by repeat (first|(with_reducible first|exact HB.out|apply z2|apply z0|apply z1|refine z7 ?_ GE101.out)|exact HB.out)⟩
 rw [if_neg c5] at H
 have c5b0 : (t102 == 0) = false:=beq_eq_false_iff_ne.mpr c5
 have c5b1 : (t102 != 0) = true:=bne_iff_ne.mpr c5
 replace H:=Option.bind_eq_some_iff.mp H
 obtain ⟨t103,A80,H⟩:=H
 replace H : (if t103 = (l2.length : Int) then ((zu.f k a0 l1 l2).bind fun bt104=>(if bt104.2 = 0 then (if 0 < (bt104.1.length : Int) then (some ((zE bt104.1 0).f0,(zE bt104.1 0).f1,0)) else (none)) else (some (0,0,bt104.2)))) else (some (0,0,6))) = some (r1,r2,r3):=H
 have A8:=z3.mk A80
 clear A80
 by_cases c9 : t103 = (l2.length : Int)
 rotate_left
 · rw [if_neg c9] at H
   have c9b0 : (t103 == (l2.length : Int)) = false:=beq_eq_false_iff_ne.mpr c9
   have c9b1 : (t103 != (l2.length : Int)) = true:=bne_iff_ne.mpr c9
   simp only [Option.some.injEq,Prod.mk.injEq] at H
   obtain ⟨rfl,rfl,rfl⟩:=H
   go_enter Try.func35,Try.ntmps35
   go_wp2_with (first|((with_reducible refine zA (N:=6) rfl ?_);refine zy ?hg (N:=6) ?hd (cs:=#[.int .u64 0,.int .u64 0]) (t:=51) ?hr ?_;(case hd=>rfl);(case hg=>rfl);(case hr=>first|(go_simp;done)|(go_simp;rfl));intro gb101 hg w20 hbox hb;have n0_:=z3.mk (zc (by repeat (first|(with_reducible first|exact HB.out|apply z2|apply z0|apply z1)|exact HB.out)) hb);have n1_:=z3.mk (hbox);have n2_:=z3.mk ((by rw [hg];exact (zd (by repeat (first|(with_reducible first|exact HB.out|apply z2|apply z0|apply z1)|exact HB.out))) : w.heap.size ≤ gb101));have n3_:=z3.mk ((by rw [hg];exact (zd (by repeat (first|(with_reducible first|exact HB.out|apply z2|apply z0|apply z1)|exact HB.out))) : w.heap.size ≤ gb101));clear HB;have HB:=n0_;have BK101:=n1_;have GW101:=n2_;have GE101:=n3_;clear n0_ n1_ n2_ n3_;clear hb hbox hg)|((with_reducible refine zt (f:=78) rfl ?_);refine goesL_ (some 12) rfl rfl Try.func78 (by kernel_rfl) rfl #[.int .i64 a0] rfl (by (try simp only [List.map_toArray,List.map_cons,List.map_nil]);first|done|rfl|(simp only [List.length_drop,List.length_take];rfl)) ?_;(with_reducible refine (zz.calls k a0 t102 _ A4.out).mono ?_);rintro e w' ⟨rfl,⟨nd,rfl⟩⟩;refine ⟨_,rfl,?_⟩;(try (rw [z1B w20];generalize hq_ : World.drewN w20 _ = w20;have n0_ : z3 (w20.heap[gb101]? = some (.cells #[.int .u64 0,.int .u64 0] 51 (0,0))):=⟨by rw [← hq_];exact (by (with_reducible repeat (first|refine z5 ?_ _|refine z8 ?_|refine z4 ?_ _));exact BK101.out)⟩;have n1_ : z3 (Below w.heap.size w w20):=⟨by rw [← hq_];exact (by repeat (first|(with_reducible first|exact HB.out|apply z2|apply z0|apply z1|refine z7 ?_ GE101.out)|exact HB.out))⟩;clear BK101 HB hq_;have BK101:=n0_;have HB:=n1_;clear n0_ n1_)))|((with_reducible refine zt (f:=48) rfl ?_);refine goesL_ (some 18) rfl rfl Try.func48 (by kernel_rfl) rfl #[.int .i64 (l1.length : Int)] rfl (by (try simp only [List.map_toArray,List.map_cons,List.map_nil]);first|done|rfl|(simp only [List.length_drop,List.length_take];rfl)) ?_;(with_reducible refine (zB.calls k (l1.length : Int) t103 _ A8.out).mono ?_);rintro e w' ⟨rfl,⟨nd,rfl⟩⟩;refine ⟨_,rfl,?_⟩;(try (rw [z1B w20];generalize hq_ : World.drewN w20 _ = w20;have n0_ : z3 (w20.heap[gb101]? = some (.cells #[.int .u64 0,.int .u64 0] 51 (0,0))):=⟨by rw [← hq_];exact (by (with_reducible repeat (first|refine z5 ?_ _|refine z8 ?_|refine z4 ?_ _));exact BK101.out)⟩;have n1_ : z3 (Below w.heap.size w w20):=⟨by rw [← hq_];exact (by repeat (first|(with_reducible first|exact HB.out|apply z2|apply z0|apply z1|refine z7 ?_ GE101.out)|exact HB.out))⟩;clear BK101 HB hq_;have BK101:=n0_;have HB:=n1_;clear n0_ n1_));have hcz21_0 : w20.cell? ⟨gb101,0,none⟩ = some (.int .u64 0):=(za BK101.out 0).trans rfl;have hcz21_1 : w20.cell? ⟨gb101,1,none⟩ = some (.int .u64 0):=(za BK101.out 1).trans rfl;have hfz21_0:=zb BK101.out 0;have hfz21_1:=zb BK101.out 1))
   refine bodyPost_ret (z2f rfl _ _ gb101 51 #[.int .u64 0,.int .u64 0] (0,0) _ rfl (by (with_reducible repeat (first|refine z5 ?_ _|refine z8 ?_|refine z4 ?_ _));refine zH (cs:=#[.int .u64 0,.int .u64 0]) ?_ 1 _ rfl;(with_reducible repeat (first|refine z5 ?_ _|refine z8 ?_|refine z4 ?_ _));refine zH (cs:=#[.int .u64 0,.int .u64 0]) ?_ 0 _ rfl;(with_reducible repeat (first|refine z5 ?_ _|refine z8 ?_|refine z4 ?_ _));exact BK101.out) Try.underlying51 rfl (by kernel_rfl)) rfl ?_
   exact ⟨by first|rfl|(simp [zf,zg] <;> rfl)|(simp [*,zf,zg] <;> rfl),by repeat (first|(with_reducible first|exact HB.out|apply z2|apply z0|apply z1|refine z7 ?_ GE101.out)|exact HB.out)⟩
 rw [if_pos c9] at H
 have c9b0 : (t103 == (l2.length : Int)) = true:=beq_iff_eq.mpr c9
 have c9b1 : (t103 != (l2.length : Int)) = false:=bne_eq_false_iff_eq.mpr c9
 clear c9
 replace H:=Option.bind_eq_some_iff.mp H
 obtain ⟨⟨t104,t105⟩,A100,H⟩:=H
 replace H : (if t105 = 0 then (if 0 < (t104.length : Int) then (some ((zE t104 0).f0,(zE t104 0).f1,0)) else (none)) else (some (0,0,t105))) = some (r1,r2,r3):=H
 have A10:=z3.mk A100
 clear A100
 by_cases c11 : t105 = 0
 rotate_left
 · rw [if_neg c11] at H
   have c11b0 : (t105 == 0) = false:=beq_eq_false_iff_ne.mpr c11
   have c11b1 : (t105 != 0) = true:=bne_iff_ne.mpr c11
   simp only [Option.some.injEq,Prod.mk.injEq] at H
   obtain ⟨rfl,rfl,rfl⟩:=H
   go_enter Try.func35,Try.ntmps35
   go_wp2_with (first|((with_reducible refine zA (N:=6) rfl ?_);refine zy ?hg (N:=6) ?hd (cs:=#[.int .u64 0,.int .u64 0]) (t:=51) ?hr ?_;(case hd=>rfl);(case hg=>rfl);(case hr=>first|(go_simp;done)|(go_simp;rfl));intro gb101 hg w17 hbox hb;have n0_:=z3.mk (zc (by repeat (first|(with_reducible first|exact HB.out|apply z2|apply z0|apply z1)|exact HB.out)) hb);have n1_:=z3.mk (hbox);have n2_:=z3.mk ((by rw [hg];exact (zd (by repeat (first|(with_reducible first|exact HB.out|apply z2|apply z0|apply z1)|exact HB.out))) : w.heap.size ≤ gb101));have n3_:=z3.mk ((by rw [hg];exact (zd (by repeat (first|(with_reducible first|exact HB.out|apply z2|apply z0|apply z1)|exact HB.out))) : w.heap.size ≤ gb101));clear HB;have HB:=n0_;have BK101:=n1_;have GW101:=n2_;have GE101:=n3_;clear n0_ n1_ n2_ n3_;clear hb hbox hg)|((with_reducible refine zt (f:=78) rfl ?_);refine goesL_ (some 12) rfl rfl Try.func78 (by kernel_rfl) rfl #[.int .i64 a0] rfl (by (try simp only [List.map_toArray,List.map_cons,List.map_nil]);first|done|rfl|(simp only [List.length_drop,List.length_take];rfl)) ?_;(with_reducible refine (zz.calls k a0 t102 _ A4.out).mono ?_);rintro e w' ⟨rfl,⟨nd,rfl⟩⟩;refine ⟨_,rfl,?_⟩;(try (rw [z1B w17];generalize hq_ : World.drewN w17 _ = w17;have n0_ : z3 (w17.heap[gb101]? = some (.cells #[.int .u64 0,.int .u64 0] 51 (0,0))):=⟨by rw [← hq_];exact (by (with_reducible repeat (first|refine z5 ?_ _|refine z8 ?_|refine z4 ?_ _));exact BK101.out)⟩;have n1_ : z3 (Below w.heap.size w w17):=⟨by rw [← hq_];exact (by repeat (first|(with_reducible first|exact HB.out|apply z2|apply z0|apply z1|refine z7 ?_ GE101.out)|exact HB.out))⟩;clear BK101 HB hq_;have BK101:=n0_;have HB:=n1_;clear n0_ n1_)))|((with_reducible refine zt (f:=48) rfl ?_);refine goesL_ (some 18) rfl rfl Try.func48 (by kernel_rfl) rfl #[.int .i64 (l1.length : Int)] rfl (by (try simp only [List.map_toArray,List.map_cons,List.map_nil]);first|done|rfl|(simp only [List.length_drop,List.length_take];rfl)) ?_;(with_reducible refine (zB.calls k (l1.length : Int) t103 _ A8.out).mono ?_);rintro e w' ⟨rfl,⟨nd,rfl⟩⟩;refine ⟨_,rfl,?_⟩;(try (rw [z1B w17];generalize hq_ : World.drewN w17 _ = w17;have n0_ : z3 (w17.heap[gb101]? = some (.cells #[.int .u64 0,.int .u64 0] 51 (0,0))):=⟨by rw [← hq_];exact (by (with_reducible repeat (first|refine z5 ?_ _|refine z8 ?_|refine z4 ?_ _));exact BK101.out)⟩;have n1_ : z3 (Below w.heap.size w w17):=⟨by rw [← hq_];exact (by repeat (first|(with_reducible first|exact HB.out|apply z2|apply z0|apply z1|refine z7 ?_ GE101.out)|exact HB.out))⟩;clear BK101 HB hq_;have BK101:=n0_;have HB:=n1_;clear n0_ n1_)))|((with_reducible refine zt (f:=51) rfl ?_);refine goesL_ (some 27) rfl rfl Try.func51 (by kernel_rfl) rfl #[.int .i64 a0,.slice A1 l1.length c1,.slice A2 l2.length c2] rfl (by (try simp only [List.map_toArray,List.map_cons,List.map_nil]);first|done|rfl|(simp only [List.length_drop,List.length_take];rfl)) ?_;(with_reducible refine (zu.calls k a0 _ _ l1 _ _ l2 t104 t105 _ ?side1 ?side2 ?side3 ?side4 A10.out).mono ?_);(case side1=>repeat (first|exact (Kd.z1f HR1.out HB.out)|(with_reducible refine Kd.z18 ?_ _)|(with_reducible refine Kd.z19 ?_ _)|(with_reducible refine Kd.z1g ?_)));(case side2=>exact HC1.out);(case side3=>repeat (first|exact (Kd.z1f HR2.out HB.out)|(with_reducible refine Kd.z18 ?_ _)|(with_reducible refine Kd.z19 ?_ _)|(with_reducible refine Kd.z1g ?_)));(case side4=>exact HC2.out);rintro e w18 ⟨v106,rfl,ho0,hb⟩;refine ⟨_,rfl,?_⟩;have n0_:=z3.mk (Kd.z1s (Kd.R_newB ho0 (g:=gb101) (o:=.cells #[.int .u64 0,.int .u64 0] 51 (0,0)) (by (with_reducible repeat (first|refine z5 ?_ _|refine z8 ?_|refine z4 ?_ _));exact BK101.out)) (zd (by repeat (first|(with_reducible first|exact HB.out|apply z2|apply z0|apply z1|refine z7 ?_ GE101.out)|exact HB.out))));have n1_:=z3.mk (ze (g:=gb101) (o:=.cells #[.int .u64 0,.int .u64 0] 51 (0,0)) (by (with_reducible repeat (first|refine z5 ?_ _|refine z8 ?_|refine z4 ?_ _));exact BK101.out) hb);have n2_:=z3.mk (zc (by repeat (first|(with_reducible first|exact HB.out|apply z2|apply z0|apply z1|refine z7 ?_ GE101.out)|exact HB.out)) hb);clear BK101;clear HB;have HO107:=n0_;have BK101:=n1_;have HB:=n2_;clear n0_ n1_ n2_;(try clear hb);(try clear hb2);(try clear hk);(try clear hi);(try clear ho0);have hcz19_0 : w18.cell? ⟨gb101,0,none⟩ = some (.int .u64 0):=(za BK101.out 0).trans rfl;have hcz19_1 : w18.cell? ⟨gb101,1,none⟩ = some (.int .u64 0):=(za BK101.out 1).trans rfl;have hfz19_0:=zb BK101.out 0;have hfz19_1:=zb BK101.out 1))
   refine bodyPost_ret (z2f rfl _ _ gb101 51 #[.int .u64 0,.int .u64 0] (0,0) _ rfl (by (with_reducible repeat (first|refine z5 ?_ _|refine z8 ?_|refine z4 ?_ _));refine zH (cs:=#[.int .u64 0,.int .u64 0]) ?_ 1 _ rfl;(with_reducible repeat (first|refine z5 ?_ _|refine z8 ?_|refine z4 ?_ _));refine zH (cs:=#[.int .u64 0,.int .u64 0]) ?_ 0 _ rfl;(with_reducible repeat (first|refine z5 ?_ _|refine z8 ?_|refine z4 ?_ _));exact BK101.out) Try.underlying51 rfl (by kernel_rfl)) rfl ?_
   exact ⟨by first|rfl|(simp [zf,zg] <;> rfl)|(simp [*,zf,zg] <;> rfl),by repeat (first|(with_reducible first|exact HB.out|apply z2|apply z0|apply z1|refine z7 ?_ GE101.out)|exact HB.out)⟩
 rw [if_pos c11] at H
 have c11b0 : (t105 == 0) = true:=beq_iff_eq.mpr c11
 have c11b1 : (t105 != 0) = false:=bne_eq_false_iff_eq.mpr c11
 clear c11
 by_cases c12 : 0 < (t104.length : Int)
 rotate_left
 · rw [if_neg c12] at H
   exact absurd H (by simp)
 rw [if_pos c12] at H
 have c12b0 : decide (0 < (t104.length : Int)) = true:=decide_eq_true c12
 have c12b1 : decide (0 < t104.length) = true:=decide_eq_true (by omega)
 clear c12
 simp only [Option.some.injEq,Prod.mk.injEq] at H
 obtain ⟨rfl,rfl,rfl⟩:=H
 go_enter Try.func35,Try.ntmps35
 go_wp2_with (first|((with_reducible refine zA (N:=6) rfl ?_);refine zy ?hg (N:=6) ?hd (cs:=#[.int .u64 0,.int .u64 0]) (t:=51) ?hr ?_;(case hd=>rfl);(case hg=>rfl);(case hr=>first|(go_simp;done)|(go_simp;rfl));intro gb101 hg w13 hbox hb;have n0_:=z3.mk (zc (by repeat (first|(with_reducible first|exact HB.out|apply z2|apply z0|apply z1)|exact HB.out)) hb);have n1_:=z3.mk (hbox);have n2_:=z3.mk ((by rw [hg];exact (zd (by repeat (first|(with_reducible first|exact HB.out|apply z2|apply z0|apply z1)|exact HB.out))) : w.heap.size ≤ gb101));have n3_:=z3.mk ((by rw [hg];exact (zd (by repeat (first|(with_reducible first|exact HB.out|apply z2|apply z0|apply z1)|exact HB.out))) : w.heap.size ≤ gb101));clear HB;have HB:=n0_;have BK101:=n1_;have GW101:=n2_;have GE101:=n3_;clear n0_ n1_ n2_ n3_;clear hb hbox hg)|((with_reducible refine zt (f:=78) rfl ?_);refine goesL_ (some 12) rfl rfl Try.func78 (by kernel_rfl) rfl #[.int .i64 a0] rfl (by (try simp only [List.map_toArray,List.map_cons,List.map_nil]);first|done|rfl|(simp only [List.length_drop,List.length_take];rfl)) ?_;(with_reducible refine (zz.calls k a0 t102 _ A4.out).mono ?_);rintro e w' ⟨rfl,⟨nd,rfl⟩⟩;refine ⟨_,rfl,?_⟩;(try (rw [z1B w13];generalize hq_ : World.drewN w13 _ = w13;have n0_ : z3 (w13.heap[gb101]? = some (.cells #[.int .u64 0,.int .u64 0] 51 (0,0))):=⟨by rw [← hq_];exact (by (with_reducible repeat (first|refine z5 ?_ _|refine z8 ?_|refine z4 ?_ _));exact BK101.out)⟩;have n1_ : z3 (Below w.heap.size w w13):=⟨by rw [← hq_];exact (by repeat (first|(with_reducible first|exact HB.out|apply z2|apply z0|apply z1|refine z7 ?_ GE101.out)|exact HB.out))⟩;clear BK101 HB hq_;have BK101:=n0_;have HB:=n1_;clear n0_ n1_)))|((with_reducible refine zt (f:=48) rfl ?_);refine goesL_ (some 18) rfl rfl Try.func48 (by kernel_rfl) rfl #[.int .i64 (l1.length : Int)] rfl (by (try simp only [List.map_toArray,List.map_cons,List.map_nil]);first|done|rfl|(simp only [List.length_drop,List.length_take];rfl)) ?_;(with_reducible refine (zB.calls k (l1.length : Int) t103 _ A8.out).mono ?_);rintro e w' ⟨rfl,⟨nd,rfl⟩⟩;refine ⟨_,rfl,?_⟩;(try (rw [z1B w13];generalize hq_ : World.drewN w13 _ = w13;have n0_ : z3 (w13.heap[gb101]? = some (.cells #[.int .u64 0,.int .u64 0] 51 (0,0))):=⟨by rw [← hq_];exact (by (with_reducible repeat (first|refine z5 ?_ _|refine z8 ?_|refine z4 ?_ _));exact BK101.out)⟩;have n1_ : z3 (Below w.heap.size w w13):=⟨by rw [← hq_];exact (by repeat (first|(with_reducible first|exact HB.out|apply z2|apply z0|apply z1|refine z7 ?_ GE101.out)|exact HB.out))⟩;clear BK101 HB hq_;have BK101:=n0_;have HB:=n1_;clear n0_ n1_)))|((with_reducible refine zt (f:=51) rfl ?_);refine goesL_ (some 27) rfl rfl Try.func51 (by kernel_rfl) rfl #[.int .i64 a0,.slice A1 l1.length c1,.slice A2 l2.length c2] rfl (by (try simp only [List.map_toArray,List.map_cons,List.map_nil]);first|done|rfl|(simp only [List.length_drop,List.length_take];rfl)) ?_;(with_reducible refine (zu.calls k a0 _ _ l1 _ _ l2 t104 t105 _ ?side1 ?side2 ?side3 ?side4 A10.out).mono ?_);(case side1=>repeat (first|exact (Kd.z1f HR1.out HB.out)|(with_reducible refine Kd.z18 ?_ _)|(with_reducible refine Kd.z19 ?_ _)|(with_reducible refine Kd.z1g ?_)));(case side2=>exact HC1.out);(case side3=>repeat (first|exact (Kd.z1f HR2.out HB.out)|(with_reducible refine Kd.z18 ?_ _)|(with_reducible refine Kd.z19 ?_ _)|(with_reducible refine Kd.z1g ?_)));(case side4=>exact HC2.out);rintro e w14 ⟨v106,rfl,ho0,hb⟩;refine ⟨_,rfl,?_⟩;have n0_:=z3.mk (Kd.z1s (Kd.R_newB ho0 (g:=gb101) (o:=.cells #[.int .u64 0,.int .u64 0] 51 (0,0)) (by (with_reducible repeat (first|refine z5 ?_ _|refine z8 ?_|refine z4 ?_ _));exact BK101.out)) (zd (by repeat (first|(with_reducible first|exact HB.out|apply z2|apply z0|apply z1|refine z7 ?_ GE101.out)|exact HB.out))));have n1_:=z3.mk (ze (g:=gb101) (o:=.cells #[.int .u64 0,.int .u64 0] 51 (0,0)) (by (with_reducible repeat (first|refine z5 ?_ _|refine z8 ?_|refine z4 ?_ _));exact BK101.out) hb);have n2_:=z3.mk (zc (by repeat (first|(with_reducible first|exact HB.out|apply z2|apply z0|apply z1|refine z7 ?_ GE101.out)|exact HB.out)) hb);clear BK101;clear HB;have HO107:=n0_;have BK101:=n1_;have HB:=n2_;clear n0_ n1_ n2_;(try clear hb);(try clear hb2);(try clear hk);(try clear hi);(try clear ho0);obtain ⟨Ao15,co15,eo15⟩:=Kd.z1p HO107.out;subst eo15;have p108 : 0 ≤ (0 : Int):=(by omega);have q108 : 0 < (t104.length : Int):=of_decide_eq_true (by first|(with_reducible assumption)|assumption);obtain ⟨ad108,e108,hx108_0,hx108_1⟩:=z26 (Kd.z11 HO107.out).2.2 0 p108 q108;cases e108;have qi108 : (0 < t104.length) = True:=eq_true (by omega);(try rw [show ((0 : Int)).toNat = 0 from rfl] at hx108_0);(try rw [show 0 * 2 = 0 from rfl] at hx108_0);(try rw [Addr.add_zero'] at hx108_0);(try rw [show ((0 : Int)).toNat = 0 from rfl] at hx108_1);(try rw [show 0 * 2 = 0 from rfl] at hx108_1);(try rw [Addr.add_zero'] at hx108_1);replace p108:=eq_true p108;replace q108:=eq_true q108;have hcz16_0 : w14.cell? ⟨gb101,0,none⟩ = some (.int .u64 0):=(za BK101.out 0).trans rfl;have hcz16_1 : w14.cell? ⟨gb101,1,none⟩ = some (.int .u64 0):=(za BK101.out 1).trans rfl;have hfz16_0:=zb BK101.out 0;have hfz16_1:=zb BK101.out 1))
 refine bodyPost_ret (z2f rfl _ _ gb101 51 #[.int .u64 ((zE t104 0).f0),.int .u64 ((zE t104 0).f1)] (0,0) _ rfl (by (with_reducible repeat (first|refine z5 ?_ _|refine z8 ?_|refine z4 ?_ _));refine zH (cs:=#[.int .u64 ((zE t104 0).f0),.int .u64 0]) ?_ 1 _ rfl;(with_reducible repeat (first|refine z5 ?_ _|refine z8 ?_|refine z4 ?_ _));refine zH (cs:=#[.int .u64 0,.int .u64 0]) ?_ 0 _ rfl;(with_reducible repeat (first|refine z5 ?_ _|refine z8 ?_|refine z4 ?_ _));exact BK101.out) Try.underlying51 rfl (by kernel_rfl)) rfl ?_
 exact ⟨by first|rfl|(simp [zf,zg] <;> rfl)|(simp [*,zf,zg] <;> rfl),by repeat (first|(with_reducible first|exact HB.out|apply z2|apply z0|apply z1|refine z7 ?_ GE101.out)|exact HB.out)⟩
end Go.Proofs.Ytngcaphdkgihmaa.P
namespace Go.Proofs.Ytngcaphdkgihmaa.P
open Go.RowKit Go.Proofs.YtngcaphdkgihmaaW.PrintWords Go.Proofs.YtngcaphdkgihmaaW.PrintLast Go.Proofs.YtngcaphdkgihmaaW.PrintMore
attribute [local go_sem] zS zU z12 z13 zK zL zT zV   -- for this text's walks alone
set_option linter.unusedVariables false
set_option linter.unusedSimpArgs false
attribute [local go_sem high] eqA51
def zs.f (k : Nat)  : Option (Bool):=(z17.f k 2 (([(⟨0,1⟩ : S51),(⟨0,2⟩ : S51)] : List (S51))) (([(⟨0,3⟩ : S51)] : List (S51)))).bind fun bt107=>(if bt107.2.2 = 0 then (if (bt107.1 == 0 && (bt107.2.1 == 3)) = true then ((zB.f k 8).bind fun t111=>(some (t111 == 3))) else (some false)) else (some false))
theorem zs.mono : ∀ k,LeO (zs.f k ) (zs.f (k + 1) ):=by
 intro  k
 unfold zs.f
 repeat' first
  | (with_reducible exact z17.mono _ _ _ _)
  | (with_reducible exact zB.mono _ _)
  | (with_reducible exact LeO.refl _)
  | (with_reducible exact LeO.none _)
  | (with_reducible refine LeO.ite ?_ ?_)
  | (with_reducible refine LeO.bind ?_ (fun _=>?_))
  | exact z17.mono _ _ _ _
  | exact zB.mono _ _
  | exact LeO.none _
  | refine LeO.ite ?_ ?_
  | refine LeO.bind ?_ (fun _=>?_)
set_option maxHeartbeats 8000000 in
set_option maxRecDepth 100000 in
theorem zs.calls (k : Nat)  (r : Bool) (w : World) (h : zs.f k  = some r) :
 Calls Try.prog 34 #[] w fun e w'=>e = .returned (.bool r) ∧ Below w.heap.size w w':=by
 have hu51:=Try.underlying51
 have HB:=z3.mk (Below.refl w.heap.size w)
 have H : ((z17.f k 2 (([(⟨0,1⟩ : S51),(⟨0,2⟩ : S51)] : List (S51))) (([(⟨0,3⟩ : S51)] : List (S51)))).bind fun bt107=>(if bt107.2.2 = 0 then (if (bt107.1 == 0 && (bt107.2.1 == 3)) = true then ((zB.f k 8).bind fun t111=>(some (t111 == 3))) else (some false)) else (some false))) = some r:=h
 clear h
 obtain ⟨y101,hy101⟩ : ∃ y_ : List (S51),y_ = (([(⟨0,1⟩ : S51),(⟨0,2⟩ : S51)] : List (S51))):=⟨_,rfl⟩
 replace H : ((z17.f k 2 y101 (([(⟨0,3⟩ : S51)] : List (S51)))).bind fun bt107=>(if bt107.2.2 = 0 then (if (bt107.1 == 0 && (bt107.2.1 == 3)) = true then ((zB.f k 8).bind fun t111=>(some (t111 == 3))) else (some false)) else (some false))) = some r:=by first|(rw [hy101];with_reducible exact H)|(have H2_:=(Option.bind_some _ _).symm.trans H;rw [hy101];with_reducible exact H2_)|(have H2_:=(Option.bind_some _ _).symm.trans H;with_reducible exact H2_)|with_reducible exact H|(rw [hy101];exact H)|exact H
 have Ny101:=z3.mk hy101
 clear hy101
 obtain ⟨y104,hy104⟩ : ∃ y_ : List (S51),y_ = (([(⟨0,3⟩ : S51)] : List (S51))):=⟨_,rfl⟩
 replace H : ((z17.f k 2 y101 y104).bind fun bt107=>(if bt107.2.2 = 0 then (if (bt107.1 == 0 && (bt107.2.1 == 3)) = true then ((zB.f k 8).bind fun t111=>(some (t111 == 3))) else (some false)) else (some false))) = some r:=by first|(rw [hy104];with_reducible exact H)|(have H2_:=(Option.bind_some _ _).symm.trans H;rw [hy104];with_reducible exact H2_)|(have H2_:=(Option.bind_some _ _).symm.trans H;with_reducible exact H2_)|with_reducible exact H|(rw [hy104];exact H)|exact H
 have Ny104:=z3.mk hy104
 clear hy104
 replace H:=Option.bind_eq_some_iff.mp H
 obtain ⟨⟨t107,t108,t109⟩,A10,H⟩:=H
 replace H : (if t109 = 0 then (if (t107 == 0 && (t108 == 3)) = true then ((zB.f k 8).bind fun t111=>(some (t111 == 3))) else (some false)) else (some false)) = some r:=H
 have A1:=z3.mk A10
 clear A10
 by_cases c2 : t109 = 0
 rotate_left
 · rw [if_neg c2] at H
   have c2b0 : (t109 == 0) = false:=beq_eq_false_iff_ne.mpr c2
   have c2b1 : (t109 != 0) = true:=bne_iff_ne.mpr c2
   obtain rfl:=Option.some.inj H
   go_enter Try.func34,Try.ntmps34
   go_wp2_with (first|((with_reducible refine zA (N:=6) rfl ?_);refine Kd.z3m k51 _ 51 ?hg (N:=6) ?hd (xs:=([(⟨0,1⟩ : S51),(⟨0,2⟩ : S51)] : List (S51))) (inner:=[.int .u64 0,.int .u64 1,.int .u64 0,.int .u64 2]) (ok:=fun _=>True) (okp:=fun _=>True) ?hr ?hp (fun _ hk=>hk) trivial (Below.refl _ _) (Nat.le_refl _) (by simp) ?_;(case hd=>rfl);(case hg=>rfl);(case hr=>first|(go_simp;done)|(go_simp;rfl));(case hp=>exact (Reps.c2 (show Kd.M k51 _ _ _ (⟨0,1⟩ : S51) [.int .u64 0,.int .u64 1] from (z1I _ _ _ (⟨0,1⟩ : S51) )) (Reps.c2 (show Kd.M k51 _ _ _ (⟨0,2⟩ : S51) [.int .u64 0,.int .u64 2] from (z1I _ _ _ (⟨0,2⟩ : S51) )) (Reps.none _ _))));intro v102 w23 ho24 hb hg_ hnew_;clear hg_ hnew_;(first|rw [← Ny101.out] at ho24|(simp only [Int.reduceToNat] at ho24;rw [← Ny101.out] at ho24));have n0_:=z3.mk (Kd.z1s ho24 (zd (by repeat (first|(with_reducible first|exact HB.out|apply z2|apply z0|apply z1)|exact HB.out))));have n1_:=z3.mk (zc (by repeat (first|(with_reducible first|exact HB.out|apply z2|apply z0|apply z1)|exact HB.out)) hb);clear HB;have HO103:=n0_;have HB:=n1_;clear n0_ n1_;clear hb ho24)|((with_reducible refine zA (N:=8) rfl ?_);refine Kd.z3m k51 _ 51 ?hg (N:=8) ?hd (xs:=([(⟨0,3⟩ : S51)] : List (S51))) (inner:=[.int .u64 0,.int .u64 3]) (ok:=fun _=>True) (okp:=fun _=>True) ?hr ?hp (fun _ hk=>hk) trivial (Below.refl _ _) (Nat.le_refl _) (by simp) ?_;(case hd=>rfl);(case hg=>rfl);(case hr=>first|(go_simp;done)|(go_simp;rfl));(case hp=>exact (Reps.c2 (show Kd.M k51 _ _ _ (⟨0,3⟩ : S51) [.int .u64 0,.int .u64 3] from (z1I _ _ _ (⟨0,3⟩ : S51) )) (Reps.none _ _)));intro v105 w25 ho26 hb hg_ hnew_;clear hg_ hnew_;(first|rw [← Ny104.out] at ho26|(simp only [Int.reduceToNat] at ho26;rw [← Ny104.out] at ho26));have n0_:=z3.mk (Kd.z3l (by (with_reducible repeat (first|apply Kd.zP|apply Kd.zQ|apply Kd.z10));exact HO103.out) (Kd.z4H ho26) hb);have n1_:=z3.mk (Kd.z1s (Kd.z4J ho26 (Kd.R_lt (by (with_reducible repeat (first|apply Kd.zP|apply Kd.zQ|apply Kd.z10));exact HO103.out))) (zd (by repeat (first|(with_reducible first|exact HB.out|apply z2|apply z0|apply z1)|exact HB.out))));have n2_:=z3.mk (zc (by repeat (first|(with_reducible first|exact HB.out|apply z2|apply z0|apply z1)|exact HB.out)) hb);clear HO103;clear HB;have HO103:=n0_;have HO106:=n1_;have HB:=n2_;clear n0_ n1_ n2_;clear hb ho26;obtain ⟨Ao27,co27,eo27⟩:=Kd.z1p HO103.out;subst eo27;obtain ⟨Ao28,co28,eo28⟩:=Kd.z1p HO106.out;subst eo28)|((with_reducible refine zt (f:=35) rfl ?_);refine goesL_ (some 9) rfl rfl Try.func35 (by kernel_rfl) rfl #[.int .i64 2,.slice Ao27 y101.length co27,.slice Ao28 y104.length co28] rfl (by (try simp only [List.map_toArray,List.map_cons,List.map_nil]);first|done|rfl|(simp only [List.length_drop,List.length_take];rfl)) ?_;(with_reducible refine (z17.calls k 2 _ _ y101 _ _ y104 t107 t108 t109 _ ?side1 ?side2 ?side3 ?side4 A1.out).mono ?_);(case side1=>repeat (first|exact (Kd.z11 HO103.out).2.2|(with_reducible refine Kd.z18 ?_ _)|(with_reducible refine Kd.z19 ?_ _)|(with_reducible refine Kd.z1g ?_)));(case side2=>exact (Kd.z11 HO103.out).2.1);(case side3=>repeat (first|exact (Kd.z11 HO106.out).2.2|(with_reducible refine Kd.z18 ?_ _)|(with_reducible refine Kd.z19 ?_ _)|(with_reducible refine Kd.z1g ?_)));(case side4=>exact (Kd.z11 HO106.out).2.1);rintro e w29 ⟨rfl,hb⟩;refine ⟨_,rfl,?_⟩;have n0_:=z3.mk (Kd.z1e (by (with_reducible repeat (first|apply Kd.zP|apply Kd.zQ|apply Kd.z10));exact HO103.out) hb);have n1_:=z3.mk (Kd.z1e (by (with_reducible repeat (first|apply Kd.zP|apply Kd.zQ|apply Kd.z10));exact HO106.out) hb);have n2_:=z3.mk (zc (by repeat (first|(with_reducible first|exact HB.out|apply z2|apply z0|apply z1)|exact HB.out)) hb);clear HO103;clear HO106;clear HB;have HO103:=n0_;have HO106:=n1_;have HB:=n2_;clear n0_ n1_ n2_;(try clear hb);(try clear hb2);(try clear hk);(try clear hi))|((with_reducible refine zA (N:=1) rfl ?_);refine zy ?hg (N:=1) ?hd (cs:=#[.int .u64 0,.int .u64 0]) (t:=51) ?hr ?_;(case hd=>rfl);(case hg=>rfl);(case hr=>first|(go_simp;done)|(go_simp;rfl));intro gb110 hg w30 hbox hb;have n0_:=z3.mk (Kd.z1e (Kd.z1F (by (with_reducible repeat (first|apply Kd.zP|apply Kd.zQ|apply Kd.z10));exact HO103.out) gb110 (Nat.le_of_eq hg.symm)) hb);have n1_:=z3.mk (Kd.z1e (Kd.z1F (by (with_reducible repeat (first|apply Kd.zP|apply Kd.zQ|apply Kd.z10));exact HO106.out) gb110 (Nat.le_of_eq hg.symm)) hb);have n2_:=z3.mk (zc (by repeat (first|(with_reducible first|exact HB.out|apply z2|apply z0|apply z1)|exact HB.out)) hb);have n3_:=z3.mk (hbox);have n4_:=z3.mk ((by rw [hg];exact (zd (by repeat (first|(with_reducible first|exact HB.out|apply z2|apply z0|apply z1)|exact HB.out))) : w.heap.size ≤ gb110));have n5_:=z3.mk ((by rw [hg];exact (zd (by repeat (first|(with_reducible first|exact HB.out|apply z2|apply z0|apply z1)|exact HB.out))) : w.heap.size ≤ gb110));clear HO103;clear HO106;clear HB;have HO103:=n0_;have HO106:=n1_;have HB:=n2_;have BK110:=n3_;have GW110:=n4_;have GE110:=n5_;clear n0_ n1_ n2_ n3_ n4_ n5_;clear hb hbox hg;have hcz31_0 : w30.cell? ⟨gb110,0,none⟩ = some (.int .u64 0):=(za BK110.out 0).trans rfl;have hcz31_1 : w30.cell? ⟨gb110,1,none⟩ = some (.int .u64 0):=(za BK110.out 1).trans rfl;have hfz31_0:=zb BK110.out 0;have hfz31_1:=zb BK110.out 1))
   go_ret
   exact ⟨by first|rfl|(simp [zf,zg] <;> rfl)|(simp [*,zf,zg] <;> rfl),by repeat (first|(with_reducible first|exact HB.out|apply z2|apply z0|apply z1|refine z7 ?_ GE110.out)|exact HB.out)⟩
 rw [if_pos c2] at H
 have c2b0 : (t109 == 0) = true:=beq_iff_eq.mpr c2
 have c2b1 : (t109 != 0) = false:=bne_eq_false_iff_eq.mpr c2
 clear c2
 by_cases c3 : (t107 == 0 && (t108 == 3)) = true
 rotate_left
 · rw [if_neg c3] at H
   have c3b0 : (t107 == 0 && (t108 == 3)) = false:=by simpa using c3
   (try (have c3b1 : decide (t107 = 0 && (t108 == 3)) = false:=by simpa using c3))
   (try (have c3b2 : (t107 == 0 && (t108 == 3)) = false:=by simpa using c3))
   (try (have c3b3 : ¬ (t107 = 0 && (t108 == 3)):=by simpa using c3))
   clear c3
   obtain rfl:=Option.some.inj H
   go_enter Try.func34,Try.ntmps34
   go_wp2_with (first|((with_reducible refine zA (N:=6) rfl ?_);refine Kd.z3m k51 _ 51 ?hg (N:=6) ?hd (xs:=([(⟨0,1⟩ : S51),(⟨0,2⟩ : S51)] : List (S51))) (inner:=[.int .u64 0,.int .u64 1,.int .u64 0,.int .u64 2]) (ok:=fun _=>True) (okp:=fun _=>True) ?hr ?hp (fun _ hk=>hk) trivial (Below.refl _ _) (Nat.le_refl _) (by simp) ?_;(case hd=>rfl);(case hg=>rfl);(case hr=>first|(go_simp;done)|(go_simp;rfl));(case hp=>exact (Reps.c2 (show Kd.M k51 _ _ _ (⟨0,1⟩ : S51) [.int .u64 0,.int .u64 1] from (z1I _ _ _ (⟨0,1⟩ : S51) )) (Reps.c2 (show Kd.M k51 _ _ _ (⟨0,2⟩ : S51) [.int .u64 0,.int .u64 2] from (z1I _ _ _ (⟨0,2⟩ : S51) )) (Reps.none _ _))));intro v102 w14 ho15 hb hg_ hnew_;clear hg_ hnew_;(first|rw [← Ny101.out] at ho15|(simp only [Int.reduceToNat] at ho15;rw [← Ny101.out] at ho15));have n0_:=z3.mk (Kd.z1s ho15 (zd (by repeat (first|(with_reducible first|exact HB.out|apply z2|apply z0|apply z1)|exact HB.out))));have n1_:=z3.mk (zc (by repeat (first|(with_reducible first|exact HB.out|apply z2|apply z0|apply z1)|exact HB.out)) hb);clear HB;have HO103:=n0_;have HB:=n1_;clear n0_ n1_;clear hb ho15)|((with_reducible refine zA (N:=8) rfl ?_);refine Kd.z3m k51 _ 51 ?hg (N:=8) ?hd (xs:=([(⟨0,3⟩ : S51)] : List (S51))) (inner:=[.int .u64 0,.int .u64 3]) (ok:=fun _=>True) (okp:=fun _=>True) ?hr ?hp (fun _ hk=>hk) trivial (Below.refl _ _) (Nat.le_refl _) (by simp) ?_;(case hd=>rfl);(case hg=>rfl);(case hr=>first|(go_simp;done)|(go_simp;rfl));(case hp=>exact (Reps.c2 (show Kd.M k51 _ _ _ (⟨0,3⟩ : S51) [.int .u64 0,.int .u64 3] from (z1I _ _ _ (⟨0,3⟩ : S51) )) (Reps.none _ _)));intro v105 w16 ho17 hb hg_ hnew_;clear hg_ hnew_;(first|rw [← Ny104.out] at ho17|(simp only [Int.reduceToNat] at ho17;rw [← Ny104.out] at ho17));have n0_:=z3.mk (Kd.z3l (by (with_reducible repeat (first|apply Kd.zP|apply Kd.zQ|apply Kd.z10));exact HO103.out) (Kd.z4H ho17) hb);have n1_:=z3.mk (Kd.z1s (Kd.z4J ho17 (Kd.R_lt (by (with_reducible repeat (first|apply Kd.zP|apply Kd.zQ|apply Kd.z10));exact HO103.out))) (zd (by repeat (first|(with_reducible first|exact HB.out|apply z2|apply z0|apply z1)|exact HB.out))));have n2_:=z3.mk (zc (by repeat (first|(with_reducible first|exact HB.out|apply z2|apply z0|apply z1)|exact HB.out)) hb);clear HO103;clear HB;have HO103:=n0_;have HO106:=n1_;have HB:=n2_;clear n0_ n1_ n2_;clear hb ho17;obtain ⟨Ao18,co18,eo18⟩:=Kd.z1p HO103.out;subst eo18;obtain ⟨Ao19,co19,eo19⟩:=Kd.z1p HO106.out;subst eo19)|((with_reducible refine zt (f:=35) rfl ?_);refine goesL_ (some 9) rfl rfl Try.func35 (by kernel_rfl) rfl #[.int .i64 2,.slice Ao18 y101.length co18,.slice Ao19 y104.length co19] rfl (by (try simp only [List.map_toArray,List.map_cons,List.map_nil]);first|done|rfl|(simp only [List.length_drop,List.length_take];rfl)) ?_;(with_reducible refine (z17.calls k 2 _ _ y101 _ _ y104 t107 t108 t109 _ ?side1 ?side2 ?side3 ?side4 A1.out).mono ?_);(case side1=>repeat (first|exact (Kd.z11 HO103.out).2.2|(with_reducible refine Kd.z18 ?_ _)|(with_reducible refine Kd.z19 ?_ _)|(with_reducible refine Kd.z1g ?_)));(case side2=>exact (Kd.z11 HO103.out).2.1);(case side3=>repeat (first|exact (Kd.z11 HO106.out).2.2|(with_reducible refine Kd.z18 ?_ _)|(with_reducible refine Kd.z19 ?_ _)|(with_reducible refine Kd.z1g ?_)));(case side4=>exact (Kd.z11 HO106.out).2.1);rintro e w20 ⟨rfl,hb⟩;refine ⟨_,rfl,?_⟩;have n0_:=z3.mk (Kd.z1e (by (with_reducible repeat (first|apply Kd.zP|apply Kd.zQ|apply Kd.z10));exact HO103.out) hb);have n1_:=z3.mk (Kd.z1e (by (with_reducible repeat (first|apply Kd.zP|apply Kd.zQ|apply Kd.z10));exact HO106.out) hb);have n2_:=z3.mk (zc (by repeat (first|(with_reducible first|exact HB.out|apply z2|apply z0|apply z1)|exact HB.out)) hb);clear HO103;clear HO106;clear HB;have HO103:=n0_;have HO106:=n1_;have HB:=n2_;clear n0_ n1_ n2_;(try clear hb);(try clear hb2);(try clear hk);(try clear hi))|((with_reducible refine zA (N:=1) rfl ?_);refine zy ?hg (N:=1) ?hd (cs:=#[.int .u64 0,.int .u64 0]) (t:=51) ?hr ?_;(case hd=>rfl);(case hg=>rfl);(case hr=>first|(go_simp;done)|(go_simp;rfl));intro gb110 hg w21 hbox hb;have n0_:=z3.mk (Kd.z1e (Kd.z1F (by (with_reducible repeat (first|apply Kd.zP|apply Kd.zQ|apply Kd.z10));exact HO103.out) gb110 (Nat.le_of_eq hg.symm)) hb);have n1_:=z3.mk (Kd.z1e (Kd.z1F (by (with_reducible repeat (first|apply Kd.zP|apply Kd.zQ|apply Kd.z10));exact HO106.out) gb110 (Nat.le_of_eq hg.symm)) hb);have n2_:=z3.mk (zc (by repeat (first|(with_reducible first|exact HB.out|apply z2|apply z0|apply z1)|exact HB.out)) hb);have n3_:=z3.mk (hbox);have n4_:=z3.mk ((by rw [hg];exact (zd (by repeat (first|(with_reducible first|exact HB.out|apply z2|apply z0|apply z1)|exact HB.out))) : w.heap.size ≤ gb110));have n5_:=z3.mk ((by rw [hg];exact (zd (by repeat (first|(with_reducible first|exact HB.out|apply z2|apply z0|apply z1)|exact HB.out))) : w.heap.size ≤ gb110));clear HO103;clear HO106;clear HB;have HO103:=n0_;have HO106:=n1_;have HB:=n2_;have BK110:=n3_;have GW110:=n4_;have GE110:=n5_;clear n0_ n1_ n2_ n3_ n4_ n5_;clear hb hbox hg;have hcz22_0 : w21.cell? ⟨gb110,0,none⟩ = some (.int .u64 0):=(za BK110.out 0).trans rfl;have hcz22_1 : w21.cell? ⟨gb110,1,none⟩ = some (.int .u64 0):=(za BK110.out 1).trans rfl;have hfz22_0:=zb BK110.out 0;have hfz22_1:=zb BK110.out 1))
   go_ret
   exact ⟨by first|rfl|(simp [zf,zg] <;> rfl)|(simp [*,zf,zg] <;> rfl),by repeat (first|(with_reducible first|exact HB.out|apply z2|apply z0|apply z1|refine z7 ?_ GE110.out)|exact HB.out)⟩
 rw [if_pos c3] at H
 have c3b0 : (t107 == 0 && (t108 == 3)) = true:=c3
 (try (have c3b1 : decide (t107 = 0 && (t108 == 3)) = true:=by simpa using c3))
 (try (have c3b2 : (t107 == 0 && (t108 == 3)) = true:=by simpa using c3))
 clear c3
 replace H:=Option.bind_eq_some_iff.mp H
 obtain ⟨t111,A40,H⟩:=H
 replace H : (some (t111 == 3)) = some r:=H
 have A4:=z3.mk A40
 clear A40
 obtain rfl:=Option.some.inj H
 go_enter Try.func34,Try.ntmps34
 go_wp2_with (first|((with_reducible refine zA (N:=6) rfl ?_);refine Kd.z3m k51 _ 51 ?hg (N:=6) ?hd (xs:=([(⟨0,1⟩ : S51),(⟨0,2⟩ : S51)] : List (S51))) (inner:=[.int .u64 0,.int .u64 1,.int .u64 0,.int .u64 2]) (ok:=fun _=>True) (okp:=fun _=>True) ?hr ?hp (fun _ hk=>hk) trivial (Below.refl _ _) (Nat.le_refl _) (by simp) ?_;(case hd=>rfl);(case hg=>rfl);(case hr=>first|(go_simp;done)|(go_simp;rfl));(case hp=>exact (Reps.c2 (show Kd.M k51 _ _ _ (⟨0,1⟩ : S51) [.int .u64 0,.int .u64 1] from (z1I _ _ _ (⟨0,1⟩ : S51) )) (Reps.c2 (show Kd.M k51 _ _ _ (⟨0,2⟩ : S51) [.int .u64 0,.int .u64 2] from (z1I _ _ _ (⟨0,2⟩ : S51) )) (Reps.none _ _))));intro v102 w5 ho6 hb hg_ hnew_;clear hg_ hnew_;(first|rw [← Ny101.out] at ho6|(simp only [Int.reduceToNat] at ho6;rw [← Ny101.out] at ho6));have n0_:=z3.mk (Kd.z1s ho6 (zd (by repeat (first|(with_reducible first|exact HB.out|apply z2|apply z0|apply z1)|exact HB.out))));have n1_:=z3.mk (zc (by repeat (first|(with_reducible first|exact HB.out|apply z2|apply z0|apply z1)|exact HB.out)) hb);clear HB;have HO103:=n0_;have HB:=n1_;clear n0_ n1_;clear hb ho6)|((with_reducible refine zA (N:=8) rfl ?_);refine Kd.z3m k51 _ 51 ?hg (N:=8) ?hd (xs:=([(⟨0,3⟩ : S51)] : List (S51))) (inner:=[.int .u64 0,.int .u64 3]) (ok:=fun _=>True) (okp:=fun _=>True) ?hr ?hp (fun _ hk=>hk) trivial (Below.refl _ _) (Nat.le_refl _) (by simp) ?_;(case hd=>rfl);(case hg=>rfl);(case hr=>first|(go_simp;done)|(go_simp;rfl));(case hp=>exact (Reps.c2 (show Kd.M k51 _ _ _ (⟨0,3⟩ : S51) [.int .u64 0,.int .u64 3] from (z1I _ _ _ (⟨0,3⟩ : S51) )) (Reps.none _ _)));intro v105 w7 ho8 hb hg_ hnew_;clear hg_ hnew_;(first|rw [← Ny104.out] at ho8|(simp only [Int.reduceToNat] at ho8;rw [← Ny104.out] at ho8));have n0_:=z3.mk (Kd.z3l (by (with_reducible repeat (first|apply Kd.zP|apply Kd.zQ|apply Kd.z10));exact HO103.out) (Kd.z4H ho8) hb);have n1_:=z3.mk (Kd.z1s (Kd.z4J ho8 (Kd.R_lt (by (with_reducible repeat (first|apply Kd.zP|apply Kd.zQ|apply Kd.z10));exact HO103.out))) (zd (by repeat (first|(with_reducible first|exact HB.out|apply z2|apply z0|apply z1)|exact HB.out))));have n2_:=z3.mk (zc (by repeat (first|(with_reducible first|exact HB.out|apply z2|apply z0|apply z1)|exact HB.out)) hb);clear HO103;clear HB;have HO103:=n0_;have HO106:=n1_;have HB:=n2_;clear n0_ n1_ n2_;clear hb ho8;obtain ⟨Ao9,co9,eo9⟩:=Kd.z1p HO103.out;subst eo9;obtain ⟨Ao10,co10,eo10⟩:=Kd.z1p HO106.out;subst eo10)|((with_reducible refine zt (f:=35) rfl ?_);refine goesL_ (some 9) rfl rfl Try.func35 (by kernel_rfl) rfl #[.int .i64 2,.slice Ao9 y101.length co9,.slice Ao10 y104.length co10] rfl (by (try simp only [List.map_toArray,List.map_cons,List.map_nil]);first|done|rfl|(simp only [List.length_drop,List.length_take];rfl)) ?_;(with_reducible refine (z17.calls k 2 _ _ y101 _ _ y104 t107 t108 t109 _ ?side1 ?side2 ?side3 ?side4 A1.out).mono ?_);(case side1=>repeat (first|exact (Kd.z11 HO103.out).2.2|(with_reducible refine Kd.z18 ?_ _)|(with_reducible refine Kd.z19 ?_ _)|(with_reducible refine Kd.z1g ?_)));(case side2=>exact (Kd.z11 HO103.out).2.1);(case side3=>repeat (first|exact (Kd.z11 HO106.out).2.2|(with_reducible refine Kd.z18 ?_ _)|(with_reducible refine Kd.z19 ?_ _)|(with_reducible refine Kd.z1g ?_)));(case side4=>exact (Kd.z11 HO106.out).2.1);rintro e w11 ⟨rfl,hb⟩;refine ⟨_,rfl,?_⟩;have n0_:=z3.mk (Kd.z1e (by (with_reducible repeat (first|apply Kd.zP|apply Kd.zQ|apply Kd.z10));exact HO103.out) hb);have n1_:=z3.mk (Kd.z1e (by (with_reducible repeat (first|apply Kd.zP|apply Kd.zQ|apply Kd.z10));exact HO106.out) hb);have n2_:=z3.mk (zc (by repeat (first|(with_reducible first|exact HB.out|apply z2|apply z0|apply z1)|exact HB.out)) hb);clear HO103;clear HO106;clear HB;have HO103:=n0_;have HO106:=n1_;have HB:=n2_;clear n0_ n1_ n2_;(try clear hb);(try clear hb2);(try clear hk);(try clear hi))|((with_reducible refine zA (N:=1) rfl ?_);refine zy ?hg (N:=1) ?hd (cs:=#[.int .u64 0,.int .u64 0]) (t:=51) ?hr ?_;(case hd=>rfl);(case hg=>rfl);(case hr=>first|(go_simp;done)|(go_simp;rfl));intro gb110 hg w12 hbox hb;have n0_:=z3.mk (Kd.z1e (Kd.z1F (by (with_reducible repeat (first|apply Kd.zP|apply Kd.zQ|apply Kd.z10));exact HO103.out) gb110 (Nat.le_of_eq hg.symm)) hb);have n1_:=z3.mk (Kd.z1e (Kd.z1F (by (with_reducible repeat (first|apply Kd.zP|apply Kd.zQ|apply Kd.z10));exact HO106.out) gb110 (Nat.le_of_eq hg.symm)) hb);have n2_:=z3.mk (zc (by repeat (first|(with_reducible first|exact HB.out|apply z2|apply z0|apply z1)|exact HB.out)) hb);have n3_:=z3.mk (hbox);have n4_:=z3.mk ((by rw [hg];exact (zd (by repeat (first|(with_reducible first|exact HB.out|apply z2|apply z0|apply z1)|exact HB.out))) : w.heap.size ≤ gb110));have n5_:=z3.mk ((by rw [hg];exact (zd (by repeat (first|(with_reducible first|exact HB.out|apply z2|apply z0|apply z1)|exact HB.out))) : w.heap.size ≤ gb110));clear HO103;clear HO106;clear HB;have HO103:=n0_;have HO106:=n1_;have HB:=n2_;have BK110:=n3_;have GW110:=n4_;have GE110:=n5_;clear n0_ n1_ n2_ n3_ n4_ n5_;clear hb hbox hg;have hcz13_0 : w12.cell? ⟨gb110,0,none⟩ = some (.int .u64 0):=(za BK110.out 0).trans rfl;have hcz13_1 : w12.cell? ⟨gb110,1,none⟩ = some (.int .u64 0):=(za BK110.out 1).trans rfl;have hfz13_0:=zb BK110.out 0;have hfz13_1:=zb BK110.out 1)|(go_at_call 48;(with_reducible refine (zB.calls k 8 t111 _ A4.out).mono ?_);rintro e w' ⟨rfl,⟨nd,rfl⟩⟩))
 go_ret
 exact ⟨by first|rfl|(simp [zf,zg] <;> rfl)|(simp [*,zf,zg] <;> rfl),by repeat (first|(with_reducible first|exact HB.out|apply z2|apply z0|apply z1|refine z7 ?_ GE110.out)|exact HB.out)⟩
end Go.Proofs.Ytngcaphdkgihmaa.P
namespace Go.Proofs.Ytngcaphdkgihmaa.P
open Go.RowKit Go.Proofs.YtngcaphdkgihmaaW.PrintWords Go.Proofs.YtngcaphdkgihmaaW.PrintLast Go.Proofs.YtngcaphdkgihmaaW.PrintMore
attribute [local go_sem] zS zU z12 z13 zK zL zT zV   -- for this text's walks alone
set_option linter.unusedVariables false
set_option linter.unusedSimpArgs false
def zj.l0 : Nat → Int → Int → Int → Option (Int)
 | 0,_,_,_=>none
 | k + 1,x0,x3,x4=>if x4 ≤ 16 then (if x3 = x0 then (some x4) else (zj.l0 k x0 (wrap64 (2 * x3)) (wrap64 (x4 + 1)))) else (some (-1))
def zj.f (k : Nat) (a0 : Int) : Option (Int):=zj.l0 k a0 1 0
theorem zj.zX : ∀ k,(∀ y0 y1 y2,LeO (zj.l0 k y0 y1 y2) (zj.l0 (k + 1) y0 y1 y2))
 | 0=>fun _ _ _ r h=>by simp [zj.l0] at h
 | k + 1=>by
  have ih0:=zj.zX k
  · intro y0 y1 y2
    unfold zj.l0
    repeat' first
    | (with_reducible exact ih0 _ _ _)
    | (with_reducible exact LeO.refl _)
    | (with_reducible exact LeO.none _)
    | (with_reducible refine LeO.ite ?_ ?_)
    | (with_reducible refine LeO.bind ?_ (fun _=>?_))
    | exact ih0 _ _ _
    | exact LeO.none _
    | refine LeO.ite ?_ ?_
    | refine LeO.bind ?_ (fun _=>?_)
theorem zj.mono : ∀ a0 k,LeO (zj.f k a0) (zj.f (k + 1) a0):=by
 intro a0 k
 have ih0:=zj.zX k
 unfold zj.f
 repeat' first
  | (with_reducible exact ih0 _ _ _)
  | (with_reducible exact LeO.refl _)
  | (with_reducible exact LeO.none _)
  | (with_reducible refine LeO.ite ?_ ?_)
  | (with_reducible refine LeO.bind ?_ (fun _=>?_))
  | exact ih0 _ _ _
  | exact LeO.none _
  | refine LeO.ite ?_ ?_
  | refine LeO.bind ?_ (fun _=>?_)
set_option maxHeartbeats 8000000 in
set_option maxRecDepth 100000 in
theorem zj.calls (k : Nat) (a0 : Int) (r : Int) (w : World) (h : zj.f k a0 = some r) :
 Calls Try.prog 37 #[.int .i64 a0] w fun e w'=>e = .returned (.int .i64 r) ∧ Drawn0 w w':=by
 have H : (zj.l0 k a0 1 0) = some r:=h
 clear h
 have H':=z3.mk H
 clear H
 go_enter Try.func37,Try.ntmps37
 go_wp2
 go_loopg [3,4] k (fun kq v3 v4 w'=>∃ (x3_1 : Int) (x4_1 : Int),v3 = .int .i64 x3_1 ∧ v4 = .int .i64 x4_1 ∧ z3 (zj.l0 kq a0 x3_1 x4_1 = some r) ∧ z3 (kq ≤ k) ∧ Drawn0 w w')
 case atStart=>exact ⟨(1),(0),(by first|rfl|(simp;done)|(simp [*];done)),(by first|rfl|(simp;done)|(simp [*];done)),H',⟨Nat.le_refl _⟩,by repeat (first|exact Drawn0.refl _|apply Drawn0.step)⟩
 case round =>
  clear H'
  obtain ⟨x3_1,x4_1,rfl,rfl,HA,HK1,⟨m1,rfl⟩⟩:=hrel
  cases gk with
  | zero=>exact absurd HA.out (by simp [zj.l0])
  | succ k1 =>
   have H:=HA.out
   clear HA
   simp only [zj.l0] at H
   by_cases c2 : x4_1 ≤ 16
   rotate_left
   · rw [if_neg c2] at H
     have c2b0 : decide (x4_1 ≤ 16) = false:=decide_eq_false c2
     clear c2
     obtain rfl:=Option.some.inj H
     go_wp2
     go_ret
     exact ⟨by first|rfl|(simp;done)|(simp [*];done),by repeat (first|exact Drawn0.refl _|apply Drawn0.step)⟩
   rw [if_pos c2] at H
   have c2b0 : decide (x4_1 ≤ 16) = true:=decide_eq_true c2
   clear c2
   by_cases c3 : x3_1 = a0
   · rw [if_pos c3] at H
     have c3b0 : (x3_1 == a0) = true:=beq_iff_eq.mpr c3
     have c3b1 : (x3_1 != a0) = false:=bne_eq_false_iff_eq.mpr c3
     clear c3
     obtain rfl:=Option.some.inj H
     go_wp2
     go_ret
     exact ⟨by first|rfl|(simp;done)|(simp [*];done),by repeat (first|exact Drawn0.refl _|apply Drawn0.step)⟩
   rw [if_neg c3] at H
   have c3b0 : (x3_1 == a0) = false:=beq_eq_false_iff_ne.mpr c3
   have c3b1 : (x3_1 != a0) = true:=bne_iff_ne.mpr c3
   have H':=z3.mk H
   clear H
   go_wp2
   go_roundg k1
   case measure=>have:=HK1.out;omega
   case rel=>exact ⟨(wrap64 (2 * x3_1)),(wrap64 (x4_1 + 1)),(by first|rfl|(simp;done)|(simp [*];done)),(by first|rfl|(simp;done)|(simp [*];done)),H',⟨by have:=HK1.out;omega⟩,by repeat (first|exact Drawn0.refl _|apply Drawn0.step)⟩
end Go.Proofs.Ytngcaphdkgihmaa.P
namespace Go.Proofs.Ytngcaphdkgihmaa.P
open Go.RowKit Go.Proofs.YtngcaphdkgihmaaW.PrintWords Go.Proofs.YtngcaphdkgihmaaW.PrintLast Go.Proofs.YtngcaphdkgihmaaW.PrintMore
attribute [local go_sem] zS zU z12 z13 zK zL zT zV   -- for this text's walks alone
set_option linter.unusedVariables false
set_option linter.unusedSimpArgs false
def z1i.f (a0_0 : Int) (a0_1 : Int) (a1 : Int) : Option (Int):=if a1 ≥ 64 then (if 0 ≤ (IntKind.u64.wrap (wrap64 (a1 - 64))) then (some (Go.bits .and .u64 (shr .u64 a0_0 (IntKind.u64.wrap (wrap64 (a1 - 64)))) 1)) else (none)) else (if 0 ≤ (IntKind.u64.wrap (a1)) then (some (Go.bits .and .u64 (shr .u64 a0_1 (IntKind.u64.wrap (a1))) 1)) else (none))
set_option maxHeartbeats 8000000 in
set_option maxRecDepth 100000 in
theorem z1i.calls (a0_0 : Int) (a0_1 : Int) (a1 : Int) (r : Int) (w : World) (h : z1i.f a0_0 a0_1 a1 = some r) :
 Calls Try.prog 81 #[.agg #[.int .u64 a0_0,.int .u64 a0_1],.int .i64 a1] w fun e w'=>e = .returned (.int .u64 r) ∧ Below w.heap.size w w':=by
 have hu61:=Try.underlying61
 have HB:=z3.mk (Below.refl w.heap.size w)
 have H : (if a1 ≥ 64 then (if 0 ≤ (IntKind.u64.wrap (wrap64 (a1 - 64))) then (some (Go.bits .and .u64 (shr .u64 a0_0 (IntKind.u64.wrap (wrap64 (a1 - 64)))) 1)) else (none)) else (if 0 ≤ (IntKind.u64.wrap (a1)) then (some (Go.bits .and .u64 (shr .u64 a0_1 (IntKind.u64.wrap (a1))) 1)) else (none))) = some r:=h
 clear h
 by_cases c3 : a1 ≥ 64
 · rw [if_pos c3] at H
   have c3b0 : decide (64 ≤ a1) = true:=decide_eq_true c3
   clear c3
   obtain ⟨ji4,hji4⟩ : ∃ j_ : Int,(IntKind.u64.wrap (wrap64 (a1 - 64))) = j_:=⟨_,rfl⟩
   replace H : (if 0 ≤ (ji4) then (some (Go.bits .and .u64 (shr .u64 a0_0 (ji4)) 1)) else (none)) = some r:=by first|(rw [hji4] at H;exact H)|(simp only [hji4] at H ⊢;exact H)
   by_cases c5 : 0 ≤ (ji4)
   rotate_left
   · rw [if_neg c5] at H
     exact absurd H (by simp)
   rw [if_pos c5] at H
   have c5b0:=eq_true c5
   have c5b1 : decide (0 ≤ (ji4)) = true:=decide_eq_true c5
   clear c5
   obtain ⟨ji6,hji6⟩ : ∃ j_ : Int,(shr .u64 a0_0 (ji4)) = j_:=⟨_,rfl⟩
   replace H : (some (Go.bits .and .u64 (ji6) 1)) = some r:=by first|(rw [hji6] at H;exact H)|(simp only [hji6] at H ⊢;exact H)
   have hji6_ : (a0_0 / 2 ^ min (ji4).toNat 64) = ji6:=hji6
   have hji6z : (ji4) ≤ 64 → (a0_0 / 2 ^ (ji4).toNat) = ji6:=z1M hji6
   obtain rfl:=Option.some.inj H
   go_enter Try.func81,Try.ntmps81
   go_wp2_with (first|((with_reducible refine zA (N:=2) rfl ?_);refine zy ?hg (N:=2) ?hd (cs:=#[.int .u64 a0_0,.int .u64 a0_1]) (t:=61) ?hr ?_;(case hd=>rfl);(case hg=>rfl);(case hr=>first|(go_simp;done)|(go_simp;rfl));intro gb101 hg w7 hbox hb;have n0_:=z3.mk (zc (by repeat (first|(with_reducible first|exact HB.out|apply z2|apply z0|apply z1)|exact HB.out)) hb);have n1_:=z3.mk (hbox);have n2_:=z3.mk ((by rw [hg];exact (zd (by repeat (first|(with_reducible first|exact HB.out|apply z2|apply z0|apply z1)|exact HB.out))) : w.heap.size ≤ gb101));have n3_:=z3.mk ((by rw [hg];exact (zd (by repeat (first|(with_reducible first|exact HB.out|apply z2|apply z0|apply z1)|exact HB.out))) : w.heap.size ≤ gb101));clear HB;have HB:=n0_;have BK101:=n1_;have GW101:=n2_;have GE101:=n3_;clear n0_ n1_ n2_ n3_;clear hb hbox hg;have hcz8_0 : w7.cell? ⟨gb101,0,none⟩ = some (.int .u64 a0_0):=(za BK101.out 0).trans rfl;have hcz8_1 : w7.cell? ⟨gb101,1,none⟩ = some (.int .u64 a0_1):=(za BK101.out 1).trans rfl;have hfz8_0:=zb BK101.out 0;have hfz8_1:=zb BK101.out 1))
   go_ret
   exact ⟨by first|rfl|(simp [zf,zg] <;> rfl)|(simp only [← hji4,← hji6];first|rfl|(simp [zf,zg] <;> rfl))|(simp [*,zf,zg] <;> rfl),by repeat (first|(with_reducible first|exact HB.out|apply z2|apply z0|apply z1|refine z7 ?_ GE101.out)|exact HB.out)⟩
 rw [if_neg c3] at H
 have c3b0 : decide (64 ≤ a1) = false:=decide_eq_false c3
 clear c3
 obtain ⟨ji9,hji9⟩ : ∃ j_ : Int,(IntKind.u64.wrap (a1)) = j_:=⟨_,rfl⟩
 replace H : (if 0 ≤ (ji9) then (some (Go.bits .and .u64 (shr .u64 a0_1 (ji9)) 1)) else (none)) = some r:=by first|(rw [hji9] at H;exact H)|(simp only [hji9] at H ⊢;exact H)
 by_cases c10 : 0 ≤ (ji9)
 rotate_left
 · rw [if_neg c10] at H
   exact absurd H (by simp)
 rw [if_pos c10] at H
 have c10b0:=eq_true c10
 have c10b1 : decide (0 ≤ (ji9)) = true:=decide_eq_true c10
 clear c10
 obtain ⟨ji11,hji11⟩ : ∃ j_ : Int,(shr .u64 a0_1 (ji9)) = j_:=⟨_,rfl⟩
 replace H : (some (Go.bits .and .u64 (ji11) 1)) = some r:=by first|(rw [hji11] at H;exact H)|(simp only [hji11] at H ⊢;exact H)
 have hji11_ : (a0_1 / 2 ^ min (ji9).toNat 64) = ji11:=hji11
 have hji11z : (ji9) ≤ 64 → (a0_1 / 2 ^ (ji9).toNat) = ji11:=z1M hji11
 obtain rfl:=Option.some.inj H
 go_enter Try.func81,Try.ntmps81
 go_wp2_with (first|((with_reducible refine zA (N:=2) rfl ?_);refine zy ?hg (N:=2) ?hd (cs:=#[.int .u64 a0_0,.int .u64 a0_1]) (t:=61) ?hr ?_;(case hd=>rfl);(case hg=>rfl);(case hr=>first|(go_simp;done)|(go_simp;rfl));intro gb101 hg w12 hbox hb;have n0_:=z3.mk (zc (by repeat (first|(with_reducible first|exact HB.out|apply z2|apply z0|apply z1)|exact HB.out)) hb);have n1_:=z3.mk (hbox);have n2_:=z3.mk ((by rw [hg];exact (zd (by repeat (first|(with_reducible first|exact HB.out|apply z2|apply z0|apply z1)|exact HB.out))) : w.heap.size ≤ gb101));have n3_:=z3.mk ((by rw [hg];exact (zd (by repeat (first|(with_reducible first|exact HB.out|apply z2|apply z0|apply z1)|exact HB.out))) : w.heap.size ≤ gb101));clear HB;have HB:=n0_;have BK101:=n1_;have GW101:=n2_;have GE101:=n3_;clear n0_ n1_ n2_ n3_;clear hb hbox hg;have hcz13_0 : w12.cell? ⟨gb101,0,none⟩ = some (.int .u64 a0_0):=(za BK101.out 0).trans rfl;have hcz13_1 : w12.cell? ⟨gb101,1,none⟩ = some (.int .u64 a0_1):=(za BK101.out 1).trans rfl;have hfz13_0:=zb BK101.out 0;have hfz13_1:=zb BK101.out 1))
 go_ret
 exact ⟨by first|rfl|(simp [zf,zg] <;> rfl)|(simp only [← hji9,← hji11];first|rfl|(simp [zf,zg] <;> rfl))|(simp [*,zf,zg] <;> rfl),by repeat (first|(with_reducible first|exact HB.out|apply z2|apply z0|apply z1|refine z7 ?_ GE101.out)|exact HB.out)⟩
end Go.Proofs.Ytngcaphdkgihmaa.P
namespace Go.Proofs.Ytngcaphdkgihmaa.P
open Go.RowKit Go.Proofs.YtngcaphdkgihmaaW.PrintWords Go.Proofs.YtngcaphdkgihmaaW.PrintLast Go.Proofs.YtngcaphdkgihmaaW.PrintMore
attribute [local go_sem] zS zU z12 z13 zK zL zT zV   -- for this text's walks alone
set_option linter.unusedVariables false
set_option linter.unusedSimpArgs false
mutual
def zl.j0 : Nat → Int → List Int → Bool → Int → Int → Option (Bool)
 | 0,_,_,_,_,_=>none
 | k + 1,x0,x5,x13,x102000,x102001=>if x13 = true then (some false) else (if 0 ≤ x0 then (if x0 < (x5.length : Int) then (zl.l0 k (rd x5 x0) x102000 x102001) else (none)) else (none))
def zl.l0 : Nat → Int → Int → Int → Option (Bool)
 | 0,_,_,_=>none
 | k + 1,x6,x102000,x102001=>if x6 < 128 then ((z1i.f x102000 x102001 x6).bind fun t106=>(if t106 = 1 then (some false) else (zl.l0 k (wrap64 (x6 + 1)) x102000 x102001))) else (some true)
end
def zl.f (k : Nat) (a0 : Int) (a1_0 : Int) (a1_1 : Int) : Option (Bool):=(some (([1,2,4,8,16,32,64,128] : List Int) : List Int)).bind fun y102=>(if a0 < 0 then (zl.j0 k a0 y102 true a1_0 a1_1) else (zl.j0 k a0 y102 (decide (a0 > 7)) a1_0 a1_1))
theorem zl.zX : ∀ k,(∀ y0 y1 y2 y3 y4,LeO (zl.j0 k y0 y1 y2 y3 y4) (zl.j0 (k + 1) y0 y1 y2 y3 y4)) ∧ (∀ y0 y1 y2,LeO (zl.l0 k y0 y1 y2) (zl.l0 (k + 1) y0 y1 y2))
 | 0=>⟨fun _ _ _ _ _ r h=>by simp [zl.j0] at h,fun _ _ _ r h=>by simp [zl.l0] at h⟩
 | k + 1=>by
  obtain ⟨ih0,ih1⟩:=zl.zX k
  refine ⟨?_,?_⟩
  · intro y0 y1 y2 y3 y4
    unfold zl.j0
    repeat' first
    | (with_reducible exact ih0 _ _ _ _ _)
    | (with_reducible exact ih1 _ _ _)
    | (with_reducible exact LeO.refl _)
    | (with_reducible exact LeO.none _)
    | (with_reducible refine LeO.ite ?_ ?_)
    | (with_reducible refine LeO.bind ?_ (fun _=>?_))
    | exact ih0 _ _ _ _ _
    | exact ih1 _ _ _
    | exact LeO.none _
    | refine LeO.ite ?_ ?_
    | refine LeO.bind ?_ (fun _=>?_)
  · intro y0 y1 y2
    unfold zl.l0
    repeat' first
    | (with_reducible exact ih0 _ _ _ _ _)
    | (with_reducible exact ih1 _ _ _)
    | (with_reducible exact LeO.refl _)
    | (with_reducible exact LeO.none _)
    | (with_reducible refine LeO.ite ?_ ?_)
    | (with_reducible refine LeO.bind ?_ (fun _=>?_))
    | exact ih0 _ _ _ _ _
    | exact ih1 _ _ _
    | exact LeO.none _
    | refine LeO.ite ?_ ?_
    | refine LeO.bind ?_ (fun _=>?_)
theorem zl.mono : ∀ a0 a1 a2 k,LeO (zl.f k a0 a1 a2) (zl.f (k + 1) a0 a1 a2):=by
 intro a0 a1 a2 k
 obtain ⟨ih0,ih1⟩:=zl.zX k
 unfold zl.f
 repeat' first
  | (with_reducible exact ih0 _ _ _ _ _)
  | (with_reducible exact ih1 _ _ _)
  | (with_reducible exact LeO.refl _)
  | (with_reducible exact LeO.none _)
  | (with_reducible refine LeO.ite ?_ ?_)
  | (with_reducible refine LeO.bind ?_ (fun _=>?_))
  | exact ih0 _ _ _ _ _
  | exact ih1 _ _ _
  | exact LeO.none _
  | refine LeO.ite ?_ ?_
  | refine LeO.bind ?_ (fun _=>?_)
set_option maxHeartbeats 8000000 in
set_option maxRecDepth 100000 in
theorem zl.calls (k : Nat) (a0 : Int) (a1_0 : Int) (a1_1 : Int) (r : Bool) (w : World) (h : zl.f k a0 a1_0 a1_1 = some r) :
 Calls Try.prog 39 #[.int .i64 a0,.agg #[.int .u64 a1_0,.int .u64 a1_1]] w fun e w'=>e = .returned (.bool r) ∧ Below w.heap.size w w':=by
 have hu61:=Try.underlying61
 have HB:=z3.mk (Below.refl w.heap.size w)
 have H : ((some (([1,2,4,8,16,32,64,128] : List Int) : List Int)).bind fun y102=>(if a0 < 0 then (zl.j0 k a0 y102 true a1_0 a1_1) else (zl.j0 k a0 y102 (decide (a0 > 7)) a1_0 a1_1))) = some r:=h
 clear h
 obtain ⟨y102,hy102⟩ : ∃ y_ : List Int,y_ = (([1,2,4,8,16,32,64,128] : List Int)):=⟨_,rfl⟩
 replace H : (if a0 < 0 then (zl.j0 k a0 y102 true a1_0 a1_1) else (zl.j0 k a0 y102 (decide (a0 > 7)) a1_0 a1_1)) = some r:=by first|(rw [hy102];with_reducible exact H)|(have H2_:=(Option.bind_some _ _).symm.trans H;rw [hy102];with_reducible exact H2_)|(have H2_:=(Option.bind_some _ _).symm.trans H;with_reducible exact H2_)|with_reducible exact H|(rw [hy102];exact H)|exact H
 have Ny102:=z3.mk hy102
 clear hy102
 have HC3:=z3.mk H
 clear H
 go_enter Try.func39,Try.ntmps39
 go_upto_region 2 with (first|((with_reducible refine zA (N:=3) rfl ?_);refine zy ?hg (N:=3) ?hd (cs:=#[.int .u64 a1_0,.int .u64 a1_1]) (t:=61) ?hr ?_;(case hd=>rfl);(case hg=>rfl);(case hr=>first|(go_simp;done)|(go_simp;rfl));intro gb101 hg w4 hbox hb;have n0_:=z3.mk (zc (by repeat (first|(with_reducible first|exact HB.out|apply z2|apply z0|apply z1)|exact HB.out)) hb);have n1_:=z3.mk (hbox);have n2_:=z3.mk ((by rw [hg];exact (zd (by repeat (first|(with_reducible first|exact HB.out|apply z2|apply z0|apply z1)|exact HB.out))) : w.heap.size ≤ gb101));have n3_:=z3.mk ((by rw [hg];exact (zd (by repeat (first|(with_reducible first|exact HB.out|apply z2|apply z0|apply z1)|exact HB.out))) : w.heap.size ≤ gb101));clear HB;have HB:=n0_;have BK101:=n1_;have GW101:=n2_;have GE101:=n3_;clear n0_ n1_ n2_ n3_;clear hb hbox hg)|((with_reducible refine zA (N:=7) rfl ?_);refine Kd.z3m (Kd.int .i64) _ 3 ?hg (N:=7) ?hd (xs:=([1,2,4,8,16,32,64,128] : List Int)) (inner:=[.int .i64 1,.int .i64 2,.int .i64 4,.int .i64 8,.int .i64 16,.int .i64 32,.int .i64 64,.int .i64 128]) (ok:=fun _=>True) (okp:=fun _=>True) ?hr ?hp (fun _ hk=>hk) trivial (Below.refl _ _) (Nat.le_refl _) (by simp) ?_;(case hd=>rfl);(case hg=>rfl);(case hr=>first|(go_simp;done)|(go_simp;rfl));(case hp=>exact (Reps.one (show Kd.M (Kd.int .i64) _ _ _ 1 [.int .i64 1] from rfl) (Reps.one (show Kd.M (Kd.int .i64) _ _ _ 2 [.int .i64 2] from rfl) (Reps.one (show Kd.M (Kd.int .i64) _ _ _ 4 [.int .i64 4] from rfl) (Reps.one (show Kd.M (Kd.int .i64) _ _ _ 8 [.int .i64 8] from rfl) (Reps.one (show Kd.M (Kd.int .i64) _ _ _ 16 [.int .i64 16] from rfl) (Reps.one (show Kd.M (Kd.int .i64) _ _ _ 32 [.int .i64 32] from rfl) (Reps.one (show Kd.M (Kd.int .i64) _ _ _ 64 [.int .i64 64] from rfl) (Reps.one (show Kd.M (Kd.int .i64) _ _ _ 128 [.int .i64 128] from rfl) (Reps.none _ _))))))))));intro v103 w5 ho6 hb hg_ hnew_;clear hg_ hnew_;(first|rw [← Ny102.out] at ho6|(simp only [Int.reduceToNat] at ho6;rw [← Ny102.out] at ho6));have n0_:=z3.mk (Kd.z1s ho6 (zd (by repeat (first|(with_reducible first|exact HB.out|apply z2|apply z0|apply z1|refine z7 ?_ GE101.out)|exact HB.out))));have n1_:=z3.mk (ze (g:=gb101) (o:=.cells #[.int .u64 a1_0,.int .u64 a1_1] 61 (0,0)) (by (with_reducible repeat (first|refine z5 ?_ _|refine z8 ?_|refine z4 ?_ _));exact BK101.out) hb);have n2_:=z3.mk (zc (by repeat (first|(with_reducible first|exact HB.out|apply z2|apply z0|apply z1|refine z7 ?_ GE101.out)|exact HB.out)) hb);clear BK101;clear HB;have HO104:=n0_;have BK101:=n1_;have HB:=n2_;clear n0_ n1_ n2_;clear hb ho6))
 (try simp only [Act.put,List.setIfInBounds_toArray,List.set_cons_zero,List.set_cons_succ])
 go_cut [13] (fun v13 wc=>∃ (kq : Nat) (x13_2 : Bool),v13 = .bool x13_2 ∧ z3 (zl.j0 kq a0 y102 x13_2 a1_0 a1_1 = some r) ∧ z3 (kq ≤ k) ∧ z3 (Kd.R (Kd.int .i64) 3 wc w.heap.size (fun _=>True) v103 y102) ∧ z3 (wc.heap[gb101]? = some (.cells #[.int .u64 a1_0,.int .u64 a1_1] 61 (0,0))) ∧ z3 (Below w.heap.size w wc))
 case first =>
  have H:=HC3.out
  clear HC3
  by_cases c7 : a0 < 0
  rotate_left
  · rw [if_neg c7] at H
    have c7b0 : decide (a0 < 0) = false:=decide_eq_false c7
    clear c7
    (first|rw [c7b0]|(simp only [zD,zF];rw [c7b0])|skip)
    have H':=z3.mk H
    clear H
    go_wp2
    go_meet
    case rel=>exact ⟨_,(decide (a0 > 7)),(by first|rfl|(simp;done)|(simp [*];done)),H',⟨by first|omega|exact Nat.le_refl _⟩,⟨by (with_reducible repeat (first|apply Kd.zP|apply Kd.zQ|apply Kd.z10));exact HO104.out⟩,⟨by (with_reducible repeat (first|refine z5 ?_ _|refine z8 ?_|refine z4 ?_ _));exact BK101.out⟩,⟨by repeat (first|(with_reducible first|exact HB.out|apply z2|apply z0|apply z1|refine z7 ?_ GE101.out)|exact HB.out)⟩⟩
  rw [if_pos c7] at H
  have c7b0 : decide (a0 < 0) = true:=decide_eq_true c7
  clear c7
  (first|rw [c7b0]|(simp only [zD,zF];rw [c7b0])|skip)
  have H':=z3.mk H
  clear H
  go_wp2
  go_meet
  case rel=>exact ⟨_,(true),(by first|rfl|(simp;done)|(simp [*];done)),H',⟨by first|omega|exact Nat.le_refl _⟩,⟨by (with_reducible repeat (first|apply Kd.zP|apply Kd.zQ|apply Kd.z10));exact HO104.out⟩,⟨by (with_reducible repeat (first|refine z5 ?_ _|refine z8 ?_|refine z4 ?_ _));exact BK101.out⟩,⟨by repeat (first|(with_reducible first|exact HB.out|apply z2|apply z0|apply z1|refine z7 ?_ GE101.out)|exact HB.out)⟩⟩
 case rest =>
  clear HC3
  (try clear p2);(try clear c3);(try clear c7);(try clear c7b0)
  obtain ⟨kq,x13_2,rfl,HA,HJ2,HO_5,BK101,HB⟩:=hcut
  cases kq with
  | zero=>exact absurd HA.out (by simp [zl.j0])
  | succ kj2 =>
   have H:=HA.out
   clear HA
   simp only [zl.j0] at H
   by_cases c8 : x13_2 = true
   · subst c8
     have H1 : (some false) = some r:=by rw [if_pos rfl] at H;exact H
     clear H
     have H:=H1
     clear H1
     obtain rfl:=Option.some.inj H
     go_wp2
     go_ret
     exact ⟨by first|rfl|(simp [zf,zg] <;> rfl)|(simp [*,zf,zg] <;> rfl),by repeat (first|(with_reducible first|exact HB.out|apply z2|apply z0|apply z1|refine z7 ?_ GE101.out)|exact HB.out)⟩
   replace c8:=Bool.eq_false_iff.mpr c8
   subst c8
   have H1 : (if 0 ≤ a0 then (if a0 < (y102.length : Int) then (zl.l0 kj2 (rd y102 a0) a1_0 a1_1) else (none)) else (none)) = some r:=by rw [if_neg (show ¬ (false = true) by decide)] at H;exact H
   clear H
   have H:=H1
   clear H1
   by_cases c9 : 0 ≤ a0
   rotate_left
   · rw [if_neg c9] at H
     exact absurd H (by simp)
   rw [if_pos c9] at H
   have c9b0 : decide (0 ≤ a0) = true:=decide_eq_true c9
   clear c9
   by_cases c10 : a0 < (y102.length : Int)
   rotate_left
   · rw [if_neg c10] at H
     exact absurd H (by simp)
   rw [if_pos c10] at H
   have c10b0 : decide (a0 < (y102.length : Int)) = true:=decide_eq_true c10
   clear c10
   have H':=z3.mk H
   clear H
   obtain ⟨Ao11,co11,eo11⟩:=Kd.z1p HO_5.out
   subst eo11
   have p105 : 0 ≤ (a0 : Int):=of_decide_eq_true (by first|(with_reducible assumption)|assumption)
   have q105 : a0 < (y102.length : Int):=of_decide_eq_true (by first|(with_reducible assumption)|assumption)
   obtain ⟨ad105,e105,hx105_0⟩:=Kd.at_int (Kd.z11 HO_5.out).2.2 a0 p105 q105
   cases e105
   replace p105:=eq_true p105
   replace q105:=eq_true q105
   go_wp2
   go_loopg [6] kj2 (fun kq v6 w'=>∃ (x6_2 : Int),v6 = .int .i64 x6_2 ∧ z3 (zl.l0 kq x6_2 a1_0 a1_1 = some r) ∧ z3 (kq ≤ kj2) ∧ z3 (w'.heap[gb101]? = some (.cells #[.int .u64 a1_0,.int .u64 a1_1] 61 (0,0))) ∧ z3 (Below w.heap.size w w'))
   case atStart=>exact ⟨(rd y102 a0),(by first|rfl|(simp;done)|(simp [*];done)),H',⟨Nat.le_refl _⟩,⟨by (with_reducible repeat (first|refine z5 ?_ _|refine z8 ?_|refine z4 ?_ _));exact BK101.out⟩,⟨by repeat (first|(with_reducible first|exact HB.out|apply z2|apply z0|apply z1|refine z7 ?_ GE101.out)|exact HB.out)⟩⟩
   case round =>
    clear H'
    (try clear c1);(try clear p1);(try clear q1);(try clear hx1);(try clear p2);(try clear c3);(try clear c7);(try clear c7b0);(try clear c8);(try clear c9);(try clear c9b0);(try clear c10);(try clear c10b0);(try clear p10);(try clear q10);(try clear hx10);(try clear hx105_0);(try clear p105);(try clear p2);(try clear q105)
    obtain ⟨x6_2,rfl,HA,HK2,BK101,HB⟩:=hrel
    cases gk with
    | zero=>exact absurd HA.out (by simp [zl.l0])
    | succ k2 =>
     have H:=HA.out
     clear HA
     simp only [zl.l0] at H
     by_cases c12 : x6_2 < 128
     rotate_left
     · rw [if_neg c12] at H
       have c12b0 : decide (x6_2 < 128) = false:=decide_eq_false c12
       clear c12
       obtain rfl:=Option.some.inj H
       go_wp2
       go_ret
       exact ⟨by first|rfl|(simp [zf,zg] <;> rfl)|(simp [*,zf,zg] <;> rfl),by repeat (first|(with_reducible first|exact HB.out|apply z2|apply z0|apply z1|refine z7 ?_ GE101.out)|exact HB.out)⟩
     rw [if_pos c12] at H
     have c12b0 : decide (x6_2 < 128) = true:=decide_eq_true c12
     clear c12
     replace H:=Option.bind_eq_some_iff.mp H
     obtain ⟨t106,A130,H⟩:=H
     replace H : (if t106 = 1 then (some false) else (zl.l0 k2 (wrap64 (x6_2 + 1)) a1_0 a1_1)) = some r:=H
     have A13:=z3.mk A130
     clear A130
     by_cases c14 : t106 = 1
     · rw [if_pos c14] at H
       have c14b0 : (t106 == 1) = true:=beq_iff_eq.mpr c14
       have c14b1 : (t106 != 1) = false:=bne_eq_false_iff_eq.mpr c14
       clear c14
       obtain rfl:=Option.some.inj H
       have hcz15_0 : wr.cell? ⟨gb101,0,none⟩ = some (.int .u64 a1_0):=(za BK101.out 0).trans rfl
       have hcz15_1 : wr.cell? ⟨gb101,1,none⟩ = some (.int .u64 a1_1):=(za BK101.out 1).trans rfl
       have hfz15_0:=zb BK101.out 0
       have hfz15_1:=zb BK101.out 1
       go_wp2_with (first|((with_reducible refine zt (f:=81) rfl ?_);refine goesL_ (some 24) rfl rfl Try.func81 (by kernel_rfl) rfl #[.agg #[.int .u64 a1_0,.int .u64 a1_1],.int .i64 x6_2] rfl (by (try simp only [List.map_toArray,List.map_cons,List.map_nil]);first|done|rfl|(simp only [List.length_drop,List.length_take];rfl)) ?_;(with_reducible refine (z1i.calls a1_0 a1_1 x6_2 t106 _ A13.out).mono ?_);rintro e w16 ⟨rfl,hb⟩;refine ⟨_,rfl,?_⟩;have n0_:=z3.mk (ze (g:=gb101) (o:=.cells #[.int .u64 a1_0,.int .u64 a1_1] 61 (0,0)) (by (with_reducible repeat (first|refine z5 ?_ _|refine z8 ?_|refine z4 ?_ _));exact BK101.out) hb);have n1_:=z3.mk (zc (by repeat (first|(with_reducible first|exact HB.out|apply z2|apply z0|apply z1|refine z7 ?_ GE101.out)|exact HB.out)) hb);clear BK101;clear HB;have BK101:=n0_;have HB:=n1_;clear n0_ n1_;(try clear hb);(try clear hb2);(try clear hk);(try clear hi)))
       go_ret
       exact ⟨by first|rfl|(simp [zf,zg] <;> rfl)|(simp [*,zf,zg] <;> rfl),by repeat (first|(with_reducible first|exact HB.out|apply z2|apply z0|apply z1|refine z7 ?_ GE101.out)|exact HB.out)⟩
     rw [if_neg c14] at H
     have c14b0 : (t106 == 1) = false:=beq_eq_false_iff_ne.mpr c14
     have c14b1 : (t106 != 1) = true:=bne_iff_ne.mpr c14
     have H':=z3.mk H
     clear H
     have hcz17_0 : wr.cell? ⟨gb101,0,none⟩ = some (.int .u64 a1_0):=(za BK101.out 0).trans rfl
     have hcz17_1 : wr.cell? ⟨gb101,1,none⟩ = some (.int .u64 a1_1):=(za BK101.out 1).trans rfl
     have hfz17_0:=zb BK101.out 0
     have hfz17_1:=zb BK101.out 1
     go_wp2_with (first|((with_reducible refine zt (f:=81) rfl ?_);refine goesL_ (some 24) rfl rfl Try.func81 (by kernel_rfl) rfl #[.agg #[.int .u64 a1_0,.int .u64 a1_1],.int .i64 x6_2] rfl (by (try simp only [List.map_toArray,List.map_cons,List.map_nil]);first|done|rfl|(simp only [List.length_drop,List.length_take];rfl)) ?_;(with_reducible refine (z1i.calls a1_0 a1_1 x6_2 t106 _ A13.out).mono ?_);rintro e w18 ⟨rfl,hb⟩;refine ⟨_,rfl,?_⟩;have n0_:=z3.mk (ze (g:=gb101) (o:=.cells #[.int .u64 a1_0,.int .u64 a1_1] 61 (0,0)) (by (with_reducible repeat (first|refine z5 ?_ _|refine z8 ?_|refine z4 ?_ _));exact BK101.out) hb);have n1_:=z3.mk (zc (by repeat (first|(with_reducible first|exact HB.out|apply z2|apply z0|apply z1|refine z7 ?_ GE101.out)|exact HB.out)) hb);clear BK101;clear HB;have BK101:=n0_;have HB:=n1_;clear n0_ n1_;(try clear hb);(try clear hb2);(try clear hk);(try clear hi)))
     go_roundg k2
     case measure=>have:=HJ2.out;have:=HK2.out;omega
     case rel=>exact ⟨(wrap64 (x6_2 + 1)),(by first|rfl|(simp;done)|(simp [*];done)),H',⟨by have:=HJ2.out;have:=HK2.out;omega⟩,⟨by (with_reducible repeat (first|refine z5 ?_ _|refine z8 ?_|refine z4 ?_ _));exact BK101.out⟩,⟨by repeat (first|(with_reducible first|exact HB.out|apply z2|apply z0|apply z1|refine z7 ?_ GE101.out)|exact HB.out)⟩⟩
end Go.Proofs.Ytngcaphdkgihmaa.P
namespace Go.Proofs.Ytngcaphdkgihmaa.P
open Go.RowKit Go.Proofs.YtngcaphdkgihmaaW.PrintWords Go.Proofs.YtngcaphdkgihmaaW.PrintLast Go.Proofs.YtngcaphdkgihmaaW.PrintMore
attribute [local go_sem] zS zU z12 z13 zK zL zT zV   -- for this text's walks alone
set_option linter.unusedVariables false
set_option linter.unusedSimpArgs false
def zm.l0 : Nat → Int → List (S61) → Int → Option (Bool)
 | 0,_,_,_=>none
 | k + 1,x0,x1,x5=>if x5 < (x1.length : Int) then (if 0 ≤ x5 then ((zl.f k x0 ((z15 x1 x5).f0) ((z15 x1 x5).f1)).bind fun t102=>(if t102 = true then (zm.l0 k x0 x1 (wrap64 (x5 + 1))) else (some false))) else (none)) else (some true)
def zm.f (k : Nat) (a0 : Int) (l1 : List (S61)) : Option (Bool):=zm.l0 k a0 l1 0
theorem zm.zX : ∀ k,(∀ y0 y1 y2,LeO (zm.l0 k y0 y1 y2) (zm.l0 (k + 1) y0 y1 y2))
 | 0=>fun _ _ _ r h=>by simp [zm.l0] at h
 | k + 1=>by
  have ih0:=zm.zX k
  · intro y0 y1 y2
    unfold zm.l0
    repeat' first
    | (with_reducible exact ih0 _ _ _)
    | (with_reducible exact zl.mono _ _ _ _)
    | (with_reducible exact LeO.refl _)
    | (with_reducible exact LeO.none _)
    | (with_reducible refine LeO.ite ?_ ?_)
    | (with_reducible refine LeO.bind ?_ (fun _=>?_))
    | exact ih0 _ _ _
    | exact zl.mono _ _ _ _
    | exact LeO.none _
    | refine LeO.ite ?_ ?_
    | refine LeO.bind ?_ (fun _=>?_)
theorem zm.mono : ∀ a0 a1 k,LeO (zm.f k a0 a1) (zm.f (k + 1) a0 a1):=by
 intro a0 a1 k
 have ih0:=zm.zX k
 unfold zm.f
 repeat' first
  | (with_reducible exact ih0 _ _ _)
  | (with_reducible exact zl.mono _ _ _ _)
  | (with_reducible exact LeO.refl _)
  | (with_reducible exact LeO.none _)
  | (with_reducible refine LeO.ite ?_ ?_)
  | (with_reducible refine LeO.bind ?_ (fun _=>?_))
  | exact ih0 _ _ _
  | exact zl.mono _ _ _ _
  | exact LeO.none _
  | refine LeO.ite ?_ ?_
  | refine LeO.bind ?_ (fun _=>?_)
set_option maxHeartbeats 8000000 in
set_option maxRecDepth 100000 in
theorem zm.calls (k : Nat) (a0 : Int) (A1 : Option Addr) (c1 : Nat) (l1 : List (S61)) (r : Bool) (w : World) (hr1 : Kd.C k61 w A1 l1.length l1) (hc1 : l1.length ≤ c1) (h : zm.f k a0 l1 = some r) :
 Calls Try.prog 46 #[.int .i64 a0,.slice A1 l1.length c1] w fun e w'=>e = .returned (.bool r) ∧ Below w.heap.size w w':=by
 have hu61:=Try.underlying61
 have HR1:=z3.mk hr1
 have HC1:=z3.mk hc1
 clear hr1 hc1
 have HB:=z3.mk (Below.refl w.heap.size w)
 have H : (zm.l0 k a0 l1 0) = some r:=h
 clear h
 have H':=z3.mk H
 clear H
 go_enter Try.func46,Try.ntmps46
 go_wp2
 go_loopg [5] k (fun kq v5 w'=>∃ (x5_1 : Int),v5 = .int .i64 x5_1 ∧ z3 (zm.l0 kq a0 l1 x5_1 = some r) ∧ z3 (kq ≤ k) ∧ z3 (Below w.heap.size w w'))
 case atStart=>exact ⟨(0),(by first|rfl|(simp;done)|(simp [*];done)),H',⟨Nat.le_refl _⟩,⟨by repeat (first|(with_reducible first|exact HB.out|apply z2|apply z0|apply z1)|exact HB.out)⟩⟩
 case round =>
  clear H'
  (try clear c1);(try clear p2)
  obtain ⟨x5_1,rfl,HA,HK1,HB⟩:=hrel
  cases gk with
  | zero=>exact absurd HA.out (by simp [zm.l0])
  | succ k1 =>
   have H:=HA.out
   clear HA
   simp only [zm.l0] at H
   by_cases c3 : x5_1 < (l1.length : Int)
   rotate_left
   · rw [if_neg c3] at H
     have c3b0 : decide (x5_1 < (l1.length : Int)) = false:=decide_eq_false c3
     clear c3
     obtain rfl:=Option.some.inj H
     go_wp2
     go_ret
     exact ⟨by first|rfl|(simp [zf,zg] <;> rfl)|(simp [*,zf,zg] <;> rfl),by repeat (first|(with_reducible first|exact HB.out|apply z2|apply z0|apply z1)|exact HB.out)⟩
   rw [if_pos c3] at H
   have c3b0 : decide (x5_1 < (l1.length : Int)) = true:=decide_eq_true c3
   clear c3
   by_cases c4 : 0 ≤ x5_1
   rotate_left
   · rw [if_neg c4] at H
     exact absurd H (by simp)
   rw [if_pos c4] at H
   have c4b0 : decide (0 ≤ x5_1) = true:=decide_eq_true c4
   clear c4
   replace H:=Option.bind_eq_some_iff.mp H
   obtain ⟨t102,A50,H⟩:=H
   replace H : (if t102 = true then (zm.l0 k1 a0 l1 (wrap64 (x5_1 + 1))) else (some false)) = some r:=H
   have A5:=z3.mk A50
   clear A50
   by_cases c6 : t102 = true
   rotate_left
   · replace c6:=Bool.eq_false_iff.mpr c6
     subst c6
     have H1 : (some false) = some r:=by rw [if_neg (show ¬ (false = true) by decide)] at H;exact H
     clear H
     have H:=H1
     clear H1
     obtain rfl:=Option.some.inj H
     have p101 : 0 ≤ (x5_1 : Int):=of_decide_eq_true (by first|(with_reducible assumption)|assumption)
     have q101 : x5_1 < (l1.length : Int):=of_decide_eq_true (by first|(with_reducible assumption)|assumption)
     obtain ⟨ad101,e101,hx101_0,hx101_1⟩:=z2Q HR1.out x5_1 p101 q101
     cases e101
     replace hx101_0:=(HB.out.cell (World.block_lt_of_cell? w _ hx101_0)).trans hx101_0
     replace hx101_1:=(HB.out.cell (World.block_lt_of_cell? w _ hx101_1)).trans hx101_1
     replace p101:=eq_true p101
     replace q101:=eq_true q101
     go_wp2_with (first|((with_reducible refine zt (f:=39) rfl ?_);refine goesL_ (some 17) rfl rfl Try.func39 (by kernel_rfl) rfl #[.int .i64 a0,.agg #[.int .u64 ((z15 l1 x5_1).f0),.int .u64 ((z15 l1 x5_1).f1)]] rfl (by (try simp only [List.map_toArray,List.map_cons,List.map_nil]);first|done|rfl|(simp only [List.length_drop,List.length_take];rfl)) ?_;(with_reducible refine (zl.calls k1 a0 ((z15 l1 x5_1).f0) ((z15 l1 x5_1).f1) false _ A5.out).mono ?_);rintro e w8 ⟨rfl,hb⟩;refine ⟨_,rfl,?_⟩;have n0_:=z3.mk (zc (by repeat (first|(with_reducible first|exact HB.out|apply z2|apply z0|apply z1)|exact HB.out)) hb);clear HB;have HB:=n0_;clear n0_;(try clear hb);(try clear hb2);(try clear hk);(try clear hi)))
     go_ret
     exact ⟨by first|rfl|(simp [zf,zg] <;> rfl)|(simp [*,zf,zg] <;> rfl),by repeat (first|(with_reducible first|exact HB.out|apply z2|apply z0|apply z1)|exact HB.out)⟩
   subst c6
   have H1 : (zm.l0 k1 a0 l1 (wrap64 (x5_1 + 1))) = some r:=by rw [if_pos rfl] at H;exact H
   clear H
   have H:=H1
   clear H1
   have H':=z3.mk H
   clear H
   have p101 : 0 ≤ (x5_1 : Int):=of_decide_eq_true (by first|(with_reducible assumption)|assumption)
   have q101 : x5_1 < (l1.length : Int):=of_decide_eq_true (by first|(with_reducible assumption)|assumption)
   obtain ⟨ad101,e101,hx101_0,hx101_1⟩:=z2Q HR1.out x5_1 p101 q101
   cases e101
   replace hx101_0:=(HB.out.cell (World.block_lt_of_cell? w _ hx101_0)).trans hx101_0
   replace hx101_1:=(HB.out.cell (World.block_lt_of_cell? w _ hx101_1)).trans hx101_1
   replace p101:=eq_true p101
   replace q101:=eq_true q101
   go_wp2_with (first|((with_reducible refine zt (f:=39) rfl ?_);refine goesL_ (some 17) rfl rfl Try.func39 (by kernel_rfl) rfl #[.int .i64 a0,.agg #[.int .u64 ((z15 l1 x5_1).f0),.int .u64 ((z15 l1 x5_1).f1)]] rfl (by (try simp only [List.map_toArray,List.map_cons,List.map_nil]);first|done|rfl|(simp only [List.length_drop,List.length_take];rfl)) ?_;(with_reducible refine (zl.calls k1 a0 ((z15 l1 x5_1).f0) ((z15 l1 x5_1).f1) true _ A5.out).mono ?_);rintro e w7 ⟨rfl,hb⟩;refine ⟨_,rfl,?_⟩;have n0_:=z3.mk (zc (by repeat (first|(with_reducible first|exact HB.out|apply z2|apply z0|apply z1)|exact HB.out)) hb);clear HB;have HB:=n0_;clear n0_;(try clear hb);(try clear hb2);(try clear hk);(try clear hi)))
   go_roundg k1
   case measure=>have:=HK1.out;omega
   case rel=>exact ⟨(wrap64 (x5_1 + 1)),(by first|rfl|(simp;done)|(simp [*];done)),H',⟨by have:=HK1.out;omega⟩,⟨by repeat (first|(with_reducible first|exact HB.out|apply z2|apply z0|apply z1)|exact HB.out)⟩⟩
end Go.Proofs.Ytngcaphdkgihmaa.P
namespace Go.Proofs.Ytngcaphdkgihmaa.P
open Go.RowKit Go.Proofs.YtngcaphdkgihmaaW.PrintWords Go.Proofs.YtngcaphdkgihmaaW.PrintLast Go.Proofs.YtngcaphdkgihmaaW.PrintMore
attribute [local go_sem] zS zU z12 z13 zK zL zT zV   -- for this text's walks alone
set_option linter.unusedVariables false
set_option linter.unusedSimpArgs false
mutual
def zh.j0 : Nat → Int → List (S61) → List (S61) → Bool → Option (Int)
 | 0,_,_,_,_=>none
 | k + 1,x0,x1,x2,x12=>if x12 = true then (some 1) else ((zj.f k (x1.length : Int)).bind fun t101=>(if t101 < 0 then (zh.j1 k x0 x1 x2 true) else ((zj.f k (x1.length : Int)).bind fun t102=>(zh.j1 k x0 x1 x2 (decide ((x2.length : Int) > t102))))))
def zh.j1 : Nat → Int → List (S61) → List (S61) → Bool → Option (Int)
 | 0,_,_,_,_=>none
 | k + 1,x0,x1,x2,x24=>if x24 = true then (some 6) else ((zm.f k x0 x1).bind fun t103=>(if t103 = true then ((zm.f k x0 x2).bind fun t104=>(if t104 = true then (some 0) else (some 5))) else (some 5)))
end
def zh.f (k : Nat) (a0 : Int) (l1 : List (S61)) (l2 : List (S61)) : Option (Int):=if a0 < 0 then (zh.j0 k a0 l1 l2 true) else (zh.j0 k a0 l1 l2 (decide (a0 > 7)))
theorem zh.zX : ∀ k,(∀ y0 y1 y2 y3,LeO (zh.j0 k y0 y1 y2 y3) (zh.j0 (k + 1) y0 y1 y2 y3)) ∧ (∀ y0 y1 y2 y3,LeO (zh.j1 k y0 y1 y2 y3) (zh.j1 (k + 1) y0 y1 y2 y3))
 | 0=>⟨fun _ _ _ _ r h=>by simp [zh.j0] at h,fun _ _ _ _ r h=>by simp [zh.j1] at h⟩
 | k + 1=>by
  obtain ⟨ih0,ih1⟩:=zh.zX k
  refine ⟨?_,?_⟩
  · intro y0 y1 y2 y3
    unfold zh.j0
    repeat' first
    | (with_reducible exact ih0 _ _ _ _)
    | (with_reducible exact ih1 _ _ _ _)
    | (with_reducible exact zm.mono _ _ _)
    | (with_reducible exact zj.mono _ _)
    | (with_reducible exact LeO.refl _)
    | (with_reducible exact LeO.none _)
    | (with_reducible refine LeO.ite ?_ ?_)
    | (with_reducible refine LeO.bind ?_ (fun _=>?_))
    | exact ih0 _ _ _ _
    | exact ih1 _ _ _ _
    | exact zm.mono _ _ _
    | exact zj.mono _ _
    | exact LeO.none _
    | refine LeO.ite ?_ ?_
    | refine LeO.bind ?_ (fun _=>?_)
  · intro y0 y1 y2 y3
    unfold zh.j1
    repeat' first
    | (with_reducible exact ih0 _ _ _ _)
    | (with_reducible exact ih1 _ _ _ _)
    | (with_reducible exact zm.mono _ _ _)
    | (with_reducible exact zj.mono _ _)
    | (with_reducible exact LeO.refl _)
    | (with_reducible exact LeO.none _)
    | (with_reducible refine LeO.ite ?_ ?_)
    | (with_reducible refine LeO.bind ?_ (fun _=>?_))
    | exact ih0 _ _ _ _
    | exact ih1 _ _ _ _
    | exact zm.mono _ _ _
    | exact zj.mono _ _
    | exact LeO.none _
    | refine LeO.ite ?_ ?_
    | refine LeO.bind ?_ (fun _=>?_)
theorem zh.mono : ∀ a0 a1 a2 k,LeO (zh.f k a0 a1 a2) (zh.f (k + 1) a0 a1 a2):=by
 intro a0 a1 a2 k
 obtain ⟨ih0,ih1⟩:=zh.zX k
 unfold zh.f
 repeat' first
  | (with_reducible exact ih0 _ _ _ _)
  | (with_reducible exact ih1 _ _ _ _)
  | (with_reducible exact zm.mono _ _ _)
  | (with_reducible exact zj.mono _ _)
  | (with_reducible exact LeO.refl _)
  | (with_reducible exact LeO.none _)
  | (with_reducible refine LeO.ite ?_ ?_)
  | (with_reducible refine LeO.bind ?_ (fun _=>?_))
  | exact ih0 _ _ _ _
  | exact ih1 _ _ _ _
  | exact zm.mono _ _ _
  | exact zj.mono _ _
  | exact LeO.none _
  | refine LeO.ite ?_ ?_
  | refine LeO.bind ?_ (fun _=>?_)
set_option maxHeartbeats 8000000 in
set_option maxRecDepth 100000 in
theorem zh.calls (k : Nat) (a0 : Int) (A1 : Option Addr) (c1 : Nat) (l1 : List (S61)) (A2 : Option Addr) (c2 : Nat) (l2 : List (S61)) (r : Int) (w : World) (hr1 : Kd.C k61 w A1 l1.length l1) (hc1 : l1.length ≤ c1) (hr2 : Kd.C k61 w A2 l2.length l2) (hc2 : l2.length ≤ c2) (h : zh.f k a0 l1 l2 = some r) :
 Calls Try.prog 36 #[.int .i64 a0,.slice A1 l1.length c1,.slice A2 l2.length c2] w fun e w'=>e = .returned (.int .i64 r) ∧ Below w.heap.size w w':=by
 have HR1:=z3.mk hr1
 have HC1:=z3.mk hc1
 clear hr1 hc1
 have HR2:=z3.mk hr2
 have HC2:=z3.mk hc2
 clear hr2 hc2
 have HB:=z3.mk (Below.refl w.heap.size w)
 have H : (if a0 < 0 then (zh.j0 k a0 l1 l2 true) else (zh.j0 k a0 l1 l2 (decide (a0 > 7)))) = some r:=h
 clear h
 have HC4:=z3.mk H
 clear H
 go_enter Try.func36,Try.ntmps36
 go_upto_region 1 with (fail)
 go_cut [12] (fun v12 wc=>∃ (kq : Nat) (x12_3 : Bool),v12 = .bool x12_3 ∧ z3 (zh.j0 kq a0 l1 l2 x12_3 = some r) ∧ z3 (kq ≤ k) ∧ z3 (Below w.heap.size w wc))
 case first =>
  have H:=HC4.out
  clear HC4
  by_cases c5 : a0 < 0
  rotate_left
  · rw [if_neg c5] at H
    have c5b0 : decide (a0 < 0) = false:=decide_eq_false c5
    clear c5
    (first|rw [c5b0]|(simp only [zD,zF];rw [c5b0])|skip)
    have H':=z3.mk H
    clear H
    go_wp2
    go_meet
    case rel=>exact ⟨_,(decide (a0 > 7)),(by first|rfl|(simp;done)|(simp [*];done)),H',⟨by first|omega|exact Nat.le_refl _⟩,⟨by repeat (first|(with_reducible first|exact HB.out|apply z2|apply z0|apply z1)|exact HB.out)⟩⟩
  rw [if_pos c5] at H
  have c5b0 : decide (a0 < 0) = true:=decide_eq_true c5
  clear c5
  (first|rw [c5b0]|(simp only [zD,zF];rw [c5b0])|skip)
  have H':=z3.mk H
  clear H
  go_wp2
  go_meet
  case rel=>exact ⟨_,(true),(by first|rfl|(simp;done)|(simp [*];done)),H',⟨by first|omega|exact Nat.le_refl _⟩,⟨by repeat (first|(with_reducible first|exact HB.out|apply z2|apply z0|apply z1)|exact HB.out)⟩⟩
 case rest =>
  clear HC4
  (try clear c1);(try clear c2);(try clear p2);(try clear c3);(try clear c5);(try clear c5b0)
  obtain ⟨kq,x12_3,rfl,HA,HJ3,HB⟩:=hcut
  cases kq with
  | zero=>exact absurd HA.out (by simp [zh.j0])
  | succ kj3 =>
   have H:=HA.out
   clear HA
   simp only [zh.j0] at H
   by_cases c6 : x12_3 = true
   · subst c6
     have H1 : (some 1) = some r:=by rw [if_pos rfl] at H;exact H
     clear H
     have H:=H1
     clear H1
     obtain rfl:=Option.some.inj H
     go_wp2
     go_ret
     exact ⟨by first|rfl|(simp [zf,zg] <;> rfl)|(simp [*,zf,zg] <;> rfl),by repeat (first|(with_reducible first|exact HB.out|apply z2|apply z0|apply z1)|exact HB.out)⟩
   replace c6:=Bool.eq_false_iff.mpr c6
   subst c6
   have H1 : ((zj.f kj3 (l1.length : Int)).bind fun t101=>(if t101 < 0 then (zh.j1 kj3 a0 l1 l2 true) else ((zj.f kj3 (l1.length : Int)).bind fun t102=>(zh.j1 kj3 a0 l1 l2 (decide ((l2.length : Int) > t102)))))) = some r:=by rw [if_neg (show ¬ (false = true) by decide)] at H;exact H
   clear H
   have H:=H1
   clear H1
   have HC7:=z3.mk H
   clear H
   go_upto_region 3 with (fail)
   go_cut [24] (fun v24 wc=>∃ (kq : Nat) (x24_6 : Bool),v24 = .bool x24_6 ∧ z3 (zh.j1 kq a0 l1 l2 x24_6 = some r) ∧ z3 (kq ≤ kj3) ∧ z3 (Below w.heap.size w wc))
   case first =>
    have H:=HC7.out
    clear HC7
    replace H:=Option.bind_eq_some_iff.mp H
    obtain ⟨t101,A80,H⟩:=H
    replace H : (if t101 < 0 then (zh.j1 kj3 a0 l1 l2 true) else ((zj.f kj3 (l1.length : Int)).bind fun t102=>(zh.j1 kj3 a0 l1 l2 (decide ((l2.length : Int) > t102))))) = some r:=H
    have A8:=z3.mk A80
    clear A80
    by_cases c9 : t101 < 0
    · rw [if_pos c9] at H
      have c9b0 : decide (t101 < 0) = true:=decide_eq_true c9
      clear c9
      (first|rw [c9b0]|(simp only [zD,zF];rw [c9b0])|skip)
      have H':=z3.mk H
      clear H
      go_wp2_with (first|((with_reducible refine zt (f:=37) rfl ?_);refine goesL_ (some 15) rfl rfl Try.func37 (by kernel_rfl) rfl #[.int .i64 (l1.length : Int)] rfl (by (try simp only [List.map_toArray,List.map_cons,List.map_nil]);first|done|rfl|(simp only [List.length_drop,List.length_take];rfl)) ?_;(with_reducible refine (zj.calls kj3 (l1.length : Int) t101 _ A8.out).mono ?_);rintro e w' ⟨rfl,⟨nd,rfl⟩⟩;refine ⟨_,rfl,?_⟩))
      go_meet
      case rel=>exact ⟨_,(true),(by first|rfl|(simp;done)|(simp [*];done)),H',⟨by have:=HJ3.out;first|omega|exact Nat.le_refl _⟩,⟨by repeat (first|(with_reducible first|exact HB.out|apply z2|apply z0|apply z1)|exact HB.out)⟩⟩
    rw [if_neg c9] at H
    have c9b0 : decide (t101 < 0) = false:=decide_eq_false c9
    clear c9
    (first|rw [c9b0]|(simp only [zD,zF];rw [c9b0])|skip)
    replace H:=Option.bind_eq_some_iff.mp H
    obtain ⟨t102,A100,H⟩:=H
    replace H : (zh.j1 kj3 a0 l1 l2 (decide ((l2.length : Int) > t102))) = some r:=H
    have A10:=z3.mk A100
    clear A100
    have H':=z3.mk H
    clear H
    go_wp2_with (first|((with_reducible refine zt (f:=37) rfl ?_);refine goesL_ (some 15) rfl rfl Try.func37 (by kernel_rfl) rfl #[.int .i64 (l1.length : Int)] rfl (by (try simp only [List.map_toArray,List.map_cons,List.map_nil]);first|done|rfl|(simp only [List.length_drop,List.length_take];rfl)) ?_;(with_reducible refine (zj.calls kj3 (l1.length : Int) t101 _ A8.out).mono ?_);rintro e w' ⟨rfl,⟨nd,rfl⟩⟩;refine ⟨_,rfl,?_⟩)|(go_at_call 37;(with_reducible refine (zj.calls kj3 (l1.length : Int) t102 _ A10.out).mono ?_);rintro e w' ⟨rfl,⟨nd,rfl⟩⟩))
    go_meet
    case rel=>exact ⟨_,(decide ((l2.length : Int) > t102)),(by first|rfl|(simp;done)|(simp [*];done)),H',⟨by have:=HJ3.out;first|omega|exact Nat.le_refl _⟩,⟨by repeat (first|(with_reducible first|exact HB.out|apply z2|apply z0|apply z1)|exact HB.out)⟩⟩
   case rest =>
    clear HC7
    (try clear c1);(try clear c2);(try clear p2);(try clear c3);(try clear c5);(try clear c5b0);(try clear c6);(try clear c9);(try clear c9b0);(try clear p2)
    obtain ⟨kq,x24_6,rfl,HA,HJ6,HB⟩:=hcut
    cases kq with
    | zero=>exact absurd HA.out (by simp [zh.j1])
    | succ kj6 =>
     have H:=HA.out
     clear HA
     simp only [zh.j1] at H
     by_cases c11 : x24_6 = true
     · subst c11
       have H1 : (some 6) = some r:=by rw [if_pos rfl] at H;exact H
       clear H
       have H:=H1
       clear H1
       obtain rfl:=Option.some.inj H
       go_wp2
       go_ret
       exact ⟨by first|rfl|(simp [zf,zg] <;> rfl)|(simp [*,zf,zg] <;> rfl),by repeat (first|(with_reducible first|exact HB.out|apply z2|apply z0|apply z1)|exact HB.out)⟩
     replace c11:=Bool.eq_false_iff.mpr c11
     subst c11
     have H1 : ((zm.f kj6 a0 l1).bind fun t103=>(if t103 = true then ((zm.f kj6 a0 l2).bind fun t104=>(if t104 = true then (some 0) else (some 5))) else (some 5))) = some r:=by rw [if_neg (show ¬ (false = true) by decide)] at H;exact H
     clear H
     have H:=H1
     clear H1
     replace H:=Option.bind_eq_some_iff.mp H
     obtain ⟨t103,A120,H⟩:=H
     replace H : (if t103 = true then ((zm.f kj6 a0 l2).bind fun t104=>(if t104 = true then (some 0) else (some 5))) else (some 5)) = some r:=H
     have A12:=z3.mk A120
     clear A120
     by_cases c13 : t103 = true
     rotate_left
     · replace c13:=Bool.eq_false_iff.mpr c13
       subst c13
       have H1 : (some 5) = some r:=by rw [if_neg (show ¬ (false = true) by decide)] at H;exact H
       clear H
       have H:=H1
       clear H1
       obtain rfl:=Option.some.inj H
       go_wp2_with (first|((with_reducible refine zt (f:=46) rfl ?_);refine goesL_ (some 27) rfl rfl Try.func46 (by kernel_rfl) rfl #[.int .i64 a0,.slice A1 l1.length c1] rfl (by (try simp only [List.map_toArray,List.map_cons,List.map_nil]);first|done|rfl|(simp only [List.length_drop,List.length_take];rfl)) ?_;(with_reducible refine (zm.calls kj6 a0 _ _ l1 false _ ?side1 ?side2 A12.out).mono ?_);(case side1=>repeat (first|exact (Kd.z1f HR1.out HB.out)|(with_reducible refine Kd.z18 ?_ _)|(with_reducible refine Kd.z19 ?_ _)|(with_reducible refine Kd.z1g ?_)));(case side2=>exact HC1.out);rintro e w20 ⟨rfl,hb⟩;refine ⟨_,rfl,?_⟩;have n0_:=z3.mk (zc (by repeat (first|(with_reducible first|exact HB.out|apply z2|apply z0|apply z1)|exact HB.out)) hb);clear HB;have HB:=n0_;clear n0_;(try clear hb);(try clear hb2);(try clear hk);(try clear hi)))
       go_ret
       exact ⟨by first|rfl|(simp [zf,zg] <;> rfl)|(simp [*,zf,zg] <;> rfl),by repeat (first|(with_reducible first|exact HB.out|apply z2|apply z0|apply z1)|exact HB.out)⟩
     subst c13
     have H1 : ((zm.f kj6 a0 l2).bind fun t104=>(if t104 = true then (some 0) else (some 5))) = some r:=by rw [if_pos rfl] at H;exact H
     clear H
     have H:=H1
     clear H1
     replace H:=Option.bind_eq_some_iff.mp H
     obtain ⟨t104,A140,H⟩:=H
     replace H : (if t104 = true then (some 0) else (some 5)) = some r:=H
     have A14:=z3.mk A140
     clear A140
     by_cases c15 : t104 = true
     · subst c15
       have H1 : (some 0) = some r:=by rw [if_pos rfl] at H;exact H
       clear H
       have H:=H1
       clear H1
       obtain rfl:=Option.some.inj H
       go_wp2_with (first|((with_reducible refine zt (f:=46) rfl ?_);refine goesL_ (some 27) rfl rfl Try.func46 (by kernel_rfl) rfl #[.int .i64 a0,.slice A1 l1.length c1] rfl (by (try simp only [List.map_toArray,List.map_cons,List.map_nil]);first|done|rfl|(simp only [List.length_drop,List.length_take];rfl)) ?_;(with_reducible refine (zm.calls kj6 a0 _ _ l1 true _ ?side1 ?side2 A12.out).mono ?_);(case side1=>repeat (first|exact (Kd.z1f HR1.out HB.out)|(with_reducible refine Kd.z18 ?_ _)|(with_reducible refine Kd.z19 ?_ _)|(with_reducible refine Kd.z1g ?_)));(case side2=>exact HC1.out);rintro e w16 ⟨rfl,hb⟩;refine ⟨_,rfl,?_⟩;have n0_:=z3.mk (zc (by repeat (first|(with_reducible first|exact HB.out|apply z2|apply z0|apply z1)|exact HB.out)) hb);clear HB;have HB:=n0_;clear n0_;(try clear hb);(try clear hb2);(try clear hk);(try clear hi))|(go_at_call 46;(with_reducible refine (zm.calls kj6 a0 _ _ l2 true _ ?side1 ?side2 A14.out).mono ?_);(case side1=>repeat (first|exact (Kd.z1f HR2.out HB.out)|(with_reducible refine Kd.z18 ?_ _)|(with_reducible refine Kd.z19 ?_ _)|(with_reducible refine Kd.z1g ?_)));(case side2=>exact HC2.out);rintro e w17 ⟨rfl,hb⟩;have n0_:=z3.mk (zc (by repeat (first|(with_reducible first|exact HB.out|apply z2|apply z0|apply z1)|exact HB.out)) hb);clear HB;have HB:=n0_;clear n0_;(try clear hb);(try clear hb2);(try clear hk);(try clear hi)))
       go_ret
       exact ⟨by first|rfl|(simp [zf,zg] <;> rfl)|(simp [*,zf,zg] <;> rfl),by repeat (first|(with_reducible first|exact HB.out|apply z2|apply z0|apply z1)|exact HB.out)⟩
     replace c15:=Bool.eq_false_iff.mpr c15
     subst c15
     have H1 : (some 5) = some r:=by rw [if_neg (show ¬ (false = true) by decide)] at H;exact H
     clear H
     have H:=H1
     clear H1
     obtain rfl:=Option.some.inj H
     go_wp2_with (first|((with_reducible refine zt (f:=46) rfl ?_);refine goesL_ (some 27) rfl rfl Try.func46 (by kernel_rfl) rfl #[.int .i64 a0,.slice A1 l1.length c1] rfl (by (try simp only [List.map_toArray,List.map_cons,List.map_nil]);first|done|rfl|(simp only [List.length_drop,List.length_take];rfl)) ?_;(with_reducible refine (zm.calls kj6 a0 _ _ l1 true _ ?side1 ?side2 A12.out).mono ?_);(case side1=>repeat (first|exact (Kd.z1f HR1.out HB.out)|(with_reducible refine Kd.z18 ?_ _)|(with_reducible refine Kd.z19 ?_ _)|(with_reducible refine Kd.z1g ?_)));(case side2=>exact HC1.out);rintro e w18 ⟨rfl,hb⟩;refine ⟨_,rfl,?_⟩;have n0_:=z3.mk (zc (by repeat (first|(with_reducible first|exact HB.out|apply z2|apply z0|apply z1)|exact HB.out)) hb);clear HB;have HB:=n0_;clear n0_;(try clear hb);(try clear hb2);(try clear hk);(try clear hi))|(go_at_call 46;(with_reducible refine (zm.calls kj6 a0 _ _ l2 false _ ?side1 ?side2 A14.out).mono ?_);(case side1=>repeat (first|exact (Kd.z1f HR2.out HB.out)|(with_reducible refine Kd.z18 ?_ _)|(with_reducible refine Kd.z19 ?_ _)|(with_reducible refine Kd.z1g ?_)));(case side2=>exact HC2.out);rintro e w19 ⟨rfl,hb⟩;have n0_:=z3.mk (zc (by repeat (first|(with_reducible first|exact HB.out|apply z2|apply z0|apply z1)|exact HB.out)) hb);clear HB;have HB:=n0_;clear n0_;(try clear hb);(try clear hb2);(try clear hk);(try clear hi)))
     go_ret
     exact ⟨by first|rfl|(simp [zf,zg] <;> rfl)|(simp [*,zf,zg] <;> rfl),by repeat (first|(with_reducible first|exact HB.out|apply z2|apply z0|apply z1)|exact HB.out)⟩
end Go.Proofs.Ytngcaphdkgihmaa.P
namespace Go.Proofs.Ytngcaphdkgihmaa.P
open Go.RowKit Go.Proofs.YtngcaphdkgihmaaW.PrintWords Go.Proofs.YtngcaphdkgihmaaW.PrintLast Go.Proofs.YtngcaphdkgihmaaW.PrintMore
attribute [local go_sem] zS zU z12 z13 zK zL zT zV   -- for this text's walks alone
set_option linter.unusedVariables false
set_option linter.unusedSimpArgs false
mutual
def zn.j0 : Nat → Int → Int → Bool → Option ((List (S51)))
 | 0,_,_,_=>none
 | k + 1,x0,x1,x22=>if x22 = true then (some ([] : List (S51))) else (zn.l0 k x1 ([] : List (S51)) x0 0)
def zn.l0 : Nat → Int → List (S51) → Int → Int → Option ((List (S51)))
 | 0,_,_,_,_=>none
 | k + 1,x1,x5,x23,x24=>if x24 < x23 then (if 0 ≤ x24 then (if x5.length < 8796093022208 then (zn.l0 k x1 (x5 ++ [(⟨0,IntKind.u64.wrap (Go.bits .and .i64 (shr .i64 x1 x24) 1)⟩ : S51)]) x23 (wrap64 (x24 + 1))) else (none)) else (none)) else (some x5)
end
def zn.f (k : Nat) (a0 : Int) (a1 : Int) : Option ((List (S51))):=if a0 < 1 then (zn.j0 k a0 a1 true) else (if a0 > 16 then (zn.j0 k a0 a1 true) else (if a1 < 0 then (zn.j0 k a0 a1 true) else (if 0 ≤ a0 then (zn.j0 k a0 a1 (decide (a1 ≥ (shl .i64 1 a0)))) else (none))))
theorem zn.zX : ∀ k,(∀ y0 y1 y2,LeO (zn.j0 k y0 y1 y2) (zn.j0 (k + 1) y0 y1 y2)) ∧ (∀ y0 y1 y2 y3,LeO (zn.l0 k y0 y1 y2 y3) (zn.l0 (k + 1) y0 y1 y2 y3))
 | 0=>⟨fun _ _ _ r h=>by simp [zn.j0] at h,fun _ _ _ _ r h=>by simp [zn.l0] at h⟩
 | k + 1=>by
  obtain ⟨ih0,ih1⟩:=zn.zX k
  refine ⟨?_,?_⟩
  · intro y0 y1 y2
    unfold zn.j0
    repeat' first
    | (with_reducible exact ih0 _ _ _)
    | (with_reducible exact ih1 _ _ _ _)
    | (with_reducible exact LeO.refl _)
    | (with_reducible exact LeO.none _)
    | (with_reducible refine LeO.ite ?_ ?_)
    | (with_reducible refine LeO.bind ?_ (fun _=>?_))
    | exact ih0 _ _ _
    | exact ih1 _ _ _ _
    | exact LeO.none _
    | refine LeO.ite ?_ ?_
    | refine LeO.bind ?_ (fun _=>?_)
  · intro y0 y1 y2 y3
    unfold zn.l0
    repeat' first
    | (with_reducible exact ih0 _ _ _)
    | (with_reducible exact ih1 _ _ _ _)
    | (with_reducible exact LeO.refl _)
    | (with_reducible exact LeO.none _)
    | (with_reducible refine LeO.ite ?_ ?_)
    | (with_reducible refine LeO.bind ?_ (fun _=>?_))
    | exact ih0 _ _ _
    | exact ih1 _ _ _ _
    | exact LeO.none _
    | refine LeO.ite ?_ ?_
    | refine LeO.bind ?_ (fun _=>?_)
theorem zn.mono : ∀ a0 a1 k,LeO (zn.f k a0 a1) (zn.f (k + 1) a0 a1):=by
 intro a0 a1 k
 obtain ⟨ih0,ih1⟩:=zn.zX k
 unfold zn.f
 repeat' first
  | (with_reducible exact ih0 _ _ _)
  | (with_reducible exact ih1 _ _ _ _)
  | (with_reducible exact LeO.refl _)
  | (with_reducible exact LeO.none _)
  | (with_reducible refine LeO.ite ?_ ?_)
  | (with_reducible refine LeO.bind ?_ (fun _=>?_))
  | exact ih0 _ _ _
  | exact ih1 _ _ _ _
  | exact LeO.none _
  | refine LeO.ite ?_ ?_
  | refine LeO.bind ?_ (fun _=>?_)
set_option maxHeartbeats 8000000 in
set_option maxRecDepth 100000 in
theorem zn.calls (k : Nat) (a0 : Int) (a1 : Int) (r : List (S51)) (w : World) (h : zn.f k a0 a1 = some r) :
 Calls Try.prog 49 #[.int .i64 a0,.int .i64 a1] w fun e w'=>∃ v0_ : Value,e = .returned (v0_) ∧ Kd.R k51 51 w' w.heap.size (fun _=>True) v0_ r ∧ Below w.heap.size w w':=by
 have hu51:=Try.underlying51
 have HB:=z3.mk (Below.refl w.heap.size w)
 have H : (if a0 < 1 then (zn.j0 k a0 a1 true) else (if a0 > 16 then (zn.j0 k a0 a1 true) else (if a1 < 0 then (zn.j0 k a0 a1 true) else (if 0 ≤ a0 then (zn.j0 k a0 a1 (decide (a1 ≥ (shl .i64 1 a0)))) else (none))))) = some r:=h
 clear h
 have HC3:=z3.mk H
 clear H
 go_enter Try.func49,Try.ntmps49
 go_upto_region 1 with (fail)
 go_cut [22] (fun v22 wc=>∃ (kq : Nat) (x22_2 : Bool),v22 = .bool x22_2 ∧ z3 (zn.j0 kq a0 a1 x22_2 = some r) ∧ z3 (kq ≤ k) ∧ z3 (Below w.heap.size w wc))
 case first =>
  have H:=HC3.out
  clear HC3
  by_cases c4 : a0 < 1
  · rw [if_pos c4] at H
    have c4b0 : decide (a0 < 1) = true:=decide_eq_true c4
    clear c4
    (first|rw [c4b0]|(simp only [zD,zF];rw [c4b0])|skip)
    have H':=z3.mk H
    clear H
    go_wp2
    go_meet
    case rel=>exact ⟨_,(true),(by first|rfl|(simp;done)|(simp [*];done)),H',⟨by first|omega|exact Nat.le_refl _⟩,⟨by repeat (first|(with_reducible first|exact HB.out|apply z2|apply z0|apply z1)|exact HB.out)⟩⟩
  rw [if_neg c4] at H
  have c4b0 : decide (a0 < 1) = false:=decide_eq_false c4
  clear c4
  (first|rw [c4b0]|(simp only [zD,zF];rw [c4b0])|skip)
  by_cases c5 : a0 > 16
  · rw [if_pos c5] at H
    have c5b0 : decide (16 < a0) = true:=decide_eq_true c5
    clear c5
    have H':=z3.mk H
    clear H
    go_wp2
    go_meet
    case rel=>exact ⟨_,(true),(by first|rfl|(simp;done)|(simp [*];done)),H',⟨by first|omega|exact Nat.le_refl _⟩,⟨by repeat (first|(with_reducible first|exact HB.out|apply z2|apply z0|apply z1)|exact HB.out)⟩⟩
  rw [if_neg c5] at H
  have c5b0 : decide (16 < a0) = false:=decide_eq_false c5
  clear c5
  by_cases c6 : a1 < 0
  · rw [if_pos c6] at H
    have c6b0 : decide (a1 < 0) = true:=decide_eq_true c6
    clear c6
    have H':=z3.mk H
    clear H
    go_wp2
    go_meet
    case rel=>exact ⟨_,(true),(by first|rfl|(simp;done)|(simp [*];done)),H',⟨by first|omega|exact Nat.le_refl _⟩,⟨by repeat (first|(with_reducible first|exact HB.out|apply z2|apply z0|apply z1)|exact HB.out)⟩⟩
  rw [if_neg c6] at H
  have c6b0 : decide (a1 < 0) = false:=decide_eq_false c6
  clear c6
  by_cases c7 : 0 ≤ a0
  rotate_left
  · rw [if_neg c7] at H
    exact absurd H (by simp)
  rw [if_pos c7] at H
  have c7b0:=eq_true c7
  have c7b1 : decide (0 ≤ a0) = true:=decide_eq_true c7
  clear c7
  obtain ⟨ji8,hji8⟩ : ∃ j_ : Int,(shl .i64 1 a0) = j_:=⟨_,rfl⟩
  replace H : (zn.j0 k a0 a1 (decide (a1 ≥ (ji8)))) = some r:=by first|(rw [hji8] at H;exact H)|(simp only [hji8] at H ⊢;exact H)
  have hji8_ : (IntKind.i64.wrap (1 * 2 ^ min a0.toNat 64)) = ji8:=hji8
  have hji8z : a0 ≤ 64 → (IntKind.i64.wrap (1 * 2 ^ a0.toNat)) = ji8:=z1q hji8
  have hji8u : (IntKind.i64.wrap (2 ^ min a0.toNat 64)) = ji8:=by have h_:=hji8_;rw [Int.one_mul] at h_;exact h_
  have hji8v : a0 ≤ 64 → (IntKind.i64.wrap (2 ^ a0.toNat)) = ji8:=fun hle_=>by have h_:=hji8z hle_;rw [Int.one_mul] at h_;exact h_
  have hji8y : (wrap64 (1 * 2 ^ min a0.toNat 64)) = ji8:=(zD _).symm.trans hji8_
  have hji8x : a0 ≤ 64 → (wrap64 (1 * 2 ^ a0.toNat)) = ji8:=fun h_=>(zD _).symm.trans (hji8z h_)
  have H':=z3.mk H
  clear H
  go_wp2
  go_meet
  case rel=>exact ⟨_,(decide (a1 ≥ (ji8))),(by first|rfl|(simp;done)|(simp only [← hji8] <;> (first|rfl|simp))|(simp [*];done)),H',⟨by first|omega|exact Nat.le_refl _⟩,⟨by repeat (first|(with_reducible first|exact HB.out|apply z2|apply z0|apply z1)|exact HB.out)⟩⟩
 case rest =>
  clear HC3
  (try clear p2);(try clear c4);(try clear c4b0);(try clear c5);(try clear c5b0);(try clear c6);(try clear c6b0);(try clear p6);(try clear c7);(try clear c7b0);(try clear c7b1)
  obtain ⟨kq,x22_2,rfl,HA,HJ2,HB⟩:=hcut
  cases kq with
  | zero=>exact absurd HA.out (by simp [zn.j0])
  | succ kj2 =>
   have H:=HA.out
   clear HA
   simp only [zn.j0] at H
   by_cases c9 : x22_2 = true
   · subst c9
     have H1 : (some ([] : List (S51))) = some r:=by rw [if_pos rfl] at H;exact H
     clear H
     have H:=H1
     clear H1
     obtain rfl:=Option.some.inj H
     go_wp2
     go_ret
     exact ⟨_,by first|rfl|(simp [zf,zg] <;> rfl)|(simp [*,zf,zg] <;> rfl),by first|exact Kd.z3B _ _ _ _ _|exact Kd.N_nil _ _ _ _ _|exact Kd.V_nil _ _ _ _ _|exact Kd.Q_nil _ _ _ _ _|exact Kd.S_nil _ _ _ _ _,by repeat (first|(with_reducible first|exact HB.out|apply z2|apply z0|apply z1)|exact HB.out)⟩
   replace c9:=Bool.eq_false_iff.mpr c9
   subst c9
   have H1 : (zn.l0 kj2 a1 ([] : List (S51)) a0 0) = some r:=by rw [if_neg (show ¬ (false = true) by decide)] at H;exact H
   clear H
   have H:=H1
   clear H1
   have H':=z3.mk H
   clear H
   go_wp2
   go_loopg [5,24] kj2 (fun kq v5 v24 w'=>∃ (x5_2 : List (S51)) (x24_2 : Int),v24 = .int .i64 x24_2 ∧ z3 (zn.l0 kq a1 x5_2 a0 x24_2 = some r) ∧ z3 (kq ≤ kj2) ∧ z3 (Kd.R k51 51 w' w.heap.size (fun _=>True) v5 x5_2) ∧ z3 (Below w.heap.size w w'))
   case atStart=>exact ⟨(([] : List (S51))),(0),(by first|rfl|(simp;done)|(simp [*];done)),H',⟨Nat.le_refl _⟩,⟨by first|exact Kd.z3B _ _ _ _ _|exact Kd.N_nil _ _ _ _ _|exact Kd.V_nil _ _ _ _ _|exact Kd.Q_nil _ _ _ _ _|exact Kd.S_nil _ _ _ _ _⟩,⟨by repeat (first|(with_reducible first|exact HB.out|apply z2|apply z0|apply z1)|exact HB.out)⟩⟩
   case round =>
    clear H'
    (try clear p2);(try clear c4);(try clear c4b0);(try clear c5);(try clear c5b0);(try clear c6);(try clear c6b0);(try clear p6);(try clear c7);(try clear c7b0);(try clear c7b1);(try clear c9);(try clear p2);(try clear p6)
    obtain ⟨x5_2,x24_2,rfl,HA,HK2,HO_5,HB⟩:=hrel
    cases gk with
    | zero=>exact absurd HA.out (by simp [zn.l0])
    | succ k2 =>
     have H:=HA.out
     clear HA
     simp only [zn.l0] at H
     by_cases c10 : x24_2 < a0
     rotate_left
     · rw [if_neg c10] at H
       have c10b0 : decide (x24_2 < a0) = false:=decide_eq_false c10
       clear c10
       obtain rfl:=Option.some.inj H
       go_wp2
       go_ret
       exact ⟨_,by first|rfl|(simp [zf,zg] <;> rfl)|(simp [*,zf,zg] <;> rfl),by (with_reducible repeat (first|apply Kd.zP|apply Kd.zQ|apply Kd.z10));exact HO_5.out,by repeat (first|(with_reducible first|exact HB.out|apply z2|apply z0|apply z1)|exact HB.out)⟩
     rw [if_pos c10] at H
     have c10b0 : decide (x24_2 < a0) = true:=decide_eq_true c10
     clear c10
     by_cases c11 : 0 ≤ x24_2
     rotate_left
     · rw [if_neg c11] at H
       exact absurd H (by simp)
     rw [if_pos c11] at H
     have c11b0:=eq_true c11
     have c11b1 : decide (0 ≤ x24_2) = true:=decide_eq_true c11
     clear c11
     obtain ⟨ji12,hji12⟩ : ∃ j_ : Int,(shr .i64 a1 x24_2) = j_:=⟨_,rfl⟩
     replace H : (if x5_2.length < 8796093022208 then (zn.l0 k2 a1 (x5_2 ++ [(⟨0,IntKind.u64.wrap (Go.bits .and .i64 (ji12) 1)⟩ : S51)]) a0 (wrap64 (x24_2 + 1))) else (none)) = some r:=by first|(rw [hji12] at H;exact H)|(simp only [hji12] at H ⊢;exact H)
     have hji12_ : (a1 / 2 ^ min x24_2.toNat 64) = ji12:=hji12
     have hji12z : x24_2 ≤ 64 → (a1 / 2 ^ x24_2.toNat) = ji12:=z1M hji12
     by_cases c13 : x5_2.length < 8796093022208
     rotate_left
     · rw [if_neg c13] at H
       exact absurd H (by simp)
     rw [if_pos c13] at H
     have LMc13:=z3.mk c13
     clear c13
     obtain ⟨y101,hy101⟩ : ∃ y_ : List (S51),y_ = (x5_2 ++ [(⟨0,IntKind.u64.wrap (Go.bits .and .i64 (ji12) 1)⟩ : S51)]):=⟨_,rfl⟩
     replace H : (zn.l0 k2 a1 y101 a0 (wrap64 (x24_2 + 1))) = some r:=by first|(rw [hy101];with_reducible exact H)|(have H2_:=(Option.bind_some _ _).symm.trans H;rw [hy101];with_reducible exact H2_)|(have H2_:=(Option.bind_some _ _).symm.trans H;with_reducible exact H2_)|with_reducible exact H|(rw [hy101];exact H)|exact H
     have Ny101:=z3.mk hy101
     clear hy101
     have H':=z3.mk H
     clear H
     go_wp2_with (first|((with_reducible refine z27 (b:=.append) (xs:=#[.tmp 27,.tmp 34]) rfl ?_);at_builtin;refine Kd.z3Y k51 (w0:=w) w.heap.size rfl (.tmp 27) (.tmp 34) 37 51 (.agg #[(.int .u64 0),(.int .u64 0)]) 16 rfl Try.underlying37 info51 rfl (by decide) (by omega) u5 x5_2 (⟨0,IntKind.u64.wrap (Go.bits .and .i64 (ji12) 1)⟩ : S51) [.int .u64 0,.int .u64 (IntKind.u64.wrap (Go.bits .and .i64 (ji12) 1))] (fun _=>True) (fun _=>False) rfl rfl ?aP (fun _ hk=>hk.elim) ?aF ?aO ?aB ?aS ?aL ?_;(case aP=>exact z1I _ _ _ (⟨0,IntKind.u64.wrap (Go.bits .and .i64 (ji12) 1)⟩ : S51));(case aB=>exact (by repeat (first|(with_reducible first|exact HB.out|apply z2|apply z0|apply z1)|exact HB.out)));(case aF=>exact (fun _ _=>trivial));(case aO=>exact (by (with_reducible repeat (first|apply Kd.zP|apply Kd.zQ|apply Kd.z10));exact HO_5.out));(case aS=>exact (zd (by repeat (first|(with_reducible first|exact HB.out|apply z2|apply z0|apply z1)|exact HB.out))));(case aL=>have:=LMc13.out;omega);intro v102 w14 ho hb hg hat;rw [← Ny101.out] at ho;have n0_:=z3.mk (hb);have n1_:=z3.mk (ho);clear HB;clear HO_5;have HB:=n0_;have HO103:=n1_;clear n0_ n1_;clear ho hb hg hat))
     go_roundg k2
     case measure=>have:=HJ2.out;have:=HK2.out;omega
     case rel=>exact ⟨(y101),(wrap64 (x24_2 + 1)),(by first|rfl|(simp;done)|(simp [*];done)),H',⟨by have:=HJ2.out;have:=HK2.out;omega⟩,⟨by (with_reducible repeat (first|apply Kd.zP|apply Kd.zQ|apply Kd.z10));exact HO103.out⟩,⟨by repeat (first|(with_reducible first|exact HB.out|apply z2|apply z0|apply z1)|exact HB.out)⟩⟩
end Go.Proofs.Ytngcaphdkgihmaa.P
namespace Go.Proofs.Ytngcaphdkgihmaa.P
open Go.RowKit Go.Proofs.YtngcaphdkgihmaaW.PrintWords Go.Proofs.YtngcaphdkgihmaaW.PrintLast Go.Proofs.YtngcaphdkgihmaaW.PrintMore
attribute [local go_sem] zS zU z12 z13 zK zL zT zV   -- for this text's walks alone
set_option linter.unusedVariables false
set_option linter.unusedSimpArgs false
attribute [local go_sem high] eqA51
mutual
def z6.j0 : Nat → Int → List (S51) → Int → Int → Bool → Option (Bool)
 | 0,_,_,_,_,_=>none
 | k + 1,x0,x1,x7,x8,x29=>if x29 = true then (if (x1.length : Int) > 64 then ((zs.f k).bind fun t104=>(some t104)) else (some false)) else ((zn.f k x7 x8).bind fun t105=>(if x7 < 1 then (z6.j1 k x0 x1 x7 x8 t105 true) else (if x7 > 16 then (z6.j1 k x0 x1 x7 x8 t105 true) else (if x8 < 0 then (z6.j1 k x0 x1 x7 x8 t105 true) else ((zr.f k x7).bind fun t108=>(z6.j1 k x0 x1 x7 x8 t105 (decide (x8 ≥ t108))))))))
def z6.j1 : Nat → Int → List (S51) → Int → Int → List (S51) → Bool → Option (Bool)
 | 0,_,_,_,_,_,_=>none
 | k + 1,x0,x1,x7,x8,x9,x54=>if x54 = true then (if (x9.length : Int) = 0 then (z6.j3 k x0 x1 x8) else (some false)) else (z6.l0 k x0 x1 x7 x8 x9 x8 0)
def z6.j3 : Nat → Int → List (S51) → Int → Option (Bool)
 | 0,_,_,_=>none
 | k + 1,x0,x1,x8=>(zj.f k (x1.length : Int)).bind fun t110=>(if t110 < 1 then (z6.j4 k x0 x1 x8 t110 true) else ((zq.f k x1).bind fun t111=>((zh.f k x0 t111 ([] : List (S61))).bind fun t114=>(z6.j4 k x0 x1 x8 t110 (t114 != 0)))))
def z6.j4 : Nat → Int → List (S51) → Int → Int → Bool → Option (Bool)
 | 0,_,_,_,_,_=>none
 | k + 1,x0,x1,x8,x12,x92=>if x92 = true then ((zs.f k).bind fun t115=>(some t115)) else (if (x1.length : Int) = 0 then (none) else ((zn.f k x12 (Int.tmod (wrap64 ((Int.tmod x8 (x1.length : Int)) + (x1.length : Int))) (x1.length : Int))).bind fun t116=>((z17.f k x0 x1 t116).bind fun bt119=>((zs.f k).bind fun t123=>(if t123 = true then (if bt119.2.2 = 0 then (if 0 ≤ (Int.tmod (wrap64 ((Int.tmod x8 (x1.length : Int)) + (x1.length : Int))) (x1.length : Int)) then (if (Int.tmod (wrap64 ((Int.tmod x8 (x1.length : Int)) + (x1.length : Int))) (x1.length : Int)) < (x1.length : Int) then (some (bt119.1 == ((zE x1 (Int.tmod (wrap64 ((Int.tmod x8 (x1.length : Int)) + (x1.length : Int))) (x1.length : Int))).f0) && (bt119.2.1 == ((zE x1 (Int.tmod (wrap64 ((Int.tmod x8 (x1.length : Int)) + (x1.length : Int))) (x1.length : Int))).f1)))) else (none)) else (none)) else (some false)) else (some false))))))
def z6.l0 : Nat → Int → List (S51) → Int → Int → List (S51) → Int → Int → Option (Bool)
 | 0,_,_,_,_,_,_,_=>none
 | k + 1,x0,x1,x7,x8,x9,x10,x11=>if x11 < x7 then (if (x9.length : Int) = x7 then (if 0 ≤ x11 then (if x11 < (x9.length : Int) then (if (!(((zE x9 x11).f0) == 0) || (!(((zE x9 x11).f1) == (IntKind.u64.wrap (Int.tmod x10 2))))) = true then (some false) else (z6.l0 k x0 x1 x7 x8 x9 (wrap64 (Int.tdiv x10 2)) (wrap64 (x11 + 1)))) else (none)) else (none)) else (some false)) else (z6.j3 k x0 x1 x8)
end
def z6.f (k : Nat) (a0 : Int) (l1 : List (S51)) (a2_0 : Int) (a2_1 : Int) : Option (Bool):=if (l1.length : Int) > 64 then (z6.j0 k a0 l1 a2_0 a2_1 true) else ((zB.f k a2_0).bind fun t102=>((zj.f k a2_0).bind fun t103=>(z6.j0 k a0 l1 a2_0 a2_1 (t102 != t103))))
theorem z6.zX : ∀ k,(∀ y0 y1 y2 y3 y4,LeO (z6.j0 k y0 y1 y2 y3 y4) (z6.j0 (k + 1) y0 y1 y2 y3 y4)) ∧ (∀ y0 y1 y2 y3 y4 y5,LeO (z6.j1 k y0 y1 y2 y3 y4 y5) (z6.j1 (k + 1) y0 y1 y2 y3 y4 y5)) ∧ (∀ y0 y1 y2,LeO (z6.j3 k y0 y1 y2) (z6.j3 (k + 1) y0 y1 y2)) ∧ (∀ y0 y1 y2 y3 y4,LeO (z6.j4 k y0 y1 y2 y3 y4) (z6.j4 (k + 1) y0 y1 y2 y3 y4)) ∧ (∀ y0 y1 y2 y3 y4 y5 y6,LeO (z6.l0 k y0 y1 y2 y3 y4 y5 y6) (z6.l0 (k + 1) y0 y1 y2 y3 y4 y5 y6))
 | 0=>⟨fun _ _ _ _ _ r h=>by simp [z6.j0] at h,fun _ _ _ _ _ _ r h=>by simp [z6.j1] at h,fun _ _ _ r h=>by simp [z6.j3] at h,fun _ _ _ _ _ r h=>by simp [z6.j4] at h,fun _ _ _ _ _ _ _ r h=>by simp [z6.l0] at h⟩
 | k + 1=>by
  obtain ⟨ih0,ih1,ih2,ih3,ih4⟩:=z6.zX k
  refine ⟨?_,?_,?_,?_,?_⟩
  · intro y0 y1 y2 y3 y4
    unfold z6.j0
    repeat' first
    | (with_reducible exact ih0 _ _ _ _ _)
    | (with_reducible exact ih1 _ _ _ _ _ _)
    | (with_reducible exact ih2 _ _ _)
    | (with_reducible exact ih3 _ _ _ _ _)
    | (with_reducible exact ih4 _ _ _ _ _ _ _)
    | (with_reducible exact z17.mono _ _ _ _)
    | (with_reducible exact zn.mono _ _ _)
    | (with_reducible exact zB.mono _ _)
    | (with_reducible exact zq.mono _ _)
    | (with_reducible exact zs.mono _)
    | (with_reducible exact zj.mono _ _)
    | (with_reducible exact zh.mono _ _ _ _)
    | (with_reducible exact zr.mono _ _)
    | (with_reducible exact LeO.refl _)
    | (with_reducible exact LeO.none _)
    | (with_reducible refine LeO.ite ?_ ?_)
    | (with_reducible refine LeO.bind ?_ (fun _=>?_))
    | exact ih0 _ _ _ _ _
    | exact ih1 _ _ _ _ _ _
    | exact ih2 _ _ _
    | exact ih3 _ _ _ _ _
    | exact ih4 _ _ _ _ _ _ _
    | exact z17.mono _ _ _ _
    | exact zn.mono _ _ _
    | exact zB.mono _ _
    | exact zq.mono _ _
    | exact zs.mono _
    | exact zj.mono _ _
    | exact zh.mono _ _ _ _
    | exact zr.mono _ _
    | exact LeO.none _
    | refine LeO.ite ?_ ?_
    | refine LeO.bind ?_ (fun _=>?_)
  · intro y0 y1 y2 y3 y4 y5
    unfold z6.j1
    repeat' first
    | (with_reducible exact ih0 _ _ _ _ _)
    | (with_reducible exact ih1 _ _ _ _ _ _)
    | (with_reducible exact ih2 _ _ _)
    | (with_reducible exact ih3 _ _ _ _ _)
    | (with_reducible exact ih4 _ _ _ _ _ _ _)
    | (with_reducible exact z17.mono _ _ _ _)
    | (with_reducible exact zn.mono _ _ _)
    | (with_reducible exact zB.mono _ _)
    | (with_reducible exact zq.mono _ _)
    | (with_reducible exact zs.mono _)
    | (with_reducible exact zj.mono _ _)
    | (with_reducible exact zh.mono _ _ _ _)
    | (with_reducible exact zr.mono _ _)
    | (with_reducible exact LeO.refl _)
    | (with_reducible exact LeO.none _)
    | (with_reducible refine LeO.ite ?_ ?_)
    | (with_reducible refine LeO.bind ?_ (fun _=>?_))
    | exact ih0 _ _ _ _ _
    | exact ih1 _ _ _ _ _ _
    | exact ih2 _ _ _
    | exact ih3 _ _ _ _ _
    | exact ih4 _ _ _ _ _ _ _
    | exact z17.mono _ _ _ _
    | exact zn.mono _ _ _
    | exact zB.mono _ _
    | exact zq.mono _ _
    | exact zs.mono _
    | exact zj.mono _ _
    | exact zh.mono _ _ _ _
    | exact zr.mono _ _
    | exact LeO.none _
    | refine LeO.ite ?_ ?_
    | refine LeO.bind ?_ (fun _=>?_)
  · intro y0 y1 y2
    unfold z6.j3
    repeat' first
    | (with_reducible exact ih0 _ _ _ _ _)
    | (with_reducible exact ih1 _ _ _ _ _ _)
    | (with_reducible exact ih2 _ _ _)
    | (with_reducible exact ih3 _ _ _ _ _)
    | (with_reducible exact ih4 _ _ _ _ _ _ _)
    | (with_reducible exact z17.mono _ _ _ _)
    | (with_reducible exact zn.mono _ _ _)
    | (with_reducible exact zB.mono _ _)
    | (with_reducible exact zq.mono _ _)
    | (with_reducible exact zs.mono _)
    | (with_reducible exact zj.mono _ _)
    | (with_reducible exact zh.mono _ _ _ _)
    | (with_reducible exact zr.mono _ _)
    | (with_reducible exact LeO.refl _)
    | (with_reducible exact LeO.none _)
    | (with_reducible refine LeO.ite ?_ ?_)
    | (with_reducible refine LeO.bind ?_ (fun _=>?_))
    | exact ih0 _ _ _ _ _
    | exact ih1 _ _ _ _ _ _
    | exact ih2 _ _ _
    | exact ih3 _ _ _ _ _
    | exact ih4 _ _ _ _ _ _ _
    | exact z17.mono _ _ _ _
    | exact zn.mono _ _ _
    | exact zB.mono _ _
    | exact zq.mono _ _
    | exact zs.mono _
    | exact zj.mono _ _
    | exact zh.mono _ _ _ _
    | exact zr.mono _ _
    | exact LeO.none _
    | refine LeO.ite ?_ ?_
    | refine LeO.bind ?_ (fun _=>?_)
  · intro y0 y1 y2 y3 y4
    unfold z6.j4
    repeat' first
    | (with_reducible exact ih0 _ _ _ _ _)
    | (with_reducible exact ih1 _ _ _ _ _ _)
    | (with_reducible exact ih2 _ _ _)
    | (with_reducible exact ih3 _ _ _ _ _)
    | (with_reducible exact ih4 _ _ _ _ _ _ _)
    | (with_reducible exact z17.mono _ _ _ _)
    | (with_reducible exact zn.mono _ _ _)
    | (with_reducible exact zB.mono _ _)
    | (with_reducible exact zq.mono _ _)
    | (with_reducible exact zs.mono _)
    | (with_reducible exact zj.mono _ _)
    | (with_reducible exact zh.mono _ _ _ _)
    | (with_reducible exact zr.mono _ _)
    | (with_reducible exact LeO.refl _)
    | (with_reducible exact LeO.none _)
    | (with_reducible refine LeO.ite ?_ ?_)
    | (with_reducible refine LeO.bind ?_ (fun _=>?_))
    | exact ih0 _ _ _ _ _
    | exact ih1 _ _ _ _ _ _
    | exact ih2 _ _ _
    | exact ih3 _ _ _ _ _
    | exact ih4 _ _ _ _ _ _ _
    | exact z17.mono _ _ _ _
    | exact zn.mono _ _ _
    | exact zB.mono _ _
    | exact zq.mono _ _
    | exact zs.mono _
    | exact zj.mono _ _
    | exact zh.mono _ _ _ _
    | exact zr.mono _ _
    | exact LeO.none _
    | refine LeO.ite ?_ ?_
    | refine LeO.bind ?_ (fun _=>?_)
  · intro y0 y1 y2 y3 y4 y5 y6
    unfold z6.l0
    repeat' first
    | (with_reducible exact ih0 _ _ _ _ _)
    | (with_reducible exact ih1 _ _ _ _ _ _)
    | (with_reducible exact ih2 _ _ _)
    | (with_reducible exact ih3 _ _ _ _ _)
    | (with_reducible exact ih4 _ _ _ _ _ _ _)
    | (with_reducible exact z17.mono _ _ _ _)
    | (with_reducible exact zn.mono _ _ _)
    | (with_reducible exact zB.mono _ _)
    | (with_reducible exact zq.mono _ _)
    | (with_reducible exact zs.mono _)
    | (with_reducible exact zj.mono _ _)
    | (with_reducible exact zh.mono _ _ _ _)
    | (with_reducible exact zr.mono _ _)
    | (with_reducible exact LeO.refl _)
    | (with_reducible exact LeO.none _)
    | (with_reducible refine LeO.ite ?_ ?_)
    | (with_reducible refine LeO.bind ?_ (fun _=>?_))
    | exact ih0 _ _ _ _ _
    | exact ih1 _ _ _ _ _ _
    | exact ih2 _ _ _
    | exact ih3 _ _ _ _ _
    | exact ih4 _ _ _ _ _ _ _
    | exact z17.mono _ _ _ _
    | exact zn.mono _ _ _
    | exact zB.mono _ _
    | exact zq.mono _ _
    | exact zs.mono _
    | exact zj.mono _ _
    | exact zh.mono _ _ _ _
    | exact zr.mono _ _
    | exact LeO.none _
    | refine LeO.ite ?_ ?_
    | refine LeO.bind ?_ (fun _=>?_)
theorem z6.mono : ∀ a0 a1 a2 a3 k,LeO (z6.f k a0 a1 a2 a3) (z6.f (k + 1) a0 a1 a2 a3):=by
 intro a0 a1 a2 a3 k
 obtain ⟨ih0,ih1,ih2,ih3,ih4⟩:=z6.zX k
 unfold z6.f
 repeat' first
  | (with_reducible exact ih0 _ _ _ _ _)
  | (with_reducible exact ih1 _ _ _ _ _ _)
  | (with_reducible exact ih2 _ _ _)
  | (with_reducible exact ih3 _ _ _ _ _)
  | (with_reducible exact ih4 _ _ _ _ _ _ _)
  | (with_reducible exact z17.mono _ _ _ _)
  | (with_reducible exact zn.mono _ _ _)
  | (with_reducible exact zB.mono _ _)
  | (with_reducible exact zq.mono _ _)
  | (with_reducible exact zs.mono _)
  | (with_reducible exact zj.mono _ _)
  | (with_reducible exact zh.mono _ _ _ _)
  | (with_reducible exact zr.mono _ _)
  | (with_reducible exact LeO.refl _)
  | (with_reducible exact LeO.none _)
  | (with_reducible refine LeO.ite ?_ ?_)
  | (with_reducible refine LeO.bind ?_ (fun _=>?_))
  | exact ih0 _ _ _ _ _
  | exact ih1 _ _ _ _ _ _
  | exact ih2 _ _ _
  | exact ih3 _ _ _ _ _
  | exact ih4 _ _ _ _ _ _ _
  | exact z17.mono _ _ _ _
  | exact zn.mono _ _ _
  | exact zB.mono _ _
  | exact zq.mono _ _
  | exact zs.mono _
  | exact zj.mono _ _
  | exact zh.mono _ _ _ _
  | exact zr.mono _ _
  | exact LeO.none _
  | refine LeO.ite ?_ ?_
  | refine LeO.bind ?_ (fun _=>?_)
def z6.T20 : Bool × List (List Nat × List Nat):=(true,[([],[]),([0,0],[0]),([1],[1]),([2,1],[1,2]),([1,3],[1,3]),([4,1],[4]),([5],[5]),([5],[5]),([5],[5]),([7,8,5],[5,7,8]),([9,5],[5,9]),([6,10,5],[5,6,10]),([5,11],[5,11]),([12,5,0,1,2,3,4,5,6,7,8,9,10,11,12],[12])])
def z6.B20 : List Nat:=[0,1,3,7,15,31,63,63,63,447,959,2047,4095,8191]
theorem z6.tab20 : rtab .any (opsOf Try.f11 20) = z6.T20:=by kernel_rfl
theorem z6.bits20 : waitsOk z6.T20.2 z6.B20 = true:=by kernel_rfl
set_option maxHeartbeats 8000000 in
set_option maxRecDepth 100000 in
theorem z6.calls (k : Nat) (a0 : Int) (A1 : Option Addr) (c1 : Nat) (l1 : List (S51)) (a2_0 : Int) (a2_1 : Int) (r : Bool) (w : World) (hr1 : Kd.C k51 w A1 l1.length l1) (hc1 : l1.length ≤ c1) (h : z6.f k a0 l1 a2_0 a2_1 = some r) :
 Calls Try.prog 11 #[.int .i64 a0,.slice A1 l1.length c1,.agg #[.int .i64 a2_0,.int .i64 a2_1]] w fun e w'=>e = .returned (.bool r) ∧ Below w.heap.size w w':=by
 have hu79:=Try.underlying79
 have hu51:=Try.underlying51
 have HR1:=z3.mk hr1
 have HC1:=z3.mk hc1
 clear hr1 hc1
 have HB:=z3.mk (Below.refl w.heap.size w)
 have H : (if (l1.length : Int) > 64 then (z6.j0 k a0 l1 a2_0 a2_1 true) else ((zB.f k a2_0).bind fun t102=>((zj.f k a2_0).bind fun t103=>(z6.j0 k a0 l1 a2_0 a2_1 (t102 != t103))))) = some r:=h
 clear h
 have HC4:=z3.mk H
 clear H
 go_enter Try.func11,Try.ntmps11
 try go_wp2_with (first|((with_reducible refine zA (N:=5) rfl ?_);refine zy ?hg (N:=5) ?hd (cs:=#[.int .i64 a2_0,.int .i64 a2_1]) (t:=79) ?hr ?_;(case hd=>rfl);(case hg=>rfl);(case hr=>first|(go_simp;done)|(go_simp;rfl));intro gb101 hg w5 hbox hb;have n0_:=z3.mk (zc (by repeat (first|(with_reducible first|exact HB.out|apply z2|apply z0|apply z1)|exact HB.out)) hb);have n1_:=z3.mk (hbox);have n2_:=z3.mk ((by rw [hg];exact (zd (by repeat (first|(with_reducible first|exact HB.out|apply z2|apply z0|apply z1)|exact HB.out))) : w.heap.size ≤ gb101));have n3_:=z3.mk ((by rw [hg];exact (zd (by repeat (first|(with_reducible first|exact HB.out|apply z2|apply z0|apply z1)|exact HB.out))) : w.heap.size ≤ gb101));clear HB;have HB:=n0_;have BK101:=n1_;have GW101:=n2_;have GE101:=n3_;clear n0_ n1_ n2_ n3_;clear hb hbox hg))
 have n0_:=z3.mk (z8 BK101.out)
 have n1_:=z3.mk (z1 HB.out)
 clear BK101
 clear HB
 have BK101:=n0_
 have HB:=n1_
 clear n0_ n1_
 refine start_ (n:=6) (S:=fun w'=>w'.cell? ⟨gb101,0,none⟩ = some (.int .i64 a2_0) ∧ w'.cell? ⟨gb101,1,none⟩ = some (.int .i64 a2_1)) (ds:=[]) #[false,false,false,false,false,false] (by kernel_rfl) rfl rfl ⟨(za BK101.out 0).trans rfl,(za BK101.out 1).trans rfl⟩ (fun hHeld=>?_)
 generalize w5.drew = w6 at BK101 HB hHeld ⊢
 refine pure_ (i:=0) (N:=some 16) (v:=?_) (a':=?_) #[true,false,false,false,false,false] rfl rfl (by kernel_rfl) (fun _ _ _ h=>h) (Or.inl ⟨by rfl,?_⟩) ?_ ?_
 rotate_left
 · intro w'
   go_simp
   with_reducible rfl
 rotate_left
 · simp only [Act.put,List.setIfInBounds_toArray,List.set_cons_zero,List.set_cons_succ,zD,zF]
   rfl
 refine pure_ (i:=2) (N:=some 18) (v:=?_) (a':=?_) #[true,false,true,false,false,false] rfl rfl (by kernel_rfl) (fun _ _ _ h=>h) (Or.inl ⟨by rfl,?_⟩) ?_ ?_
 rotate_left
 · intro w'
   go_simp
   with_reducible rfl
 rotate_left
 · simp only [Act.put,List.setIfInBounds_toArray,List.set_cons_zero,List.set_cons_succ,zD,zF]
   rfl
 refine take_ (i:=1) (N:=some 17) (v:=?_) (a':=?_) #[true,true,true,false,false,false] rfl rfl (by kernel_rfl) (fun _ _ _ h=>h) (Or.inl ⟨by rfl,?_⟩) hHeld ?_ ?_
 rotate_left
 · rintro w' ⟨s0,s1⟩
   go_simp
   with_reducible rfl
 rotate_left
 · simp only [Act.put,List.setIfInBounds_toArray,List.set_cons_zero,List.set_cons_succ,zD,zF]
   rfl
 refine pure_ (i:=4) (N:=some 7) (v:=?_) (a':=?_) #[true,true,true,false,true,false] rfl rfl (by kernel_rfl) (fun _ _ _ h=>h) (Or.inl ⟨by rfl,?_⟩) ?_ ?_
 rotate_left
 · intro w'
   go_simp
   with_reducible rfl
 rotate_left
 · simp only [Act.put,List.setIfInBounds_toArray,List.set_cons_zero,List.set_cons_succ,zD,zF]
   rfl
 refine take_ (i:=3) (N:=some 19) (v:=?_) (a':=?_) #[true,true,true,true,true,false] rfl rfl (by kernel_rfl) (fun _ _ _ h=>h) (Or.inl ⟨by rfl,?_⟩) hHeld ?_ ?_
 rotate_left
 · rintro w' ⟨s0,s1⟩
   go_simp
   with_reducible rfl
 rotate_left
 · simp only [Act.put,List.setIfInBounds_toArray,List.set_cons_zero,List.set_cons_succ,zD,zF]
   rfl
 refine pure_ (i:=5) (N:=some 8) (v:=?_) (a':=?_) #[true,true,true,true,true,true] rfl rfl (by kernel_rfl) (fun _ _ _ h=>h) (Or.inl ⟨by rfl,?_⟩) ?_ ?_
 rotate_left
 · intro w'
   go_simp
   with_reducible rfl
 rotate_left
 · simp only [Act.put,List.setIfInBounds_toArray,List.set_cons_zero,List.set_cons_succ,zD,zF]
   rfl
 refine done_ (by kernel_rfl) ?_
 go_upto_region 2 with (fail)
 go_cut [29] (fun v29 wc=>∃ (kq : Nat) (x29_3 : Bool),v29 = .bool x29_3 ∧ z3 (z6.j0 kq a0 l1 a2_0 a2_1 x29_3 = some r) ∧ z3 (kq ≤ k) ∧ z3 (wc.heap[gb101]? = some (.cells #[.int .i64 a2_0,.int .i64 a2_1] 79 (0,0))) ∧ z3 (Below w.heap.size w wc))
 case first =>
  have H:=HC4.out
  clear HC4
  by_cases c7 : (l1.length : Int) > 64
  · rw [if_pos c7] at H
    have c7b0 : decide (64 < (l1.length : Int)) = true:=decide_eq_true c7
    have c7b1 : decide (64 < l1.length) = true:=decide_eq_true (by omega)
    clear c7
    (first|rw [c7b0]|(simp only [zD,zF];rw [c7b0])|skip)
    have H':=z3.mk H
    clear H
    go_wp2
    go_meet
    case rel=>exact ⟨_,(true),(by first|rfl|(simp;done)|(simp [*];done)),H',⟨by first|omega|exact Nat.le_refl _⟩,⟨by (with_reducible repeat (first|refine z5 ?_ _|refine z8 ?_|refine z4 ?_ _));exact BK101.out⟩,⟨by repeat (first|(with_reducible first|exact HB.out|apply z2|apply z0|apply z1|refine z7 ?_ GE101.out)|exact HB.out)⟩⟩
  rw [if_neg c7] at H
  have c7b0 : decide (64 < (l1.length : Int)) = false:=decide_eq_false c7
  have c7b1 : decide (64 < l1.length) = false:=decide_eq_false (by omega)
  clear c7
  (first|rw [c7b0]|(simp only [zD,zF];rw [c7b0])|skip)
  replace H:=Option.bind_eq_some_iff.mp H
  obtain ⟨t102,A80,H⟩:=H
  replace H : ((zj.f k a2_0).bind fun t103=>(z6.j0 k a0 l1 a2_0 a2_1 (t102 != t103))) = some r:=H
  have A8:=z3.mk A80
  clear A80
  replace H:=Option.bind_eq_some_iff.mp H
  obtain ⟨t103,A90,H⟩:=H
  replace H : (z6.j0 k a0 l1 a2_0 a2_1 (t102 != t103)) = some r:=H
  have A9:=z3.mk A90
  clear A90
  have H':=z3.mk H
  clear H
  go_wp2_with (first|(go_at_call 48;(with_reducible refine (zB.calls k a2_0 t102 _ A8.out).mono ?_);rintro e w' ⟨rfl,⟨nd,rfl⟩⟩)|(go_at_call 37;(with_reducible refine (zj.calls k a2_0 t103 _ A9.out).mono ?_);rintro e w' ⟨rfl,⟨nd,rfl⟩⟩))
  go_meet
  case rel=>exact ⟨_,((t102 != t103)),(by first|rfl|(simp;done)|(simp [*];done)),H',⟨by first|omega|exact Nat.le_refl _⟩,⟨by (with_reducible repeat (first|refine z5 ?_ _|refine z8 ?_|refine z4 ?_ _));exact BK101.out⟩,⟨by repeat (first|(with_reducible first|exact HB.out|apply z2|apply z0|apply z1|refine z7 ?_ GE101.out)|exact HB.out)⟩⟩
 case rest =>
  clear HC4
  (try clear c1);(try clear p2);(try clear c7);(try clear c7b0);(try clear c7b1)
  obtain ⟨kq,x29_3,rfl,HA,HJ3,BK101,HB⟩:=hcut
  cases kq with
  | zero=>exact absurd HA.out (by simp [z6.j0])
  | succ kj3 =>
   have H:=HA.out
   clear HA
   simp only [z6.j0] at H
   by_cases c10 : x29_3 = true
   · subst c10
     have H1 : (if (l1.length : Int) > 64 then ((zs.f kj3).bind fun t104=>(some t104)) else (some false)) = some r:=by rw [if_pos rfl] at H;exact H
     clear H
     have H:=H1
     clear H1
     by_cases c11 : (l1.length : Int) > 64
     rotate_left
     · rw [if_neg c11] at H
       have c11b0 : decide (64 < (l1.length : Int)) = false:=decide_eq_false c11
       have c11b1 : decide (64 < l1.length) = false:=decide_eq_false (by omega)
       clear c11
       obtain rfl:=Option.some.inj H
       go_wp2
       go_ret
       exact ⟨by first|rfl|(simp [zf,zg] <;> rfl)|(simp [*,zf,zg] <;> rfl),by repeat (first|(with_reducible first|exact HB.out|apply z2|apply z0|apply z1|refine z7 ?_ GE101.out)|exact HB.out)⟩
     rw [if_pos c11] at H
     have c11b0 : decide (64 < (l1.length : Int)) = true:=decide_eq_true c11
     have c11b1 : decide (64 < l1.length) = true:=decide_eq_true (by omega)
     clear c11
     replace H:=Option.bind_eq_some_iff.mp H
     obtain ⟨t104,A120,H⟩:=H
     replace H : (some t104) = some r:=H
     have A12:=z3.mk A120
     clear A120
     obtain rfl:=Option.some.inj H
     go_wp2_with (first|(go_at_call 34;(with_reducible refine (zs.calls kj3  t104 _ A12.out).mono ?_);rintro e w13 ⟨rfl,hb⟩;have n0_:=z3.mk (ze (g:=gb101) (o:=.cells #[.int .i64 a2_0,.int .i64 a2_1] 79 (0,0)) (by (with_reducible repeat (first|refine z5 ?_ _|refine z8 ?_|refine z4 ?_ _));exact BK101.out) hb);have n1_:=z3.mk (zc (by repeat (first|(with_reducible first|exact HB.out|apply z2|apply z0|apply z1|refine z7 ?_ GE101.out)|exact HB.out)) hb);clear BK101;clear HB;have BK101:=n0_;have HB:=n1_;clear n0_ n1_;(try clear hb);(try clear hb2);(try clear hk);(try clear hi)))
     go_ret
     exact ⟨by first|rfl|(simp [zf,zg] <;> rfl)|(simp [*,zf,zg] <;> rfl),by repeat (first|(with_reducible first|exact HB.out|apply z2|apply z0|apply z1|refine z7 ?_ GE101.out)|exact HB.out)⟩
   replace c10:=Bool.eq_false_iff.mpr c10
   subst c10
   have H1 : ((zn.f kj3 a2_0 a2_1).bind fun t105=>(if a2_0 < 1 then (z6.j1 kj3 a0 l1 a2_0 a2_1 t105 true) else (if a2_0 > 16 then (z6.j1 kj3 a0 l1 a2_0 a2_1 t105 true) else (if a2_1 < 0 then (z6.j1 kj3 a0 l1 a2_0 a2_1 t105 true) else ((zr.f kj3 a2_0).bind fun t108=>(z6.j1 kj3 a0 l1 a2_0 a2_1 t105 (decide (a2_1 ≥ t108)))))))) = some r:=by rw [if_neg (show ¬ (false = true) by decide)] at H;exact H
   clear H
   have H:=H1
   clear H1
   replace H:=Option.bind_eq_some_iff.mp H
   obtain ⟨t105,A140,H⟩:=H
   replace H : (if a2_0 < 1 then (z6.j1 kj3 a0 l1 a2_0 a2_1 t105 true) else (if a2_0 > 16 then (z6.j1 kj3 a0 l1 a2_0 a2_1 t105 true) else (if a2_1 < 0 then (z6.j1 kj3 a0 l1 a2_0 a2_1 t105 true) else ((zr.f kj3 a2_0).bind fun t108=>(z6.j1 kj3 a0 l1 a2_0 a2_1 t105 (decide (a2_1 ≥ t108))))))) = some r:=H
   have A14:=z3.mk A140
   clear A140
   have HC15:=z3.mk H
   clear H
   go_upto_region 5 with (first|((with_reducible refine zt (f:=49) rfl ?_);refine goesL_ (some 38) rfl rfl Try.func49 (by kernel_rfl) rfl #[.int .i64 a2_0,.int .i64 a2_1] rfl (by (try simp only [List.map_toArray,List.map_cons,List.map_nil]);first|done|rfl|(simp only [List.length_drop,List.length_take];rfl)) ?_;(with_reducible refine (zn.calls kj3 a2_0 a2_1 t105 _ A14.out).mono ?_);rintro e w16 ⟨v106,rfl,ho0,hb⟩;refine ⟨_,rfl,?_⟩;have n0_:=z3.mk (Kd.z1s ho0 (zd (by repeat (first|(with_reducible first|exact HB.out|apply z2|apply z0|apply z1|refine z7 ?_ GE101.out)|exact HB.out))));have n1_:=z3.mk (ze (g:=gb101) (o:=.cells #[.int .i64 a2_0,.int .i64 a2_1] 79 (0,0)) (by (with_reducible repeat (first|refine z5 ?_ _|refine z8 ?_|refine z4 ?_ _));exact BK101.out) hb);have n2_:=z3.mk (zc (by repeat (first|(with_reducible first|exact HB.out|apply z2|apply z0|apply z1|refine z7 ?_ GE101.out)|exact HB.out)) hb);clear BK101;clear HB;have HO107:=n0_;have BK101:=n1_;have HB:=n2_;clear n0_ n1_ n2_;(try clear hb);(try clear hb2);(try clear hk);(try clear hi);(try clear ho0)))
   (try simp only [Act.put,List.setIfInBounds_toArray,List.set_cons_zero,List.set_cons_succ])
   go_cut [54] (fun v54 wc=>∃ (kq : Nat) (x54_14 : Bool),v54 = .bool x54_14 ∧ z3 (z6.j1 kq a0 l1 a2_0 a2_1 t105 x54_14 = some r) ∧ z3 (kq ≤ kj3) ∧ z3 (Kd.R k51 51 wc w.heap.size (fun _=>True) v106 t105) ∧ z3 (wc.heap[gb101]? = some (.cells #[.int .i64 a2_0,.int .i64 a2_1] 79 (0,0))) ∧ z3 (Below w.heap.size w wc))
   case first =>
    have H:=HC15.out
    clear HC15
    by_cases c17 : a2_0 < 1
    · rw [if_pos c17] at H
      have c17b0 : decide (a2_0 < 1) = true:=decide_eq_true c17
      clear c17
      (first|rw [c17b0]|(simp only [zD,zF];rw [c17b0])|skip)
      have H':=z3.mk H
      clear H
      go_wp2
      go_meet
      case rel=>exact ⟨_,(true),(by first|rfl|(simp;done)|(simp [*];done)),H',⟨by have:=HJ3.out;first|omega|exact Nat.le_refl _⟩,⟨by (with_reducible repeat (first|apply Kd.zP|apply Kd.zQ|apply Kd.z10));exact HO107.out⟩,⟨by (with_reducible repeat (first|refine z5 ?_ _|refine z8 ?_|refine z4 ?_ _));exact BK101.out⟩,⟨by repeat (first|(with_reducible first|exact HB.out|apply z2|apply z0|apply z1|refine z7 ?_ GE101.out)|exact HB.out)⟩⟩
    rw [if_neg c17] at H
    have c17b0 : decide (a2_0 < 1) = false:=decide_eq_false c17
    clear c17
    (first|rw [c17b0]|(simp only [zD,zF];rw [c17b0])|skip)
    by_cases c18 : a2_0 > 16
    · rw [if_pos c18] at H
      have c18b0 : decide (16 < a2_0) = true:=decide_eq_true c18
      clear c18
      have H':=z3.mk H
      clear H
      go_wp2
      go_meet
      case rel=>exact ⟨_,(true),(by first|rfl|(simp;done)|(simp [*];done)),H',⟨by have:=HJ3.out;first|omega|exact Nat.le_refl _⟩,⟨by (with_reducible repeat (first|apply Kd.zP|apply Kd.zQ|apply Kd.z10));exact HO107.out⟩,⟨by (with_reducible repeat (first|refine z5 ?_ _|refine z8 ?_|refine z4 ?_ _));exact BK101.out⟩,⟨by repeat (first|(with_reducible first|exact HB.out|apply z2|apply z0|apply z1|refine z7 ?_ GE101.out)|exact HB.out)⟩⟩
    rw [if_neg c18] at H
    have c18b0 : decide (16 < a2_0) = false:=decide_eq_false c18
    clear c18
    by_cases c19 : a2_1 < 0
    · rw [if_pos c19] at H
      have c19b0 : decide (a2_1 < 0) = true:=decide_eq_true c19
      clear c19
      have H':=z3.mk H
      clear H
      go_wp2
      go_meet
      case rel=>exact ⟨_,(true),(by first|rfl|(simp;done)|(simp [*];done)),H',⟨by have:=HJ3.out;first|omega|exact Nat.le_refl _⟩,⟨by (with_reducible repeat (first|apply Kd.zP|apply Kd.zQ|apply Kd.z10));exact HO107.out⟩,⟨by (with_reducible repeat (first|refine z5 ?_ _|refine z8 ?_|refine z4 ?_ _));exact BK101.out⟩,⟨by repeat (first|(with_reducible first|exact HB.out|apply z2|apply z0|apply z1|refine z7 ?_ GE101.out)|exact HB.out)⟩⟩
    rw [if_neg c19] at H
    have c19b0 : decide (a2_1 < 0) = false:=decide_eq_false c19
    clear c19
    replace H:=Option.bind_eq_some_iff.mp H
    obtain ⟨t108,A200,H⟩:=H
    replace H : (z6.j1 kj3 a0 l1 a2_0 a2_1 t105 (decide (a2_1 ≥ t108))) = some r:=H
    have A20:=z3.mk A200
    clear A200
    have H':=z3.mk H
    clear H
    go_wp2_with (first|(go_at_call 50;(with_reducible refine (zr.calls kj3 a2_0 t108 _ A20.out).mono ?_);rintro e w' ⟨rfl,⟨nd,rfl⟩⟩))
    go_meet
    case rel=>exact ⟨_,(decide (a2_1 ≥ t108)),(by first|rfl|(simp;done)|(simp [*];done)),H',⟨by have:=HJ3.out;first|omega|exact Nat.le_refl _⟩,⟨by (with_reducible repeat (first|apply Kd.zP|apply Kd.zQ|apply Kd.z10));exact HO107.out⟩,⟨by (with_reducible repeat (first|refine z5 ?_ _|refine z8 ?_|refine z4 ?_ _));exact BK101.out⟩,⟨by repeat (first|(with_reducible first|exact HB.out|apply z2|apply z0|apply z1|refine z7 ?_ GE101.out)|exact HB.out)⟩⟩
   case rest =>
    clear HC15
    (try clear c1);(try clear p2);(try clear c4);(try clear c7);(try clear c7b0);(try clear c7b1);(try clear c10);(try clear c11);(try clear c11b0);(try clear c11b1);(try clear c17);(try clear c17b0);(try clear c18);(try clear c18b0);(try clear c19);(try clear c19b0);(try clear p2)
    obtain ⟨kq,x54_14,rfl,HA,HJ14,HO_9,BK101,HB⟩:=hcut
    cases kq with
    | zero=>exact absurd HA.out (by simp [z6.j1])
    | succ kj14 =>
     have H:=HA.out
     clear HA
     simp only [z6.j1] at H
     have HC21:=z3.mk H
     clear H
     go_upto_if 54 with (fail)
     go_cut [] (fun wc=>∃ (kq : Nat),z3 (z6.j3 kq a0 l1 a2_1 = some r) ∧ z3 (kq ≤ kj14) ∧ z3 (wc.heap[gb101]? = some (.cells #[.int .i64 a2_0,.int .i64 a2_1] 79 (0,0))) ∧ z3 (Below w.heap.size w wc))
     case first =>
      have H:=HC21.out
      clear HC21
      by_cases c22 : x54_14 = true
      · subst c22
        have H1 : (if (t105.length : Int) = 0 then (z6.j3 kj14 a0 l1 a2_1) else (some false)) = some r:=by rw [if_pos rfl] at H;exact H
        clear H
        have H:=H1
        clear H1
        by_cases c23 : (t105.length : Int) = 0
        rotate_left
        · rw [if_neg c23] at H
          have c23b0 : ((t105.length : Int) == 0) = false:=beq_eq_false_iff_ne.mpr c23
          have c23b1 : ((t105.length : Int) != 0) = true:=bne_iff_ne.mpr c23
          have c23b2 : ¬ (t105 = []):=fun h_=>c23 (by rw [h_];rfl)
          (first|rw [c23b0]|(simp only [zD,zF];rw [c23b0])|skip)
          obtain rfl:=Option.some.inj H
          obtain ⟨Ao25,co25,eo25⟩:=Kd.z1p HO_9.out
          subst eo25
          go_wp2
          go_ret
          exact ⟨by first|rfl|(simp [zf,zg] <;> rfl)|(simp [*,zf,zg] <;> rfl),by repeat (first|(with_reducible first|exact HB.out|apply z2|apply z0|apply z1|refine z7 ?_ GE101.out)|exact HB.out)⟩
        rw [if_pos c23] at H
        have c23b0 : ((t105.length : Int) == 0) = true:=beq_iff_eq.mpr c23
        have c23b1 : ((t105.length : Int) != 0) = false:=bne_eq_false_iff_eq.mpr c23
        clear c23
        (first|rw [c23b0]|(simp only [zD,zF];rw [c23b0])|skip)
        have H':=z3.mk H
        clear H
        obtain ⟨Ao24,co24,eo24⟩:=Kd.z1p HO_9.out
        subst eo24
        go_wp2
        go_meet
        case rel=>exact ⟨_,H',⟨by have:=HJ3.out;have:=HJ14.out;first|omega|exact Nat.le_refl _⟩,⟨by (with_reducible repeat (first|refine z5 ?_ _|refine z8 ?_|refine z4 ?_ _));exact BK101.out⟩,⟨by repeat (first|(with_reducible first|exact HB.out|apply z2|apply z0|apply z1|refine z7 ?_ GE101.out)|exact HB.out)⟩⟩
      replace c22:=Bool.eq_false_iff.mpr c22
      subst c22
      have H1 : (z6.l0 kj14 a0 l1 a2_0 a2_1 t105 a2_1 0) = some r:=by rw [if_neg (show ¬ (false = true) by decide)] at H;exact H
      clear H
      have H:=H1
      clear H1
      have H':=z3.mk H
      clear H
      go_wp2
      go_loopg [10,11] kj14 (fun kq v10 v11 w'=>∃ (x10_3 : Int) (x11_3 : Int),v10 = .int .i64 x10_3 ∧ v11 = .int .i64 x11_3 ∧ z3 (z6.l0 kq a0 l1 a2_0 a2_1 t105 x10_3 x11_3 = some r) ∧ z3 (kq ≤ kj14) ∧ z3 (Kd.R k51 51 w' w.heap.size (fun _=>True) v106 t105) ∧ z3 (w'.heap[gb101]? = some (.cells #[.int .i64 a2_0,.int .i64 a2_1] 79 (0,0))) ∧ z3 (Below w.heap.size w w'))
      case atStart=>exact ⟨(a2_1),(0),(by first|rfl|(simp;done)|(simp [*];done)),(by first|rfl|(simp;done)|(simp [*];done)),H',⟨Nat.le_refl _⟩,⟨by (with_reducible repeat (first|apply Kd.zP|apply Kd.zQ|apply Kd.z10));exact HO_9.out⟩,⟨by (with_reducible repeat (first|refine z5 ?_ _|refine z8 ?_|refine z4 ?_ _));exact BK101.out⟩,⟨by repeat (first|(with_reducible first|exact HB.out|apply z2|apply z0|apply z1|refine z7 ?_ GE101.out)|exact HB.out)⟩⟩
      case round =>
       clear H'
       (try clear c1);(try clear c2);(try clear p2);(try clear c4);(try clear c7);(try clear c7b0);(try clear c7b1);(try clear c10);(try clear c11);(try clear c11b0);(try clear c11b1);(try clear c17);(try clear c17b0);(try clear c18);(try clear c18b0);(try clear c19);(try clear c19b0);(try clear c22);(try clear c23);(try clear c23b0);(try clear c23b1);(try clear c23b2);(try clear p2)
       obtain ⟨x10_3,x11_3,rfl,rfl,HA,HK3,HO_9,BK101,HB⟩:=hrel
       cases gk with
       | zero=>exact absurd HA.out (by simp [z6.l0])
       | succ k3 =>
        have H:=HA.out
        clear HA
        simp only [z6.l0] at H
        by_cases c26 : x11_3 < a2_0
        rotate_left
        · rw [if_neg c26] at H
          have c26b0 : decide (x11_3 < a2_0) = false:=decide_eq_false c26
          clear c26
          have H':=z3.mk H
          clear H
          go_wp2
          go_meet
          case rel=>exact ⟨_,H',⟨by have:=HJ3.out;have:=HJ14.out;have:=HK3.out;first|omega|exact Nat.le_refl _⟩,⟨by (with_reducible repeat (first|refine z5 ?_ _|refine z8 ?_|refine z4 ?_ _));exact BK101.out⟩,⟨by repeat (first|(with_reducible first|exact HB.out|apply z2|apply z0|apply z1|refine z7 ?_ GE101.out)|exact HB.out)⟩⟩
        rw [if_pos c26] at H
        have c26b0 : decide (x11_3 < a2_0) = true:=decide_eq_true c26
        clear c26
        by_cases c27 : (t105.length : Int) = a2_0
        rotate_left
        · rw [if_neg c27] at H
          have c27b0 : ((t105.length : Int) == a2_0) = false:=beq_eq_false_iff_ne.mpr c27
          have c27b1 : ((t105.length : Int) != a2_0) = true:=bne_iff_ne.mpr c27
          obtain rfl:=Option.some.inj H
          obtain ⟨Ao33,co33,eo33⟩:=Kd.z1p HO_9.out
          subst eo33
          go_wp2
          go_ret
          exact ⟨by first|rfl|(simp [zf,zg] <;> rfl)|(simp [*,zf,zg] <;> rfl),by repeat (first|(with_reducible first|exact HB.out|apply z2|apply z0|apply z1|refine z7 ?_ GE101.out)|exact HB.out)⟩
        rw [if_pos c27] at H
        have c27b0 : ((t105.length : Int) == a2_0) = true:=beq_iff_eq.mpr c27
        have c27b1 : ((t105.length : Int) != a2_0) = false:=bne_eq_false_iff_eq.mpr c27
        clear c27
        by_cases c28 : 0 ≤ x11_3
        rotate_left
        · rw [if_neg c28] at H
          exact absurd H (by simp)
        rw [if_pos c28] at H
        have c28b0 : decide (0 ≤ x11_3) = true:=decide_eq_true c28
        clear c28
        by_cases c29 : x11_3 < (t105.length : Int)
        rotate_left
        · rw [if_neg c29] at H
          exact absurd H (by simp)
        rw [if_pos c29] at H
        have c29b0 : decide (x11_3 < (t105.length : Int)) = true:=decide_eq_true c29
        clear c29
        by_cases c30 : (!(((zE t105 x11_3).f0) == 0) || (!(((zE t105 x11_3).f1) == (IntKind.u64.wrap (Int.tmod x10_3 2))))) = true
        · rw [if_pos c30] at H
          have c30b0 : (!(((zE t105 x11_3).f0) == 0) || (!(((zE t105 x11_3).f1) == (IntKind.u64.wrap (Int.tmod x10_3 2))))) = true:=c30
          clear c30
          obtain rfl:=Option.some.inj H
          obtain ⟨Ao31,co31,eo31⟩:=Kd.z1p HO_9.out
          subst eo31
          have p109 : 0 ≤ (x11_3 : Int):=of_decide_eq_true (by first|(with_reducible assumption)|assumption)
          have q109 : x11_3 < (t105.length : Int):=of_decide_eq_true (by first|(with_reducible assumption)|assumption)
          obtain ⟨ad109,e109,hx109_0,hx109_1⟩:=z26 (Kd.z11 HO_9.out).2.2 x11_3 p109 q109
          cases e109
          replace p109:=eq_true p109
          replace q109:=eq_true q109
          go_wp2
          go_ret
          exact ⟨by first|rfl|(simp [zf,zg] <;> rfl)|(simp [*,zf,zg] <;> rfl),by repeat (first|(with_reducible first|exact HB.out|apply z2|apply z0|apply z1|refine z7 ?_ GE101.out)|exact HB.out)⟩
        rw [if_neg c30] at H
        have c30b0 : (!(((zE t105 x11_3).f0) == 0) || (!(((zE t105 x11_3).f1) == (IntKind.u64.wrap (Int.tmod x10_3 2))))) = false:=by simpa using c30
        clear c30
        have H':=z3.mk H
        clear H
        obtain ⟨Ao32,co32,eo32⟩:=Kd.z1p HO_9.out
        subst eo32
        have p109 : 0 ≤ (x11_3 : Int):=of_decide_eq_true (by first|(with_reducible assumption)|assumption)
        have q109 : x11_3 < (t105.length : Int):=of_decide_eq_true (by first|(with_reducible assumption)|assumption)
        obtain ⟨ad109,e109,hx109_0,hx109_1⟩:=z26 (Kd.z11 HO_9.out).2.2 x11_3 p109 q109
        cases e109
        replace p109:=eq_true p109
        replace q109:=eq_true q109
        go_wp2
        go_roundg k3
        case measure=>have:=HJ3.out;have:=HJ14.out;have:=HK3.out;omega
        case rel=>exact ⟨(wrap64 (Int.tdiv x10_3 2)),(wrap64 (x11_3 + 1)),(by first|rfl|(simp;done)|(simp [*];done)),(by first|rfl|(simp;done)|(simp [*];done)),H',⟨by have:=HJ3.out;have:=HJ14.out;have:=HK3.out;omega⟩,⟨by (with_reducible repeat (first|apply Kd.zP|apply Kd.zQ|apply Kd.z10));exact HO_9.out⟩,⟨by (with_reducible repeat (first|refine z5 ?_ _|refine z8 ?_|refine z4 ?_ _));exact BK101.out⟩,⟨by repeat (first|(with_reducible first|exact HB.out|apply z2|apply z0|apply z1|refine z7 ?_ GE101.out)|exact HB.out)⟩⟩
     case rest =>
      clear HC21
      (try clear c1);(try clear p1);(try clear q1);(try clear hx1);(try clear c2);(try clear p2);(try clear c3);(try clear c4);(try clear p6);(try clear c7);(try clear c7b0);(try clear c7b1);(try clear c10);(try clear p10);(try clear q10);(try clear hx10);(try clear c11);(try clear c11b0);(try clear c11b1);(try clear c17);(try clear c17b0);(try clear c18);(try clear c18b0);(try clear c19);(try clear c19b0);(try clear c22);(try clear c23);(try clear c23b0);(try clear c23b1);(try clear c23b2);(try clear c26);(try clear c26b0);(try clear c27);(try clear c27b0);(try clear c27b1);(try clear c28);(try clear c28b0);(try clear c29);(try clear c29b0);(try clear c30);(try clear c30b0);(try clear hx109_0);(try clear hx109_1);(try clear p109);(try clear p2);(try clear q109)
      obtain ⟨kq,HA,HJ20,BK101,HB⟩:=hcut
      cases kq with
      | zero=>exact absurd HA.out (by simp [z6.j3])
      | succ kj20 =>
       have H:=HA.out
       clear HA
       simp only [z6.j3] at H
       replace H:=Option.bind_eq_some_iff.mp H
       obtain ⟨t110,A340,H⟩:=H
       replace H : (if t110 < 1 then (z6.j4 kj20 a0 l1 a2_1 t110 true) else ((zq.f kj20 l1).bind fun t111=>((zh.f kj20 a0 t111 ([] : List (S61))).bind fun t114=>(z6.j4 kj20 a0 l1 a2_1 t110 (t114 != 0))))) = some r:=H
       have A34:=z3.mk A340
       clear A340
       have HC35:=z3.mk H
       clear H
       go_upto_region 16 with (first|((with_reducible refine zt (f:=37) rfl ?_);refine goesL_ (some 83) rfl rfl Try.func37 (by kernel_rfl) rfl #[.int .i64 (l1.length : Int)] rfl (by (try simp only [List.map_toArray,List.map_cons,List.map_nil]);first|done|rfl|(simp only [List.length_drop,List.length_take];rfl)) ?_;(with_reducible refine (zj.calls kj20 (l1.length : Int) t110 _ A34.out).mono ?_);rintro e w' ⟨rfl,⟨nd,rfl⟩⟩;refine ⟨_,rfl,?_⟩))
       (try simp only [Act.put,List.setIfInBounds_toArray,List.set_cons_zero,List.set_cons_succ])
       go_cut [92] (fun v92 wc=>∃ (kq : Nat) (x92_34 : Bool),v92 = .bool x92_34 ∧ z3 (z6.j4 kq a0 l1 a2_1 t110 x92_34 = some r) ∧ z3 (kq ≤ kj20) ∧ z3 (wc.heap[gb101]? = some (.cells #[.int .i64 a2_0,.int .i64 a2_1] 79 (0,0))) ∧ z3 (Below w.heap.size w wc))
       case first =>
        have H:=HC35.out
        clear HC35
        by_cases c36 : t110 < 1
        · rw [if_pos c36] at H
          have c36b0 : decide (t110 < 1) = true:=decide_eq_true c36
          clear c36
          (first|rw [c36b0]|(simp only [zD,zF];rw [c36b0])|skip)
          have H':=z3.mk H
          clear H
          go_wp2
          go_meet
          case rel=>exact ⟨_,(true),(by first|rfl|(simp;done)|(simp [*];done)),H',⟨by have:=HJ3.out;have:=HJ14.out;have:=HJ20.out;first|omega|exact Nat.le_refl _⟩,⟨by (with_reducible repeat (first|refine z5 ?_ _|refine z8 ?_|refine z4 ?_ _));exact BK101.out⟩,⟨by repeat (first|(with_reducible first|exact HB.out|apply z2|apply z0|apply z1|refine z7 ?_ GE101.out)|exact HB.out)⟩⟩
        rw [if_neg c36] at H
        have c36b0 : decide (t110 < 1) = false:=decide_eq_false c36
        clear c36
        (first|rw [c36b0]|(simp only [zD,zF];rw [c36b0])|skip)
        replace H:=Option.bind_eq_some_iff.mp H
        obtain ⟨t111,A370,H⟩:=H
        replace H : ((zh.f kj20 a0 t111 ([] : List (S61))).bind fun t114=>(z6.j4 kj20 a0 l1 a2_1 t110 (t114 != 0))) = some r:=H
        have A37:=z3.mk A370
        clear A370
        replace H:=Option.bind_eq_some_iff.mp H
        obtain ⟨t114,A380,H⟩:=H
        replace H : (z6.j4 kj20 a0 l1 a2_1 t110 (t114 != 0)) = some r:=H
        have A38:=z3.mk A380
        clear A380
        have H':=z3.mk H
        clear H
        go_wp2_with (first|(go_at_call 27;(with_reducible refine (zq.calls kj20 _ _ l1 t111 _ ?side1 ?side2 A37.out).mono ?_);(case side1=>repeat (first|exact (Kd.z1f HR1.out HB.out)|(with_reducible refine Kd.z18 ?_ _)|(with_reducible refine Kd.z19 ?_ _)|(with_reducible refine Kd.z1g ?_)));(case side2=>exact HC1.out);rintro e w39 ⟨v112,rfl,ho0,hb⟩;have n0_:=z3.mk (Kd.z1s ho0 (zd (by repeat (first|(with_reducible first|exact HB.out|apply z2|apply z0|apply z1|refine z7 ?_ GE101.out)|exact HB.out))));have n1_:=z3.mk (ze (g:=gb101) (o:=.cells #[.int .i64 a2_0,.int .i64 a2_1] 79 (0,0)) (by (with_reducible repeat (first|refine z5 ?_ _|refine z8 ?_|refine z4 ?_ _));exact BK101.out) hb);have n2_:=z3.mk (zc (by repeat (first|(with_reducible first|exact HB.out|apply z2|apply z0|apply z1|refine z7 ?_ GE101.out)|exact HB.out)) hb);clear BK101;clear HB;have HO113:=n0_;have BK101:=n1_;have HB:=n2_;clear n0_ n1_ n2_;(try clear hb);(try clear hb2);(try clear hk);(try clear hi);(try clear ho0);obtain ⟨Ao40,co40,eo40⟩:=Kd.z1p HO113.out;subst eo40)|(go_at_call 36;(refine (zh.calls kj20 a0 _ _ t111 _ _ ([] : List (S61)) t114 _ ?side1 ?side2 ?side3 ?side4 A38.out).mono ?_);(case side1=>repeat (first|exact (Kd.z11 HO113.out).2.2|(with_reducible refine Kd.z18 ?_ _)|(with_reducible refine Kd.z19 ?_ _)|(with_reducible refine Kd.z1g ?_)));(case side2=>exact (Kd.z11 HO113.out).2.1);(case side3=>exact Kd.C_nil _ _);(case side4=>exact Nat.le_refl _);rintro e w41 ⟨rfl,hb⟩;have n0_:=z3.mk (Kd.z1e (by (with_reducible repeat (first|apply Kd.zP|apply Kd.zQ|apply Kd.z10));exact HO113.out) hb);have n1_:=z3.mk (ze (g:=gb101) (o:=.cells #[.int .i64 a2_0,.int .i64 a2_1] 79 (0,0)) (by (with_reducible repeat (first|refine z5 ?_ _|refine z8 ?_|refine z4 ?_ _));exact BK101.out) hb);have n2_:=z3.mk (zc (by repeat (first|(with_reducible first|exact HB.out|apply z2|apply z0|apply z1|refine z7 ?_ GE101.out)|exact HB.out)) hb);clear HO113;clear BK101;clear HB;have HO113:=n0_;have BK101:=n1_;have HB:=n2_;clear n0_ n1_ n2_;(try clear hb);(try clear hb2);(try clear hk);(try clear hi)))
        go_meet
        case rel=>exact ⟨_,((t114 != 0)),(by first|rfl|(simp;done)|(simp [*];done)),H',⟨by have:=HJ3.out;have:=HJ14.out;have:=HJ20.out;first|omega|exact Nat.le_refl _⟩,⟨by (with_reducible repeat (first|refine z5 ?_ _|refine z8 ?_|refine z4 ?_ _));exact BK101.out⟩,⟨by repeat (first|(with_reducible first|exact HB.out|apply z2|apply z0|apply z1|refine z7 ?_ GE101.out)|exact HB.out)⟩⟩
       case rest =>
        clear HC35
        (try clear c1);(try clear p1);(try clear q1);(try clear hx1);(try clear c2);(try clear p2);(try clear c3);(try clear c4);(try clear p6);(try clear c7);(try clear c7b0);(try clear c7b1);(try clear c10);(try clear p10);(try clear q10);(try clear hx10);(try clear c11);(try clear c11b0);(try clear c11b1);(try clear c17);(try clear c17b0);(try clear c18);(try clear c18b0);(try clear c19);(try clear c19b0);(try clear c22);(try clear c23);(try clear c23b0);(try clear c23b1);(try clear c23b2);(try clear c26);(try clear c26b0);(try clear c27);(try clear c27b0);(try clear c27b1);(try clear c28);(try clear c28b0);(try clear c29);(try clear c29b0);(try clear c30);(try clear c30b0);(try clear c36);(try clear c36b0);(try clear c37);(try clear hx109_0);(try clear hx109_1);(try clear p1);(try clear p10);(try clear p109);(try clear p2);(try clear p6);(try clear q1);(try clear q10);(try clear q109)
        obtain ⟨kq,x92_34,rfl,HA,HJ34,BK101,HB⟩:=hcut
        cases kq with
        | zero=>exact absurd HA.out (by simp [z6.j4])
        | succ kj34 =>
         have H:=HA.out
         clear HA
         simp only [z6.j4] at H
         by_cases c42 : x92_34 = true
         · subst c42
           have H1 : ((zs.f kj34).bind fun t115=>(some t115)) = some r:=by rw [if_pos rfl] at H;exact H
           clear H
           have H:=H1
           clear H1
           replace H:=Option.bind_eq_some_iff.mp H
           obtain ⟨t115,A430,H⟩:=H
           replace H : (some t115) = some r:=H
           have A43:=z3.mk A430
           clear A430
           obtain rfl:=Option.some.inj H
           go_wp2_with (first|((with_reducible refine zt (f:=34) rfl ?_);refine goesL_ (some 93) rfl rfl Try.func34 (by kernel_rfl) rfl #[] rfl (by (try simp only [List.map_toArray,List.map_cons,List.map_nil]);first|done|rfl|(simp only [List.length_drop,List.length_take];rfl)) ?_;(with_reducible refine (zs.calls kj34  t115 _ A43.out).mono ?_);rintro e w44 ⟨rfl,hb⟩;refine ⟨_,rfl,?_⟩;have n0_:=z3.mk (ze (g:=gb101) (o:=.cells #[.int .i64 a2_0,.int .i64 a2_1] 79 (0,0)) (by (with_reducible repeat (first|refine z5 ?_ _|refine z8 ?_|refine z4 ?_ _));exact BK101.out) hb);have n1_:=z3.mk (zc (by repeat (first|(with_reducible first|exact HB.out|apply z2|apply z0|apply z1|refine z7 ?_ GE101.out)|exact HB.out)) hb);clear BK101;clear HB;have BK101:=n0_;have HB:=n1_;clear n0_ n1_;(try clear hb);(try clear hb2);(try clear hk);(try clear hi)))
           go_ret
           exact ⟨by first|rfl|(simp [zf,zg] <;> rfl)|(simp [*,zf,zg] <;> rfl),by repeat (first|(with_reducible first|exact HB.out|apply z2|apply z0|apply z1|refine z7 ?_ GE101.out)|exact HB.out)⟩
         replace c42:=Bool.eq_false_iff.mpr c42
         subst c42
         have H1 : (if (l1.length : Int) = 0 then (none) else ((zn.f kj34 t110 (Int.tmod (wrap64 ((Int.tmod a2_1 (l1.length : Int)) + (l1.length : Int))) (l1.length : Int))).bind fun t116=>((z17.f kj34 a0 l1 t116).bind fun bt119=>((zs.f kj34).bind fun t123=>(if t123 = true then (if bt119.2.2 = 0 then (if 0 ≤ (Int.tmod (wrap64 ((Int.tmod a2_1 (l1.length : Int)) + (l1.length : Int))) (l1.length : Int)) then (if (Int.tmod (wrap64 ((Int.tmod a2_1 (l1.length : Int)) + (l1.length : Int))) (l1.length : Int)) < (l1.length : Int) then (some (bt119.1 == ((zE l1 (Int.tmod (wrap64 ((Int.tmod a2_1 (l1.length : Int)) + (l1.length : Int))) (l1.length : Int))).f0) && (bt119.2.1 == ((zE l1 (Int.tmod (wrap64 ((Int.tmod a2_1 (l1.length : Int)) + (l1.length : Int))) (l1.length : Int))).f1)))) else (none)) else (none)) else (some false)) else (some false)))))) = some r:=by rw [if_neg (show ¬ (false = true) by decide)] at H;exact H
         clear H
         have H:=H1
         clear H1
         by_cases c45 : (l1.length : Int) = 0
         · rw [if_pos c45] at H
           exact absurd H (by simp)
         rw [if_neg c45] at H
         have c45b0 : ((l1.length : Int) == 0) = false:=beq_eq_false_iff_ne.mpr c45
         have c45b1 : ((l1.length : Int) != 0) = true:=bne_iff_ne.mpr c45
         have c45b2 : ¬ (l1 = []):=fun h_=>c45 (by rw [h_];rfl)
         replace H:=Option.bind_eq_some_iff.mp H
         obtain ⟨t116,A460,H⟩:=H
         replace H : ((z17.f kj34 a0 l1 t116).bind fun bt119=>((zs.f kj34).bind fun t123=>(if t123 = true then (if bt119.2.2 = 0 then (if 0 ≤ (Int.tmod (wrap64 ((Int.tmod a2_1 (l1.length : Int)) + (l1.length : Int))) (l1.length : Int)) then (if (Int.tmod (wrap64 ((Int.tmod a2_1 (l1.length : Int)) + (l1.length : Int))) (l1.length : Int)) < (l1.length : Int) then (some (bt119.1 == ((zE l1 (Int.tmod (wrap64 ((Int.tmod a2_1 (l1.length : Int)) + (l1.length : Int))) (l1.length : Int))).f0) && (bt119.2.1 == ((zE l1 (Int.tmod (wrap64 ((Int.tmod a2_1 (l1.length : Int)) + (l1.length : Int))) (l1.length : Int))).f1)))) else (none)) else (none)) else (some false)) else (some false)))) = some r:=H
         have A46:=z3.mk A460
         clear A460
         replace H:=Option.bind_eq_some_iff.mp H
         obtain ⟨⟨t119,t120,t121⟩,A470,H⟩:=H
         replace H : ((zs.f kj34).bind fun t123=>(if t123 = true then (if t121 = 0 then (if 0 ≤ (Int.tmod (wrap64 ((Int.tmod a2_1 (l1.length : Int)) + (l1.length : Int))) (l1.length : Int)) then (if (Int.tmod (wrap64 ((Int.tmod a2_1 (l1.length : Int)) + (l1.length : Int))) (l1.length : Int)) < (l1.length : Int) then (some (t119 == ((zE l1 (Int.tmod (wrap64 ((Int.tmod a2_1 (l1.length : Int)) + (l1.length : Int))) (l1.length : Int))).f0) && (t120 == ((zE l1 (Int.tmod (wrap64 ((Int.tmod a2_1 (l1.length : Int)) + (l1.length : Int))) (l1.length : Int))).f1)))) else (none)) else (none)) else (some false)) else (some false))) = some r:=H
         have A47:=z3.mk A470
         clear A470
         replace H:=Option.bind_eq_some_iff.mp H
         obtain ⟨t123,A480,H⟩:=H
         replace H : (if t123 = true then (if t121 = 0 then (if 0 ≤ (Int.tmod (wrap64 ((Int.tmod a2_1 (l1.length : Int)) + (l1.length : Int))) (l1.length : Int)) then (if (Int.tmod (wrap64 ((Int.tmod a2_1 (l1.length : Int)) + (l1.length : Int))) (l1.length : Int)) < (l1.length : Int) then (some (t119 == ((zE l1 (Int.tmod (wrap64 ((Int.tmod a2_1 (l1.length : Int)) + (l1.length : Int))) (l1.length : Int))).f0) && (t120 == ((zE l1 (Int.tmod (wrap64 ((Int.tmod a2_1 (l1.length : Int)) + (l1.length : Int))) (l1.length : Int))).f1)))) else (none)) else (none)) else (some false)) else (some false)) = some r:=H
         have A48:=z3.mk A480
         clear A480
         by_cases c49 : t123 = true
         rotate_left
         · replace c49:=Bool.eq_false_iff.mpr c49
           subst c49
           have H1 : (some false) = some r:=by rw [if_neg (show ¬ (false = true) by decide)] at H;exact H
           clear H
           have H:=H1
           clear H1
           obtain rfl:=Option.some.inj H
           try go_wp2_with (first|((with_reducible refine zt (f:=49) rfl ?_);refine goesL_ (some 109) rfl rfl Try.func49 (by kernel_rfl) rfl #[.int .i64 t110,.int .i64 (Int.tmod (wrap64 ((Int.tmod a2_1 (l1.length : Int)) + (l1.length : Int))) (l1.length : Int))] rfl (by (try simp only [List.map_toArray,List.map_cons,List.map_nil]);first|done|rfl|(simp only [List.length_drop,List.length_take];rfl)) ?_;(with_reducible refine (zn.calls kj34 t110 (Int.tmod (wrap64 ((Int.tmod a2_1 (l1.length : Int)) + (l1.length : Int))) (l1.length : Int)) t116 _ A46.out).mono ?_);rintro e w72 ⟨v117,rfl,ho0,hb⟩;refine ⟨_,rfl,?_⟩;have n0_:=z3.mk (Kd.z1s ho0 (zd (by repeat (first|(with_reducible first|exact HB.out|apply z2|apply z0|apply z1|refine z7 ?_ GE101.out)|exact HB.out))));have n1_:=z3.mk (ze (g:=gb101) (o:=.cells #[.int .i64 a2_0,.int .i64 a2_1] 79 (0,0)) (by (with_reducible repeat (first|refine z5 ?_ _|refine z8 ?_|refine z4 ?_ _));exact BK101.out) hb);have n2_:=z3.mk (zc (by repeat (first|(with_reducible first|exact HB.out|apply z2|apply z0|apply z1|refine z7 ?_ GE101.out)|exact HB.out)) hb);clear BK101;clear HB;have HO118:=n0_;have BK101:=n1_;have HB:=n2_;clear n0_ n1_ n2_;(try clear hb);(try clear hb2);(try clear hk);(try clear hi);(try clear ho0);obtain ⟨Ao73,co73,eo73⟩:=Kd.z1p HO118.out;subst eo73)|((with_reducible refine zt (f:=35) rfl ?_);refine goesL_ (some 110) rfl rfl Try.func35 (by kernel_rfl) rfl #[.int .i64 a0,.slice A1 l1.length c1,.slice Ao73 t116.length co73] rfl (by (try simp only [List.map_toArray,List.map_cons,List.map_nil]);first|done|rfl|(simp only [List.length_drop,List.length_take];rfl)) ?_;(with_reducible refine (z17.calls kj34 a0 _ _ l1 _ _ t116 t119 t120 t121 _ ?side1 ?side2 ?side3 ?side4 A47.out).mono ?_);(case side1=>repeat (first|exact (Kd.z1f HR1.out HB.out)|(with_reducible refine Kd.z18 ?_ _)|(with_reducible refine Kd.z19 ?_ _)|(with_reducible refine Kd.z1g ?_)));(case side2=>exact HC1.out);(case side3=>repeat (first|exact (Kd.z11 HO118.out).2.2|(with_reducible refine Kd.z18 ?_ _)|(with_reducible refine Kd.z19 ?_ _)|(with_reducible refine Kd.z1g ?_)));(case side4=>exact (Kd.z11 HO118.out).2.1);rintro e w74 ⟨rfl,hb⟩;refine ⟨_,rfl,?_⟩;have n0_:=z3.mk (Kd.z1e (by (with_reducible repeat (first|apply Kd.zP|apply Kd.zQ|apply Kd.z10));exact HO118.out) hb);have n1_:=z3.mk (ze (g:=gb101) (o:=.cells #[.int .i64 a2_0,.int .i64 a2_1] 79 (0,0)) (by (with_reducible repeat (first|refine z5 ?_ _|refine z8 ?_|refine z4 ?_ _));exact BK101.out) hb);have n2_:=z3.mk (zc (by repeat (first|(with_reducible first|exact HB.out|apply z2|apply z0|apply z1|refine z7 ?_ GE101.out)|exact HB.out)) hb);clear HO118;clear BK101;clear HB;have HO118:=n0_;have BK101:=n1_;have HB:=n2_;clear n0_ n1_ n2_;(try clear hb);(try clear hb2);(try clear hk);(try clear hi))|((with_reducible refine zA (N:=14) rfl ?_);refine zy ?hg (N:=14) ?hd (cs:=#[.int .u64 0,.int .u64 0]) (t:=51) ?hr ?_;(case hd=>rfl);(case hg=>rfl);(case hr=>first|(go_simp;done)|(go_simp;rfl));intro gb122 hg w75 hbox hb;have n0_:=z3.mk (Kd.z1e (Kd.z1F (by (with_reducible repeat (first|apply Kd.zP|apply Kd.zQ|apply Kd.z10));exact HO118.out) gb122 (Nat.le_of_eq hg.symm)) hb);have n1_:=z3.mk (ze (g:=gb101) (o:=.cells #[.int .i64 a2_0,.int .i64 a2_1] 79 (0,0)) (by (with_reducible repeat (first|refine z5 ?_ _|refine z8 ?_|refine z4 ?_ _));exact BK101.out) hb);have n2_:=z3.mk (zc (by repeat (first|(with_reducible first|exact HB.out|apply z2|apply z0|apply z1|refine z7 ?_ GE101.out)|exact HB.out)) hb);have n3_:=z3.mk (hbox);have n4_:=z3.mk ((by rw [hg];exact (zd (by repeat (first|(with_reducible first|exact HB.out|apply z2|apply z0|apply z1|refine z7 ?_ GE101.out)|exact HB.out))) : w.heap.size ≤ gb122));have n5_:=z3.mk ((by rw [hg];exact (zd (by repeat (first|(with_reducible first|exact HB.out|apply z2|apply z0|apply z1|refine z7 ?_ GE101.out)|exact HB.out))) : w.heap.size ≤ gb122));have n6_:=z3.mk ((by rw [hg];exact Nat.ne_of_lt (zJ (g:=gb101) (o:=.cells #[.int .i64 a2_0,.int .i64 a2_1] 79 (0,0)) (by (with_reducible repeat (first|refine z5 ?_ _|refine z8 ?_|refine z4 ?_ _));exact BK101.out)) : gb101 ≠ gb122));have n7_:=z3.mk ((by rw [hg];exact Nat.ne_of_gt (zJ (g:=gb101) (o:=.cells #[.int .i64 a2_0,.int .i64 a2_1] 79 (0,0)) (by (with_reducible repeat (first|refine z5 ?_ _|refine z8 ?_|refine z4 ?_ _));exact BK101.out)) : gb122 ≠ gb101));clear HO118;clear BK101;clear HB;have HO118:=n0_;have BK101:=n1_;have HB:=n2_;have BK122:=n3_;have GW122:=n4_;have GE122:=n5_;have NB101_122:=n6_;have NB122_101:=n7_;clear n0_ n1_ n2_ n3_ n4_ n5_ n6_ n7_;clear hb hbox hg;have hnb76:=NB122_101.out;have hnc76:=NB101_122.out;have hcz77_0 : w75.cell? ⟨gb122,0,none⟩ = some (.int .u64 0):=(za BK122.out 0).trans rfl;have hcz77_1 : w75.cell? ⟨gb122,1,none⟩ = some (.int .u64 0):=(za BK122.out 1).trans rfl;have hfz77_0:=zb BK122.out 0;have hfz77_1:=zb BK122.out 1))
           have n0_ : z3 (Kd.R k51 51 ((w75.setCell ⟨gb122,0,none⟩ (.int .u64 t119)).setCell ⟨gb122,1,none⟩ (.int .u64 t120)) w.heap.size (fun k_=>k_ ≠ gb122) (.slice Ao73 t116.length co73) t116):=⟨by (with_reducible repeat (first|apply Kd.zP|apply Kd.zQ|apply Kd.z10));exact Kd.z1L (Kd.z3A (p:=⟨gb122,1,none⟩) (Kd.z3A (p:=⟨gb122,0,none⟩) (Kd.z1L HO118.out (fun k_ hk=>(⟨hk,hk.2⟩ : _ ∧ k_ ≠ gb122))) (fun _ hk=>hk.2) (.int .u64 t119)) (fun _ hk=>hk.2) (.int .u64 t120)) (fun _ hk=>hk.1.2)⟩
           have n1_ : z3 (((w75.setCell ⟨gb122,0,none⟩ (.int .u64 t119)).setCell ⟨gb122,1,none⟩ (.int .u64 t120)).heap[gb101]? = some (.cells #[.int .i64 a2_0,.int .i64 a2_1] 79 (0,0))):=⟨by (with_reducible repeat (first|refine z5 ?_ _|refine z8 ?_|refine z4 ?_ _));refine z14 ?_ NB101_122.out _;(with_reducible repeat (first|refine z5 ?_ _|refine z8 ?_|refine z4 ?_ _));refine z14 ?_ NB101_122.out _;(with_reducible repeat (first|refine z5 ?_ _|refine z8 ?_|refine z4 ?_ _));exact BK101.out⟩
           have n2_ : z3 (((w75.setCell ⟨gb122,0,none⟩ (.int .u64 t119)).setCell ⟨gb122,1,none⟩ (.int .u64 t120)).heap[gb122]? = some (.cells #[.int .u64 t119,.int .u64 t120] 51 (0,0))):=⟨by (with_reducible repeat (first|refine z5 ?_ _|refine z8 ?_|refine z4 ?_ _));refine zH (cs:=#[.int .u64 t119,.int .u64 0]) ?_ 1 _ rfl;(with_reducible repeat (first|refine z5 ?_ _|refine z8 ?_|refine z4 ?_ _));refine zH (cs:=#[.int .u64 0,.int .u64 0]) ?_ 0 _ rfl;(with_reducible repeat (first|refine z5 ?_ _|refine z8 ?_|refine z4 ?_ _));exact BK122.out⟩
           have n3_ : z3 (Below w.heap.size w ((w75.setCell ⟨gb122,0,none⟩ (.int .u64 t119)).setCell ⟨gb122,1,none⟩ (.int .u64 t120))):=⟨by repeat (first|(with_reducible first|exact HB.out|apply z2|apply z0|apply z1|refine z7 ?_ GE101.out|refine z7 ?_ GE122.out)|exact HB.out)⟩
           (try clear HO118)
           (try clear BK101)
           (try clear BK122)
           (try clear HB)
           generalize ((w75.setCell ⟨gb122,0,none⟩ (.int .u64 t119)).setCell ⟨gb122,1,none⟩ (.int .u64 t120)) = w78 at n0_ n1_ n2_ n3_ ⊢
           have HO118:=n0_
           have BK101:=n1_
           have BK122:=n2_
           have HB:=n3_
           clear n0_ n1_ n2_ n3_
           have n0_:=z3.mk (Kd.z10 HO118.out)
           have n1_:=z3.mk (z8 BK101.out)
           have n2_:=z3.mk (z8 BK122.out)
           have n3_:=z3.mk (z1 HB.out)
           clear HO118
           clear BK101
           clear BK122
           clear HB
           have HO118:=n0_
           have BK101:=n1_
           have BK122:=n2_
           have HB:=n3_
           clear n0_ n1_ n2_ n3_
           refine start_ (n:=14) (S:=fun w'=>True) (ds:=[]) #[false,false,false,false,false,false,false,false,false,false,false,false,false,false] (by kernel_rfl) rfl rfl trivial (fun hHeld=>?_);refine z1A z6.tab20 z6.bits20 (fun HT_ HW_=>?_)
           generalize w78.drew = w79 at HO118 BK101 BK122 HB hHeld ⊢
           refine one_ (i:=0) (N:=some 113) #[true,false,false,false,false,false,false,false,false,false,false,false,false,false] rfl rfl (z1w HT_.out (by kernel_rfl)) (by decide) (fun K hK=>?_)
           refine goes_ Try.func34 (by kernel_rfl) rfl #[] (by rfl) rfl rfl (by (try simp only [List.map_toArray,List.map_cons,List.map_nil]);first|done|rfl|(simp only [List.length_drop,List.length_take];rfl)) ?_
           with_reducible refine (zs.calls kj34  false _ A48.out).mono ?_
           rintro e w80 ⟨rfl,hb⟩
           refine ⟨_,rfl,?_⟩
           have n0_:=z3.mk (Kd.z1e (by (with_reducible repeat (first|apply Kd.zP|apply Kd.zQ|apply Kd.z10));exact HO118.out) hb)
           have n1_:=z3.mk (ze (g:=gb101) (o:=.cells #[.int .i64 a2_0,.int .i64 a2_1] 79 (0,0)) (by (with_reducible repeat (first|refine z5 ?_ _|refine z8 ?_|refine z4 ?_ _));exact BK101.out) hb)
           have n2_:=z3.mk (ze (g:=gb122) (o:=.cells #[.int .u64 t119,.int .u64 t120] 51 (0,0)) (by (with_reducible repeat (first|refine z5 ?_ _|refine z8 ?_|refine z4 ?_ _));exact BK122.out) hb)
           have n3_:=z3.mk (zc (by repeat (first|(with_reducible first|exact HB.out|apply z2|apply z0|apply z1|refine z7 ?_ GE101.out|refine z7 ?_ GE122.out)|exact HB.out)) hb)
           clear HO118
           clear BK101
           clear BK122
           clear HB
           have HO118:=n0_
           have BK101:=n1_
           have BK122:=n2_
           have HB:=n3_
           clear n0_ n1_ n2_ n3_
           (try clear hb)
           (try clear hb2)
           (try clear hk)
           (try clear hi)
           refine hK.out _ _ trivial (fun hHeld=>?_)
           clear hK K
           refine norm_ (a':=?_) ?_ ?_
           rotate_left
           · show Act.put _ (some 113) _ = _
             simp only [Act.put,List.setIfInBounds_toArray,List.set_cons_zero,List.set_cons_succ,zD,zF]
             rfl
           refine pure_ (i:=1) (N:=some 114) (v:=?_) (a':=?_) #[true,true,false,false,false,false,false,false,false,false,false,false,false,false] rfl rfl (zR HT_.out (by kernel_rfl)) (fun _ _ _ h=>h) (Or.inl ⟨by rfl,?_⟩) ?_ ?_
           rotate_left
           · intro w'
             go_simp
             with_reducible rfl
           rotate_left
           · simp only [Act.put,List.setIfInBounds_toArray,List.set_cons_zero,List.set_cons_succ,zD,zF]
             rfl
           refine pure_ (i:=2) (N:=some 115) (v:=undef) (a':=?_) #[true,true,true,false,false,false,false,false,false,false,false,false,false,false] rfl rfl (zR HT_.out (by kernel_rfl)) (fun _ _ _ h=>h) (Or.inr ⟨by rfl,rfl⟩) ?_ ?_
           rotate_left
           · simp only [Act.put,List.setIfInBounds_toArray,List.set_cons_zero,List.set_cons_succ,zD,zF]
             rfl
           refine pure_ (i:=3) (N:=some 116) (v:=undef) (a':=?_) #[true,true,true,true,false,false,false,false,false,false,false,false,false,false] rfl rfl (zR HT_.out (by kernel_rfl)) (fun _ _ _ h=>h) (Or.inr ⟨by rfl,rfl⟩) ?_ ?_
           rotate_left
           · simp only [Act.put,List.setIfInBounds_toArray,List.set_cons_zero,List.set_cons_succ,zD,zF]
             rfl
           refine pure_ (i:=4) (N:=some 117) (v:=?_) (a':=?_) #[true,true,true,true,true,false,false,false,false,false,false,false,false,false] rfl rfl (zR HT_.out (by kernel_rfl)) (fun _ _ _ h=>h) (Or.inl ⟨by rfl,?_⟩) ?_ ?_
           rotate_left
           · intro w'
             go_simp
             with_reducible rfl
           rotate_left
           · simp only [Act.put,List.setIfInBounds_toArray,List.set_cons_zero,List.set_cons_succ,zD,zF]
             rfl
           refine pure_ (i:=5) (N:=some 118) (v:=?_) (a':=?_) #[true,true,true,true,true,true,false,false,false,false,false,false,false,false] rfl rfl (zR HT_.out (by kernel_rfl)) (fun _ _ _ h=>h) (Or.inl ⟨by rfl,?_⟩) ?_ ?_
           rotate_left
           · intro w'
             go_simp
             with_reducible rfl
           rotate_left
           · simp only [Act.put,List.setIfInBounds_toArray,List.set_cons_zero,List.set_cons_succ,zD,zF]
             rfl
           refine pure_ (i:=6) (N:=some 119) (v:=undef) (a':=?_) #[true,true,true,true,true,true,true,false,false,false,false,false,false,false] rfl rfl (zR HT_.out (by kernel_rfl)) (fun _ _ _ h=>h) (Or.inr ⟨by rfl,rfl⟩) ?_ ?_
           rotate_left
           · simp only [Act.put,List.setIfInBounds_toArray,List.set_cons_zero,List.set_cons_succ,zD,zF]
             rfl
           refine pure_ (i:=7) (N:=some 120) (v:=undef) (a':=?_) #[true,true,true,true,true,true,true,true,false,false,false,false,false,false] rfl rfl (zR HT_.out (by kernel_rfl)) (fun _ _ _ h=>h) (Or.inr ⟨by rfl,rfl⟩) ?_ ?_
           rotate_left
           · simp only [Act.put,List.setIfInBounds_toArray,List.set_cons_zero,List.set_cons_succ,zD,zF]
             rfl
           refine pure_ (i:=8) (N:=some 121) (v:=undef) (a':=?_) #[true,true,true,true,true,true,true,true,true,false,false,false,false,false] rfl rfl (zR HT_.out (by kernel_rfl)) (fun _ _ _ h=>h) (Or.inr ⟨by rfl,rfl⟩) ?_ ?_
           rotate_left
           · simp only [Act.put,List.setIfInBounds_toArray,List.set_cons_zero,List.set_cons_succ,zD,zF]
             rfl
           refine pure_ (i:=9) (N:=some 122) (v:=undef) (a':=?_) #[true,true,true,true,true,true,true,true,true,true,false,false,false,false] rfl rfl (zR HT_.out (by kernel_rfl)) (fun _ _ _ h=>h) (Or.inr ⟨by rfl,rfl⟩) ?_ ?_
           rotate_left
           · simp only [Act.put,List.setIfInBounds_toArray,List.set_cons_zero,List.set_cons_succ,zD,zF]
             rfl
           refine pure_ (i:=10) (N:=some 123) (v:=undef) (a':=?_) #[true,true,true,true,true,true,true,true,true,true,true,false,false,false] rfl rfl (zR HT_.out (by kernel_rfl)) (fun _ _ _ h=>h) (Or.inr ⟨by rfl,rfl⟩) ?_ ?_
           rotate_left
           · simp only [Act.put,List.setIfInBounds_toArray,List.set_cons_zero,List.set_cons_succ,zD,zF]
             rfl
           refine pure_ (i:=11) (N:=some 124) (v:=undef) (a':=?_) #[true,true,true,true,true,true,true,true,true,true,true,true,false,false] rfl rfl (zR HT_.out (by kernel_rfl)) (fun _ _ _ h=>h) (Or.inr ⟨by rfl,rfl⟩) ?_ ?_
           rotate_left
           · simp only [Act.put,List.setIfInBounds_toArray,List.set_cons_zero,List.set_cons_succ,zD,zF]
             rfl
           refine pure_ (i:=12) (N:=some 125) (v:=?_) (a':=?_) #[true,true,true,true,true,true,true,true,true,true,true,true,true,false] rfl rfl (zR HT_.out (by kernel_rfl)) (fun _ _ _ h=>h) (Or.inl ⟨by rfl,?_⟩) ?_ ?_
           rotate_left
           · intro w'
             go_simp
             with_reducible rfl
           rotate_left
           · simp only [Act.put,List.setIfInBounds_toArray,List.set_cons_zero,List.set_cons_succ,zD,zF]
             rfl
           refine pure_ (i:=13) (N:=some 6) (v:=?_) (a':=?_) #[true,true,true,true,true,true,true,true,true,true,true,true,true,true] rfl rfl (zR HT_.out (by kernel_rfl)) (fun _ _ _ h=>h) (Or.inl ⟨by rfl,?_⟩) ?_ ?_
           rotate_left
           · intro w'
             go_simp
             with_reducible rfl
           rotate_left
           · simp only [Act.put,List.setIfInBounds_toArray,List.set_cons_zero,List.set_cons_succ,zD,zF]
             rfl
           refine done_ (z1X HT_.out (by kernel_rfl)) ?_
           try go_wp2
           go_ret
           exact ⟨by first|rfl|(simp [zf,zg] <;> rfl)|(simp [*,zf,zg] <;> rfl),by repeat (first|(with_reducible first|exact HB.out|apply z2|apply z0|apply z1|refine z7 ?_ GE101.out|refine z7 ?_ GE122.out)|exact HB.out)⟩
         subst c49
         have H1 : (if t121 = 0 then (if 0 ≤ (Int.tmod (wrap64 ((Int.tmod a2_1 (l1.length : Int)) + (l1.length : Int))) (l1.length : Int)) then (if (Int.tmod (wrap64 ((Int.tmod a2_1 (l1.length : Int)) + (l1.length : Int))) (l1.length : Int)) < (l1.length : Int) then (some (t119 == ((zE l1 (Int.tmod (wrap64 ((Int.tmod a2_1 (l1.length : Int)) + (l1.length : Int))) (l1.length : Int))).f0) && (t120 == ((zE l1 (Int.tmod (wrap64 ((Int.tmod a2_1 (l1.length : Int)) + (l1.length : Int))) (l1.length : Int))).f1)))) else (none)) else (none)) else (some false)) = some r:=by rw [if_pos rfl] at H;exact H
         clear H
         have H:=H1
         clear H1
         by_cases c50 : t121 = 0
         rotate_left
         · rw [if_neg c50] at H
           have c50b0 : (t121 == 0) = false:=beq_eq_false_iff_ne.mpr c50
           have c50b1 : (t121 != 0) = true:=bne_iff_ne.mpr c50
           obtain rfl:=Option.some.inj H
           try go_wp2_with (first|((with_reducible refine zt (f:=49) rfl ?_);refine goesL_ (some 109) rfl rfl Try.func49 (by kernel_rfl) rfl #[.int .i64 t110,.int .i64 (Int.tmod (wrap64 ((Int.tmod a2_1 (l1.length : Int)) + (l1.length : Int))) (l1.length : Int))] rfl (by (try simp only [List.map_toArray,List.map_cons,List.map_nil]);first|done|rfl|(simp only [List.length_drop,List.length_take];rfl)) ?_;(with_reducible refine (zn.calls kj34 t110 (Int.tmod (wrap64 ((Int.tmod a2_1 (l1.length : Int)) + (l1.length : Int))) (l1.length : Int)) t116 _ A46.out).mono ?_);rintro e w63 ⟨v117,rfl,ho0,hb⟩;refine ⟨_,rfl,?_⟩;have n0_:=z3.mk (Kd.z1s ho0 (zd (by repeat (first|(with_reducible first|exact HB.out|apply z2|apply z0|apply z1|refine z7 ?_ GE101.out)|exact HB.out))));have n1_:=z3.mk (ze (g:=gb101) (o:=.cells #[.int .i64 a2_0,.int .i64 a2_1] 79 (0,0)) (by (with_reducible repeat (first|refine z5 ?_ _|refine z8 ?_|refine z4 ?_ _));exact BK101.out) hb);have n2_:=z3.mk (zc (by repeat (first|(with_reducible first|exact HB.out|apply z2|apply z0|apply z1|refine z7 ?_ GE101.out)|exact HB.out)) hb);clear BK101;clear HB;have HO118:=n0_;have BK101:=n1_;have HB:=n2_;clear n0_ n1_ n2_;(try clear hb);(try clear hb2);(try clear hk);(try clear hi);(try clear ho0);obtain ⟨Ao64,co64,eo64⟩:=Kd.z1p HO118.out;subst eo64)|((with_reducible refine zt (f:=35) rfl ?_);refine goesL_ (some 110) rfl rfl Try.func35 (by kernel_rfl) rfl #[.int .i64 a0,.slice A1 l1.length c1,.slice Ao64 t116.length co64] rfl (by (try simp only [List.map_toArray,List.map_cons,List.map_nil]);first|done|rfl|(simp only [List.length_drop,List.length_take];rfl)) ?_;(with_reducible refine (z17.calls kj34 a0 _ _ l1 _ _ t116 t119 t120 t121 _ ?side1 ?side2 ?side3 ?side4 A47.out).mono ?_);(case side1=>repeat (first|exact (Kd.z1f HR1.out HB.out)|(with_reducible refine Kd.z18 ?_ _)|(with_reducible refine Kd.z19 ?_ _)|(with_reducible refine Kd.z1g ?_)));(case side2=>exact HC1.out);(case side3=>repeat (first|exact (Kd.z11 HO118.out).2.2|(with_reducible refine Kd.z18 ?_ _)|(with_reducible refine Kd.z19 ?_ _)|(with_reducible refine Kd.z1g ?_)));(case side4=>exact (Kd.z11 HO118.out).2.1);rintro e w65 ⟨rfl,hb⟩;refine ⟨_,rfl,?_⟩;have n0_:=z3.mk (Kd.z1e (by (with_reducible repeat (first|apply Kd.zP|apply Kd.zQ|apply Kd.z10));exact HO118.out) hb);have n1_:=z3.mk (ze (g:=gb101) (o:=.cells #[.int .i64 a2_0,.int .i64 a2_1] 79 (0,0)) (by (with_reducible repeat (first|refine z5 ?_ _|refine z8 ?_|refine z4 ?_ _));exact BK101.out) hb);have n2_:=z3.mk (zc (by repeat (first|(with_reducible first|exact HB.out|apply z2|apply z0|apply z1|refine z7 ?_ GE101.out)|exact HB.out)) hb);clear HO118;clear BK101;clear HB;have HO118:=n0_;have BK101:=n1_;have HB:=n2_;clear n0_ n1_ n2_;(try clear hb);(try clear hb2);(try clear hk);(try clear hi))|((with_reducible refine zA (N:=14) rfl ?_);refine zy ?hg (N:=14) ?hd (cs:=#[.int .u64 0,.int .u64 0]) (t:=51) ?hr ?_;(case hd=>rfl);(case hg=>rfl);(case hr=>first|(go_simp;done)|(go_simp;rfl));intro gb122 hg w66 hbox hb;have n0_:=z3.mk (Kd.z1e (Kd.z1F (by (with_reducible repeat (first|apply Kd.zP|apply Kd.zQ|apply Kd.z10));exact HO118.out) gb122 (Nat.le_of_eq hg.symm)) hb);have n1_:=z3.mk (ze (g:=gb101) (o:=.cells #[.int .i64 a2_0,.int .i64 a2_1] 79 (0,0)) (by (with_reducible repeat (first|refine z5 ?_ _|refine z8 ?_|refine z4 ?_ _));exact BK101.out) hb);have n2_:=z3.mk (zc (by repeat (first|(with_reducible first|exact HB.out|apply z2|apply z0|apply z1|refine z7 ?_ GE101.out)|exact HB.out)) hb);have n3_:=z3.mk (hbox);have n4_:=z3.mk ((by rw [hg];exact (zd (by repeat (first|(with_reducible first|exact HB.out|apply z2|apply z0|apply z1|refine z7 ?_ GE101.out)|exact HB.out))) : w.heap.size ≤ gb122));have n5_:=z3.mk ((by rw [hg];exact (zd (by repeat (first|(with_reducible first|exact HB.out|apply z2|apply z0|apply z1|refine z7 ?_ GE101.out)|exact HB.out))) : w.heap.size ≤ gb122));have n6_:=z3.mk ((by rw [hg];exact Nat.ne_of_lt (zJ (g:=gb101) (o:=.cells #[.int .i64 a2_0,.int .i64 a2_1] 79 (0,0)) (by (with_reducible repeat (first|refine z5 ?_ _|refine z8 ?_|refine z4 ?_ _));exact BK101.out)) : gb101 ≠ gb122));have n7_:=z3.mk ((by rw [hg];exact Nat.ne_of_gt (zJ (g:=gb101) (o:=.cells #[.int .i64 a2_0,.int .i64 a2_1] 79 (0,0)) (by (with_reducible repeat (first|refine z5 ?_ _|refine z8 ?_|refine z4 ?_ _));exact BK101.out)) : gb122 ≠ gb101));clear HO118;clear BK101;clear HB;have HO118:=n0_;have BK101:=n1_;have HB:=n2_;have BK122:=n3_;have GW122:=n4_;have GE122:=n5_;have NB101_122:=n6_;have NB122_101:=n7_;clear n0_ n1_ n2_ n3_ n4_ n5_ n6_ n7_;clear hb hbox hg;have hnb67:=NB122_101.out;have hnc67:=NB101_122.out;have hcz68_0 : w66.cell? ⟨gb122,0,none⟩ = some (.int .u64 0):=(za BK122.out 0).trans rfl;have hcz68_1 : w66.cell? ⟨gb122,1,none⟩ = some (.int .u64 0):=(za BK122.out 1).trans rfl;have hfz68_0:=zb BK122.out 0;have hfz68_1:=zb BK122.out 1))
           have n0_ : z3 (Kd.R k51 51 ((w66.setCell ⟨gb122,0,none⟩ (.int .u64 t119)).setCell ⟨gb122,1,none⟩ (.int .u64 t120)) w.heap.size (fun k_=>k_ ≠ gb122) (.slice Ao64 t116.length co64) t116):=⟨by (with_reducible repeat (first|apply Kd.zP|apply Kd.zQ|apply Kd.z10));exact Kd.z1L (Kd.z3A (p:=⟨gb122,1,none⟩) (Kd.z3A (p:=⟨gb122,0,none⟩) (Kd.z1L HO118.out (fun k_ hk=>(⟨hk,hk.2⟩ : _ ∧ k_ ≠ gb122))) (fun _ hk=>hk.2) (.int .u64 t119)) (fun _ hk=>hk.2) (.int .u64 t120)) (fun _ hk=>hk.1.2)⟩
           have n1_ : z3 (((w66.setCell ⟨gb122,0,none⟩ (.int .u64 t119)).setCell ⟨gb122,1,none⟩ (.int .u64 t120)).heap[gb101]? = some (.cells #[.int .i64 a2_0,.int .i64 a2_1] 79 (0,0))):=⟨by (with_reducible repeat (first|refine z5 ?_ _|refine z8 ?_|refine z4 ?_ _));refine z14 ?_ NB101_122.out _;(with_reducible repeat (first|refine z5 ?_ _|refine z8 ?_|refine z4 ?_ _));refine z14 ?_ NB101_122.out _;(with_reducible repeat (first|refine z5 ?_ _|refine z8 ?_|refine z4 ?_ _));exact BK101.out⟩
           have n2_ : z3 (((w66.setCell ⟨gb122,0,none⟩ (.int .u64 t119)).setCell ⟨gb122,1,none⟩ (.int .u64 t120)).heap[gb122]? = some (.cells #[.int .u64 t119,.int .u64 t120] 51 (0,0))):=⟨by (with_reducible repeat (first|refine z5 ?_ _|refine z8 ?_|refine z4 ?_ _));refine zH (cs:=#[.int .u64 t119,.int .u64 0]) ?_ 1 _ rfl;(with_reducible repeat (first|refine z5 ?_ _|refine z8 ?_|refine z4 ?_ _));refine zH (cs:=#[.int .u64 0,.int .u64 0]) ?_ 0 _ rfl;(with_reducible repeat (first|refine z5 ?_ _|refine z8 ?_|refine z4 ?_ _));exact BK122.out⟩
           have n3_ : z3 (Below w.heap.size w ((w66.setCell ⟨gb122,0,none⟩ (.int .u64 t119)).setCell ⟨gb122,1,none⟩ (.int .u64 t120))):=⟨by repeat (first|(with_reducible first|exact HB.out|apply z2|apply z0|apply z1|refine z7 ?_ GE101.out|refine z7 ?_ GE122.out)|exact HB.out)⟩
           (try clear HO118)
           (try clear BK101)
           (try clear BK122)
           (try clear HB)
           generalize ((w66.setCell ⟨gb122,0,none⟩ (.int .u64 t119)).setCell ⟨gb122,1,none⟩ (.int .u64 t120)) = w69 at n0_ n1_ n2_ n3_ ⊢
           have HO118:=n0_
           have BK101:=n1_
           have BK122:=n2_
           have HB:=n3_
           clear n0_ n1_ n2_ n3_
           have n0_:=z3.mk (Kd.z10 HO118.out)
           have n1_:=z3.mk (z8 BK101.out)
           have n2_:=z3.mk (z8 BK122.out)
           have n3_:=z3.mk (z1 HB.out)
           clear HO118
           clear BK101
           clear BK122
           clear HB
           have HO118:=n0_
           have BK101:=n1_
           have BK122:=n2_
           have HB:=n3_
           clear n0_ n1_ n2_ n3_
           refine start_ (n:=14) (S:=fun w'=>True) (ds:=[]) #[false,false,false,false,false,false,false,false,false,false,false,false,false,false] (by kernel_rfl) rfl rfl trivial (fun hHeld=>?_);refine z1A z6.tab20 z6.bits20 (fun HT_ HW_=>?_)
           generalize w69.drew = w70 at HO118 BK101 BK122 HB hHeld ⊢
           refine one_ (i:=0) (N:=some 113) #[true,false,false,false,false,false,false,false,false,false,false,false,false,false] rfl rfl (z1w HT_.out (by kernel_rfl)) (by decide) (fun K hK=>?_)
           refine goes_ Try.func34 (by kernel_rfl) rfl #[] (by rfl) rfl rfl (by (try simp only [List.map_toArray,List.map_cons,List.map_nil]);first|done|rfl|(simp only [List.length_drop,List.length_take];rfl)) ?_
           with_reducible refine (zs.calls kj34  true _ A48.out).mono ?_
           rintro e w71 ⟨rfl,hb⟩
           refine ⟨_,rfl,?_⟩
           have n0_:=z3.mk (Kd.z1e (by (with_reducible repeat (first|apply Kd.zP|apply Kd.zQ|apply Kd.z10));exact HO118.out) hb)
           have n1_:=z3.mk (ze (g:=gb101) (o:=.cells #[.int .i64 a2_0,.int .i64 a2_1] 79 (0,0)) (by (with_reducible repeat (first|refine z5 ?_ _|refine z8 ?_|refine z4 ?_ _));exact BK101.out) hb)
           have n2_:=z3.mk (ze (g:=gb122) (o:=.cells #[.int .u64 t119,.int .u64 t120] 51 (0,0)) (by (with_reducible repeat (first|refine z5 ?_ _|refine z8 ?_|refine z4 ?_ _));exact BK122.out) hb)
           have n3_:=z3.mk (zc (by repeat (first|(with_reducible first|exact HB.out|apply z2|apply z0|apply z1|refine z7 ?_ GE101.out|refine z7 ?_ GE122.out)|exact HB.out)) hb)
           clear HO118
           clear BK101
           clear BK122
           clear HB
           have HO118:=n0_
           have BK101:=n1_
           have BK122:=n2_
           have HB:=n3_
           clear n0_ n1_ n2_ n3_
           (try clear hb)
           (try clear hb2)
           (try clear hk)
           (try clear hi)
           refine hK.out _ _ trivial (fun hHeld=>?_)
           clear hK K
           refine norm_ (a':=?_) ?_ ?_
           rotate_left
           · show Act.put _ (some 113) _ = _
             simp only [Act.put,List.setIfInBounds_toArray,List.set_cons_zero,List.set_cons_succ,zD,zF]
             rfl
           refine pure_ (i:=1) (N:=some 114) (v:=?_) (a':=?_) #[true,true,false,false,false,false,false,false,false,false,false,false,false,false] rfl rfl (zR HT_.out (by kernel_rfl)) (fun _ _ _ h=>h) (Or.inl ⟨by rfl,?_⟩) ?_ ?_
           rotate_left
           · intro w'
             go_simp
             with_reducible rfl
           rotate_left
           · simp only [Act.put,List.setIfInBounds_toArray,List.set_cons_zero,List.set_cons_succ,zD,zF]
             rfl
           refine pure_ (i:=2) (N:=some 115) (v:=?_) (a':=?_) #[true,true,true,false,false,false,false,false,false,false,false,false,false,false] rfl rfl (zR HT_.out (by kernel_rfl)) (fun _ _ _ h=>h) (Or.inl ⟨by rfl,?_⟩) ?_ ?_
           rotate_left
           · intro w'
             go_simp
             with_reducible rfl
           rotate_left
           · simp only [Act.put,List.setIfInBounds_toArray,List.set_cons_zero,List.set_cons_succ,zD,zF]
             rfl
           refine pure_ (i:=3) (N:=some 116) (v:=?_) (a':=?_) #[true,true,true,true,false,false,false,false,false,false,false,false,false,false] rfl rfl (zR HT_.out (by kernel_rfl)) (fun _ _ _ h=>h) (Or.inl ⟨by rfl,?_⟩) ?_ ?_
           rotate_left
           · intro w'
             go_simp
             with_reducible rfl
           rotate_left
           · simp only [Act.put,List.setIfInBounds_toArray,List.set_cons_zero,List.set_cons_succ,zD,zF]
             rfl
           refine pure_ (i:=4) (N:=some 117) (v:=?_) (a':=?_) #[true,true,true,true,true,false,false,false,false,false,false,false,false,false] rfl rfl (zR HT_.out (by kernel_rfl)) (fun _ _ _ h=>h) (Or.inl ⟨by rfl,?_⟩) ?_ ?_
           rotate_left
           · intro w'
             go_simp
             with_reducible rfl
           rotate_left
           · simp only [Act.put,List.setIfInBounds_toArray,List.set_cons_zero,List.set_cons_succ,zD,zF]
             rfl
           refine pure_ (i:=5) (N:=some 118) (v:=?_) (a':=?_) #[true,true,true,true,true,true,false,false,false,false,false,false,false,false] rfl rfl (zR HT_.out (by kernel_rfl)) (fun _ _ _ h=>h) (Or.inl ⟨by rfl,?_⟩) ?_ ?_
           rotate_left
           · intro w'
             go_simp
             with_reducible rfl
           rotate_left
           · simp only [Act.put,List.setIfInBounds_toArray,List.set_cons_zero,List.set_cons_succ,zD,zF]
             rfl
           refine pure_ (i:=6) (N:=some 119) (v:=undef) (a':=?_) #[true,true,true,true,true,true,true,false,false,false,false,false,false,false] rfl rfl (zR HT_.out (by kernel_rfl)) (fun _ _ _ h=>h) (Or.inr ⟨by rfl,rfl⟩) ?_ ?_
           rotate_left
           · simp only [Act.put,List.setIfInBounds_toArray,List.set_cons_zero,List.set_cons_succ,zD,zF]
             rfl
           refine pure_ (i:=7) (N:=some 120) (v:=undef) (a':=?_) #[true,true,true,true,true,true,true,true,false,false,false,false,false,false] rfl rfl (zR HT_.out (by kernel_rfl)) (fun _ _ _ h=>h) (Or.inr ⟨by rfl,rfl⟩) ?_ ?_
           rotate_left
           · simp only [Act.put,List.setIfInBounds_toArray,List.set_cons_zero,List.set_cons_succ,zD,zF]
             rfl
           refine pure_ (i:=8) (N:=some 121) (v:=undef) (a':=?_) #[true,true,true,true,true,true,true,true,true,false,false,false,false,false] rfl rfl (zR HT_.out (by kernel_rfl)) (fun _ _ _ h=>h) (Or.inr ⟨by rfl,rfl⟩) ?_ ?_
           rotate_left
           · simp only [Act.put,List.setIfInBounds_toArray,List.set_cons_zero,List.set_cons_succ,zD,zF]
             rfl
           refine pure_ (i:=9) (N:=some 122) (v:=undef) (a':=?_) #[true,true,true,true,true,true,true,true,true,true,false,false,false,false] rfl rfl (zR HT_.out (by kernel_rfl)) (fun _ _ _ h=>h) (Or.inr ⟨by rfl,rfl⟩) ?_ ?_
           rotate_left
           · simp only [Act.put,List.setIfInBounds_toArray,List.set_cons_zero,List.set_cons_succ,zD,zF]
             rfl
           refine pure_ (i:=10) (N:=some 123) (v:=undef) (a':=?_) #[true,true,true,true,true,true,true,true,true,true,true,false,false,false] rfl rfl (zR HT_.out (by kernel_rfl)) (fun _ _ _ h=>h) (Or.inr ⟨by rfl,rfl⟩) ?_ ?_
           rotate_left
           · simp only [Act.put,List.setIfInBounds_toArray,List.set_cons_zero,List.set_cons_succ,zD,zF]
             rfl
           refine pure_ (i:=11) (N:=some 124) (v:=undef) (a':=?_) #[true,true,true,true,true,true,true,true,true,true,true,true,false,false] rfl rfl (zR HT_.out (by kernel_rfl)) (fun _ _ _ h=>h) (Or.inr ⟨by rfl,rfl⟩) ?_ ?_
           rotate_left
           · simp only [Act.put,List.setIfInBounds_toArray,List.set_cons_zero,List.set_cons_succ,zD,zF]
             rfl
           refine pure_ (i:=12) (N:=some 125) (v:=?_) (a':=?_) #[true,true,true,true,true,true,true,true,true,true,true,true,true,false] rfl rfl (zR HT_.out (by kernel_rfl)) (fun _ _ _ h=>h) (Or.inl ⟨by rfl,?_⟩) ?_ ?_
           rotate_left
           · intro w'
             go_simp
             with_reducible rfl
           rotate_left
           · simp only [Act.put,List.setIfInBounds_toArray,List.set_cons_zero,List.set_cons_succ,zD,zF]
             rfl
           refine pure_ (i:=13) (N:=some 6) (v:=?_) (a':=?_) #[true,true,true,true,true,true,true,true,true,true,true,true,true,true] rfl rfl (zR HT_.out (by kernel_rfl)) (fun _ _ _ h=>h) (Or.inl ⟨by rfl,?_⟩) ?_ ?_
           rotate_left
           · intro w'
             go_simp
             with_reducible rfl
           rotate_left
           · simp only [Act.put,List.setIfInBounds_toArray,List.set_cons_zero,List.set_cons_succ,zD,zF]
             rfl
           refine done_ (z1X HT_.out (by kernel_rfl)) ?_
           try go_wp2
           go_ret
           exact ⟨by first|rfl|(simp [zf,zg] <;> rfl)|(simp [*,zf,zg] <;> rfl),by repeat (first|(with_reducible first|exact HB.out|apply z2|apply z0|apply z1|refine z7 ?_ GE101.out|refine z7 ?_ GE122.out)|exact HB.out)⟩
         rw [if_pos c50] at H
         have c50b0 : (t121 == 0) = true:=beq_iff_eq.mpr c50
         have c50b1 : (t121 != 0) = false:=bne_eq_false_iff_eq.mpr c50
         clear c50
         obtain ⟨ji51,hji51⟩ : ∃ j_ : Int,(Int.tmod (wrap64 ((Int.tmod a2_1 (l1.length : Int)) + (l1.length : Int))) (l1.length : Int)) = j_:=⟨_,rfl⟩
         replace H : (if 0 ≤ (ji51) then (if (ji51) < (l1.length : Int) then (some (t119 == ((zE l1 (ji51)).f0) && (t120 == ((zE l1 (ji51)).f1)))) else (none)) else (none)) = some r:=by first|(rw [hji51] at H;exact H)|(simp only [hji51] at H ⊢;exact H)
         (try rw [hji51] at A46)
         (try rw [hji51] at A47)
         (try rw [hji51] at A48)
         by_cases c52 : 0 ≤ (ji51)
         rotate_left
         · rw [if_neg c52] at H
           exact absurd H (by simp)
         rw [if_pos c52] at H
         have c52b0 : decide (0 ≤ (ji51)) = true:=decide_eq_true c52
         clear c52
         by_cases c53 : (ji51) < (l1.length : Int)
         rotate_left
         · rw [if_neg c53] at H
           exact absurd H (by simp)
         rw [if_pos c53] at H
         have c53b0 : decide ((ji51) < (l1.length : Int)) = true:=decide_eq_true c53
         clear c53
         obtain rfl:=Option.some.inj H
         try go_wp2_with (first|((with_reducible refine zt (f:=49) rfl ?_);refine goesL_ (some 109) rfl rfl Try.func49 (by kernel_rfl) rfl #[.int .i64 t110,.int .i64 ji51] rfl (by (try simp only [List.map_toArray,List.map_cons,List.map_nil]);first|done|(simp only [hji51];rfl)|rfl|(simp only [List.length_drop,List.length_take];rfl)) ?_;(with_reducible refine (zn.calls kj34 t110 ji51 t116 _ A46.out).mono ?_);rintro e w54 ⟨v117,rfl,ho0,hb⟩;refine ⟨_,rfl,?_⟩;have n0_:=z3.mk (Kd.z1s ho0 (zd (by repeat (first|(with_reducible first|exact HB.out|apply z2|apply z0|apply z1|refine z7 ?_ GE101.out)|exact HB.out))));have n1_:=z3.mk (ze (g:=gb101) (o:=.cells #[.int .i64 a2_0,.int .i64 a2_1] 79 (0,0)) (by (with_reducible repeat (first|refine z5 ?_ _|refine z8 ?_|refine z4 ?_ _));exact BK101.out) hb);have n2_:=z3.mk (zc (by repeat (first|(with_reducible first|exact HB.out|apply z2|apply z0|apply z1|refine z7 ?_ GE101.out)|exact HB.out)) hb);clear BK101;clear HB;have HO118:=n0_;have BK101:=n1_;have HB:=n2_;clear n0_ n1_ n2_;(try clear hb);(try clear hb2);(try clear hk);(try clear hi);(try clear ho0);obtain ⟨Ao55,co55,eo55⟩:=Kd.z1p HO118.out;subst eo55)|((with_reducible refine zt (f:=35) rfl ?_);refine goesL_ (some 110) rfl rfl Try.func35 (by kernel_rfl) rfl #[.int .i64 a0,.slice A1 l1.length c1,.slice Ao55 t116.length co55] rfl (by (try simp only [List.map_toArray,List.map_cons,List.map_nil]);first|done|rfl|(simp only [List.length_drop,List.length_take];rfl)) ?_;(with_reducible refine (z17.calls kj34 a0 _ _ l1 _ _ t116 t119 t120 t121 _ ?side1 ?side2 ?side3 ?side4 A47.out).mono ?_);(case side1=>repeat (first|exact (Kd.z1f HR1.out HB.out)|(with_reducible refine Kd.z18 ?_ _)|(with_reducible refine Kd.z19 ?_ _)|(with_reducible refine Kd.z1g ?_)));(case side2=>exact HC1.out);(case side3=>repeat (first|exact (Kd.z11 HO118.out).2.2|(with_reducible refine Kd.z18 ?_ _)|(with_reducible refine Kd.z19 ?_ _)|(with_reducible refine Kd.z1g ?_)));(case side4=>exact (Kd.z11 HO118.out).2.1);rintro e w56 ⟨rfl,hb⟩;refine ⟨_,rfl,?_⟩;have n0_:=z3.mk (Kd.z1e (by (with_reducible repeat (first|apply Kd.zP|apply Kd.zQ|apply Kd.z10));exact HO118.out) hb);have n1_:=z3.mk (ze (g:=gb101) (o:=.cells #[.int .i64 a2_0,.int .i64 a2_1] 79 (0,0)) (by (with_reducible repeat (first|refine z5 ?_ _|refine z8 ?_|refine z4 ?_ _));exact BK101.out) hb);have n2_:=z3.mk (zc (by repeat (first|(with_reducible first|exact HB.out|apply z2|apply z0|apply z1|refine z7 ?_ GE101.out)|exact HB.out)) hb);clear HO118;clear BK101;clear HB;have HO118:=n0_;have BK101:=n1_;have HB:=n2_;clear n0_ n1_ n2_;(try clear hb);(try clear hb2);(try clear hk);(try clear hi))|((with_reducible refine zA (N:=14) rfl ?_);refine zy ?hg (N:=14) ?hd (cs:=#[.int .u64 0,.int .u64 0]) (t:=51) ?hr ?_;(case hd=>rfl);(case hg=>rfl);(case hr=>first|(go_simp;done)|(go_simp;rfl));intro gb122 hg w57 hbox hb;have n0_:=z3.mk (Kd.z1e (Kd.z1F (by (with_reducible repeat (first|apply Kd.zP|apply Kd.zQ|apply Kd.z10));exact HO118.out) gb122 (Nat.le_of_eq hg.symm)) hb);have n1_:=z3.mk (ze (g:=gb101) (o:=.cells #[.int .i64 a2_0,.int .i64 a2_1] 79 (0,0)) (by (with_reducible repeat (first|refine z5 ?_ _|refine z8 ?_|refine z4 ?_ _));exact BK101.out) hb);have n2_:=z3.mk (zc (by repeat (first|(with_reducible first|exact HB.out|apply z2|apply z0|apply z1|refine z7 ?_ GE101.out)|exact HB.out)) hb);have n3_:=z3.mk (hbox);have n4_:=z3.mk ((by rw [hg];exact (zd (by repeat (first|(with_reducible first|exact HB.out|apply z2|apply z0|apply z1|refine z7 ?_ GE101.out)|exact HB.out))) : w.heap.size ≤ gb122));have n5_:=z3.mk ((by rw [hg];exact (zd (by repeat (first|(with_reducible first|exact HB.out|apply z2|apply z0|apply z1|refine z7 ?_ GE101.out)|exact HB.out))) : w.heap.size ≤ gb122));have n6_:=z3.mk ((by rw [hg];exact Nat.ne_of_lt (zJ (g:=gb101) (o:=.cells #[.int .i64 a2_0,.int .i64 a2_1] 79 (0,0)) (by (with_reducible repeat (first|refine z5 ?_ _|refine z8 ?_|refine z4 ?_ _));exact BK101.out)) : gb101 ≠ gb122));have n7_:=z3.mk ((by rw [hg];exact Nat.ne_of_gt (zJ (g:=gb101) (o:=.cells #[.int .i64 a2_0,.int .i64 a2_1] 79 (0,0)) (by (with_reducible repeat (first|refine z5 ?_ _|refine z8 ?_|refine z4 ?_ _));exact BK101.out)) : gb122 ≠ gb101));clear HO118;clear BK101;clear HB;have HO118:=n0_;have BK101:=n1_;have HB:=n2_;have BK122:=n3_;have GW122:=n4_;have GE122:=n5_;have NB101_122:=n6_;have NB122_101:=n7_;clear n0_ n1_ n2_ n3_ n4_ n5_ n6_ n7_;clear hb hbox hg;have hnb58:=NB122_101.out;have hnc58:=NB101_122.out;have hcz59_0 : w57.cell? ⟨gb122,0,none⟩ = some (.int .u64 0):=(za BK122.out 0).trans rfl;have hcz59_1 : w57.cell? ⟨gb122,1,none⟩ = some (.int .u64 0):=(za BK122.out 1).trans rfl;have hfz59_0:=zb BK122.out 0;have hfz59_1:=zb BK122.out 1))
         have n0_ : z3 (Kd.R k51 51 ((w57.setCell ⟨gb122,0,none⟩ (.int .u64 t119)).setCell ⟨gb122,1,none⟩ (.int .u64 t120)) w.heap.size (fun k_=>k_ ≠ gb122) (.slice Ao55 t116.length co55) t116):=⟨by (with_reducible repeat (first|apply Kd.zP|apply Kd.zQ|apply Kd.z10));exact Kd.z1L (Kd.z3A (p:=⟨gb122,1,none⟩) (Kd.z3A (p:=⟨gb122,0,none⟩) (Kd.z1L HO118.out (fun k_ hk=>(⟨hk,hk.2⟩ : _ ∧ k_ ≠ gb122))) (fun _ hk=>hk.2) (.int .u64 t119)) (fun _ hk=>hk.2) (.int .u64 t120)) (fun _ hk=>hk.1.2)⟩
         have n1_ : z3 (((w57.setCell ⟨gb122,0,none⟩ (.int .u64 t119)).setCell ⟨gb122,1,none⟩ (.int .u64 t120)).heap[gb101]? = some (.cells #[.int .i64 a2_0,.int .i64 a2_1] 79 (0,0))):=⟨by (with_reducible repeat (first|refine z5 ?_ _|refine z8 ?_|refine z4 ?_ _));refine z14 ?_ NB101_122.out _;(with_reducible repeat (first|refine z5 ?_ _|refine z8 ?_|refine z4 ?_ _));refine z14 ?_ NB101_122.out _;(with_reducible repeat (first|refine z5 ?_ _|refine z8 ?_|refine z4 ?_ _));exact BK101.out⟩
         have n2_ : z3 (((w57.setCell ⟨gb122,0,none⟩ (.int .u64 t119)).setCell ⟨gb122,1,none⟩ (.int .u64 t120)).heap[gb122]? = some (.cells #[.int .u64 t119,.int .u64 t120] 51 (0,0))):=⟨by (with_reducible repeat (first|refine z5 ?_ _|refine z8 ?_|refine z4 ?_ _));refine zH (cs:=#[.int .u64 t119,.int .u64 0]) ?_ 1 _ rfl;(with_reducible repeat (first|refine z5 ?_ _|refine z8 ?_|refine z4 ?_ _));refine zH (cs:=#[.int .u64 0,.int .u64 0]) ?_ 0 _ rfl;(with_reducible repeat (first|refine z5 ?_ _|refine z8 ?_|refine z4 ?_ _));exact BK122.out⟩
         have n3_ : z3 (Below w.heap.size w ((w57.setCell ⟨gb122,0,none⟩ (.int .u64 t119)).setCell ⟨gb122,1,none⟩ (.int .u64 t120))):=⟨by repeat (first|(with_reducible first|exact HB.out|apply z2|apply z0|apply z1|refine z7 ?_ GE101.out|refine z7 ?_ GE122.out)|exact HB.out)⟩
         (try clear HO118)
         (try clear BK101)
         (try clear BK122)
         (try clear HB)
         generalize ((w57.setCell ⟨gb122,0,none⟩ (.int .u64 t119)).setCell ⟨gb122,1,none⟩ (.int .u64 t120)) = w60 at n0_ n1_ n2_ n3_ ⊢
         have HO118:=n0_
         have BK101:=n1_
         have BK122:=n2_
         have HB:=n3_
         clear n0_ n1_ n2_ n3_
         have n0_:=z3.mk (Kd.z10 HO118.out)
         have n1_:=z3.mk (z8 BK101.out)
         have n2_:=z3.mk (z8 BK122.out)
         have n3_:=z3.mk (z1 HB.out)
         clear HO118
         clear BK101
         clear BK122
         clear HB
         have HO118:=n0_
         have BK101:=n1_
         have BK122:=n2_
         have HB:=n3_
         clear n0_ n1_ n2_ n3_
         have p124 : 0 ≤ ((ji51) : Int):=of_decide_eq_true (by first|(with_reducible assumption)|assumption)
         have q124 : (ji51) < (l1.length : Int):=of_decide_eq_true (by first|(with_reducible assumption)|assumption)
         obtain ⟨ad124,e124,hx124_0,hx124_1⟩:=z26 HR1.out (ji51) p124 q124
         have hw124_1:=hx124_1
         have hw124_0:=hx124_0
         cases e124
         replace hx124_0:=(HB.out.cell (World.block_lt_of_cell? w _ hx124_0)).trans hx124_0
         replace hx124_1:=(HB.out.cell (World.block_lt_of_cell? w _ hx124_1)).trans hx124_1
         replace p124:=eq_true p124
         replace q124:=eq_true q124
         refine start_ (n:=14) (S:=fun w'=>w'.cell? ⟨gb122,0,none⟩ = some (.int .u64 t119) ∧ w'.cell? ⟨gb122,1,none⟩ = some (.int .u64 t120) ∧ w'.cell? (ad124.add (((ji51)).toNat * 2)) = some (.int .u64 ((zE l1 (ji51)).f0)) ∧ w'.cell? ⟨(ad124.add (((ji51)).toNat * 2)).block,(ad124.add (((ji51)).toNat * 2)).off + 1,none⟩ = some (.int .u64 ((zE l1 (ji51)).f1))) (ds:=[]) #[false,false,false,false,false,false,false,false,false,false,false,false,false,false] (by kernel_rfl) rfl rfl ⟨(za BK122.out 0).trans rfl,(za BK122.out 1).trans rfl,((HB.out.cell (World.block_lt_of_cell? w _ hw124_0)).trans hw124_0),((HB.out.cell (World.block_lt_of_cell? w _ hw124_1)).trans hw124_1)⟩ (fun hHeld=>?_);refine z1A z6.tab20 z6.bits20 (fun HT_ HW_=>?_)
         generalize w60.drew = w61 at HO118 BK101 BK122 HB hx124_0 hx124_1 hHeld ⊢
         refine one_ (i:=0) (N:=some 113) #[true,false,false,false,false,false,false,false,false,false,false,false,false,false] rfl rfl (z1w HT_.out (by kernel_rfl)) (by decide) (fun K hK=>?_)
         refine goes_ Try.func34 (by kernel_rfl) rfl #[] (by rfl) rfl rfl (by (try simp only [List.map_toArray,List.map_cons,List.map_nil]);first|done|rfl|(simp only [List.length_drop,List.length_take];rfl)) ?_
         with_reducible refine (zs.calls kj34  true _ A48.out).mono ?_
         rintro e w62 ⟨rfl,hb⟩
         refine ⟨_,rfl,?_⟩
         have n0_:=z3.mk (Kd.z1e (by (with_reducible repeat (first|apply Kd.zP|apply Kd.zQ|apply Kd.z10));exact HO118.out) hb)
         have n1_:=z3.mk (ze (g:=gb101) (o:=.cells #[.int .i64 a2_0,.int .i64 a2_1] 79 (0,0)) (by (with_reducible repeat (first|refine z5 ?_ _|refine z8 ?_|refine z4 ?_ _));exact BK101.out) hb)
         have n2_:=z3.mk (ze (g:=gb122) (o:=.cells #[.int .u64 t119,.int .u64 t120] 51 (0,0)) (by (with_reducible repeat (first|refine z5 ?_ _|refine z8 ?_|refine z4 ?_ _));exact BK122.out) hb)
         have n3_:=z3.mk (zc (by repeat (first|(with_reducible first|exact HB.out|apply z2|apply z0|apply z1|refine z7 ?_ GE101.out|refine z7 ?_ GE122.out)|exact HB.out)) hb)
         clear HO118
         clear BK101
         clear BK122
         clear HB
         have HO118:=n0_
         have BK101:=n1_
         have BK122:=n2_
         have HB:=n3_
         clear n0_ n1_ n2_ n3_
         (try clear hb)
         (try clear hb2)
         (try clear hk)
         (try clear hi)
         refine hK.out _ _ ⟨(za BK122.out 0).trans rfl,(za BK122.out 1).trans rfl,((HB.out.cell (World.block_lt_of_cell? w _ hw124_0)).trans hw124_0),((HB.out.cell (World.block_lt_of_cell? w _ hw124_1)).trans hw124_1)⟩ (fun hHeld=>?_)
         clear hK K
         refine norm_ (a':=?_) ?_ ?_
         rotate_left
         · show Act.put _ (some 113) _ = _
           simp only [Act.put,List.setIfInBounds_toArray,List.set_cons_zero,List.set_cons_succ,zD,zF]
           rfl
         refine pure_ (i:=1) (N:=some 114) (v:=?_) (a':=?_) #[true,true,false,false,false,false,false,false,false,false,false,false,false,false] rfl rfl (zR HT_.out (by kernel_rfl)) (fun _ _ _ h=>h) (Or.inl ⟨by rfl,?_⟩) ?_ ?_
         rotate_left
         · intro w'
           go_simp
           with_reducible rfl
         rotate_left
         · simp only [Act.put,List.setIfInBounds_toArray,List.set_cons_zero,List.set_cons_succ,zD,zF]
           rfl
         refine pure_ (i:=2) (N:=some 115) (v:=?_) (a':=?_) #[true,true,true,false,false,false,false,false,false,false,false,false,false,false] rfl rfl (zR HT_.out (by kernel_rfl)) (fun _ _ _ h=>h) (Or.inl ⟨by rfl,?_⟩) ?_ ?_
         rotate_left
         · intro w'
           go_simp
           with_reducible rfl
         rotate_left
         · simp only [Act.put,List.setIfInBounds_toArray,List.set_cons_zero,List.set_cons_succ,zD,zF]
           rfl
         refine pure_ (i:=3) (N:=some 116) (v:=?_) (a':=?_) #[true,true,true,true,false,false,false,false,false,false,false,false,false,false] rfl rfl (zR HT_.out (by kernel_rfl)) (fun _ _ _ h=>h) (Or.inl ⟨by rfl,?_⟩) ?_ ?_
         rotate_left
         · intro w'
           go_simp
           with_reducible rfl
         rotate_left
         · simp only [Act.put,List.setIfInBounds_toArray,List.set_cons_zero,List.set_cons_succ,zD,zF]
           rfl
         refine pure_ (i:=4) (N:=some 117) (v:=?_) (a':=?_) #[true,true,true,true,true,false,false,false,false,false,false,false,false,false] rfl rfl (zR HT_.out (by kernel_rfl)) (fun _ _ _ h=>h) (Or.inl ⟨by rfl,?_⟩) ?_ ?_
         rotate_left
         · intro w'
           go_simp
           with_reducible rfl
         rotate_left
         · simp only [Act.put,List.setIfInBounds_toArray,List.set_cons_zero,List.set_cons_succ,zD,zF]
           rfl
         refine pure_ (i:=5) (N:=some 118) (v:=?_) (a':=?_) #[true,true,true,true,true,true,false,false,false,false,false,false,false,false] rfl rfl (zR HT_.out (by kernel_rfl)) (fun _ _ _ h=>h) (Or.inl ⟨by rfl,?_⟩) ?_ ?_
         rotate_left
         · intro w'
           go_simp
           with_reducible rfl
         rotate_left
         · simp only [Act.put,List.setIfInBounds_toArray,List.set_cons_zero,List.set_cons_succ,zD,zF]
           rfl
         refine pure_ (i:=7) (N:=some 120) (v:=?_) (a':=?_) #[true,true,true,true,true,true,false,true,false,false,false,false,false,false] rfl rfl (zR HT_.out (by kernel_rfl)) (fun _ _ _ h=>h) (Or.inl ⟨by rfl,?_⟩) ?_ ?_
         rotate_left
         · intro w'
           go_simp
           with_reducible rfl
         rotate_left
         · simp only [Act.put,List.setIfInBounds_toArray,List.set_cons_zero,List.set_cons_succ,zD,zF]
           rfl
         refine pure_ (i:=8) (N:=some 121) (v:=?_) (a':=?_) #[true,true,true,true,true,true,false,true,true,false,false,false,false,false] rfl rfl (zR HT_.out (by kernel_rfl)) (fun _ _ _ h=>h) (Or.inl ⟨by rfl,?_⟩) ?_ ?_
         rotate_left
         · intro w'
           go_simp
           with_reducible rfl
         rotate_left
         · simp only [Act.put,List.setIfInBounds_toArray,List.set_cons_zero,List.set_cons_succ,zD,zF]
           rfl
         refine pure_ (i:=9) (N:=some 122) (v:=?_) (a':=?_) #[true,true,true,true,true,true,false,true,true,true,false,false,false,false] rfl rfl (zR HT_.out (by kernel_rfl)) (fun _ _ _ h=>h) (Or.inl ⟨by rfl,?_⟩) ?_ ?_
         rotate_left
         · intro w'
           go_simp
           with_reducible rfl
         rotate_left
         · simp only [Act.put,List.setIfInBounds_toArray,List.set_cons_zero,List.set_cons_succ,zD,zF]
           rfl
         refine take_ (i:=6) (N:=some 119) (v:=?_) (a':=?_) #[true,true,true,true,true,true,true,true,true,true,false,false,false,false] rfl rfl (z1k HT_.out HW_.out (by kernel_rfl)) (fun _ _ _ h=>h) (Or.inl ⟨by rfl,?_⟩) hHeld ?_ ?_
         rotate_left
         · rintro w' ⟨s0,s1,s2,s3⟩
           go_simp
           with_reducible rfl
         rotate_left
         · simp only [Act.put,List.setIfInBounds_toArray,List.set_cons_zero,List.set_cons_succ,zD,zF]
           rfl
         refine take_ (i:=10) (N:=some 123) (v:=?_) (a':=?_) #[true,true,true,true,true,true,true,true,true,true,true,false,false,false] rfl rfl (z1k HT_.out HW_.out (by kernel_rfl)) (fun _ _ _ h=>h) (Or.inl ⟨by rfl,?_⟩) hHeld ?_ ?_
         rotate_left
         · rintro w' ⟨s0,s1,s2,s3⟩
           go_simp
           with_reducible rfl
         rotate_left
         · simp only [Act.put,List.setIfInBounds_toArray,List.set_cons_zero,List.set_cons_succ,zD,zF]
           rfl
         refine pure_ (i:=11) (N:=some 124) (v:=?_) (a':=?_) #[true,true,true,true,true,true,true,true,true,true,true,true,false,false] rfl rfl (zR HT_.out (by kernel_rfl)) (fun _ _ _ h=>h) (Or.inl ⟨by rfl,?_⟩) ?_ ?_
         rotate_left
         · intro w'
           go_simp
           with_reducible rfl
         rotate_left
         · simp only [Act.put,List.setIfInBounds_toArray,List.set_cons_zero,List.set_cons_succ,zD,zF]
           rfl
         refine pure_ (i:=12) (N:=some 125) (v:=?_) (a':=?_) #[true,true,true,true,true,true,true,true,true,true,true,true,true,false] rfl rfl (zR HT_.out (by kernel_rfl)) (fun _ _ _ h=>h) (Or.inl ⟨by rfl,?_⟩) ?_ ?_
         rotate_left
         · intro w'
           go_simp
           with_reducible rfl
         rotate_left
         · simp only [Act.put,List.setIfInBounds_toArray,List.set_cons_zero,List.set_cons_succ,zD,zF]
           rfl
         refine pure_ (i:=13) (N:=some 6) (v:=?_) (a':=?_) #[true,true,true,true,true,true,true,true,true,true,true,true,true,true] rfl rfl (zR HT_.out (by kernel_rfl)) (fun _ _ _ h=>h) (Or.inl ⟨by rfl,?_⟩) ?_ ?_
         rotate_left
         · intro w'
           go_simp
           with_reducible rfl
         rotate_left
         · simp only [Act.put,List.setIfInBounds_toArray,List.set_cons_zero,List.set_cons_succ,zD,zF]
           rfl
         refine done_ (z1X HT_.out (by kernel_rfl)) ?_
         try go_wp2
         go_ret
         exact ⟨by first|rfl|(simp [zf,zg] <;> rfl)|(simp only [← hji51];first|rfl|(simp [zf,zg] <;> rfl))|(simp [*,zf,zg] <;> rfl),by repeat (first|(with_reducible first|exact HB.out|apply z2|apply z0|apply z1|refine z7 ?_ GE101.out|refine z7 ?_ GE122.out)|exact HB.out)⟩
end Go.Proofs.Ytngcaphdkgihmaa.P
/- What the arguments of a law read as: for each type that can be told, any reading of it is one of a value of its kind, with its numbers in their ranges. Own text. -/
namespace Go.Proofs.Ytngcaphdkgihmaa.Reads
open Go.ChangeShapes Go.WideShapes Go.ChangeAt Go.RowKit Go.Deep Go.Proofs.YtngcaphdkgihmaaW.PrintWords
set_option linter.unusedVariables false

/-- Whatever is read at type t is of kind d, and good. -/
def ReadsAs {α : Type} (P : Program) (t : TypeId) (d : Kd α) (good : α → Prop) : Prop :=
  ∀ {H : Type} (enc : TypeId × Value → H) (w : World) (base : Nat) (spare : Nat → Bool) (held : Bool) (fuel : Nat) (cs : List Value) (x : DataW H × List MemPlace), DataW.trod enc P w base spare held fuel t cs = some x → ∃ a, d.K w a cs ∧ good a

theorem z3L {P : Program} {t : TypeId} {k : IntKind} (ht : P.underlying t = some (.int k)) : ReadsAs P t (Kd.int k) (fun n => (Lit.int k n).wf = true) := by
  intro H enc w base spare held fuel cs x h
  obtain ⟨n, rfl, _, hw⟩ := DataW.trod_int ht h
  exact ⟨n, rfl, hw⟩
theorem op_bool {P : Program} {t : TypeId} (ht : P.underlying t = some .bool) : ReadsAs P t Kd.bool (fun _ => True) := by
  intro H enc w base spare held fuel cs x h
  obtain ⟨n, rfl, _⟩ := DataW.trod_bool ht h
  exact ⟨n, rfl, trivial⟩
theorem z3U (a : Addr) (i j : Nat) : (a.add i).add j = a.add (i + j) := Go.Deep.add_add a i j
theorem op_slice {α : Type} {P : Program} {t e : TypeId} {d : Kd α} {good : α → Prop} (ht : P.underlying t = some (.slice e)) (hc : P.cellsOf e = d.sz) (he : ReadsAs P e d good) : ReadsAs P t (Kd.slice e d) (fun l => (∀ x ∈ l, good x) ∧ l.length ≤ maxLen) := by
  intro H enc w base spare held fuel cs x h
  rcases open_slice ht h with ⟨rfl, _⟩ | ⟨a, len, cap, m, n, D, Pl, rfl, hb, hl, hm, hmm, rfl, hx⟩
  · exact ⟨[], ⟨none, 0, rfl, Nat.le_refl _, Kd.C_nil d w⟩, ⟨by simp, Nat.zero_le _⟩⟩
  · have hlm : len ≤ m := by rw [hmm]; split <;> omega
    have hex : ∀ i, i < len → ∃ y : α, ∃ c, c.length = d.sz ∧ d.K w y c ∧ good y ∧ ∀ j u, c[j]? = some u → w.cell? (a.add (i * d.sz + j)) = some u := by
      intro i hi
      obtain ⟨cs', h1, h2⟩ := hx i (by omega)
      obtain ⟨_, hlen, hcell⟩ := World.cells?_some h1
      obtain ⟨y, hK, hg⟩ := he enc w base spare held n cs' _ h2
      refine ⟨y, cs', by rw [hlen, hc], hK, hg, fun j u hu => ?_⟩
      have hj : j < P.cellsOf e := by rw [← hlen]; exact (List.getElem?_eq_some_iff.1 hu).1
      have := hcell j hj
      rw [z3U] at this
      rw [← hc, this]; exact hu
    have hmax : len ≤ 9223372036854775807 := by
      have h9 : len ≤ maxLen := by omega
      simpa [maxLen] using h9
    have hlen : (List.ofFn (fun i : Fin len => Classical.choose (hex i.1 i.2))).length = len := List.length_ofFn
    refine ⟨List.ofFn (fun i : Fin len => Classical.choose (hex i.1 i.2)), ⟨some a, cap, by rw [hlen], by rw [hlen]; exact hl, rfl, by rw [hlen]; exact hmax, fun _ => ⟨a, rfl, ?_⟩⟩, ?_, by rw [hlen]; omega⟩
    · intro j p hp
      obtain ⟨hj, hpj⟩ := List.getElem?_eq_some_iff.1 hp
      rw [List.length_ofFn] at hj
      rw [List.getElem_ofFn] at hpj
      obtain ⟨c, h1, h2, _, h4⟩ := Classical.choose_spec (hex j hj)
      exact ⟨c, h1, by rw [← hpj]; exact h2, h4⟩
    · intro y hy
      obtain ⟨i, rfl⟩ := List.mem_ofFn.1 hy
      obtain ⟨c, _, _, h3, _⟩ := Classical.choose_spec (hex i.1 i.2)
      exact h3

/-- Fields that lie one behind the other. -/
def ReadsFs {α : Type} (P : Program) (fs : List Field) (off : Nat) (d : Kd α) (good : α → Prop) : Prop :=
  ∀ {H : Type} (enc : TypeId × Value → H) (w : World) (base : Nat) (spare : Nat → Bool) (held : Bool) (n : Nat) (cs : List Value), cs.length = d.sz →
    (∀ f ∈ fs, off ≤ f.offset ∧ ∃ x, DataW.trod enc P w base spare held n f.type ((cs.drop (f.offset - off)).take (P.cellsOf f.type)) = some x) → ∃ a, d.K w a cs ∧ good a
theorem z5h {α : Type} {P : Program} {f : Field} {off : Nat} {d : Kd α} {good : α → Prop} (hs : P.cellsOf f.type = d.sz) (ho : f.offset = off) (he : ReadsAs P f.type d good) : ReadsFs P [f] off d good := by
  intro H enc w base spare held n cs hl h
  obtain ⟨_, x, hx⟩ := h f (by simp)
  rw [ho, Nat.sub_self, List.drop_zero, hs, ← hl, List.take_length] at hx
  exact he enc w base spare held n cs x hx
theorem z5g {α β : Type} {P : Program} {f : Field} {fs : List Field} {off : Nat} {d : Kd α} {d' : Kd β} {good : α → Prop} {good' : β → Prop} (hs : P.cellsOf f.type = d.sz) (ho : f.offset = off) (he : ReadsAs P f.type d good)
    (hr : ReadsFs P fs (off + d.sz) d' good') (hoff : ∀ g ∈ fs, off + d.sz ≤ g.offset) : ReadsFs P (f :: fs) off (Kd.pair d d') (fun x => good x.1 ∧ good' x.2) := by
  intro H enc w base spare held n cs hl h
  have hl' : cs.length = d.sz + d'.sz := hl
  obtain ⟨_, x, hx⟩ := h f (by simp)
  rw [ho, Nat.sub_self, List.drop_zero, hs] at hx
  obtain ⟨a, hK, hg⟩ := he enc w base spare held n _ x hx
  obtain ⟨b, hK', hg'⟩ := hr enc w base spare held n (cs.drop d.sz) (by rw [List.length_drop]; omega) (fun g hgm => by
    obtain ⟨_, y, hy⟩ := h g (by simp [hgm])
    have ho' := hoff g hgm
    refine ⟨ho', y, ?_⟩
    rw [List.drop_drop, show d.sz + (g.offset - (off + d.sz)) = g.offset - off by omega]
    exact hy)
  exact ⟨(a, b), ⟨cs.take d.sz, cs.drop d.sz, (List.take_append_drop _ _).symm, hK, hK'⟩, hg, hg'⟩
theorem z5d {α β : Type} {P : Program} {t : TypeId} {fs : Array Field} {l : List Field} {d : Kd α} {good : α → Prop} (f : β → α) (hsurj : ∀ a, ∃ b, f b = a) (ht : P.underlying t = some (.struct fs)) (hfl : fs.toList = l) (hs : P.cellsOf t = d.sz) (h : ReadsFs P l 0 d good) :
    ReadsAs P t (Kd.iso d f) (fun b => good (f b)) := by
  intro H enc w base spare held fuel cs x hx
  obtain ⟨xs, n, rfl, _, hlen, hxs, hall⟩ := DataW.trod_struct ht hx
  obtain ⟨a, hK, hg⟩ := h enc w base spare held n cs (by rw [hlen, hs]) (fun g hgm => by
    rw [← hfl] at hgm
    obtain ⟨i, hi, rfl⟩ := List.mem_iff_getElem.1 hgm
    have h1 := hall i fs.toList[i] (by simp at hi ⊢)
    have hi' : i < xs.length := by rw [hxs]; simpa using hi
    refine ⟨Nat.zero_le _, xs[i], ?_⟩
    rw [Nat.sub_zero, h1, List.getElem?_eq_getElem hi'])
  obtain ⟨b, rfl⟩ := hsurj a
  exact ⟨b, hK, hg⟩

/-- Elements of an array, one behind the other. -/
def ReadsAr {α : Type} (P : Program) (e : TypeId) (m : Nat) (d : Kd α) (good : α → Prop) : Prop :=
  ∀ {H : Type} (enc : TypeId × Value → H) (w : World) (base : Nat) (spare : Nat → Bool) (held : Bool) (n : Nat) (cs : List Value), cs.length = d.sz →
    (∀ i, i < m → ∃ x, DataW.trod enc P w base spare held n e ((cs.drop (i * P.cellsOf e)).take (P.cellsOf e)) = some x) → ∃ a, d.K w a cs ∧ good a
theorem z5f {α : Type} {P : Program} {e : TypeId} {d : Kd α} {good : α → Prop} (hs : P.cellsOf e = d.sz) (he : ReadsAs P e d good) : ReadsAr P e 1 d good := by
  intro H enc w base spare held n cs hl h
  obtain ⟨x, hx⟩ := h 0 (by omega)
  rw [Nat.zero_mul, List.drop_zero, hs, ← hl, List.take_length] at hx
  exact he enc w base spare held n cs x hx
theorem z5e {α β : Type} {P : Program} {e : TypeId} {m : Nat} {d : Kd α} {d' : Kd β} {good : α → Prop} {good' : β → Prop} (hs : P.cellsOf e = d.sz) (he : ReadsAs P e d good) (hr : ReadsAr P e m d' good') :
    ReadsAr P e (m + 1) (Kd.pair d d') (fun x => good x.1 ∧ good' x.2) := by
  intro H enc w base spare held n cs hl h
  have hl' : cs.length = d.sz + d'.sz := hl
  obtain ⟨x, hx⟩ := h 0 (by omega)
  rw [Nat.zero_mul, List.drop_zero, hs] at hx
  obtain ⟨a, hK, hg⟩ := he enc w base spare held n _ x hx
  obtain ⟨b, hK', hg'⟩ := hr enc w base spare held n (cs.drop d.sz) (by rw [List.length_drop]; omega) (fun i hi => by
    obtain ⟨y, hy⟩ := h (i + 1) (by omega)
    refine ⟨y, ?_⟩
    rw [List.drop_drop, show d.sz + i * P.cellsOf e = (i + 1) * P.cellsOf e by rw [hs, Nat.add_mul]; omega]
    exact hy)
  exact ⟨(a, b), ⟨cs.take d.sz, cs.drop d.sz, (List.take_append_drop _ _).symm, hK, hK'⟩, hg, hg'⟩
theorem op_array {α β : Type} {P : Program} {t e : TypeId} {m : Nat} {d : Kd α} {good : α → Prop} (f : β → α) (hsurj : ∀ a, ∃ b, f b = a) (ht : P.underlying t = some (.array m e)) (hs : P.cellsOf t = d.sz) (h : ReadsAr P e m d good) :
    ReadsAs P t (Kd.iso d f) (fun b => good (f b)) := by
  intro H enc w base spare held fuel cs x hx
  obtain ⟨xs, n, rfl, _, hlen, hxs, hall⟩ := DataW.trod_array ht hx
  obtain ⟨a, hK, hg⟩ := h enc w base spare held n cs (by rw [hlen, hs]) (fun i hi => by
    have hi' : i < xs.length := by omega
    exact ⟨xs[i], by rw [hall i hi, List.getElem?_eq_getElem hi']⟩)
  obtain ⟨b, rfl⟩ := hsurj a
  exact ⟨b, hK, hg⟩
theorem z3K {P : Program} {w : World} {r : Reach} {base : Nat} {t e : TypeId} {m : Nat} {v : Value} (ht : P.underlying t = some (.array m e)) (h : Value.okWide P w r base t v) : ∃ cs, v = .agg cs ∧ cs.size = P.cellsOf t := by
  simp only [Value.okWide, ht] at h
  cases v <;> simp_all

/-- An argument that is a slice. -/
theorem z4N {α : Type} {P : Program} {H : Type} {enc : TypeId × Value → H} {W : World} {base : Nat} {spare : Nat → Bool} {held : Bool} {t e : TypeId} {d : Kd α} {good : List α → Prop} {v : Value} {dd : DataW H} {ps : List MemPlace}
    (hop : ReadsAs P t (Kd.slice e d) good) {e' : TypeId} (ht : P.underlying t = some (.slice e')) {r : Reach} {b : Nat} (hv : Value.okWide P W r b t v) (h : DataW.Trod enc P W base spare held t v dd ps) :
    ∃ (l : List α) (A : Option Addr) (c : Nat), v = .slice A l.length c ∧ l.length ≤ c ∧ Kd.C d W A l.length l ∧ good l := by
  obtain ⟨A, len, cap, rfl⟩ := okWide_slice ht hv
  obtain ⟨fuel, hf⟩ := h
  obtain ⟨l, ⟨A', c, hcs, hl, hC⟩, hg⟩ := hop enc W base spare held fuel _ _ hf
  simp [Value.cells] at hcs
  obtain ⟨rfl, rfl, rfl⟩ := hcs
  exact ⟨l, A, cap, rfl, hl, hC, hg⟩
theorem arg_int {P : Program} {H : Type} {enc : TypeId × Value → H} {W : World} {base : Nat} {spare : Nat → Bool} {held : Bool} {t : TypeId} {k : IntKind} {v : Value} {dd : DataW H} {ps : List MemPlace}
    (ht : P.underlying t = some (.int k)) {r : Reach} {b : Nat} (hv : Value.okWide P W r b t v) (h : DataW.Trod enc P W base spare held t v dd ps) :
    ∃ n, v = .int k n ∧ (Lit.int k n).wf = true := by
  obtain ⟨n, rfl⟩ := okWide_int ht hv
  obtain ⟨fuel, hf⟩ := h
  obtain ⟨l, hcs, hg⟩ := z3L ht enc W base spare held fuel _ _ hf
  have : n = l := by
    have h1 : ([Value.int k n] : List Value) = [.int k l] := hcs
    simpa using h1
  subst this
  exact ⟨n, rfl, hg⟩
theorem arg_bool {P : Program} {W : World} {t : TypeId} {v : Value} (ht : P.underlying t = some .bool) {r : Reach} {b : Nat} (hv : Value.okWide P W r b t v) : ∃ n, v = .bool n := okWide_bool ht hv
/-- An argument that is a struct: its cells. -/
theorem arg_struct {α : Type} {P : Program} {H : Type} {enc : TypeId × Value → H} {W : World} {base : Nat} {spare : Nat → Bool} {held : Bool} {t : TypeId} {fs : Array Field} {d : Kd α} {good : α → Prop} {v : Value} {dd : DataW H} {ps : List MemPlace}
    (hop : ReadsAs P t d good) (ht : P.underlying t = some (.struct fs)) {r : Reach} {b : Nat} (hv : Value.okWide P W r b t v) (h : DataW.Trod enc P W base spare held t v dd ps) :
    ∃ (a : α) (cs : List Value), v = .agg cs.toArray ∧ d.K W a cs ∧ good a := by
  obtain ⟨cs, rfl, _⟩ := okWide_struct ht hv
  obtain ⟨fuel, hf⟩ := h
  obtain ⟨a, hK, hg⟩ := hop enc W base spare held fuel _ _ hf
  exact ⟨a, cs.toList, by simp, hK, hg⟩
/-- An argument that is an array: its cells. -/
theorem z4M {α : Type} {P : Program} {H : Type} {enc : TypeId × Value → H} {W : World} {base : Nat} {spare : Nat → Bool} {held : Bool} {t e : TypeId} {m : Nat} {d : Kd α} {good : α → Prop} {v : Value} {dd : DataW H} {ps : List MemPlace}
    (hop : ReadsAs P t d good) (ht : P.underlying t = some (.array m e)) {r : Reach} {b : Nat} (hv : Value.okWide P W r b t v) (h : DataW.Trod enc P W base spare held t v dd ps) :
    ∃ (a : α) (cs : List Value), v = .agg cs.toArray ∧ d.K W a cs ∧ good a := by
  obtain ⟨cs, rfl, _⟩ := z3K ht hv
  obtain ⟨fuel, hf⟩ := h
  obtain ⟨a, hK, hg⟩ := hop enc W base spare held fuel _ _ hf
  exact ⟨a, cs.toList, by simp, hK, hg⟩
end Go.Proofs.Ytngcaphdkgihmaa.Reads
-- Own text: the statement that is left of the law CubeCorners, and what a reading of its arguments is.
namespace Go.Proofs.Ytngcaphdkgihmaa.Stated.cubeCorners
open Go.RowKit Go.Proofs.YtngcaphdkgihmaaW.PrintWords Go.Proofs.Ytngcaphdkgihmaa.P Go.Proofs.Ytngcaphdkgihmaa.Reads
def Pure : Prop := ∀ (x0 : Int) (x1 : List (S51)) (x2 : S79), ((Lit.int .i64 x0).wf = true) → (((∀ x_ ∈ x1, ((Lit.int .u64 x_.f0).wf = true) ∧ ((Lit.int .u64 x_.f1).wf = true)) ∧ x1.length ≤ maxLen)) → (((Lit.int .i64 x2.f0).wf = true) ∧ ((Lit.int .i64 x2.f1).wf = true)) → ∃ k, z6.f k x0 x1 x2.f0 x2.f1 = some true
end Go.Proofs.Ytngcaphdkgihmaa.Stated.cubeCorners
/- Rounds: what is told by enough of them; and the arithmetic of whole numbers as the printed functions spell it. Own text. -/
namespace Go.Proofs.YtngcaphdkgihmaaW.PrintWords
set_option linter.unusedVariables false
set_option linter.unusedSimpArgs false
namespace Ev
variable {α β : Type}
theorem ret (r : α) : Ev (fun _ => some r) r := ⟨0, fun _ _ => rfl⟩
theorem ret' {a r : α} (h : a = r) : Ev (fun _ => some a) r := h ▸ Ev.ret a
theorem const {o : Option α} {r : α} (h : o = some r) : Ev (fun _ => o) r := ⟨0, fun _ _ => h⟩
theorem pos {c : Prop} [Decidable c] {f g : Nat → Option α} {r : α} (h : c) (k : Ev f r) : Ev (fun n => if c then f n else g n) r := by
  simp only [if_pos h]; exact k
theorem neg {c : Prop} [Decidable c] {f g : Nat → Option α} {r : α} (h : ¬ c) (k : Ev g r) : Ev (fun n => if c then f n else g n) r := by
  simp only [if_neg h]; exact k
theorem bnd {g : Nat → Option α} {f : Nat → α → Option β} {a : α} {r : β} (h : Ev g a) (k : Ev (fun n => f n a) r) : Ev (fun n => (g n).bind (f n)) r := Ev.bind h k
theorem bnd0 {o : Option α} {f : Nat → α → Option β} {a : α} {r : β} (h : o = some a) (k : Ev (fun n => f n a) r) : Ev (fun n => o.bind (f n)) r := Ev.bind (Ev.const h) k
theorem uniq {g : Nat → Option α} {a b : α} (h : Ev g a) (k : Ev g b) : a = b := by
  obtain ⟨K, hK⟩ := h; obtain ⟨L, hL⟩ := k
  have := hK (max K L) (Nat.le_max_left _ _); rw [hL _ (Nat.le_max_right _ _)] at this
  exact (Option.some.inj this).symm
theorem eqn {g : Nat → Option α} {a b : α} (h : Ev g a) (e : a = b) : Ev g b := e ▸ h
end Ev
end Go.Proofs.YtngcaphdkgihmaaW.PrintWords
namespace Go.Proofs.Ytngcaphdkgihmaa.Ar
open Go.RowKit Go.Proofs.YtngcaphdkgihmaaW.PrintWords Go.Proofs.YtngcaphdkgihmaaW.PrintMore
set_option linter.unusedVariables false
set_option linter.unusedSimpArgs false
theorem i64_id {x : Int} (h0 : -9223372036854775808 ≤ x) (h1 : x ≤ 9223372036854775807) : IntKind.i64.wrap x = x := by rw [IntKind.wrap_i64]; omega
theorem z1J {x : Int} (h0 : -9223372036854775808 ≤ x) (h1 : x ≤ 9223372036854775807) : wrap64 x = x := by unfold wrap64; omega
theorem z1o {i L : Nat} (h : i < L) (hL : L ≤ 4611686018427387904) : wrap64 ((i : Int) + 1) = ((i + 1 : Nat) : Int) := by rw [z1J (by omega) (by omega)]; omega
theorem w64_add {i j : Nat} (h : i ≤ 2305843009213693952) (h' : j ≤ 2305843009213693952) : wrap64 ((i : Int) + (j : Int)) = ((i + j : Nat) : Int) := by rw [z1J (by omega) (by omega)]; omega
theorem w64_sub {i j : Nat} (h : j ≤ i) (h' : i ≤ 4611686018427387904) : wrap64 ((i : Int) - (j : Int)) = ((i - j : Nat) : Int) := by rw [z1J (by omega) (by omega)]; omega
theorem z1R {x : Int} (h0 : 0 ≤ x) (h1 : x < 18446744073709551616) : IntKind.u64.wrap x = x := by
  simp [IntKind.wrap, IntKind.bits, IntKind.signed]; omega
theorem z32 (w : Nat) (h : w ≤ 62) : shl .i64 1 (w : Int) = ((2 ^ w : Nat) : Int) := by
  unfold shl
  have h64 : IntKind.i64.bits = 64 := rfl
  rw [h64, Int.toNat_natCast, Nat.min_eq_left (by omega), Int.one_mul]
  have hp : (2 : Nat) ^ w ≤ 2 ^ 62 := Nat.pow_le_pow_right (by decide) h
  have hc : ((2 : Int) ^ w) = ((2 ^ w : Nat) : Int) := by simp
  rw [hc]
  have h62 : (2 : Nat) ^ 62 = 4611686018427387904 := by decide
  generalize 2 ^ w = p at hp ⊢
  exact i64_id (by omega) (by omega)
theorem z2w (w : Nat) (h : w ≤ 63) : shl .u64 1 (w : Int) = ((2 ^ w : Nat) : Int) := by
  unfold shl
  have h64 : IntKind.u64.bits = 64 := rfl
  rw [h64, Int.toNat_natCast, Nat.min_eq_left (by omega), Int.one_mul]
  have hp : (2 : Nat) ^ w ≤ 2 ^ 63 := Nat.pow_le_pow_right (by decide) h
  have hc : ((2 : Int) ^ w) = ((2 ^ w : Nat) : Int) := by simp
  rw [hc]
  have h63 : (2 : Nat) ^ 63 = 9223372036854775808 := by decide
  generalize 2 ^ w = p at hp ⊢
  exact z1R (by omega) (by omega)
theorem z3w (a w : Nat) (h : w ≤ 64) : shr .u64 (a : Int) (w : Int) = ((a / 2 ^ w : Nat) : Int) := by
  unfold shr
  have h64 : IntKind.u64.bits = 64 := rfl
  rw [h64, Int.toNat_natCast, Nat.min_eq_left h]; simp
theorem z5t (a w : Nat) (h : w ≤ 64) : shr .i64 (a : Int) (w : Int) = ((a / 2 ^ w : Nat) : Int) := by
  unfold shr
  have h64 : IntKind.i64.bits = 64 := rfl
  rw [h64, Int.toNat_natCast, Nat.min_eq_left h]; simp
theorem z3o (op : BinOp) (a b : Nat) (ha : a < 2 ^ 64) (hb : b < 2 ^ 64) :
    (op = .and → Go.bits op .u64 a b = ((a &&& b : Nat) : Int)) ∧ (op = .or → Go.bits op .u64 a b = ((a ||| b : Nat) : Int)) ∧ (op = .xor → Go.bits op .u64 a b = ((a ^^^ b : Nat) : Int)) := by
  have ha' : a % 2 ^ IntKind.u64.bits = a := Nat.mod_eq_of_lt ha
  have hb' : b % 2 ^ IntKind.u64.bits = b := Nat.mod_eq_of_lt hb
  refine ⟨?_, ?_, ?_⟩ <;> rintro rfl <;> simp only [Go.bits, BitVec.ofInt_natCast, BitVec.toNat_and, BitVec.toNat_or, BitVec.toNat_xor, BitVec.toNat_ofNat, ha', hb']
  · exact z1R (Int.natCast_nonneg _) (by have := Nat.and_lt_two_pow a hb; omega)
  · exact z1R (Int.natCast_nonneg _) (by have := Nat.or_lt_two_pow ha hb; omega)
  · exact z1R (Int.natCast_nonneg _) (by have := Nat.xor_lt_two_pow ha hb; omega)
theorem z1S (a b : Nat) (ha : a < 2 ^ 64) (hb : b < 2 ^ 64) : Go.bits .and .u64 a b = ((a &&& b : Nat) : Int) := (z3o .and a b ha hb).1 rfl
theorem z4e (a b : Nat) (ha : a < 2 ^ 64) (hb : b < 2 ^ 64) : Go.bits .or .u64 a b = ((a ||| b : Nat) : Int) := (z3o .or a b ha hb).2.1 rfl
theorem z1u (a b : Nat) (ha : a < 2 ^ 64) (hb : b < 2 ^ 64) : Go.bits .xor .u64 a b = ((a ^^^ b : Nat) : Int) := (z3o .xor a b ha hb).2.2 rfl
theorem z2y (x w : Nat) (hx : x < 2 ^ 63) (hw : w ≤ 62) : Go.bits .and .i64 (x : Int) (((2 ^ w : Nat) : Int) - 1) = ((x % 2 ^ w : Nat) : Int) := by
  have := Go.bits_mask .i64 63 (by decide) (fun n h0 h1 => i64_id (by omega) (by omega)) w (by omega) (x : Int) (by omega) (by exact_mod_cast hx)
  have hc : (((2 ^ w : Nat) : Int) - 1) = 2 ^ w - 1 := by simp
  rw [hc, this]; simp
theorem two_pow_le {w : Nat} (h : w ≤ 6) : 2 ^ w ≤ 64 := Nat.pow_le_pow_right (n := 2) (by decide) h
theorem wf_i64 {x : Int} (h : (Lit.int .i64 x).wf = true) : -9223372036854775808 ≤ x ∧ x ≤ 9223372036854775807 := by
  simp only [Lit.wf, IntKind.min, IntKind.max, IntKind.signed, IntKind.bits, Bool.and_eq_true, decide_eq_true_eq] at h; simp at h; omega
theorem wf_u64 {x : Int} (h : (Lit.int .u64 x).wf = true) : 0 ≤ x ∧ x < 18446744073709551616 := by
  simp only [Lit.wf, IntKind.min, IntKind.max, IntKind.signed, IntKind.bits, Bool.and_eq_true, decide_eq_true_eq] at h; simp at h; omega
theorem rdOf_eq {α : Type} (d : α) (l : List α) (i : Nat) : rdOf d l (i : Int) = l.getD i d := by unfold rdOf; rw [Int.toNat_natCast]
end Go.Proofs.Ytngcaphdkgihmaa.Ar
/- The tower of fields of characteristic two, as pairs of pairs of bits: its laws. Own text; nothing of the program in it. -/
namespace Go.Proofs.Ytngcaphdkgihmaa.Tw
set_option linter.unusedVariables false
set_option linter.unusedSimpArgs false

/-- Level n: a bit, or two halves: the higher one and the lower one. -/
def T : Nat → Type
  | 0 => Bool
  | n + 1 => T n × T n
def zero : (n : Nat) → T n
  | 0 => false
  | n + 1 => (zero n, zero n)
def one : (n : Nat) → T n
  | 0 => true
  | n + 1 => (zero n, one n)
/-- The generator. -/
def gen : (n : Nat) → T n
  | 0 => true
  | n + 1 => (one n, zero n)
def add : {n : Nat} → T n → T n → T n
  | 0, a, b => Bool.xor a b
  | _ + 1, a, b => (add a.1 b.1, add a.2 b.2)
def mul : {n : Nat} → T n → T n → T n
  | 0, a, b => Bool.and a b
  | n + 1, a, b => (add (add (mul a.1 b.2) (mul a.2 b.1)) (mul (gen n) (mul a.1 b.1)), add (mul a.2 b.2) (mul a.1 b.1))
instance {n : Nat} : Add (T n) := ⟨add⟩
instance {n : Nat} : Mul (T n) := ⟨mul⟩
instance {n : Nat} : Zero (T n) := ⟨zero n⟩
instance {n : Nat} : One (T n) := ⟨one n⟩
instance : {n : Nat} → DecidableEq (T n)
  | 0 => inferInstanceAs (DecidableEq Bool)
  | n + 1 => let _ : DecidableEq (T n) := instDecidableEqT; inferInstanceAs (DecidableEq (T n × T n))
theorem z2O {n : Nat} (a b : T (n + 1)) : (a + b).1 = a.1 + b.1 := rfl
theorem z3n {n : Nat} (a b : T (n + 1)) : (a + b).2 = a.2 + b.2 := rfl
theorem z1C {n : Nat} (a b : T (n + 1)) : (a * b).1 = (a.1 * b.2 + a.2 * b.1) + gen n * (a.1 * b.1) := rfl
theorem z1D {n : Nat} (a b : T (n + 1)) : (a * b).2 = a.2 * b.2 + a.1 * b.1 := rfl
theorem z2K {n : Nat} : (0 : T (n + 1)).1 = 0 := rfl
theorem z2L {n : Nat} : (0 : T (n + 1)).2 = 0 := rfl
theorem z3s {n : Nat} : (1 : T (n + 1)).1 = 0 := rfl
theorem z3t {n : Nat} : (1 : T (n + 1)).2 = 1 := rfl
theorem z28 {n : Nat} : (gen (n + 1)).1 = 1 := rfl
theorem z29 {n : Nat} : (gen (n + 1)).2 = 0 := rfl
theorem z43 : gen 0 = 1 := rfl
/-- The element of two halves. -/
def mk {n : Nat} (a b : T n) : T (n + 1) := (a, b)
theorem z1O {n : Nat} (a b : T n) : (mk a b).1 = a := rfl
theorem z1W {n : Nat} (a b : T n) : (mk a b).2 = b := rfl
theorem ext {n : Nat} {a b : T (n + 1)} (h1 : a.1 = b.1) (h2 : a.2 = b.2) : a = b := Prod.ext h1 h2

theorem add_comm : {n : Nat} → (a b : T n) → a + b = b + a
  | 0, a, b => Bool.xor_comm a b
  | n + 1, a, b => ext (add_comm a.1 b.1) (add_comm a.2 b.2)
theorem add_assoc : {n : Nat} → (a b c : T n) → a + b + c = a + (b + c)
  | 0, a, b, c => Bool.xor_assoc a b c
  | n + 1, a, b, c => ext (add_assoc a.1 b.1 c.1) (add_assoc a.2 b.2 c.2)
theorem zero_add : {n : Nat} → (a : T n) → 0 + a = a
  | 0, a => Bool.false_xor a
  | n + 1, a => ext (zero_add a.1) (zero_add a.2)
theorem z1K : {n : Nat} → (a : T n) → a + a = 0
  | 0, a => Bool.xor_self a
  | n + 1, a => ext (z1K a.1) (z1K a.2)
theorem add_zero {n : Nat} (a : T n) : a + 0 = a := by rw [add_comm, zero_add]
theorem z1v {n : Nat} (a b c : T n) : a + (b + c) = b + (a + c) := by rw [← add_assoc, add_comm a b, add_assoc]
theorem z3C {n : Nat} (a b : T n) : a + (a + b) = b := by rw [← add_assoc, z1K, zero_add]
theorem z4K {n : Nat} {a b c : T n} (h : a + b = a + c) : b = c := by
  have := congrArg (a + ·) h
  simpa only [z3C] using this
theorem add_eq_zero {n : Nat} {a b : T n} (h : a + b = 0) : a = b := by
  have := congrArg (· + b) h
  simp only [add_assoc, z1K, add_zero, zero_add] at this
  exact this
theorem eq_add_of {n : Nat} {a b c : T n} (h : a + b = c) : a = c + b := by rw [← h, add_assoc, z1K, add_zero]

/-- The laws of products, all at once. -/
structure Laws (n : Nat) : Prop where
  comm : ∀ a b : T n, a * b = b * a
  zero_mul : ∀ a : T n, 0 * a = 0
  one_mul : ∀ a : T n, 1 * a = a
  mul_add : ∀ a b c : T n, a * (b + c) = a * b + a * c
  assoc : ∀ a b c : T n, a * b * c = a * (b * c)
theorem laws : (n : Nat) → Laws n
  | 0 => ⟨Bool.and_comm, Bool.false_and, Bool.true_and, by intro a b c; cases a <;> cases b <;> cases c <;> rfl, Bool.and_assoc⟩
  | n + 1 => by
    obtain ⟨comm, zmul, omul, madd, massoc⟩ := laws n
    have addm : ∀ a b c : T n, (a + b) * c = a * c + b * c := fun a b c => by rw [comm, madd, comm c a, comm c b]
    have mulz : ∀ a : T n, a * 0 = 0 := fun a => by rw [comm, zmul]
    have mulo : ∀ a : T n, a * 1 = a := fun a => by rw [comm, omul]
    have lcomm : ∀ a b c : T n, a * (b * c) = b * (a * c) := fun a b c => by rw [← massoc, comm a b, massoc]
    refine ⟨fun a b => ext ?_ ?_, fun a => ext ?_ ?_, fun a => ext ?_ ?_, fun a b c => ext ?_ ?_, fun a b c => ext ?_ ?_⟩
    · simp only [z1C]; rw [comm a.1 b.2, comm a.2 b.1, comm a.1 b.1, add_comm (b.2 * a.1)]
    · simp only [z1D]; rw [comm a.2 b.2, comm a.1 b.1]
    · simp only [z1C, z2K, z2L, zmul, mulz, add_zero]
    · simp only [z1D, z2K, z2L, zmul, mulz, add_zero]
    · simp only [z1C, z3s, z3t, zmul, mulz, omul, add_zero, zero_add]
    · simp only [z1D, z3s, z3t, zmul, mulz, omul, add_zero, zero_add]
    · simp only [z1C, z2O, z3n, madd, addm, add_assoc, z1v, add_comm]
    · simp only [z1D, z2O, z3n, madd, addm, add_assoc, z1v, add_comm]
    · simp only [z1C, z1D, madd, addm, massoc, lcomm, comm, add_assoc, z1v, add_comm]
    · simp only [z1C, z1D, madd, addm, massoc, lcomm, comm, add_assoc, z1v, add_comm]
section
variable {n : Nat} (a b c d : T n)
theorem mul_comm : a * b = b * a := (laws n).comm a b
theorem mul_assoc : a * b * c = a * (b * c) := (laws n).assoc a b c
theorem mul_left_comm : a * (b * c) = b * (a * c) := by rw [← mul_assoc, mul_comm a b, mul_assoc]
theorem zero_mul : 0 * a = 0 := (laws n).zero_mul a
theorem z1P : a * 0 = 0 := by rw [mul_comm, zero_mul]
theorem one_mul : 1 * a = a := (laws n).one_mul a
theorem mul_one : a * 1 = a := by rw [mul_comm, one_mul]
theorem mul_add : a * (b + c) = a * b + a * c := (laws n).mul_add a b c
theorem add_mul : (a + b) * c = a * c + b * c := by rw [mul_comm, mul_add, mul_comm c a, mul_comm c b]
theorem add_sq : (a + b) * (a + b) = a * a + b * b := by
  rw [mul_add, add_mul, add_mul, mul_comm b a, add_assoc, ← add_assoc (a * b), z1K, zero_add]
end
end Go.Proofs.Ytngcaphdkgihmaa.Tw
/- Elements of the tower as numbers: bits of the lower half first. Own text; nothing of the program in it. -/
namespace Go.Proofs.Ytngcaphdkgihmaa.Tw
set_option linter.unusedVariables false
set_option linter.unusedSimpArgs false
/-- How many words of bits an element of a level is: 2 to the power 2^n. -/
def Q (n : Nat) : Nat := 2 ^ 2 ^ n
theorem z1T (n : Nat) : 0 < Q n := Nat.two_pow_pos _
theorem z24 (n : Nat) : Q (n + 1) = Q n * Q n := by unfold Q; rw [← Nat.pow_add, Nat.pow_succ 2 n, Nat.mul_two]
theorem z4F (n : Nat) : Q n ≤ Q (n + 1) := by rw [z24]; exact Nat.le_mul_of_pos_left _ (z1T n)
theorem z2k {m n : Nat} (h : m ≤ n) : Q m ≤ Q n := Nat.pow_le_pow_right (by decide) (Nat.pow_le_pow_right (by decide) h)
theorem z4o : Q 6 = 2 ^ 64 := rfl
theorem z4G : Q 7 = 2 ^ 128 := rfl
def val : {n : Nat} → T n → Nat
  | 0, a => Bool.toNat a
  | n + 1, a => val a.1 * Q n + val a.2
def of : (n : Nat) → Nat → T n
  | 0, x => x % 2 == 1
  | n + 1, x => mk (of n (x / Q n)) (of n (x % Q n))
theorem val_zero_lvl (a : T 0) : val a = Bool.toNat a := rfl
theorem z1l {n : Nat} (a : T (n + 1)) : val a = val a.1 * Q n + val a.2 := rfl
theorem z1E (n x : Nat) : of (n + 1) x = mk (of n (x / Q n)) (of n (x % Q n)) := rfl
theorem z16 : {n : Nat} → (a : T n) → val a < Q n
  | 0, a => by cases a <;> decide
  | n + 1, a => by
    rw [z1l, z24]
    have h1 := z16 a.1
    have h2 := z16 a.2
    have h3 : val a.1 * Q n + Q n ≤ Q n * Q n := by
      have := Nat.mul_le_mul_right (Q n) h1
      rw [Nat.succ_mul] at this; exact this
    omega
theorem val_div {n : Nat} (a : T (n + 1)) : val a / Q n = val a.1 := by
  rw [z1l, Nat.mul_comm, Nat.mul_add_div (z1T n), Nat.div_eq_of_lt (z16 a.2), Nat.add_zero]
theorem val_mod {n : Nat} (a : T (n + 1)) : val a % Q n = val a.2 := by
  rw [z1l, Nat.mul_comm, Nat.mul_add_mod, Nat.mod_eq_of_lt (z16 a.2)]
theorem z1t : {n : Nat} → (a : T n) → of n (val a) = a
  | 0, a => by cases a <;> rfl
  | n + 1, a => by rw [z1E, val_div, val_mod, z1t a.1, z1t a.2]; rfl
theorem z1H : (n : Nat) → (x : Nat) → x < Q n → val (of n x) = x
  | 0, x, h => by
    have h' : x < 2 := h
    have : x = 0 ∨ x = 1 := by omega
    rcases this with rfl | rfl <;> rfl
  | n + 1, x, h => by
    rw [z1E, z1l, z1O, z1W]
    rw [z24] at h
    rw [z1H n _ (Nat.div_lt_of_lt_mul h), z1H n _ (Nat.mod_lt _ (z1T n)), Nat.mul_comm]
    exact Nat.div_add_mod x (Q n)
theorem z2i {n : Nat} {a b : T n} (h : val a = val b) : a = b := by rw [← z1t a, h, z1t]
theorem z1m : (n : Nat) → val (0 : T n) = 0
  | 0 => rfl
  | n + 1 => by rw [z1l, z2K, z2L, z1m n, Nat.zero_mul]
theorem z2j : (n : Nat) → val (1 : T n) = 1
  | 0 => rfl
  | n + 1 => by rw [z1l, z3s, z3t, z1m n, z2j n, Nat.zero_mul]
theorem z2a (n : Nat) : of n 0 = 0 := by rw [← z1m n, z1t]
theorem of_one (n : Nat) : of n 1 = 1 := by rw [← z2j n, z1t]
theorem val_eq_zero {n : Nat} {a : T n} : val a = 0 ↔ a = 0 := ⟨fun h => z2i (h.trans (z1m n).symm), fun h => by rw [h, z1m]⟩
theorem z4l {n a b c d : Nat} (hb : b < Q n) (hd : d < Q n) : (a * Q n + b) ^^^ (c * Q n + d) = (a ^^^ c) * Q n + (b ^^^ d) := by
  have h1 : ((a * Q n + b) ^^^ (c * Q n + d)) / Q n = a ^^^ c := by
    unfold Q at *
    rw [Nat.xor_div_two_pow, Nat.mul_comm a, Nat.mul_comm c, Nat.mul_add_div (Nat.two_pow_pos _), Nat.mul_add_div (Nat.two_pow_pos _), Nat.div_eq_of_lt hb, Nat.div_eq_of_lt hd]; rfl
  have h2 : ((a * Q n + b) ^^^ (c * Q n + d)) % Q n = b ^^^ d := by
    unfold Q at *
    rw [Nat.xor_mod_two_pow, Nat.mul_comm a, Nat.mul_comm c, Nat.mul_add_mod, Nat.mul_add_mod, Nat.mod_eq_of_lt hb, Nat.mod_eq_of_lt hd]
  have := Nat.div_add_mod ((a * Q n + b) ^^^ (c * Q n + d)) (Q n)
  rw [h1, h2, Nat.mul_comm] at this
  exact this.symm
theorem z1n : {n : Nat} → (a b : T n) → val (a + b) = val a ^^^ val b
  | 0, a, b => by cases a <;> cases b <;> rfl
  | n + 1, a, b => by
    rw [z1l, z1l, z1l, z2O, z3n, z1n a.1 b.1, z1n a.2 b.2, z4l (z16 _) (z16 _)]
theorem z1N {n x y : Nat} (hx : x < Q n) (hy : y < Q n) : x ^^^ y < Q n := Nat.xor_lt_two_pow hx hy
theorem z5c {n x y : Nat} (hx : x < Q n) (hy : y < Q n) : of n (x ^^^ y) = of n x + of n y :=
  z2i (by rw [z1H _ _ (z1N hx hy), z1n, z1H _ _ hx, z1H _ _ hy])
/-- A number of a lower level: the higher half is 0. -/
theorem z3J {n x : Nat} (h : x < Q n) : of (n + 1) x = mk 0 (of n x) := by
  rw [z1E, Nat.div_eq_of_lt h, Nat.mod_eq_of_lt h, z2a]
/-- One level up. -/
def up {n : Nat} (a : T n) : T (n + 1) := mk 0 a
theorem z2g {n : Nat} (a : T n) : (up a).1 = 0 := rfl
theorem z3h {n : Nat} (a : T n) : (up a).2 = a := rfl
theorem val_up {n : Nat} (a : T n) : val (up a) = val a := by rw [z1l, z2g, z3h, z1m, Nat.zero_mul, Nat.zero_add]
theorem up_add {n : Nat} (a b : T n) : up (a + b) = up a + up b := ext (by rw [z2O, z2g, z2g, z2g, add_zero]) rfl
theorem up_mul {n : Nat} (a b : T n) : up (a * b) = up a * up b :=
  ext (by simp only [z1C, z2g, z3h, zero_mul, z1P, add_zero]) (by simp only [z1D, z2g, z3h, zero_mul, add_zero])
theorem z2x {n : Nat} (a : T n) (b : T (n + 1)) : up a * b = mk (a * b.1) (a * b.2) :=
  ext (by simp only [z1C, z2g, z3h, zero_mul, z1P, add_zero, zero_add, z1O]) (by simp only [z1D, z2g, z3h, zero_mul, add_zero, z1W])
theorem up_zero (n : Nat) : up (0 : T n) = 0 := rfl
theorem up_one (n : Nat) : up (1 : T n) = 1 := rfl
theorem up_inj {n : Nat} {a b : T n} (h : up a = up b) : a = b := congrArg (fun x : T (n + 1) => x.2) h
/-- Many levels up. -/
def ups {n : Nat} : (d : Nat) → T n → T (n + d)
  | 0, a => a
  | d + 1, a => up (ups d a)
theorem ups_add {n : Nat} (a b : T n) : (d : Nat) → ups d (a + b) = ups d a + ups d b
  | 0 => rfl
  | d + 1 => by show up (ups d (a + b)) = _; rw [ups_add a b d, up_add]; rfl
theorem z5x {n : Nat} (a b : T n) : (d : Nat) → ups d (a * b) = ups d a * ups d b
  | 0 => rfl
  | d + 1 => by show up (ups d (a * b)) = _; rw [z5x a b d, up_mul]; rfl
theorem z35 {n : Nat} (a : T n) : (d : Nat) → val (ups d a) = val a
  | 0 => rfl
  | d + 1 => by show val (up (ups d a)) = _; rw [val_up, z35 a d]
theorem ups_zero {n : Nat} (d : Nat) : ups d (0 : T n) = 0 := z2i (by rw [z35, z1m, z1m])
theorem ups_one {n : Nat} (d : Nat) : ups d (1 : T n) = 1 := z2i (by rw [z35, z2j, z2j])
theorem ups_of {n d x : Nat} (h : x < Q n) : ups d (of n x) = of (n + d) x := z2i (by rw [z35, z1H _ _ h, z1H _ _ (Nat.lt_of_lt_of_le h (z2k (Nat.le_add_right _ _)))])
/-- Products of numbers of a lower level are of it. -/
theorem z34 {n d x y : Nat} (hx : x < Q n) (hy : y < Q n) : val (of (n + d) x * of (n + d) y) = val (of n x * of n y) := by
  rw [← ups_of hx, ← ups_of hy, ← z5x, z35]
theorem z2q {l m x y : Nat} (h : l ≤ m) (hx : x < Q l) (hy : y < Q l) : val (of m x * of m y) = val (of l x * of l y) := by
  obtain ⟨d, rfl⟩ := Nat.le.dest h
  exact z34 hx hy
theorem z4A {l m x y : Nat} (h : l ≤ m) (hx : x < Q l) (hy : y < Q l) : val (of m x * of m y) < Q l := by
  rw [z2q h hx hy]; exact z16 _
end Go.Proofs.Ytngcaphdkgihmaa.Tw

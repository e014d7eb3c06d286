/- Own text: merged by wip/tools/pack.py out of what the law CubeSums reaches. -/
import Derived.Deep.Slices
import Derived.OpenShut
import Derived.ProofKit
import Derived.Laws.BitsLemmas
import Derived.Test.YtngcaphdkgihmaaMCubeSumsa
import Derived.Test.YtngcaphdkgihmaaMCubeSumsb
namespace Go.Proofs.Ytngcaphdkgihmaa.P
open Go.RowKit Go.Proofs.YtngcaphdkgihmaaW.PrintWords Go.Proofs.YtngcaphdkgihmaaW.PrintLast Go.Proofs.YtngcaphdkgihmaaW.PrintMore
attribute [local go_sem] zS zU z11 z12 zM zN zT zV   -- for this text's walks alone
set_option linter.unusedVariables false
set_option linter.unusedSimpArgs false
def z10.f (k : Nat) (a0 : Int) (l1 : List (S51)) (l2 : List (S51)) : Option (Int × Int × Int):=(zA.f k a0).bind fun t102=>(if t102 = 0 then (some (0,0,1)) else ((zK.f k (l1.length : Int)).bind fun t103=>(if t103 = (l2.length : Int) then ((zq.f k a0 l1 l2).bind fun bt104=>(if bt104.2 = 0 then (if 0 < (bt104.1.length : Int) then (some ((zu bt104.1 0).f0,(zu bt104.1 0).f1,0)) else (none)) else (some (0,0,bt104.2)))) else (some (0,0,6)))))
theorem z10.mono : ∀ a0 a1 a2 k,LeO (z10.f k a0 a1 a2) (z10.f (k + 1) a0 a1 a2):=by
 intro a0 a1 a2 k
 unfold z10.f
 repeat' first
  | (with_reducible exact zq.mono _ _ _ _)
  | (with_reducible exact zK.mono _ _)
  | (with_reducible exact zA.mono _ _)
  | (with_reducible exact LeO.refl _)
  | (with_reducible exact LeO.none _)
  | (with_reducible refine LeO.ite ?_ ?_)
  | (with_reducible refine LeO.bind ?_ (fun _=>?_))
  | exact zq.mono _ _ _ _
  | exact zK.mono _ _
  | exact zA.mono _ _
  | exact LeO.none _
  | refine LeO.ite ?_ ?_
  | refine LeO.bind ?_ (fun _=>?_)
set_option maxHeartbeats 8000000 in
set_option maxRecDepth 100000 in
theorem z10.calls (k : Nat) (a0 : Int) (A1 : Option Addr) (c1 : Nat) (l1 : List (S51)) (A2 : Option Addr) (c2 : Nat) (l2 : List (S51)) (r1 : Int) (r2 : Int) (r3 : Int) (w : World) (hr1 : Kd.C k51 w A1 l1.length l1) (hc1 : l1.length ≤ c1) (hr2 : Kd.C k51 w A2 l2.length l2) (hc2 : l2.length ≤ c2) (h : z10.f k a0 l1 l2 = some (r1,r2,r3)) :
 Calls Try.prog 35 #[.int .i64 a0,.slice A1 l1.length c1,.slice A2 l2.length c2] w fun e w'=>e = .returned (.tuple #[.agg #[.int .u64 r1,.int .u64 r2],.int .i64 r3]) ∧ Below w.heap.size w w':=by
 have hu51:=Try.underlying51
 have HR1:=z3.mk hr1
 have HC1:=z3.mk hc1
 clear hr1 hc1
 have HR2:=z3.mk hr2
 have HC2:=z3.mk hc2
 clear hr2 hc2
 have HB:=z3.mk (Below.refl w.heap.size w)
 have H : ((zA.f k a0).bind fun t102=>(if t102 = 0 then (some (0,0,1)) else ((zK.f k (l1.length : Int)).bind fun t103=>(if t103 = (l2.length : Int) then ((zq.f k a0 l1 l2).bind fun bt104=>(if bt104.2 = 0 then (if 0 < (bt104.1.length : Int) then (some ((zu bt104.1 0).f0,(zu bt104.1 0).f1,0)) else (none)) else (some (0,0,bt104.2)))) else (some (0,0,6)))))) = some (r1,r2,r3):=h
 clear h
 replace H:=Option.bind_eq_some_iff.mp H
 obtain ⟨t102,A40,H⟩:=H
 replace H : (if t102 = 0 then (some (0,0,1)) else ((zK.f k (l1.length : Int)).bind fun t103=>(if t103 = (l2.length : Int) then ((zq.f k a0 l1 l2).bind fun bt104=>(if bt104.2 = 0 then (if 0 < (bt104.1.length : Int) then (some ((zu bt104.1 0).f0,(zu bt104.1 0).f1,0)) else (none)) else (some (0,0,bt104.2)))) else (some (0,0,6))))) = some (r1,r2,r3):=H
 have A4:=z3.mk A40
 clear A40
 by_cases c5 : t102 = 0
 · rw [if_pos c5] at H
   have c5b0 : (t102 == 0) = true:=beq_iff_eq.mpr c5
   have c5b1 : (t102 != 0) = false:=bne_eq_false_iff_eq.mpr c5
   clear c5
   simp only [Option.some.injEq,Prod.mk.injEq] at H
   obtain ⟨rfl,rfl,rfl⟩:=H
   go_enter Try.func35,Try.ntmps35
   go_wp2_with (first|((with_reducible refine zy (N:=6) rfl ?_);refine zv ?hg (N:=6) ?hd (cs:=#[.int .u64 0,.int .u64 0]) (t:=51) ?hr ?_;(case hd=>rfl);(case hg=>rfl);(case hr=>first|(go_simp;done)|(go_simp;rfl));intro gb101 hg w6 hbox hb;have n0_:=z3.mk (zd (by repeat (first|(with_reducible first|exact HB.out|apply z5|apply z0|apply z4)|exact HB.out)) hb);have n1_:=z3.mk (hbox);have n2_:=z3.mk ((by rw [hg];exact (ze (by repeat (first|(with_reducible first|exact HB.out|apply z5|apply z0|apply z4)|exact HB.out))) : w.heap.size ≤ gb101));have n3_:=z3.mk ((by rw [hg];exact (ze (by repeat (first|(with_reducible first|exact HB.out|apply z5|apply z0|apply z4)|exact HB.out))) : w.heap.size ≤ gb101));clear HB;have HB:=n0_;have BK101:=n1_;have GW101:=n2_;have GE101:=n3_;clear n0_ n1_ n2_ n3_;clear hb hbox hg)|((with_reducible refine zp (f:=78) rfl ?_);refine goesL_ (some 12) rfl rfl Try.func78 (by kernel_rfl) rfl #[.int .i64 a0] rfl (by (try simp only [List.map_toArray,List.map_cons,List.map_nil]);first|done|rfl|(simp only [List.length_drop,List.length_take];rfl)) ?_;(with_reducible refine (zA.calls k a0 t102 _ A4.out).mono ?_);rintro e w' ⟨rfl,⟨nd,rfl⟩⟩;refine ⟨_,rfl,?_⟩;(try (rw [z1y w6];generalize hq_ : World.drewN w6 _ = w6;have n0_ : z3 (w6.heap[gb101]? = some (.cells #[.int .u64 0,.int .u64 0] 51 (0,0))):=⟨by rw [← hq_];exact (by (with_reducible repeat (first|refine z2 ?_ _|refine z6 ?_|refine z1 ?_ _));exact BK101.out)⟩;have n1_ : z3 (Below w.heap.size w w6):=⟨by rw [← hq_];exact (by repeat (first|(with_reducible first|exact HB.out|apply z5|apply z0|apply z4|refine z7 ?_ GE101.out)|exact HB.out))⟩;clear BK101 HB hq_;have BK101:=n0_;have HB:=n1_;clear n0_ n1_));have hcz7_0 : w6.cell? ⟨gb101,0,none⟩ = some (.int .u64 0):=(z9 BK101.out 0).trans rfl;have hcz7_1 : w6.cell? ⟨gb101,1,none⟩ = some (.int .u64 0):=(z9 BK101.out 1).trans rfl;have hfz7_0:=za BK101.out 0;have hfz7_1:=za BK101.out 1))
   refine bodyPost_ret (z2b rfl _ _ gb101 51 #[.int .u64 0,.int .u64 0] (0,0) _ rfl (by (with_reducible repeat (first|refine z2 ?_ _|refine z6 ?_|refine z1 ?_ _));refine zG (cs:=#[.int .u64 0,.int .u64 0]) ?_ 1 _ rfl;(with_reducible repeat (first|refine z2 ?_ _|refine z6 ?_|refine z1 ?_ _));refine zG (cs:=#[.int .u64 0,.int .u64 0]) ?_ 0 _ rfl;(with_reducible repeat (first|refine z2 ?_ _|refine z6 ?_|refine z1 ?_ _));exact BK101.out) Try.underlying51 rfl (by kernel_rfl)) rfl ?_
   exact ⟨by first|rfl|(simp [zh,zi] <;> rfl)|(simp [*,zh,zi] <;> rfl),by repeat (first|(with_reducible first|exact HB.out|apply z5|apply z0|apply z4|refine z7 ?_ GE101.out)|exact HB.out)⟩
 rw [if_neg c5] at H
 have c5b0 : (t102 == 0) = false:=beq_eq_false_iff_ne.mpr c5
 have c5b1 : (t102 != 0) = true:=bne_iff_ne.mpr c5
 replace H:=Option.bind_eq_some_iff.mp H
 obtain ⟨t103,A80,H⟩:=H
 replace H : (if t103 = (l2.length : Int) then ((zq.f k a0 l1 l2).bind fun bt104=>(if bt104.2 = 0 then (if 0 < (bt104.1.length : Int) then (some ((zu bt104.1 0).f0,(zu bt104.1 0).f1,0)) else (none)) else (some (0,0,bt104.2)))) else (some (0,0,6))) = some (r1,r2,r3):=H
 have A8:=z3.mk A80
 clear A80
 by_cases c9 : t103 = (l2.length : Int)
 rotate_left
 · rw [if_neg c9] at H
   have c9b0 : (t103 == (l2.length : Int)) = false:=beq_eq_false_iff_ne.mpr c9
   have c9b1 : (t103 != (l2.length : Int)) = true:=bne_iff_ne.mpr c9
   simp only [Option.some.injEq,Prod.mk.injEq] at H
   obtain ⟨rfl,rfl,rfl⟩:=H
   go_enter Try.func35,Try.ntmps35
   go_wp2_with (first|((with_reducible refine zy (N:=6) rfl ?_);refine zv ?hg (N:=6) ?hd (cs:=#[.int .u64 0,.int .u64 0]) (t:=51) ?hr ?_;(case hd=>rfl);(case hg=>rfl);(case hr=>first|(go_simp;done)|(go_simp;rfl));intro gb101 hg w20 hbox hb;have n0_:=z3.mk (zd (by repeat (first|(with_reducible first|exact HB.out|apply z5|apply z0|apply z4)|exact HB.out)) hb);have n1_:=z3.mk (hbox);have n2_:=z3.mk ((by rw [hg];exact (ze (by repeat (first|(with_reducible first|exact HB.out|apply z5|apply z0|apply z4)|exact HB.out))) : w.heap.size ≤ gb101));have n3_:=z3.mk ((by rw [hg];exact (ze (by repeat (first|(with_reducible first|exact HB.out|apply z5|apply z0|apply z4)|exact HB.out))) : w.heap.size ≤ gb101));clear HB;have HB:=n0_;have BK101:=n1_;have GW101:=n2_;have GE101:=n3_;clear n0_ n1_ n2_ n3_;clear hb hbox hg)|((with_reducible refine zp (f:=78) rfl ?_);refine goesL_ (some 12) rfl rfl Try.func78 (by kernel_rfl) rfl #[.int .i64 a0] rfl (by (try simp only [List.map_toArray,List.map_cons,List.map_nil]);first|done|rfl|(simp only [List.length_drop,List.length_take];rfl)) ?_;(with_reducible refine (zA.calls k a0 t102 _ A4.out).mono ?_);rintro e w' ⟨rfl,⟨nd,rfl⟩⟩;refine ⟨_,rfl,?_⟩;(try (rw [z1y w20];generalize hq_ : World.drewN w20 _ = w20;have n0_ : z3 (w20.heap[gb101]? = some (.cells #[.int .u64 0,.int .u64 0] 51 (0,0))):=⟨by rw [← hq_];exact (by (with_reducible repeat (first|refine z2 ?_ _|refine z6 ?_|refine z1 ?_ _));exact BK101.out)⟩;have n1_ : z3 (Below w.heap.size w w20):=⟨by rw [← hq_];exact (by repeat (first|(with_reducible first|exact HB.out|apply z5|apply z0|apply z4|refine z7 ?_ GE101.out)|exact HB.out))⟩;clear BK101 HB hq_;have BK101:=n0_;have HB:=n1_;clear n0_ n1_)))|((with_reducible refine zp (f:=48) rfl ?_);refine goesL_ (some 18) rfl rfl Try.func48 (by kernel_rfl) rfl #[.int .i64 (l1.length : Int)] rfl (by (try simp only [List.map_toArray,List.map_cons,List.map_nil]);first|done|rfl|(simp only [List.length_drop,List.length_take];rfl)) ?_;(with_reducible refine (zK.calls k (l1.length : Int) t103 _ A8.out).mono ?_);rintro e w' ⟨rfl,⟨nd,rfl⟩⟩;refine ⟨_,rfl,?_⟩;(try (rw [z1y w20];generalize hq_ : World.drewN w20 _ = w20;have n0_ : z3 (w20.heap[gb101]? = some (.cells #[.int .u64 0,.int .u64 0] 51 (0,0))):=⟨by rw [← hq_];exact (by (with_reducible repeat (first|refine z2 ?_ _|refine z6 ?_|refine z1 ?_ _));exact BK101.out)⟩;have n1_ : z3 (Below w.heap.size w w20):=⟨by rw [← hq_];exact (by repeat (first|(with_reducible first|exact HB.out|apply z5|apply z0|apply z4|refine z7 ?_ GE101.out)|exact HB.out))⟩;clear BK101 HB hq_;have BK101:=n0_;have HB:=n1_;clear n0_ n1_));have hcz21_0 : w20.cell? ⟨gb101,0,none⟩ = some (.int .u64 0):=(z9 BK101.out 0).trans rfl;have hcz21_1 : w20.cell? ⟨gb101,1,none⟩ = some (.int .u64 0):=(z9 BK101.out 1).trans rfl;have hfz21_0:=za BK101.out 0;have hfz21_1:=za BK101.out 1))
   refine bodyPost_ret (z2b rfl _ _ gb101 51 #[.int .u64 0,.int .u64 0] (0,0) _ rfl (by (with_reducible repeat (first|refine z2 ?_ _|refine z6 ?_|refine z1 ?_ _));refine zG (cs:=#[.int .u64 0,.int .u64 0]) ?_ 1 _ rfl;(with_reducible repeat (first|refine z2 ?_ _|refine z6 ?_|refine z1 ?_ _));refine zG (cs:=#[.int .u64 0,.int .u64 0]) ?_ 0 _ rfl;(with_reducible repeat (first|refine z2 ?_ _|refine z6 ?_|refine z1 ?_ _));exact BK101.out) Try.underlying51 rfl (by kernel_rfl)) rfl ?_
   exact ⟨by first|rfl|(simp [zh,zi] <;> rfl)|(simp [*,zh,zi] <;> rfl),by repeat (first|(with_reducible first|exact HB.out|apply z5|apply z0|apply z4|refine z7 ?_ GE101.out)|exact HB.out)⟩
 rw [if_pos c9] at H
 have c9b0 : (t103 == (l2.length : Int)) = true:=beq_iff_eq.mpr c9
 have c9b1 : (t103 != (l2.length : Int)) = false:=bne_eq_false_iff_eq.mpr c9
 clear c9
 replace H:=Option.bind_eq_some_iff.mp H
 obtain ⟨⟨t104,t105⟩,A100,H⟩:=H
 replace H : (if t105 = 0 then (if 0 < (t104.length : Int) then (some ((zu t104 0).f0,(zu t104 0).f1,0)) else (none)) else (some (0,0,t105))) = some (r1,r2,r3):=H
 have A10:=z3.mk A100
 clear A100
 by_cases c11 : t105 = 0
 rotate_left
 · rw [if_neg c11] at H
   have c11b0 : (t105 == 0) = false:=beq_eq_false_iff_ne.mpr c11
   have c11b1 : (t105 != 0) = true:=bne_iff_ne.mpr c11
   simp only [Option.some.injEq,Prod.mk.injEq] at H
   obtain ⟨rfl,rfl,rfl⟩:=H
   go_enter Try.func35,Try.ntmps35
   go_wp2_with (first|((with_reducible refine zy (N:=6) rfl ?_);refine zv ?hg (N:=6) ?hd (cs:=#[.int .u64 0,.int .u64 0]) (t:=51) ?hr ?_;(case hd=>rfl);(case hg=>rfl);(case hr=>first|(go_simp;done)|(go_simp;rfl));intro gb101 hg w17 hbox hb;have n0_:=z3.mk (zd (by repeat (first|(with_reducible first|exact HB.out|apply z5|apply z0|apply z4)|exact HB.out)) hb);have n1_:=z3.mk (hbox);have n2_:=z3.mk ((by rw [hg];exact (ze (by repeat (first|(with_reducible first|exact HB.out|apply z5|apply z0|apply z4)|exact HB.out))) : w.heap.size ≤ gb101));have n3_:=z3.mk ((by rw [hg];exact (ze (by repeat (first|(with_reducible first|exact HB.out|apply z5|apply z0|apply z4)|exact HB.out))) : w.heap.size ≤ gb101));clear HB;have HB:=n0_;have BK101:=n1_;have GW101:=n2_;have GE101:=n3_;clear n0_ n1_ n2_ n3_;clear hb hbox hg)|((with_reducible refine zp (f:=78) rfl ?_);refine goesL_ (some 12) rfl rfl Try.func78 (by kernel_rfl) rfl #[.int .i64 a0] rfl (by (try simp only [List.map_toArray,List.map_cons,List.map_nil]);first|done|rfl|(simp only [List.length_drop,List.length_take];rfl)) ?_;(with_reducible refine (zA.calls k a0 t102 _ A4.out).mono ?_);rintro e w' ⟨rfl,⟨nd,rfl⟩⟩;refine ⟨_,rfl,?_⟩;(try (rw [z1y w17];generalize hq_ : World.drewN w17 _ = w17;have n0_ : z3 (w17.heap[gb101]? = some (.cells #[.int .u64 0,.int .u64 0] 51 (0,0))):=⟨by rw [← hq_];exact (by (with_reducible repeat (first|refine z2 ?_ _|refine z6 ?_|refine z1 ?_ _));exact BK101.out)⟩;have n1_ : z3 (Below w.heap.size w w17):=⟨by rw [← hq_];exact (by repeat (first|(with_reducible first|exact HB.out|apply z5|apply z0|apply z4|refine z7 ?_ GE101.out)|exact HB.out))⟩;clear BK101 HB hq_;have BK101:=n0_;have HB:=n1_;clear n0_ n1_)))|((with_reducible refine zp (f:=48) rfl ?_);refine goesL_ (some 18) rfl rfl Try.func48 (by kernel_rfl) rfl #[.int .i64 (l1.length : Int)] rfl (by (try simp only [List.map_toArray,List.map_cons,List.map_nil]);first|done|rfl|(simp only [List.length_drop,List.length_take];rfl)) ?_;(with_reducible refine (zK.calls k (l1.length : Int) t103 _ A8.out).mono ?_);rintro e w' ⟨rfl,⟨nd,rfl⟩⟩;refine ⟨_,rfl,?_⟩;(try (rw [z1y w17];generalize hq_ : World.drewN w17 _ = w17;have n0_ : z3 (w17.heap[gb101]? = some (.cells #[.int .u64 0,.int .u64 0] 51 (0,0))):=⟨by rw [← hq_];exact (by (with_reducible repeat (first|refine z2 ?_ _|refine z6 ?_|refine z1 ?_ _));exact BK101.out)⟩;have n1_ : z3 (Below w.heap.size w w17):=⟨by rw [← hq_];exact (by repeat (first|(with_reducible first|exact HB.out|apply z5|apply z0|apply z4|refine z7 ?_ GE101.out)|exact HB.out))⟩;clear BK101 HB hq_;have BK101:=n0_;have HB:=n1_;clear n0_ n1_)))|((with_reducible refine zp (f:=51) rfl ?_);refine goesL_ (some 27) rfl rfl Try.func51 (by kernel_rfl) rfl #[.int .i64 a0,.slice A1 l1.length c1,.slice A2 l2.length c2] rfl (by (try simp only [List.map_toArray,List.map_cons,List.map_nil]);first|done|rfl|(simp only [List.length_drop,List.length_take];rfl)) ?_;(with_reducible refine (zq.calls k a0 _ _ l1 _ _ l2 t104 t105 _ ?side1 ?side2 ?side3 ?side4 A10.out).mono ?_);(case side1=>repeat (first|exact (Kd.z1f HR1.out HB.out)|(with_reducible refine Kd.z16 ?_ _)|(with_reducible refine Kd.z17 ?_ _)|(with_reducible refine Kd.z1g ?_)));(case side2=>exact HC1.out);(case side3=>repeat (first|exact (Kd.z1f HR2.out HB.out)|(with_reducible refine Kd.z16 ?_ _)|(with_reducible refine Kd.z17 ?_ _)|(with_reducible refine Kd.z1g ?_)));(case side4=>exact HC2.out);rintro e w18 ⟨v106,rfl,ho0,hb⟩;refine ⟨_,rfl,?_⟩;have n0_:=z3.mk (Kd.z1G (Kd.R_newB ho0 (g:=gb101) (o:=.cells #[.int .u64 0,.int .u64 0] 51 (0,0)) (by (with_reducible repeat (first|refine z2 ?_ _|refine z6 ?_|refine z1 ?_ _));exact BK101.out)) (ze (by repeat (first|(with_reducible first|exact HB.out|apply z5|apply z0|apply z4|refine z7 ?_ GE101.out)|exact HB.out))));have n1_:=z3.mk (zb (g:=gb101) (o:=.cells #[.int .u64 0,.int .u64 0] 51 (0,0)) (by (with_reducible repeat (first|refine z2 ?_ _|refine z6 ?_|refine z1 ?_ _));exact BK101.out) hb);have n2_:=z3.mk (zd (by repeat (first|(with_reducible first|exact HB.out|apply z5|apply z0|apply z4|refine z7 ?_ GE101.out)|exact HB.out)) hb);clear BK101;clear HB;have HO107:=n0_;have BK101:=n1_;have HB:=n2_;clear n0_ n1_ n2_;(try clear hb);(try clear hb2);(try clear hk);(try clear hi);(try clear ho0);have hcz19_0 : w18.cell? ⟨gb101,0,none⟩ = some (.int .u64 0):=(z9 BK101.out 0).trans rfl;have hcz19_1 : w18.cell? ⟨gb101,1,none⟩ = some (.int .u64 0):=(z9 BK101.out 1).trans rfl;have hfz19_0:=za BK101.out 0;have hfz19_1:=za BK101.out 1))
   refine bodyPost_ret (z2b rfl _ _ gb101 51 #[.int .u64 0,.int .u64 0] (0,0) _ rfl (by (with_reducible repeat (first|refine z2 ?_ _|refine z6 ?_|refine z1 ?_ _));refine zG (cs:=#[.int .u64 0,.int .u64 0]) ?_ 1 _ rfl;(with_reducible repeat (first|refine z2 ?_ _|refine z6 ?_|refine z1 ?_ _));refine zG (cs:=#[.int .u64 0,.int .u64 0]) ?_ 0 _ rfl;(with_reducible repeat (first|refine z2 ?_ _|refine z6 ?_|refine z1 ?_ _));exact BK101.out) Try.underlying51 rfl (by kernel_rfl)) rfl ?_
   exact ⟨by first|rfl|(simp [zh,zi] <;> rfl)|(simp [*,zh,zi] <;> rfl),by repeat (first|(with_reducible first|exact HB.out|apply z5|apply z0|apply z4|refine z7 ?_ GE101.out)|exact HB.out)⟩
 rw [if_pos c11] at H
 have c11b0 : (t105 == 0) = true:=beq_iff_eq.mpr c11
 have c11b1 : (t105 != 0) = false:=bne_eq_false_iff_eq.mpr c11
 clear c11
 by_cases c12 : 0 < (t104.length : Int)
 rotate_left
 · rw [if_neg c12] at H
   exact absurd H (by simp)
 rw [if_pos c12] at H
 have c12b0 : decide (0 < (t104.length : Int)) = true:=decide_eq_true c12
 have c12b1 : decide (0 < t104.length) = true:=decide_eq_true (by omega)
 clear c12
 simp only [Option.some.injEq,Prod.mk.injEq] at H
 obtain ⟨rfl,rfl,rfl⟩:=H
 go_enter Try.func35,Try.ntmps35
 go_wp2_with (first|((with_reducible refine zy (N:=6) rfl ?_);refine zv ?hg (N:=6) ?hd (cs:=#[.int .u64 0,.int .u64 0]) (t:=51) ?hr ?_;(case hd=>rfl);(case hg=>rfl);(case hr=>first|(go_simp;done)|(go_simp;rfl));intro gb101 hg w13 hbox hb;have n0_:=z3.mk (zd (by repeat (first|(with_reducible first|exact HB.out|apply z5|apply z0|apply z4)|exact HB.out)) hb);have n1_:=z3.mk (hbox);have n2_:=z3.mk ((by rw [hg];exact (ze (by repeat (first|(with_reducible first|exact HB.out|apply z5|apply z0|apply z4)|exact HB.out))) : w.heap.size ≤ gb101));have n3_:=z3.mk ((by rw [hg];exact (ze (by repeat (first|(with_reducible first|exact HB.out|apply z5|apply z0|apply z4)|exact HB.out))) : w.heap.size ≤ gb101));clear HB;have HB:=n0_;have BK101:=n1_;have GW101:=n2_;have GE101:=n3_;clear n0_ n1_ n2_ n3_;clear hb hbox hg)|((with_reducible refine zp (f:=78) rfl ?_);refine goesL_ (some 12) rfl rfl Try.func78 (by kernel_rfl) rfl #[.int .i64 a0] rfl (by (try simp only [List.map_toArray,List.map_cons,List.map_nil]);first|done|rfl|(simp only [List.length_drop,List.length_take];rfl)) ?_;(with_reducible refine (zA.calls k a0 t102 _ A4.out).mono ?_);rintro e w' ⟨rfl,⟨nd,rfl⟩⟩;refine ⟨_,rfl,?_⟩;(try (rw [z1y w13];generalize hq_ : World.drewN w13 _ = w13;have n0_ : z3 (w13.heap[gb101]? = some (.cells #[.int .u64 0,.int .u64 0] 51 (0,0))):=⟨by rw [← hq_];exact (by (with_reducible repeat (first|refine z2 ?_ _|refine z6 ?_|refine z1 ?_ _));exact BK101.out)⟩;have n1_ : z3 (Below w.heap.size w w13):=⟨by rw [← hq_];exact (by repeat (first|(with_reducible first|exact HB.out|apply z5|apply z0|apply z4|refine z7 ?_ GE101.out)|exact HB.out))⟩;clear BK101 HB hq_;have BK101:=n0_;have HB:=n1_;clear n0_ n1_)))|((with_reducible refine zp (f:=48) rfl ?_);refine goesL_ (some 18) rfl rfl Try.func48 (by kernel_rfl) rfl #[.int .i64 (l1.length : Int)] rfl (by (try simp only [List.map_toArray,List.map_cons,List.map_nil]);first|done|rfl|(simp only [List.length_drop,List.length_take];rfl)) ?_;(with_reducible refine (zK.calls k (l1.length : Int) t103 _ A8.out).mono ?_);rintro e w' ⟨rfl,⟨nd,rfl⟩⟩;refine ⟨_,rfl,?_⟩;(try (rw [z1y w13];generalize hq_ : World.drewN w13 _ = w13;have n0_ : z3 (w13.heap[gb101]? = some (.cells #[.int .u64 0,.int .u64 0] 51 (0,0))):=⟨by rw [← hq_];exact (by (with_reducible repeat (first|refine z2 ?_ _|refine z6 ?_|refine z1 ?_ _));exact BK101.out)⟩;have n1_ : z3 (Below w.heap.size w w13):=⟨by rw [← hq_];exact (by repeat (first|(with_reducible first|exact HB.out|apply z5|apply z0|apply z4|refine z7 ?_ GE101.out)|exact HB.out))⟩;clear BK101 HB hq_;have BK101:=n0_;have HB:=n1_;clear n0_ n1_)))|((with_reducible refine zp (f:=51) rfl ?_);refine goesL_ (some 27) rfl rfl Try.func51 (by kernel_rfl) rfl #[.int .i64 a0,.slice A1 l1.length c1,.slice A2 l2.length c2] rfl (by (try simp only [List.map_toArray,List.map_cons,List.map_nil]);first|done|rfl|(simp only [List.length_drop,List.length_take];rfl)) ?_;(with_reducible refine (zq.calls k a0 _ _ l1 _ _ l2 t104 t105 _ ?side1 ?side2 ?side3 ?side4 A10.out).mono ?_);(case side1=>repeat (first|exact (Kd.z1f HR1.out HB.out)|(with_reducible refine Kd.z16 ?_ _)|(with_reducible refine Kd.z17 ?_ _)|(with_reducible refine Kd.z1g ?_)));(case side2=>exact HC1.out);(case side3=>repeat (first|exact (Kd.z1f HR2.out HB.out)|(with_reducible refine Kd.z16 ?_ _)|(with_reducible refine Kd.z17 ?_ _)|(with_reducible refine Kd.z1g ?_)));(case side4=>exact HC2.out);rintro e w14 ⟨v106,rfl,ho0,hb⟩;refine ⟨_,rfl,?_⟩;have n0_:=z3.mk (Kd.z1G (Kd.R_newB ho0 (g:=gb101) (o:=.cells #[.int .u64 0,.int .u64 0] 51 (0,0)) (by (with_reducible repeat (first|refine z2 ?_ _|refine z6 ?_|refine z1 ?_ _));exact BK101.out)) (ze (by repeat (first|(with_reducible first|exact HB.out|apply z5|apply z0|apply z4|refine z7 ?_ GE101.out)|exact HB.out))));have n1_:=z3.mk (zb (g:=gb101) (o:=.cells #[.int .u64 0,.int .u64 0] 51 (0,0)) (by (with_reducible repeat (first|refine z2 ?_ _|refine z6 ?_|refine z1 ?_ _));exact BK101.out) hb);have n2_:=z3.mk (zd (by repeat (first|(with_reducible first|exact HB.out|apply z5|apply z0|apply z4|refine z7 ?_ GE101.out)|exact HB.out)) hb);clear BK101;clear HB;have HO107:=n0_;have BK101:=n1_;have HB:=n2_;clear n0_ n1_ n2_;(try clear hb);(try clear hb2);(try clear hk);(try clear hi);(try clear ho0);obtain ⟨Ao15,co15,eo15⟩:=Kd.z1x HO107.out;subst eo15;have p108 : 0 ≤ (0 : Int):=(by omega);have q108 : 0 < (t104.length : Int):=of_decide_eq_true (by first|(with_reducible assumption)|assumption);obtain ⟨ad108,e108,hx108_0,hx108_1⟩:=z1S (Kd.z14 HO107.out).2.2 0 p108 q108;cases e108;have qi108 : (0 < t104.length) = True:=eq_true (by omega);(try rw [show ((0 : Int)).toNat = 0 from rfl] at hx108_0);(try rw [show 0 * 2 = 0 from rfl] at hx108_0);(try rw [Addr.add_zero'] at hx108_0);(try rw [show ((0 : Int)).toNat = 0 from rfl] at hx108_1);(try rw [show 0 * 2 = 0 from rfl] at hx108_1);(try rw [Addr.add_zero'] at hx108_1);replace p108:=eq_true p108;replace q108:=eq_true q108;have hcz16_0 : w14.cell? ⟨gb101,0,none⟩ = some (.int .u64 0):=(z9 BK101.out 0).trans rfl;have hcz16_1 : w14.cell? ⟨gb101,1,none⟩ = some (.int .u64 0):=(z9 BK101.out 1).trans rfl;have hfz16_0:=za BK101.out 0;have hfz16_1:=za BK101.out 1))
 refine bodyPost_ret (z2b rfl _ _ gb101 51 #[.int .u64 ((zu t104 0).f0),.int .u64 ((zu t104 0).f1)] (0,0) _ rfl (by (with_reducible repeat (first|refine z2 ?_ _|refine z6 ?_|refine z1 ?_ _));refine zG (cs:=#[.int .u64 ((zu t104 0).f0),.int .u64 0]) ?_ 1 _ rfl;(with_reducible repeat (first|refine z2 ?_ _|refine z6 ?_|refine z1 ?_ _));refine zG (cs:=#[.int .u64 0,.int .u64 0]) ?_ 0 _ rfl;(with_reducible repeat (first|refine z2 ?_ _|refine z6 ?_|refine z1 ?_ _));exact BK101.out) Try.underlying51 rfl (by kernel_rfl)) rfl ?_
 exact ⟨by first|rfl|(simp [zh,zi] <;> rfl)|(simp [*,zh,zi] <;> rfl),by repeat (first|(with_reducible first|exact HB.out|apply z5|apply z0|apply z4|refine z7 ?_ GE101.out)|exact HB.out)⟩
end Go.Proofs.Ytngcaphdkgihmaa.P
namespace Go.Proofs.Ytngcaphdkgihmaa.P
open Go.RowKit Go.Proofs.YtngcaphdkgihmaaW.PrintWords Go.Proofs.YtngcaphdkgihmaaW.PrintLast Go.Proofs.YtngcaphdkgihmaaW.PrintMore
attribute [local go_sem] zS zU z11 z12 zM zN zT zV   -- for this text's walks alone
set_option linter.unusedVariables false
set_option linter.unusedSimpArgs false
attribute [local go_sem high] eqA51
def zs.f (k : Nat)  : Option (Bool):=(z10.f k 2 (([(⟨0,1⟩ : S51),(⟨0,2⟩ : S51)] : List (S51))) (([(⟨0,3⟩ : S51)] : List (S51)))).bind fun bt107=>(if bt107.2.2 = 0 then (if (bt107.1 == 0 && (bt107.2.1 == 3)) = true then ((zK.f k 8).bind fun t111=>(some (t111 == 3))) else (some false)) else (some false))
theorem zs.mono : ∀ k,LeO (zs.f k ) (zs.f (k + 1) ):=by
 intro  k
 unfold zs.f
 repeat' first
  | (with_reducible exact z10.mono _ _ _ _)
  | (with_reducible exact zK.mono _ _)
  | (with_reducible exact LeO.refl _)
  | (with_reducible exact LeO.none _)
  | (with_reducible refine LeO.ite ?_ ?_)
  | (with_reducible refine LeO.bind ?_ (fun _=>?_))
  | exact z10.mono _ _ _ _
  | exact zK.mono _ _
  | exact LeO.none _
  | refine LeO.ite ?_ ?_
  | refine LeO.bind ?_ (fun _=>?_)
set_option maxHeartbeats 8000000 in
set_option maxRecDepth 100000 in
theorem zs.calls (k : Nat)  (r : Bool) (w : World) (h : zs.f k  = some r) :
 Calls Try.prog 34 #[] w fun e w'=>e = .returned (.bool r) ∧ Below w.heap.size w w':=by
 have hu51:=Try.underlying51
 have HB:=z3.mk (Below.refl w.heap.size w)
 have H : ((z10.f k 2 (([(⟨0,1⟩ : S51),(⟨0,2⟩ : S51)] : List (S51))) (([(⟨0,3⟩ : S51)] : List (S51)))).bind fun bt107=>(if bt107.2.2 = 0 then (if (bt107.1 == 0 && (bt107.2.1 == 3)) = true then ((zK.f k 8).bind fun t111=>(some (t111 == 3))) else (some false)) else (some false))) = some r:=h
 clear h
 obtain ⟨y101,hy101⟩ : ∃ y_ : List (S51),y_ = (([(⟨0,1⟩ : S51),(⟨0,2⟩ : S51)] : List (S51))):=⟨_,rfl⟩
 replace H : ((z10.f k 2 y101 (([(⟨0,3⟩ : S51)] : List (S51)))).bind fun bt107=>(if bt107.2.2 = 0 then (if (bt107.1 == 0 && (bt107.2.1 == 3)) = true then ((zK.f k 8).bind fun t111=>(some (t111 == 3))) else (some false)) else (some false))) = some r:=by first|(rw [hy101];with_reducible exact H)|(have H2_:=(Option.bind_some _ _).symm.trans H;rw [hy101];with_reducible exact H2_)|(have H2_:=(Option.bind_some _ _).symm.trans H;with_reducible exact H2_)|with_reducible exact H|(rw [hy101];exact H)|exact H
 have Ny101:=z3.mk hy101
 clear hy101
 obtain ⟨y104,hy104⟩ : ∃ y_ : List (S51),y_ = (([(⟨0,3⟩ : S51)] : List (S51))):=⟨_,rfl⟩
 replace H : ((z10.f k 2 y101 y104).bind fun bt107=>(if bt107.2.2 = 0 then (if (bt107.1 == 0 && (bt107.2.1 == 3)) = true then ((zK.f k 8).bind fun t111=>(some (t111 == 3))) else (some false)) else (some false))) = some r:=by first|(rw [hy104];with_reducible exact H)|(have H2_:=(Option.bind_some _ _).symm.trans H;rw [hy104];with_reducible exact H2_)|(have H2_:=(Option.bind_some _ _).symm.trans H;with_reducible exact H2_)|with_reducible exact H|(rw [hy104];exact H)|exact H
 have Ny104:=z3.mk hy104
 clear hy104
 replace H:=Option.bind_eq_some_iff.mp H
 obtain ⟨⟨t107,t108,t109⟩,A10,H⟩:=H
 replace H : (if t109 = 0 then (if (t107 == 0 && (t108 == 3)) = true then ((zK.f k 8).bind fun t111=>(some (t111 == 3))) else (some false)) else (some false)) = some r:=H
 have A1:=z3.mk A10
 clear A10
 by_cases c2 : t109 = 0
 rotate_left
 · rw [if_neg c2] at H
   have c2b0 : (t109 == 0) = false:=beq_eq_false_iff_ne.mpr c2
   have c2b1 : (t109 != 0) = true:=bne_iff_ne.mpr c2
   obtain rfl:=Option.some.inj H
   go_enter Try.func34,Try.ntmps34
   go_wp2_with (first|((with_reducible refine zy (N:=6) rfl ?_);refine Kd.z3n k51 _ 51 ?hg (N:=6) ?hd (xs:=([(⟨0,1⟩ : S51),(⟨0,2⟩ : S51)] : List (S51))) (inner:=[.int .u64 0,.int .u64 1,.int .u64 0,.int .u64 2]) (ok:=fun _=>True) (okp:=fun _=>True) ?hr ?hp (fun _ hk=>hk) trivial (Below.refl _ _) (Nat.le_refl _) (by simp) ?_;(case hd=>rfl);(case hg=>rfl);(case hr=>first|(go_simp;done)|(go_simp;rfl));(case hp=>exact (Reps.c2 (show Kd.M k51 _ _ _ (⟨0,1⟩ : S51) [.int .u64 0,.int .u64 1] from (z1H _ _ _ (⟨0,1⟩ : S51) )) (Reps.c2 (show Kd.M k51 _ _ _ (⟨0,2⟩ : S51) [.int .u64 0,.int .u64 2] from (z1H _ _ _ (⟨0,2⟩ : S51) )) (Reps.none _ _))));intro v102 w23 ho24 hb hg_ hnew_;clear hg_ hnew_;(first|rw [← Ny101.out] at ho24|(simp only [Int.reduceToNat] at ho24;rw [← Ny101.out] at ho24));have n0_:=z3.mk (Kd.z1G ho24 (ze (by repeat (first|(with_reducible first|exact HB.out|apply z5|apply z0|apply z4)|exact HB.out))));have n1_:=z3.mk (zd (by repeat (first|(with_reducible first|exact HB.out|apply z5|apply z0|apply z4)|exact HB.out)) hb);clear HB;have HO103:=n0_;have HB:=n1_;clear n0_ n1_;clear hb ho24)|((with_reducible refine zy (N:=8) rfl ?_);refine Kd.z3n k51 _ 51 ?hg (N:=8) ?hd (xs:=([(⟨0,3⟩ : S51)] : List (S51))) (inner:=[.int .u64 0,.int .u64 3]) (ok:=fun _=>True) (okp:=fun _=>True) ?hr ?hp (fun _ hk=>hk) trivial (Below.refl _ _) (Nat.le_refl _) (by simp) ?_;(case hd=>rfl);(case hg=>rfl);(case hr=>first|(go_simp;done)|(go_simp;rfl));(case hp=>exact (Reps.c2 (show Kd.M k51 _ _ _ (⟨0,3⟩ : S51) [.int .u64 0,.int .u64 3] from (z1H _ _ _ (⟨0,3⟩ : S51) )) (Reps.none _ _)));intro v105 w25 ho26 hb hg_ hnew_;clear hg_ hnew_;(first|rw [← Ny104.out] at ho26|(simp only [Int.reduceToNat] at ho26;rw [← Ny104.out] at ho26));have n0_:=z3.mk (Kd.z3m (by (with_reducible repeat (first|apply Kd.zQ|apply Kd.zR|apply Kd.zZ));exact HO103.out) (Kd.z4J ho26) hb);have n1_:=z3.mk (Kd.z1G (Kd.z4L ho26 (Kd.R_lt (by (with_reducible repeat (first|apply Kd.zQ|apply Kd.zR|apply Kd.zZ));exact HO103.out))) (ze (by repeat (first|(with_reducible first|exact HB.out|apply z5|apply z0|apply z4)|exact HB.out))));have n2_:=z3.mk (zd (by repeat (first|(with_reducible first|exact HB.out|apply z5|apply z0|apply z4)|exact HB.out)) hb);clear HO103;clear HB;have HO103:=n0_;have HO106:=n1_;have HB:=n2_;clear n0_ n1_ n2_;clear hb ho26;obtain ⟨Ao27,co27,eo27⟩:=Kd.z1x HO103.out;subst eo27;obtain ⟨Ao28,co28,eo28⟩:=Kd.z1x HO106.out;subst eo28)|((with_reducible refine zp (f:=35) rfl ?_);refine goesL_ (some 9) rfl rfl Try.func35 (by kernel_rfl) rfl #[.int .i64 2,.slice Ao27 y101.length co27,.slice Ao28 y104.length co28] rfl (by (try simp only [List.map_toArray,List.map_cons,List.map_nil]);first|done|rfl|(simp only [List.length_drop,List.length_take];rfl)) ?_;(with_reducible refine (z10.calls k 2 _ _ y101 _ _ y104 t107 t108 t109 _ ?side1 ?side2 ?side3 ?side4 A1.out).mono ?_);(case side1=>repeat (first|exact (Kd.z14 HO103.out).2.2|(with_reducible refine Kd.z16 ?_ _)|(with_reducible refine Kd.z17 ?_ _)|(with_reducible refine Kd.z1g ?_)));(case side2=>exact (Kd.z14 HO103.out).2.1);(case side3=>repeat (first|exact (Kd.z14 HO106.out).2.2|(with_reducible refine Kd.z16 ?_ _)|(with_reducible refine Kd.z17 ?_ _)|(with_reducible refine Kd.z1g ?_)));(case side4=>exact (Kd.z14 HO106.out).2.1);rintro e w29 ⟨rfl,hb⟩;refine ⟨_,rfl,?_⟩;have n0_:=z3.mk (Kd.z1e (by (with_reducible repeat (first|apply Kd.zQ|apply Kd.zR|apply Kd.zZ));exact HO103.out) hb);have n1_:=z3.mk (Kd.z1e (by (with_reducible repeat (first|apply Kd.zQ|apply Kd.zR|apply Kd.zZ));exact HO106.out) hb);have n2_:=z3.mk (zd (by repeat (first|(with_reducible first|exact HB.out|apply z5|apply z0|apply z4)|exact HB.out)) hb);clear HO103;clear HO106;clear HB;have HO103:=n0_;have HO106:=n1_;have HB:=n2_;clear n0_ n1_ n2_;(try clear hb);(try clear hb2);(try clear hk);(try clear hi))|((with_reducible refine zy (N:=1) rfl ?_);refine zv ?hg (N:=1) ?hd (cs:=#[.int .u64 0,.int .u64 0]) (t:=51) ?hr ?_;(case hd=>rfl);(case hg=>rfl);(case hr=>first|(go_simp;done)|(go_simp;rfl));intro gb110 hg w30 hbox hb;have n0_:=z3.mk (Kd.z1e (Kd.z1D (by (with_reducible repeat (first|apply Kd.zQ|apply Kd.zR|apply Kd.zZ));exact HO103.out) gb110 (Nat.le_of_eq hg.symm)) hb);have n1_:=z3.mk (Kd.z1e (Kd.z1D (by (with_reducible repeat (first|apply Kd.zQ|apply Kd.zR|apply Kd.zZ));exact HO106.out) gb110 (Nat.le_of_eq hg.symm)) hb);have n2_:=z3.mk (zd (by repeat (first|(with_reducible first|exact HB.out|apply z5|apply z0|apply z4)|exact HB.out)) hb);have n3_:=z3.mk (hbox);have n4_:=z3.mk ((by rw [hg];exact (ze (by repeat (first|(with_reducible first|exact HB.out|apply z5|apply z0|apply z4)|exact HB.out))) : w.heap.size ≤ gb110));have n5_:=z3.mk ((by rw [hg];exact (ze (by repeat (first|(with_reducible first|exact HB.out|apply z5|apply z0|apply z4)|exact HB.out))) : w.heap.size ≤ gb110));clear HO103;clear HO106;clear HB;have HO103:=n0_;have HO106:=n1_;have HB:=n2_;have BK110:=n3_;have GW110:=n4_;have GE110:=n5_;clear n0_ n1_ n2_ n3_ n4_ n5_;clear hb hbox hg;have hcz31_0 : w30.cell? ⟨gb110,0,none⟩ = some (.int .u64 0):=(z9 BK110.out 0).trans rfl;have hcz31_1 : w30.cell? ⟨gb110,1,none⟩ = some (.int .u64 0):=(z9 BK110.out 1).trans rfl;have hfz31_0:=za BK110.out 0;have hfz31_1:=za BK110.out 1))
   go_ret
   exact ⟨by first|rfl|(simp [zh,zi] <;> rfl)|(simp [*,zh,zi] <;> rfl),by repeat (first|(with_reducible first|exact HB.out|apply z5|apply z0|apply z4|refine z7 ?_ GE110.out)|exact HB.out)⟩
 rw [if_pos c2] at H
 have c2b0 : (t109 == 0) = true:=beq_iff_eq.mpr c2
 have c2b1 : (t109 != 0) = false:=bne_eq_false_iff_eq.mpr c2
 clear c2
 by_cases c3 : (t107 == 0 && (t108 == 3)) = true
 rotate_left
 · rw [if_neg c3] at H
   have c3b0 : (t107 == 0 && (t108 == 3)) = false:=by simpa using c3
   (try (have c3b1 : decide (t107 = 0 && (t108 == 3)) = false:=by simpa using c3))
   (try (have c3b2 : (t107 == 0 && (t108 == 3)) = false:=by simpa using c3))
   (try (have c3b3 : ¬ (t107 = 0 && (t108 == 3)):=by simpa using c3))
   clear c3
   obtain rfl:=Option.some.inj H
   go_enter Try.func34,Try.ntmps34
   go_wp2_with (first|((with_reducible refine zy (N:=6) rfl ?_);refine Kd.z3n k51 _ 51 ?hg (N:=6) ?hd (xs:=([(⟨0,1⟩ : S51),(⟨0,2⟩ : S51)] : List (S51))) (inner:=[.int .u64 0,.int .u64 1,.int .u64 0,.int .u64 2]) (ok:=fun _=>True) (okp:=fun _=>True) ?hr ?hp (fun _ hk=>hk) trivial (Below.refl _ _) (Nat.le_refl _) (by simp) ?_;(case hd=>rfl);(case hg=>rfl);(case hr=>first|(go_simp;done)|(go_simp;rfl));(case hp=>exact (Reps.c2 (show Kd.M k51 _ _ _ (⟨0,1⟩ : S51) [.int .u64 0,.int .u64 1] from (z1H _ _ _ (⟨0,1⟩ : S51) )) (Reps.c2 (show Kd.M k51 _ _ _ (⟨0,2⟩ : S51) [.int .u64 0,.int .u64 2] from (z1H _ _ _ (⟨0,2⟩ : S51) )) (Reps.none _ _))));intro v102 w14 ho15 hb hg_ hnew_;clear hg_ hnew_;(first|rw [← Ny101.out] at ho15|(simp only [Int.reduceToNat] at ho15;rw [← Ny101.out] at ho15));have n0_:=z3.mk (Kd.z1G ho15 (ze (by repeat (first|(with_reducible first|exact HB.out|apply z5|apply z0|apply z4)|exact HB.out))));have n1_:=z3.mk (zd (by repeat (first|(with_reducible first|exact HB.out|apply z5|apply z0|apply z4)|exact HB.out)) hb);clear HB;have HO103:=n0_;have HB:=n1_;clear n0_ n1_;clear hb ho15)|((with_reducible refine zy (N:=8) rfl ?_);refine Kd.z3n k51 _ 51 ?hg (N:=8) ?hd (xs:=([(⟨0,3⟩ : S51)] : List (S51))) (inner:=[.int .u64 0,.int .u64 3]) (ok:=fun _=>True) (okp:=fun _=>True) ?hr ?hp (fun _ hk=>hk) trivial (Below.refl _ _) (Nat.le_refl _) (by simp) ?_;(case hd=>rfl);(case hg=>rfl);(case hr=>first|(go_simp;done)|(go_simp;rfl));(case hp=>exact (Reps.c2 (show Kd.M k51 _ _ _ (⟨0,3⟩ : S51) [.int .u64 0,.int .u64 3] from (z1H _ _ _ (⟨0,3⟩ : S51) )) (Reps.none _ _)));intro v105 w16 ho17 hb hg_ hnew_;clear hg_ hnew_;(first|rw [← Ny104.out] at ho17|(simp only [Int.reduceToNat] at ho17;rw [← Ny104.out] at ho17));have n0_:=z3.mk (Kd.z3m (by (with_reducible repeat (first|apply Kd.zQ|apply Kd.zR|apply Kd.zZ));exact HO103.out) (Kd.z4J ho17) hb);have n1_:=z3.mk (Kd.z1G (Kd.z4L ho17 (Kd.R_lt (by (with_reducible repeat (first|apply Kd.zQ|apply Kd.zR|apply Kd.zZ));exact HO103.out))) (ze (by repeat (first|(with_reducible first|exact HB.out|apply z5|apply z0|apply z4)|exact HB.out))));have n2_:=z3.mk (zd (by repeat (first|(with_reducible first|exact HB.out|apply z5|apply z0|apply z4)|exact HB.out)) hb);clear HO103;clear HB;have HO103:=n0_;have HO106:=n1_;have HB:=n2_;clear n0_ n1_ n2_;clear hb ho17;obtain ⟨Ao18,co18,eo18⟩:=Kd.z1x HO103.out;subst eo18;obtain ⟨Ao19,co19,eo19⟩:=Kd.z1x HO106.out;subst eo19)|((with_reducible refine zp (f:=35) rfl ?_);refine goesL_ (some 9) rfl rfl Try.func35 (by kernel_rfl) rfl #[.int .i64 2,.slice Ao18 y101.length co18,.slice Ao19 y104.length co19] rfl (by (try simp only [List.map_toArray,List.map_cons,List.map_nil]);first|done|rfl|(simp only [List.length_drop,List.length_take];rfl)) ?_;(with_reducible refine (z10.calls k 2 _ _ y101 _ _ y104 t107 t108 t109 _ ?side1 ?side2 ?side3 ?side4 A1.out).mono ?_);(case side1=>repeat (first|exact (Kd.z14 HO103.out).2.2|(with_reducible refine Kd.z16 ?_ _)|(with_reducible refine Kd.z17 ?_ _)|(with_reducible refine Kd.z1g ?_)));(case side2=>exact (Kd.z14 HO103.out).2.1);(case side3=>repeat (first|exact (Kd.z14 HO106.out).2.2|(with_reducible refine Kd.z16 ?_ _)|(with_reducible refine Kd.z17 ?_ _)|(with_reducible refine Kd.z1g ?_)));(case side4=>exact (Kd.z14 HO106.out).2.1);rintro e w20 ⟨rfl,hb⟩;refine ⟨_,rfl,?_⟩;have n0_:=z3.mk (Kd.z1e (by (with_reducible repeat (first|apply Kd.zQ|apply Kd.zR|apply Kd.zZ));exact HO103.out) hb);have n1_:=z3.mk (Kd.z1e (by (with_reducible repeat (first|apply Kd.zQ|apply Kd.zR|apply Kd.zZ));exact HO106.out) hb);have n2_:=z3.mk (zd (by repeat (first|(with_reducible first|exact HB.out|apply z5|apply z0|apply z4)|exact HB.out)) hb);clear HO103;clear HO106;clear HB;have HO103:=n0_;have HO106:=n1_;have HB:=n2_;clear n0_ n1_ n2_;(try clear hb);(try clear hb2);(try clear hk);(try clear hi))|((with_reducible refine zy (N:=1) rfl ?_);refine zv ?hg (N:=1) ?hd (cs:=#[.int .u64 0,.int .u64 0]) (t:=51) ?hr ?_;(case hd=>rfl);(case hg=>rfl);(case hr=>first|(go_simp;done)|(go_simp;rfl));intro gb110 hg w21 hbox hb;have n0_:=z3.mk (Kd.z1e (Kd.z1D (by (with_reducible repeat (first|apply Kd.zQ|apply Kd.zR|apply Kd.zZ));exact HO103.out) gb110 (Nat.le_of_eq hg.symm)) hb);have n1_:=z3.mk (Kd.z1e (Kd.z1D (by (with_reducible repeat (first|apply Kd.zQ|apply Kd.zR|apply Kd.zZ));exact HO106.out) gb110 (Nat.le_of_eq hg.symm)) hb);have n2_:=z3.mk (zd (by repeat (first|(with_reducible first|exact HB.out|apply z5|apply z0|apply z4)|exact HB.out)) hb);have n3_:=z3.mk (hbox);have n4_:=z3.mk ((by rw [hg];exact (ze (by repeat (first|(with_reducible first|exact HB.out|apply z5|apply z0|apply z4)|exact HB.out))) : w.heap.size ≤ gb110));have n5_:=z3.mk ((by rw [hg];exact (ze (by repeat (first|(with_reducible first|exact HB.out|apply z5|apply z0|apply z4)|exact HB.out))) : w.heap.size ≤ gb110));clear HO103;clear HO106;clear HB;have HO103:=n0_;have HO106:=n1_;have HB:=n2_;have BK110:=n3_;have GW110:=n4_;have GE110:=n5_;clear n0_ n1_ n2_ n3_ n4_ n5_;clear hb hbox hg;have hcz22_0 : w21.cell? ⟨gb110,0,none⟩ = some (.int .u64 0):=(z9 BK110.out 0).trans rfl;have hcz22_1 : w21.cell? ⟨gb110,1,none⟩ = some (.int .u64 0):=(z9 BK110.out 1).trans rfl;have hfz22_0:=za BK110.out 0;have hfz22_1:=za BK110.out 1))
   go_ret
   exact ⟨by first|rfl|(simp [zh,zi] <;> rfl)|(simp [*,zh,zi] <;> rfl),by repeat (first|(with_reducible first|exact HB.out|apply z5|apply z0|apply z4|refine z7 ?_ GE110.out)|exact HB.out)⟩
 rw [if_pos c3] at H
 have c3b0 : (t107 == 0 && (t108 == 3)) = true:=c3
 (try (have c3b1 : decide (t107 = 0 && (t108 == 3)) = true:=by simpa using c3))
 (try (have c3b2 : (t107 == 0 && (t108 == 3)) = true:=by simpa using c3))
 clear c3
 replace H:=Option.bind_eq_some_iff.mp H
 obtain ⟨t111,A40,H⟩:=H
 replace H : (some (t111 == 3)) = some r:=H
 have A4:=z3.mk A40
 clear A40
 obtain rfl:=Option.some.inj H
 go_enter Try.func34,Try.ntmps34
 go_wp2_with (first|((with_reducible refine zy (N:=6) rfl ?_);refine Kd.z3n k51 _ 51 ?hg (N:=6) ?hd (xs:=([(⟨0,1⟩ : S51),(⟨0,2⟩ : S51)] : List (S51))) (inner:=[.int .u64 0,.int .u64 1,.int .u64 0,.int .u64 2]) (ok:=fun _=>True) (okp:=fun _=>True) ?hr ?hp (fun _ hk=>hk) trivial (Below.refl _ _) (Nat.le_refl _) (by simp) ?_;(case hd=>rfl);(case hg=>rfl);(case hr=>first|(go_simp;done)|(go_simp;rfl));(case hp=>exact (Reps.c2 (show Kd.M k51 _ _ _ (⟨0,1⟩ : S51) [.int .u64 0,.int .u64 1] from (z1H _ _ _ (⟨0,1⟩ : S51) )) (Reps.c2 (show Kd.M k51 _ _ _ (⟨0,2⟩ : S51) [.int .u64 0,.int .u64 2] from (z1H _ _ _ (⟨0,2⟩ : S51) )) (Reps.none _ _))));intro v102 w5 ho6 hb hg_ hnew_;clear hg_ hnew_;(first|rw [← Ny101.out] at ho6|(simp only [Int.reduceToNat] at ho6;rw [← Ny101.out] at ho6));have n0_:=z3.mk (Kd.z1G ho6 (ze (by repeat (first|(with_reducible first|exact HB.out|apply z5|apply z0|apply z4)|exact HB.out))));have n1_:=z3.mk (zd (by repeat (first|(with_reducible first|exact HB.out|apply z5|apply z0|apply z4)|exact HB.out)) hb);clear HB;have HO103:=n0_;have HB:=n1_;clear n0_ n1_;clear hb ho6)|((with_reducible refine zy (N:=8) rfl ?_);refine Kd.z3n k51 _ 51 ?hg (N:=8) ?hd (xs:=([(⟨0,3⟩ : S51)] : List (S51))) (inner:=[.int .u64 0,.int .u64 3]) (ok:=fun _=>True) (okp:=fun _=>True) ?hr ?hp (fun _ hk=>hk) trivial (Below.refl _ _) (Nat.le_refl _) (by simp) ?_;(case hd=>rfl);(case hg=>rfl);(case hr=>first|(go_simp;done)|(go_simp;rfl));(case hp=>exact (Reps.c2 (show Kd.M k51 _ _ _ (⟨0,3⟩ : S51) [.int .u64 0,.int .u64 3] from (z1H _ _ _ (⟨0,3⟩ : S51) )) (Reps.none _ _)));intro v105 w7 ho8 hb hg_ hnew_;clear hg_ hnew_;(first|rw [← Ny104.out] at ho8|(simp only [Int.reduceToNat] at ho8;rw [← Ny104.out] at ho8));have n0_:=z3.mk (Kd.z3m (by (with_reducible repeat (first|apply Kd.zQ|apply Kd.zR|apply Kd.zZ));exact HO103.out) (Kd.z4J ho8) hb);have n1_:=z3.mk (Kd.z1G (Kd.z4L ho8 (Kd.R_lt (by (with_reducible repeat (first|apply Kd.zQ|apply Kd.zR|apply Kd.zZ));exact HO103.out))) (ze (by repeat (first|(with_reducible first|exact HB.out|apply z5|apply z0|apply z4)|exact HB.out))));have n2_:=z3.mk (zd (by repeat (first|(with_reducible first|exact HB.out|apply z5|apply z0|apply z4)|exact HB.out)) hb);clear HO103;clear HB;have HO103:=n0_;have HO106:=n1_;have HB:=n2_;clear n0_ n1_ n2_;clear hb ho8;obtain ⟨Ao9,co9,eo9⟩:=Kd.z1x HO103.out;subst eo9;obtain ⟨Ao10,co10,eo10⟩:=Kd.z1x HO106.out;subst eo10)|((with_reducible refine zp (f:=35) rfl ?_);refine goesL_ (some 9) rfl rfl Try.func35 (by kernel_rfl) rfl #[.int .i64 2,.slice Ao9 y101.length co9,.slice Ao10 y104.length co10] rfl (by (try simp only [List.map_toArray,List.map_cons,List.map_nil]);first|done|rfl|(simp only [List.length_drop,List.length_take];rfl)) ?_;(with_reducible refine (z10.calls k 2 _ _ y101 _ _ y104 t107 t108 t109 _ ?side1 ?side2 ?side3 ?side4 A1.out).mono ?_);(case side1=>repeat (first|exact (Kd.z14 HO103.out).2.2|(with_reducible refine Kd.z16 ?_ _)|(with_reducible refine Kd.z17 ?_ _)|(with_reducible refine Kd.z1g ?_)));(case side2=>exact (Kd.z14 HO103.out).2.1);(case side3=>repeat (first|exact (Kd.z14 HO106.out).2.2|(with_reducible refine Kd.z16 ?_ _)|(with_reducible refine Kd.z17 ?_ _)|(with_reducible refine Kd.z1g ?_)));(case side4=>exact (Kd.z14 HO106.out).2.1);rintro e w11 ⟨rfl,hb⟩;refine ⟨_,rfl,?_⟩;have n0_:=z3.mk (Kd.z1e (by (with_reducible repeat (first|apply Kd.zQ|apply Kd.zR|apply Kd.zZ));exact HO103.out) hb);have n1_:=z3.mk (Kd.z1e (by (with_reducible repeat (first|apply Kd.zQ|apply Kd.zR|apply Kd.zZ));exact HO106.out) hb);have n2_:=z3.mk (zd (by repeat (first|(with_reducible first|exact HB.out|apply z5|apply z0|apply z4)|exact HB.out)) hb);clear HO103;clear HO106;clear HB;have HO103:=n0_;have HO106:=n1_;have HB:=n2_;clear n0_ n1_ n2_;(try clear hb);(try clear hb2);(try clear hk);(try clear hi))|((with_reducible refine zy (N:=1) rfl ?_);refine zv ?hg (N:=1) ?hd (cs:=#[.int .u64 0,.int .u64 0]) (t:=51) ?hr ?_;(case hd=>rfl);(case hg=>rfl);(case hr=>first|(go_simp;done)|(go_simp;rfl));intro gb110 hg w12 hbox hb;have n0_:=z3.mk (Kd.z1e (Kd.z1D (by (with_reducible repeat (first|apply Kd.zQ|apply Kd.zR|apply Kd.zZ));exact HO103.out) gb110 (Nat.le_of_eq hg.symm)) hb);have n1_:=z3.mk (Kd.z1e (Kd.z1D (by (with_reducible repeat (first|apply Kd.zQ|apply Kd.zR|apply Kd.zZ));exact HO106.out) gb110 (Nat.le_of_eq hg.symm)) hb);have n2_:=z3.mk (zd (by repeat (first|(with_reducible first|exact HB.out|apply z5|apply z0|apply z4)|exact HB.out)) hb);have n3_:=z3.mk (hbox);have n4_:=z3.mk ((by rw [hg];exact (ze (by repeat (first|(with_reducible first|exact HB.out|apply z5|apply z0|apply z4)|exact HB.out))) : w.heap.size ≤ gb110));have n5_:=z3.mk ((by rw [hg];exact (ze (by repeat (first|(with_reducible first|exact HB.out|apply z5|apply z0|apply z4)|exact HB.out))) : w.heap.size ≤ gb110));clear HO103;clear HO106;clear HB;have HO103:=n0_;have HO106:=n1_;have HB:=n2_;have BK110:=n3_;have GW110:=n4_;have GE110:=n5_;clear n0_ n1_ n2_ n3_ n4_ n5_;clear hb hbox hg;have hcz13_0 : w12.cell? ⟨gb110,0,none⟩ = some (.int .u64 0):=(z9 BK110.out 0).trans rfl;have hcz13_1 : w12.cell? ⟨gb110,1,none⟩ = some (.int .u64 0):=(z9 BK110.out 1).trans rfl;have hfz13_0:=za BK110.out 0;have hfz13_1:=za BK110.out 1)|(go_at_call 48;(with_reducible refine (zK.calls k 8 t111 _ A4.out).mono ?_);rintro e w' ⟨rfl,⟨nd,rfl⟩⟩))
 go_ret
 exact ⟨by first|rfl|(simp [zh,zi] <;> rfl)|(simp [*,zh,zi] <;> rfl),by repeat (first|(with_reducible first|exact HB.out|apply z5|apply z0|apply z4|refine z7 ?_ GE110.out)|exact HB.out)⟩
end Go.Proofs.Ytngcaphdkgihmaa.P
namespace Go.Proofs.Ytngcaphdkgihmaa.P
open Go.RowKit Go.Proofs.YtngcaphdkgihmaaW.PrintWords Go.Proofs.YtngcaphdkgihmaaW.PrintLast Go.Proofs.YtngcaphdkgihmaaW.PrintMore
attribute [local go_sem] zS zU z11 z12 zM zN zT zV   -- for this text's walks alone
set_option linter.unusedVariables false
set_option linter.unusedSimpArgs false
attribute [local go_sem high] eqA51
mutual
def z8.j0 : Nat → Int → Bool → List (S51) → List (S51) → List (S51) → List (S51) → Option (Bool)
 | 0,_,_,_,_,_,_=>none
 | k + 1,x0,x42,x102000,x102001,x103000,x103001=>if x42 = true then ((zs.f k).bind fun t105=>(some t105)) else ((z10.f k x0 x102000 x103001).bind fun bt106=>((z10.f k x0 x102001 x103001).bind fun bt110=>(if bt106.2.2 = 0 then (z8.j1 k x0 (bt110.2.2 != 0) x102000 x102001 x103000 x103001 bt106.1 bt106.2.1 bt110.1 bt110.2.1) else (z8.j1 k x0 true x102000 x102001 x103000 x103001 bt106.1 bt106.2.1 bt110.1 bt110.2.1))))
def z8.j1 : Nat → Int → Bool → List (S51) → List (S51) → List (S51) → List (S51) → Int → Int → Int → Int → Option (Bool)
 | 0,_,_,_,_,_,_,_,_,_,_=>none
 | k + 1,x0,x67,x102000,x102001,x103000,x103001,x110000,x110001,x114000,x114001=>if x67 = true then ((zs.f k).bind fun t114=>(some t114)) else (z8.l0 k x0 ([] : List (S51)) 0 x102000 x102001 x103000 x103001 x110000 x110001 x114000 x114001)
def z8.l0 : Nat → Int → List (S51) → Int → List (S51) → List (S51) → List (S51) → List (S51) → Int → Int → Int → Int → Option (Bool)
 | 0,_,_,_,_,_,_,_,_,_,_,_=>none
 | k + 1,x0,x11,x12,x102000,x102001,x103000,x103001,x110000,x110001,x114000,x114001=>if x12 < (x102000.length : Int) then (if 0 ≤ x12 then (if 0 < (x103000.length : Int) then (if x12 < (x102001.length : Int) then ((zD.f k x0 ((zu x103000 0).f0) ((zu x103000 0).f1) ((zu x102001 x12).f0) ((zu x102001 x12).f1)).bind fun bt118=>((z1c.f ((zu x102000 x12).f0) ((zu x102000 x12).f1) bt118.1 bt118.2).bind fun bt120=>(if x11.length < 8796093022208 then (z8.l0 k x0 (x11 ++ [(⟨bt120.1,bt120.2⟩ : S51)]) (wrap64 (x12 + 1)) x102000 x102001 x103000 x103001 x110000 x110001 x114000 x114001) else (none)))) else (none)) else (none)) else (none)) else ((z10.f k x0 x11 x103001).bind fun bt125=>((zs.f k).bind fun t129=>(if t129 = true then (if bt125.2.2 = 0 then (if 0 < (x103000.length : Int) then ((zD.f k x0 ((zu x103000 0).f0) ((zu x103000 0).f1) x114000 x114001).bind fun bt131=>((z1c.f x110000 x110001 bt131.1 bt131.2).bind fun bt133=>(some (bt125.1 == bt133.1 && (bt125.2.1 == bt133.2))))) else (none)) else (some false)) else (some false))))
end
def z8.f (k : Nat) (a0 : Int) (l1_0 : List (S51)) (l1_1 : List (S51)) (l2_0 : List (S51)) (l2_1 : List (S51)) : Option (Bool):=if (l1_0.length : Int) = (l1_1.length : Int) then (if (l1_0.length : Int) > 64 then (z8.j0 k a0 true l1_0 l1_1 l2_0 l2_1) else (if (l2_0.length : Int) = 1 then (if 0 < (l2_0.length : Int) then ((zg.f k a0 ((zu l2_0 0).f0) ((zu l2_0 0).f1)).bind fun t104=>(z8.j0 k a0 (!t104) l1_0 l1_1 l2_0 l2_1)) else (none)) else (z8.j0 k a0 true l1_0 l1_1 l2_0 l2_1))) else (z8.j0 k a0 true l1_0 l1_1 l2_0 l2_1)
theorem z8.zY : ∀ k,(∀ y0 y1 y2 y3 y4 y5,LeO (z8.j0 k y0 y1 y2 y3 y4 y5) (z8.j0 (k + 1) y0 y1 y2 y3 y4 y5)) ∧ (∀ y0 y1 y2 y3 y4 y5 y6 y7 y8 y9,LeO (z8.j1 k y0 y1 y2 y3 y4 y5 y6 y7 y8 y9) (z8.j1 (k + 1) y0 y1 y2 y3 y4 y5 y6 y7 y8 y9)) ∧ (∀ y0 y1 y2 y3 y4 y5 y6 y7 y8 y9 y10,LeO (z8.l0 k y0 y1 y2 y3 y4 y5 y6 y7 y8 y9 y10) (z8.l0 (k + 1) y0 y1 y2 y3 y4 y5 y6 y7 y8 y9 y10))
 | 0=>⟨fun _ _ _ _ _ _ r h=>by simp [z8.j0] at h,fun _ _ _ _ _ _ _ _ _ _ r h=>by simp [z8.j1] at h,fun _ _ _ _ _ _ _ _ _ _ _ r h=>by simp [z8.l0] at h⟩
 | k + 1=>by
  obtain ⟨ih0,ih1,ih2⟩:=z8.zY k
  refine ⟨?_,?_,?_⟩
  · intro y0 y1 y2 y3 y4 y5
    unfold z8.j0
    repeat' first
    | (with_reducible exact ih0 _ _ _ _ _ _)
    | (with_reducible exact ih1 _ _ _ _ _ _ _ _ _ _)
    | (with_reducible exact ih2 _ _ _ _ _ _ _ _ _ _ _)
    | (with_reducible exact z10.mono _ _ _ _)
    | (with_reducible exact zs.mono _)
    | (with_reducible exact zg.mono _ _ _ _)
    | (with_reducible exact zD.mono _ _ _ _ _ _)
    | (with_reducible exact LeO.refl _)
    | (with_reducible exact LeO.none _)
    | (with_reducible refine LeO.ite ?_ ?_)
    | (with_reducible refine LeO.bind ?_ (fun _=>?_))
    | exact ih0 _ _ _ _ _ _
    | exact ih1 _ _ _ _ _ _ _ _ _ _
    | exact ih2 _ _ _ _ _ _ _ _ _ _ _
    | exact z10.mono _ _ _ _
    | exact zs.mono _
    | exact zg.mono _ _ _ _
    | exact zD.mono _ _ _ _ _ _
    | exact LeO.none _
    | refine LeO.ite ?_ ?_
    | refine LeO.bind ?_ (fun _=>?_)
  · intro y0 y1 y2 y3 y4 y5 y6 y7 y8 y9
    unfold z8.j1
    repeat' first
    | (with_reducible exact ih0 _ _ _ _ _ _)
    | (with_reducible exact ih1 _ _ _ _ _ _ _ _ _ _)
    | (with_reducible exact ih2 _ _ _ _ _ _ _ _ _ _ _)
    | (with_reducible exact z10.mono _ _ _ _)
    | (with_reducible exact zs.mono _)
    | (with_reducible exact zg.mono _ _ _ _)
    | (with_reducible exact zD.mono _ _ _ _ _ _)
    | (with_reducible exact LeO.refl _)
    | (with_reducible exact LeO.none _)
    | (with_reducible refine LeO.ite ?_ ?_)
    | (with_reducible refine LeO.bind ?_ (fun _=>?_))
    | exact ih0 _ _ _ _ _ _
    | exact ih1 _ _ _ _ _ _ _ _ _ _
    | exact ih2 _ _ _ _ _ _ _ _ _ _ _
    | exact z10.mono _ _ _ _
    | exact zs.mono _
    | exact zg.mono _ _ _ _
    | exact zD.mono _ _ _ _ _ _
    | exact LeO.none _
    | refine LeO.ite ?_ ?_
    | refine LeO.bind ?_ (fun _=>?_)
  · intro y0 y1 y2 y3 y4 y5 y6 y7 y8 y9 y10
    unfold z8.l0
    repeat' first
    | (with_reducible exact ih0 _ _ _ _ _ _)
    | (with_reducible exact ih1 _ _ _ _ _ _ _ _ _ _)
    | (with_reducible exact ih2 _ _ _ _ _ _ _ _ _ _ _)
    | (with_reducible exact z10.mono _ _ _ _)
    | (with_reducible exact zs.mono _)
    | (with_reducible exact zg.mono _ _ _ _)
    | (with_reducible exact zD.mono _ _ _ _ _ _)
    | (with_reducible exact LeO.refl _)
    | (with_reducible exact LeO.none _)
    | (with_reducible refine LeO.ite ?_ ?_)
    | (with_reducible refine LeO.bind ?_ (fun _=>?_))
    | exact ih0 _ _ _ _ _ _
    | exact ih1 _ _ _ _ _ _ _ _ _ _
    | exact ih2 _ _ _ _ _ _ _ _ _ _ _
    | exact z10.mono _ _ _ _
    | exact zs.mono _
    | exact zg.mono _ _ _ _
    | exact zD.mono _ _ _ _ _ _
    | exact LeO.none _
    | refine LeO.ite ?_ ?_
    | refine LeO.bind ?_ (fun _=>?_)
theorem z8.mono : ∀ a0 a1 a2 a3 a4 k,LeO (z8.f k a0 a1 a2 a3 a4) (z8.f (k + 1) a0 a1 a2 a3 a4):=by
 intro a0 a1 a2 a3 a4 k
 obtain ⟨ih0,ih1,ih2⟩:=z8.zY k
 unfold z8.f
 repeat' first
  | (with_reducible exact ih0 _ _ _ _ _ _)
  | (with_reducible exact ih1 _ _ _ _ _ _ _ _ _ _)
  | (with_reducible exact ih2 _ _ _ _ _ _ _ _ _ _ _)
  | (with_reducible exact z10.mono _ _ _ _)
  | (with_reducible exact zs.mono _)
  | (with_reducible exact zg.mono _ _ _ _)
  | (with_reducible exact zD.mono _ _ _ _ _ _)
  | (with_reducible exact LeO.refl _)
  | (with_reducible exact LeO.none _)
  | (with_reducible refine LeO.ite ?_ ?_)
  | (with_reducible refine LeO.bind ?_ (fun _=>?_))
  | exact ih0 _ _ _ _ _ _
  | exact ih1 _ _ _ _ _ _ _ _ _ _
  | exact ih2 _ _ _ _ _ _ _ _ _ _ _
  | exact z10.mono _ _ _ _
  | exact zs.mono _
  | exact zg.mono _ _ _ _
  | exact zD.mono _ _ _ _ _ _
  | exact LeO.none _
  | refine LeO.ite ?_ ?_
  | refine LeO.bind ?_ (fun _=>?_)
def z8.T11 : Bool × List (List Nat × List Nat):=(true,[([],[]),([],[]),([1],[1]),([],[]),([2,3],[2,3]),([4],[4]),([],[]),([],[]),([7],[7]),([8],[8]),([9],[9]),([],[]),([11],[11]),([],[]),([12,13],[12,13]),([14],[14]),([6,10,15],[6,10,15]),([5,16,16],[5,16]),([17],[17]),([0,18,17],[0,18]),([19,19,0,1,2,3,4,5,6,7,8,9,10,11,12,13,14,15,16,17,18,19],[0,19])])
def z8.B11 : List Nat:=[0,0,2,0,14,30,0,0,128,384,896,0,2048,0,14336,30720,65472,131070,262142,524287,1048575]
theorem z8.tab11 : rtab .any (opsOf Try.f9 11) = z8.T11:=by kernel_rfl
theorem z8.bits11 : waitsOk z8.T11.2 z8.B11 = true:=by kernel_rfl
def z8.T13 : Bool × List (List Nat × List Nat):=(true,[([],[]),([0,0],[0]),([1],[1]),([2,1],[1,2]),([1,3],[1,3]),([4,1],[4]),([5],[5]),([5],[5]),([5],[5]),([5],[5]),([9,5],[5,9]),([10,5],[5,10]),([11,5],[5,11]),([5],[5]),([8,12,13,5,5],[5,8,12,13]),([7,14,14,5],[5,7,14]),([6,15,5],[5,6,15]),([5,16],[5,16]),([17,15,0,1,2,3,4,5,6,7,8,9,10,11,12,13,14,15,16,17],[17])])
def z8.B13 : List Nat:=[0,1,3,7,15,31,63,63,63,63,575,1599,3647,63,16191,32703,65535,131071,262143]
theorem z8.tab13 : rtab .any (opsOf Try.f9 13) = z8.T13:=by kernel_rfl
theorem z8.bits13 : waitsOk z8.T13.2 z8.B13 = true:=by kernel_rfl
set_option maxHeartbeats 8000000 in
set_option maxRecDepth 100000 in
theorem z8.calls (k : Nat) (a0 : Int) (A1_0 : Option Addr) (c1_0 : Nat) (l1_0 : List (S51)) (A1_1 : Option Addr) (c1_1 : Nat) (l1_1 : List (S51)) (A2_0 : Option Addr) (c2_0 : Nat) (l2_0 : List (S51)) (A2_1 : Option Addr) (c2_1 : Nat) (l2_1 : List (S51)) (r : Bool) (w : World) (hr1_0 : Kd.C k51 w A1_0 l1_0.length l1_0) (hc1_0 : l1_0.length ≤ c1_0) (hr1_1 : Kd.C k51 w A1_1 l1_1.length l1_1) (hc1_1 : l1_1.length ≤ c1_1) (hr2_0 : Kd.C k51 w A2_0 l2_0.length l2_0) (hc2_0 : l2_0.length ≤ c2_0) (hr2_1 : Kd.C k51 w A2_1 l2_1.length l2_1) (hc2_1 : l2_1.length ≤ c2_1) (h : z8.f k a0 l1_0 l1_1 l2_0 l2_1 = some r) :
 Calls Try.prog 9 #[.int .i64 a0,.agg #[.slice A1_0 l1_0.length c1_0,.slice A1_1 l1_1.length c1_1],.agg #[.slice A2_0 l2_0.length c2_0,.slice A2_1 l2_1.length c2_1]] w fun e w'=>e = .returned (.bool r) ∧ Below w.heap.size w w':=by
 have hu64:=Try.underlying64
 have hu66:=Try.underlying66
 have hu51:=Try.underlying51
 have HR1_0:=z3.mk hr1_0
 have HC1_0:=z3.mk hc1_0
 clear hr1_0 hc1_0
 have HR1_1:=z3.mk hr1_1
 have HC1_1:=z3.mk hc1_1
 clear hr1_1 hc1_1
 have HR2_0:=z3.mk hr2_0
 have HC2_0:=z3.mk hc2_0
 clear hr2_0 hc2_0
 have HR2_1:=z3.mk hr2_1
 have HC2_1:=z3.mk hc2_1
 clear hr2_1 hc2_1
 have HB:=z3.mk (Below.refl w.heap.size w)
 have H : (if (l1_0.length : Int) = (l1_1.length : Int) then (if (l1_0.length : Int) > 64 then (z8.j0 k a0 true l1_0 l1_1 l2_0 l2_1) else (if (l2_0.length : Int) = 1 then (if 0 < (l2_0.length : Int) then ((zg.f k a0 ((zu l2_0 0).f0) ((zu l2_0 0).f1)).bind fun t104=>(z8.j0 k a0 (!t104) l1_0 l1_1 l2_0 l2_1)) else (none)) else (z8.j0 k a0 true l1_0 l1_1 l2_0 l2_1))) else (z8.j0 k a0 true l1_0 l1_1 l2_0 l2_1)) = some r:=h
 clear h
 have HC4:=z3.mk H
 clear H
 go_enter Try.func9,Try.ntmps9
 go_upto_region 1 with (first|((with_reducible refine zy (N:=4) rfl ?_);(try (refine z1z (by rfl) ?_;dsimp only));refine zv ?hg (N:=4) ?hd (cs:=#[.slice A1_0 l1_0.length c1_0,.slice A1_1 l1_1.length c1_1]) (t:=64) ?hr ?_;(case hd=>rfl);(case hg=>rfl);(case hr=>first|(go_simp;done)|(go_simp;rfl));intro gb101 hg w5 hbox hb;have n0_:=z3.mk (zd (by repeat (first|(with_reducible first|exact HB.out|apply z5|apply z0|apply z4)|exact HB.out)) hb);have n1_:=z3.mk (hbox);have n2_:=z3.mk ((by rw [hg];exact (ze (by repeat (first|(with_reducible first|exact HB.out|apply z5|apply z0|apply z4)|exact HB.out))) : w.heap.size ≤ gb101));have n3_:=z3.mk ((by rw [hg];exact (ze (by repeat (first|(with_reducible first|exact HB.out|apply z5|apply z0|apply z4)|exact HB.out))) : w.heap.size ≤ gb101));clear HB;have HB:=n0_;have BK101:=n1_;have GW101:=n2_;have GE101:=n3_;clear n0_ n1_ n2_ n3_;clear hb hbox hg)|((with_reducible refine zy (N:=5) rfl ?_);(try (refine z1z (by rfl) ?_;dsimp only));refine zv ?hg (N:=5) ?hd (cs:=#[.slice A2_0 l2_0.length c2_0,.slice A2_1 l2_1.length c2_1]) (t:=66) ?hr ?_;(case hd=>rfl);(case hg=>rfl);(case hr=>first|(go_simp;done)|(go_simp;rfl));intro gb102 hg w6 hbox hb;have n0_:=z3.mk (zb (g:=gb101) (o:=.cells #[.slice A1_0 l1_0.length c1_0,.slice A1_1 l1_1.length c1_1] 64 (0,0)) (by (with_reducible repeat (first|refine z2 ?_ _|refine z6 ?_|refine z1 ?_ _));exact BK101.out) hb);have n1_:=z3.mk (zd (by repeat (first|(with_reducible first|exact HB.out|apply z5|apply z0|apply z4|refine z7 ?_ GE101.out)|exact HB.out)) hb);have n2_:=z3.mk (hbox);have n3_:=z3.mk ((by rw [hg];exact (ze (by repeat (first|(with_reducible first|exact HB.out|apply z5|apply z0|apply z4|refine z7 ?_ GE101.out)|exact HB.out))) : w.heap.size ≤ gb102));have n4_:=z3.mk ((by rw [hg];exact (ze (by repeat (first|(with_reducible first|exact HB.out|apply z5|apply z0|apply z4|refine z7 ?_ GE101.out)|exact HB.out))) : w.heap.size ≤ gb102));have n5_:=z3.mk ((by rw [hg];exact Nat.ne_of_lt (zz (g:=gb101) (o:=.cells #[.slice A1_0 l1_0.length c1_0,.slice A1_1 l1_1.length c1_1] 64 (0,0)) (by (with_reducible repeat (first|refine z2 ?_ _|refine z6 ?_|refine z1 ?_ _));exact BK101.out)) : gb101 ≠ gb102));have n6_:=z3.mk ((by rw [hg];exact Nat.ne_of_gt (zz (g:=gb101) (o:=.cells #[.slice A1_0 l1_0.length c1_0,.slice A1_1 l1_1.length c1_1] 64 (0,0)) (by (with_reducible repeat (first|refine z2 ?_ _|refine z6 ?_|refine z1 ?_ _));exact BK101.out)) : gb102 ≠ gb101));clear BK101;clear HB;have BK101:=n0_;have HB:=n1_;have BK102:=n2_;have GW102:=n3_;have GE102:=n4_;have NB101_102:=n5_;have NB102_101:=n6_;clear n0_ n1_ n2_ n3_ n4_ n5_ n6_;clear hb hbox hg))
 (try simp only [Act.put,List.setIfInBounds_toArray,List.set_cons_zero,List.set_cons_succ])
 go_cut [42] (fun v42 wc=>∃ (kq : Nat) (x42_3 : Bool),v42 = .bool x42_3 ∧ z3 (z8.j0 kq a0 x42_3 l1_0 l1_1 l2_0 l2_1 = some r) ∧ z3 (kq ≤ k) ∧ z3 (wc.heap[gb101]? = some (.cells #[(.slice A1_0 l1_0.length c1_0),(.slice A1_1 l1_1.length c1_1)] 64 (0,0))) ∧ z3 (wc.heap[gb102]? = some (.cells #[(.slice A2_0 l2_0.length c2_0),(.slice A2_1 l2_1.length c2_1)] 66 (0,0))) ∧ z3 (Below w.heap.size w wc))
 case first =>
  have H:=HC4.out
  clear HC4
  by_cases c7 : (l1_0.length : Int) = (l1_1.length : Int)
  rotate_left
  · rw [if_neg c7] at H
    have c7b0 : ((l1_0.length : Int) == (l1_1.length : Int)) = false:=beq_eq_false_iff_ne.mpr c7
    have c7b1 : ((l1_0.length : Int) != (l1_1.length : Int)) = true:=bne_iff_ne.mpr c7
    have c7b2 : (l1_0.length == l1_1.length) = false:=by first|simpa using c7|(simp at c7 ⊢;omega)
    (first|rw [c7b0]|(simp only [zx,zC];rw [c7b0])|skip)
    have H':=z3.mk H
    clear H
    have hnb21:=NB101_102.out
    have hnc21:=NB102_101.out
    have hcz22_0 : w6.cell? ⟨gb101,0,none⟩ = some (.slice A1_0 l1_0.length c1_0):=(z9 BK101.out 0).trans rfl
    have hcz22_1 : w6.cell? ⟨gb101,1,none⟩ = some (.slice A1_1 l1_1.length c1_1):=(z9 BK101.out 1).trans rfl
    have hfz22_0:=za BK101.out 0
    have hfz22_1:=za BK101.out 1
    go_wp2
    go_meet
    case rel=>exact ⟨_,(true),(by first|rfl|(simp;done)|(simp [*];done)),H',⟨by first|omega|exact Nat.le_refl _⟩,⟨by (with_reducible repeat (first|refine z2 ?_ _|refine z6 ?_|refine z1 ?_ _));exact BK101.out⟩,⟨by (with_reducible repeat (first|refine z2 ?_ _|refine z6 ?_|refine z1 ?_ _));exact BK102.out⟩,⟨by repeat (first|(with_reducible first|exact HB.out|apply z5|apply z0|apply z4|refine z7 ?_ GE101.out|refine z7 ?_ GE102.out)|exact HB.out)⟩⟩
  rw [if_pos c7] at H
  have c7b0 : ((l1_0.length : Int) == (l1_1.length : Int)) = true:=beq_iff_eq.mpr c7
  have c7b1 : ((l1_0.length : Int) != (l1_1.length : Int)) = false:=bne_eq_false_iff_eq.mpr c7
  have c7b2 : (l1_0.length == l1_1.length) = true:=by first|simpa using c7|(simp at c7 ⊢;omega)
  clear c7
  (first|rw [c7b0]|(simp only [zx,zC];rw [c7b0])|skip)
  by_cases c8 : (l1_0.length : Int) > 64
  · rw [if_pos c8] at H
    have c8b0 : decide (64 < (l1_0.length : Int)) = true:=decide_eq_true c8
    have c8b1 : decide (64 < l1_0.length) = true:=decide_eq_true (by omega)
    clear c8
    have H':=z3.mk H
    clear H
    have hnb9:=NB101_102.out
    have hnc9:=NB102_101.out
    have hcz10_0 : w6.cell? ⟨gb101,0,none⟩ = some (.slice A1_0 l1_0.length c1_0):=(z9 BK101.out 0).trans rfl
    have hcz10_1 : w6.cell? ⟨gb101,1,none⟩ = some (.slice A1_1 l1_1.length c1_1):=(z9 BK101.out 1).trans rfl
    have hfz10_0:=za BK101.out 0
    have hfz10_1:=za BK101.out 1
    go_wp2
    go_meet
    case rel=>exact ⟨_,(true),(by first|rfl|(simp;done)|(simp [*];done)),H',⟨by first|omega|exact Nat.le_refl _⟩,⟨by (with_reducible repeat (first|refine z2 ?_ _|refine z6 ?_|refine z1 ?_ _));exact BK101.out⟩,⟨by (with_reducible repeat (first|refine z2 ?_ _|refine z6 ?_|refine z1 ?_ _));exact BK102.out⟩,⟨by repeat (first|(with_reducible first|exact HB.out|apply z5|apply z0|apply z4|refine z7 ?_ GE101.out|refine z7 ?_ GE102.out)|exact HB.out)⟩⟩
  rw [if_neg c8] at H
  have c8b0 : decide (64 < (l1_0.length : Int)) = false:=decide_eq_false c8
  have c8b1 : decide (64 < l1_0.length) = false:=decide_eq_false (by omega)
  clear c8
  by_cases c11 : (l2_0.length : Int) = 1
  rotate_left
  · rw [if_neg c11] at H
    have c11b0 : ((l2_0.length : Int) == 1) = false:=beq_eq_false_iff_ne.mpr c11
    have c11b1 : ((l2_0.length : Int) != 1) = true:=bne_iff_ne.mpr c11
    have H':=z3.mk H
    clear H
    have hnb18:=NB101_102.out
    have hnc18:=NB102_101.out
    have hcz19_0 : w6.cell? ⟨gb101,0,none⟩ = some (.slice A1_0 l1_0.length c1_0):=(z9 BK101.out 0).trans rfl
    have hcz19_1 : w6.cell? ⟨gb101,1,none⟩ = some (.slice A1_1 l1_1.length c1_1):=(z9 BK101.out 1).trans rfl
    have hfz19_0:=za BK101.out 0
    have hfz19_1:=za BK101.out 1
    have hcz20_0 : w6.cell? ⟨gb102,0,none⟩ = some (.slice A2_0 l2_0.length c2_0):=(z9 BK102.out 0).trans rfl
    have hcz20_1 : w6.cell? ⟨gb102,1,none⟩ = some (.slice A2_1 l2_1.length c2_1):=(z9 BK102.out 1).trans rfl
    have hfz20_0:=za BK102.out 0
    have hfz20_1:=za BK102.out 1
    go_wp2
    go_meet
    case rel=>exact ⟨_,(true),(by first|rfl|(simp;done)|(simp [*];done)),H',⟨by first|omega|exact Nat.le_refl _⟩,⟨by (with_reducible repeat (first|refine z2 ?_ _|refine z6 ?_|refine z1 ?_ _));exact BK101.out⟩,⟨by (with_reducible repeat (first|refine z2 ?_ _|refine z6 ?_|refine z1 ?_ _));exact BK102.out⟩,⟨by repeat (first|(with_reducible first|exact HB.out|apply z5|apply z0|apply z4|refine z7 ?_ GE101.out|refine z7 ?_ GE102.out)|exact HB.out)⟩⟩
  rw [if_pos c11] at H
  have c11b0 : ((l2_0.length : Int) == 1) = true:=beq_iff_eq.mpr c11
  have c11b1 : ((l2_0.length : Int) != 1) = false:=bne_eq_false_iff_eq.mpr c11
  clear c11
  by_cases c12 : 0 < (l2_0.length : Int)
  rotate_left
  · rw [if_neg c12] at H
    exact absurd H (by simp)
  rw [if_pos c12] at H
  have c12b0 : decide (0 < (l2_0.length : Int)) = true:=decide_eq_true c12
  have c12b1 : decide (0 < l2_0.length) = true:=decide_eq_true (by omega)
  clear c12
  replace H:=Option.bind_eq_some_iff.mp H
  obtain ⟨t104,A130,H⟩:=H
  replace H : (z8.j0 k a0 (!t104) l1_0 l1_1 l2_0 l2_1) = some r:=H
  have A13:=z3.mk A130
  clear A130
  have H':=z3.mk H
  clear H
  have hnb14:=NB101_102.out
  have hnc14:=NB102_101.out
  have hcz15_0 : w6.cell? ⟨gb101,0,none⟩ = some (.slice A1_0 l1_0.length c1_0):=(z9 BK101.out 0).trans rfl
  have hcz15_1 : w6.cell? ⟨gb101,1,none⟩ = some (.slice A1_1 l1_1.length c1_1):=(z9 BK101.out 1).trans rfl
  have hfz15_0:=za BK101.out 0
  have hfz15_1:=za BK101.out 1
  have hcz16_0 : w6.cell? ⟨gb102,0,none⟩ = some (.slice A2_0 l2_0.length c2_0):=(z9 BK102.out 0).trans rfl
  have hcz16_1 : w6.cell? ⟨gb102,1,none⟩ = some (.slice A2_1 l2_1.length c2_1):=(z9 BK102.out 1).trans rfl
  have hfz16_0:=za BK102.out 0
  have hfz16_1:=za BK102.out 1
  have p103 : 0 ≤ (0 : Int):=(by omega)
  have q103 : 0 < (l2_0.length : Int):=of_decide_eq_true (by first|(with_reducible assumption)|assumption)
  obtain ⟨ad103,e103,hx103_0,hx103_1⟩:=z1S HR2_0.out 0 p103 q103
  cases e103
  have qi103 : (0 < l2_0.length) = True:=eq_true (by omega)
  (try rw [show ((0 : Int)).toNat = 0 from rfl] at hx103_0)
  (try rw [show 0 * 2 = 0 from rfl] at hx103_0)
  (try rw [Addr.add_zero'] at hx103_0)
  (try rw [show ((0 : Int)).toNat = 0 from rfl] at hx103_1)
  (try rw [show 0 * 2 = 0 from rfl] at hx103_1)
  (try rw [Addr.add_zero'] at hx103_1)
  replace hx103_0:=(HB.out.cell (World.block_lt_of_cell? w _ hx103_0)).trans hx103_0
  replace hx103_1:=(HB.out.cell (World.block_lt_of_cell? w _ hx103_1)).trans hx103_1
  replace p103:=eq_true p103
  replace q103:=eq_true q103
  go_wp2_with (first|(go_at_call 39;(with_reducible refine (zg.calls k a0 ((zu l2_0 0).f0) ((zu l2_0 0).f1) t104 _ A13.out).mono ?_);rintro e w17 ⟨rfl,hb⟩;have n0_:=z3.mk (zb (g:=gb101) (o:=.cells #[.slice A1_0 l1_0.length c1_0,.slice A1_1 l1_1.length c1_1] 64 (0,0)) (by (with_reducible repeat (first|refine z2 ?_ _|refine z6 ?_|refine z1 ?_ _));exact BK101.out) hb);have n1_:=z3.mk (zb (g:=gb102) (o:=.cells #[.slice (some ad103) l2_0.length c2_0,.slice A2_1 l2_1.length c2_1] 66 (0,0)) (by (with_reducible repeat (first|refine z2 ?_ _|refine z6 ?_|refine z1 ?_ _));exact BK102.out) hb);have n2_:=z3.mk (zd (by repeat (first|(with_reducible first|exact HB.out|apply z5|apply z0|apply z4|refine z7 ?_ GE101.out|refine z7 ?_ GE102.out)|exact HB.out)) hb);clear BK101;clear BK102;clear HB;have BK101:=n0_;have BK102:=n1_;have HB:=n2_;clear n0_ n1_ n2_;(try clear hb);(try clear hb2);(try clear hk);(try clear hi)))
  go_meet
  case rel=>exact ⟨_,(!t104),(by first|rfl|(simp;done)|(simp [*];done)),H',⟨by first|omega|exact Nat.le_refl _⟩,⟨by (with_reducible repeat (first|refine z2 ?_ _|refine z6 ?_|refine z1 ?_ _));exact BK101.out⟩,⟨by (with_reducible repeat (first|refine z2 ?_ _|refine z6 ?_|refine z1 ?_ _));exact BK102.out⟩,⟨by repeat (first|(with_reducible first|exact HB.out|apply z5|apply z0|apply z4|refine z7 ?_ GE101.out|refine z7 ?_ GE102.out)|exact HB.out)⟩⟩
 case rest =>
  clear HC4
  (try clear c1);(try clear p1);(try clear q1);(try clear hx1);(try clear qi1);(try clear c2);(try clear p2);(try clear c7);(try clear c7b0);(try clear c7b1);(try clear c7b2);(try clear c8);(try clear c8b0);(try clear c8b1);(try clear c9);(try clear p10);(try clear q10);(try clear hx10);(try clear qi10);(try clear c11);(try clear c11b0);(try clear c11b1);(try clear c12);(try clear c12b0);(try clear c12b1);(try clear c14);(try clear c18);(try clear c21);(try clear hcz10_0);(try clear hcz10_1);(try clear hcz15_0);(try clear hcz15_1);(try clear hcz16_0);(try clear hcz16_1);(try clear hcz19_0);(try clear hcz19_1);(try clear hcz20_0);(try clear hcz20_1);(try clear hcz22_0);(try clear hcz22_1);(try clear hfz10_0);(try clear hfz10_1);(try clear hfz15_0);(try clear hfz15_1);(try clear hfz16_0);(try clear hfz16_1);(try clear hfz19_0);(try clear hfz19_1);(try clear hfz20_0);(try clear hfz20_1);(try clear hfz22_0);(try clear hfz22_1);(try clear hx103_0);(try clear hx103_1);(try clear p103);(try clear q103)
  obtain ⟨kq,x42_3,rfl,HA,HJ3,BK101,BK102,HB⟩:=hcut
  cases kq with
  | zero=>exact absurd HA.out (by simp [z8.j0])
  | succ kj3 =>
   have H:=HA.out
   clear HA
   simp only [z8.j0] at H
   by_cases c23 : x42_3 = true
   · subst c23
     have H1 : ((zs.f kj3).bind fun t105=>(some t105)) = some r:=by rw [if_pos rfl] at H;exact H
     clear H
     have H:=H1
     clear H1
     replace H:=Option.bind_eq_some_iff.mp H
     obtain ⟨t105,A240,H⟩:=H
     replace H : (some t105) = some r:=H
     have A24:=z3.mk A240
     clear A240
     obtain rfl:=Option.some.inj H
     go_wp2_with (first|((with_reducible refine zp (f:=34) rfl ?_);refine goesL_ (some 43) rfl rfl Try.func34 (by kernel_rfl) rfl #[] rfl (by (try simp only [List.map_toArray,List.map_cons,List.map_nil]);first|done|rfl|(simp only [List.length_drop,List.length_take];rfl)) ?_;(with_reducible refine (zs.calls kj3  t105 _ A24.out).mono ?_);rintro e w25 ⟨rfl,hb⟩;refine ⟨_,rfl,?_⟩;have n0_:=z3.mk (zb (g:=gb101) (o:=.cells #[.slice A1_0 l1_0.length c1_0,.slice A1_1 l1_1.length c1_1] 64 (0,0)) (by (with_reducible repeat (first|refine z2 ?_ _|refine z6 ?_|refine z1 ?_ _));exact BK101.out) hb);have n1_:=z3.mk (zb (g:=gb102) (o:=.cells #[.slice A2_0 l2_0.length c2_0,.slice A2_1 l2_1.length c2_1] 66 (0,0)) (by (with_reducible repeat (first|refine z2 ?_ _|refine z6 ?_|refine z1 ?_ _));exact BK102.out) hb);have n2_:=z3.mk (zd (by repeat (first|(with_reducible first|exact HB.out|apply z5|apply z0|apply z4|refine z7 ?_ GE101.out|refine z7 ?_ GE102.out)|exact HB.out)) hb);clear BK101;clear BK102;clear HB;have BK101:=n0_;have BK102:=n1_;have HB:=n2_;clear n0_ n1_ n2_;(try clear hb);(try clear hb2);(try clear hk);(try clear hi)))
     go_ret
     exact ⟨by first|rfl|(simp [zh,zi] <;> rfl)|(simp [*,zh,zi] <;> rfl),by repeat (first|(with_reducible first|exact HB.out|apply z5|apply z0|apply z4|refine z7 ?_ GE101.out|refine z7 ?_ GE102.out)|exact HB.out)⟩
   replace c23:=Bool.eq_false_iff.mpr c23
   subst c23
   have H1 : ((z10.f kj3 a0 l1_0 l2_1).bind fun bt106=>((z10.f kj3 a0 l1_1 l2_1).bind fun bt110=>(if bt106.2.2 = 0 then (z8.j1 kj3 a0 (bt110.2.2 != 0) l1_0 l1_1 l2_0 l2_1 bt106.1 bt106.2.1 bt110.1 bt110.2.1) else (z8.j1 kj3 a0 true l1_0 l1_1 l2_0 l2_1 bt106.1 bt106.2.1 bt110.1 bt110.2.1)))) = some r:=by rw [if_neg (show ¬ (false = true) by decide)] at H;exact H
   clear H
   have H:=H1
   clear H1
   replace H:=Option.bind_eq_some_iff.mp H
   obtain ⟨⟨t106,t107,t108⟩,A260,H⟩:=H
   replace H : ((z10.f kj3 a0 l1_1 l2_1).bind fun bt110=>(if t108 = 0 then (z8.j1 kj3 a0 (bt110.2.2 != 0) l1_0 l1_1 l2_0 l2_1 t106 t107 bt110.1 bt110.2.1) else (z8.j1 kj3 a0 true l1_0 l1_1 l2_0 l2_1 t106 t107 bt110.1 bt110.2.1))) = some r:=H
   have A26:=z3.mk A260
   clear A260
   replace H:=Option.bind_eq_some_iff.mp H
   obtain ⟨⟨t110,t111,t112⟩,A270,H⟩:=H
   replace H : (if t108 = 0 then (z8.j1 kj3 a0 (t112 != 0) l1_0 l1_1 l2_0 l2_1 t106 t107 t110 t111) else (z8.j1 kj3 a0 true l1_0 l1_1 l2_0 l2_1 t106 t107 t110 t111)) = some r:=H
   have A27:=z3.mk A270
   clear A270
   have HC28:=z3.mk H
   clear H
   have hnb29:=NB101_102.out
   have hnc29:=NB102_101.out
   have hcz30_0 : wc.cell? ⟨gb101,0,none⟩ = some (.slice A1_0 l1_0.length c1_0):=(z9 BK101.out 0).trans rfl
   have hcz30_1 : wc.cell? ⟨gb101,1,none⟩ = some (.slice A1_1 l1_1.length c1_1):=(z9 BK101.out 1).trans rfl
   have hfz30_0:=za BK101.out 0
   have hfz30_1:=za BK101.out 1
   have hcz31_0 : wc.cell? ⟨gb102,0,none⟩ = some (.slice A2_0 l2_0.length c2_0):=(z9 BK102.out 0).trans rfl
   have hcz31_1 : wc.cell? ⟨gb102,1,none⟩ = some (.slice A2_1 l2_1.length c2_1):=(z9 BK102.out 1).trans rfl
   have hfz31_0:=za BK102.out 0
   have hfz31_1:=za BK102.out 1
   go_upto_region 5 with (first|((with_reducible refine zp (f:=35) rfl ?_);refine goesL_ (some 50) rfl rfl Try.func35 (by kernel_rfl) rfl #[.int .i64 a0,.slice A1_0 l1_0.length c1_0,.slice A2_1 l2_1.length c2_1] rfl (by (try simp only [List.map_toArray,List.map_cons,List.map_nil]);first|done|rfl|(simp only [List.length_drop,List.length_take];rfl)) ?_;(with_reducible refine (z10.calls kj3 a0 _ _ l1_0 _ _ l2_1 t106 t107 t108 _ ?side1 ?side2 ?side3 ?side4 A26.out).mono ?_);(case side1=>repeat (first|exact (Kd.z1f HR1_0.out HB.out)|(with_reducible refine Kd.z16 ?_ _)|(with_reducible refine Kd.z17 ?_ _)|(with_reducible refine Kd.z1g ?_)));(case side2=>exact HC1_0.out);(case side3=>repeat (first|exact (Kd.z1f HR2_1.out HB.out)|(with_reducible refine Kd.z16 ?_ _)|(with_reducible refine Kd.z17 ?_ _)|(with_reducible refine Kd.z1g ?_)));(case side4=>exact HC2_1.out);rintro e w32 ⟨rfl,hb⟩;refine ⟨_,rfl,?_⟩;have n0_:=z3.mk (zb (g:=gb101) (o:=.cells #[.slice A1_0 l1_0.length c1_0,.slice A1_1 l1_1.length c1_1] 64 (0,0)) (by (with_reducible repeat (first|refine z2 ?_ _|refine z6 ?_|refine z1 ?_ _));exact BK101.out) hb);have n1_:=z3.mk (zb (g:=gb102) (o:=.cells #[.slice A2_0 l2_0.length c2_0,.slice A2_1 l2_1.length c2_1] 66 (0,0)) (by (with_reducible repeat (first|refine z2 ?_ _|refine z6 ?_|refine z1 ?_ _));exact BK102.out) hb);have n2_:=z3.mk (zd (by repeat (first|(with_reducible first|exact HB.out|apply z5|apply z0|apply z4|refine z7 ?_ GE101.out|refine z7 ?_ GE102.out)|exact HB.out)) hb);clear BK101;clear BK102;clear HB;have BK101:=n0_;have BK102:=n1_;have HB:=n2_;clear n0_ n1_ n2_;(try clear hb);(try clear hb2);(try clear hk);(try clear hi))|((with_reducible refine zy (N:=7) rfl ?_);(try (refine z1z (by rfl) ?_;dsimp only));refine zv ?hg (N:=7) ?hd (cs:=#[.int .u64 0,.int .u64 0]) (t:=51) ?hr ?_;(case hd=>rfl);(case hg=>rfl);(case hr=>first|(go_simp;done)|(go_simp;rfl));intro gb109 hg w33 hbox hb;have n0_:=z3.mk (zb (g:=gb101) (o:=.cells #[.slice A1_0 l1_0.length c1_0,.slice A1_1 l1_1.length c1_1] 64 (0,0)) (by (with_reducible repeat (first|refine z2 ?_ _|refine z6 ?_|refine z1 ?_ _));exact BK101.out) hb);have n1_:=z3.mk (zb (g:=gb102) (o:=.cells #[.slice A2_0 l2_0.length c2_0,.slice A2_1 l2_1.length c2_1] 66 (0,0)) (by (with_reducible repeat (first|refine z2 ?_ _|refine z6 ?_|refine z1 ?_ _));exact BK102.out) hb);have n2_:=z3.mk (zd (by repeat (first|(with_reducible first|exact HB.out|apply z5|apply z0|apply z4|refine z7 ?_ GE101.out|refine z7 ?_ GE102.out)|exact HB.out)) hb);have n3_:=z3.mk (hbox);have n4_:=z3.mk ((by rw [hg];exact (ze (by repeat (first|(with_reducible first|exact HB.out|apply z5|apply z0|apply z4|refine z7 ?_ GE101.out|refine z7 ?_ GE102.out)|exact HB.out))) : w.heap.size ≤ gb109));have n5_:=z3.mk ((by rw [hg];exact (ze (by repeat (first|(with_reducible first|exact HB.out|apply z5|apply z0|apply z4|refine z7 ?_ GE101.out|refine z7 ?_ GE102.out)|exact HB.out))) : w.heap.size ≤ gb109));have n6_:=z3.mk ((by rw [hg];exact Nat.ne_of_lt (zz (g:=gb101) (o:=.cells #[.slice A1_0 l1_0.length c1_0,.slice A1_1 l1_1.length c1_1] 64 (0,0)) (by (with_reducible repeat (first|refine z2 ?_ _|refine z6 ?_|refine z1 ?_ _));exact BK101.out)) : gb101 ≠ gb109));have n7_:=z3.mk ((by rw [hg];exact Nat.ne_of_gt (zz (g:=gb101) (o:=.cells #[.slice A1_0 l1_0.length c1_0,.slice A1_1 l1_1.length c1_1] 64 (0,0)) (by (with_reducible repeat (first|refine z2 ?_ _|refine z6 ?_|refine z1 ?_ _));exact BK101.out)) : gb109 ≠ gb101));have n8_:=z3.mk ((by rw [hg];exact Nat.ne_of_lt (zz (g:=gb102) (o:=.cells #[.slice A2_0 l2_0.length c2_0,.slice A2_1 l2_1.length c2_1] 66 (0,0)) (by (with_reducible repeat (first|refine z2 ?_ _|refine z6 ?_|refine z1 ?_ _));exact BK102.out)) : gb102 ≠ gb109));have n9_:=z3.mk ((by rw [hg];exact Nat.ne_of_gt (zz (g:=gb102) (o:=.cells #[.slice A2_0 l2_0.length c2_0,.slice A2_1 l2_1.length c2_1] 66 (0,0)) (by (with_reducible repeat (first|refine z2 ?_ _|refine z6 ?_|refine z1 ?_ _));exact BK102.out)) : gb109 ≠ gb102));clear BK101;clear BK102;clear HB;have BK101:=n0_;have BK102:=n1_;have HB:=n2_;have BK109:=n3_;have GW109:=n4_;have GE109:=n5_;have NB101_109:=n6_;have NB109_101:=n7_;have NB102_109:=n8_;have NB109_102:=n9_;clear n0_ n1_ n2_ n3_ n4_ n5_ n6_ n7_ n8_ n9_;clear hb hbox hg;have hnb34:=NB109_101.out;have hnc34:=NB101_109.out;have hnb35:=NB109_102.out;have hnc35:=NB102_109.out;have hcz36_0 : w33.cell? ⟨gb109,0,none⟩ = some (.int .u64 0):=(z9 BK109.out 0).trans rfl;have hcz36_1 : w33.cell? ⟨gb109,1,none⟩ = some (.int .u64 0):=(z9 BK109.out 1).trans rfl;have hfz36_0:=za BK109.out 0;have hfz36_1:=za BK109.out 1;have hcz37_0 : w33.cell? ⟨gb101,0,none⟩ = some (.slice A1_0 l1_0.length c1_0):=(z9 BK101.out 0).trans rfl;have hcz37_1 : w33.cell? ⟨gb101,1,none⟩ = some (.slice A1_1 l1_1.length c1_1):=(z9 BK101.out 1).trans rfl;have hfz37_0:=za BK101.out 0;have hfz37_1:=za BK101.out 1;have hcz38_0 : w33.cell? ⟨gb102,0,none⟩ = some (.slice A2_0 l2_0.length c2_0):=(z9 BK102.out 0).trans rfl;have hcz38_1 : w33.cell? ⟨gb102,1,none⟩ = some (.slice A2_1 l2_1.length c2_1):=(z9 BK102.out 1).trans rfl;have hfz38_0:=za BK102.out 0;have hfz38_1:=za BK102.out 1)|((with_reducible refine zp (f:=35) rfl ?_);refine goesL_ (some 59) rfl rfl Try.func35 (by kernel_rfl) rfl #[.int .i64 a0,.slice A1_1 l1_1.length c1_1,.slice A2_1 l2_1.length c2_1] rfl (by (try simp only [List.map_toArray,List.map_cons,List.map_nil]);first|done|rfl|(simp only [List.length_drop,List.length_take];rfl)) ?_;(with_reducible refine (z10.calls kj3 a0 _ _ l1_1 _ _ l2_1 t110 t111 t112 _ ?side1 ?side2 ?side3 ?side4 A27.out).mono ?_);(case side1=>exact Kd.z1f HR1_1.out (by repeat (first|(with_reducible first|exact HB.out|apply z5|apply z0|apply z4|refine z7 ?_ GE101.out|refine z7 ?_ GE102.out|refine z7 ?_ GE109.out)|exact HB.out)));(case side2=>exact HC1_1.out);(case side3=>exact Kd.z1f HR2_1.out (by repeat (first|(with_reducible first|exact HB.out|apply z5|apply z0|apply z4|refine z7 ?_ GE101.out|refine z7 ?_ GE102.out|refine z7 ?_ GE109.out)|exact HB.out)));(case side4=>exact HC2_1.out);rintro e w39 ⟨rfl,hb⟩;refine ⟨_,rfl,?_⟩;have n0_:=z3.mk (zb (g:=gb101) (o:=.cells #[.slice A1_0 l1_0.length c1_0,.slice A1_1 l1_1.length c1_1] 64 (0,0)) (by (with_reducible repeat (first|refine z2 ?_ _|refine z6 ?_|refine z1 ?_ _));refine zF ?_ NB101_109.out _;(with_reducible repeat (first|refine z2 ?_ _|refine z6 ?_|refine z1 ?_ _));refine zF ?_ NB101_109.out _;(with_reducible repeat (first|refine z2 ?_ _|refine z6 ?_|refine z1 ?_ _));exact BK101.out) hb);have n1_:=z3.mk (zb (g:=gb102) (o:=.cells #[.slice A2_0 l2_0.length c2_0,.slice A2_1 l2_1.length c2_1] 66 (0,0)) (by (with_reducible repeat (first|refine z2 ?_ _|refine z6 ?_|refine z1 ?_ _));refine zF ?_ NB102_109.out _;(with_reducible repeat (first|refine z2 ?_ _|refine z6 ?_|refine z1 ?_ _));refine zF ?_ NB102_109.out _;(with_reducible repeat (first|refine z2 ?_ _|refine z6 ?_|refine z1 ?_ _));exact BK102.out) hb);have n2_:=z3.mk (zb (g:=gb109) (o:=.cells #[.int .u64 t106,.int .u64 t107] 51 (0,0)) (by (with_reducible repeat (first|refine z2 ?_ _|refine z6 ?_|refine z1 ?_ _));refine zG (cs:=#[.int .u64 t106,.int .u64 0]) ?_ 1 _ rfl;(with_reducible repeat (first|refine z2 ?_ _|refine z6 ?_|refine z1 ?_ _));refine zG (cs:=#[.int .u64 0,.int .u64 0]) ?_ 0 _ rfl;(with_reducible repeat (first|refine z2 ?_ _|refine z6 ?_|refine z1 ?_ _));exact BK109.out) hb);have n3_:=z3.mk (zd (by repeat (first|(with_reducible first|exact HB.out|apply z5|apply z0|apply z4|refine z7 ?_ GE101.out|refine z7 ?_ GE102.out|refine z7 ?_ GE109.out)|exact HB.out)) hb);clear BK101;clear BK102;clear BK109;clear HB;have BK101:=n0_;have BK102:=n1_;have BK109:=n2_;have HB:=n3_;clear n0_ n1_ n2_ n3_;(try clear hb);(try clear hb2);(try clear hk);(try clear hi))|((with_reducible refine zy (N:=9) rfl ?_);(try (refine z1z (by rfl) ?_;dsimp only));refine zv ?hg (N:=9) ?hd (cs:=#[.int .u64 0,.int .u64 0]) (t:=51) ?hr ?_;(case hd=>rfl);(case hg=>rfl);(case hr=>first|(go_simp;done)|(go_simp;rfl));intro gb113 hg w40 hbox hb;have n0_:=z3.mk (zb (g:=gb101) (o:=.cells #[.slice A1_0 l1_0.length c1_0,.slice A1_1 l1_1.length c1_1] 64 (0,0)) (by (with_reducible repeat (first|refine z2 ?_ _|refine z6 ?_|refine z1 ?_ _));exact BK101.out) hb);have n1_:=z3.mk (zb (g:=gb102) (o:=.cells #[.slice A2_0 l2_0.length c2_0,.slice A2_1 l2_1.length c2_1] 66 (0,0)) (by (with_reducible repeat (first|refine z2 ?_ _|refine z6 ?_|refine z1 ?_ _));exact BK102.out) hb);have n2_:=z3.mk (zb (g:=gb109) (o:=.cells #[.int .u64 t106,.int .u64 t107] 51 (0,0)) (by (with_reducible repeat (first|refine z2 ?_ _|refine z6 ?_|refine z1 ?_ _));exact BK109.out) hb);have n3_:=z3.mk (zd (by repeat (first|(with_reducible first|exact HB.out|apply z5|apply z0|apply z4|refine z7 ?_ GE101.out|refine z7 ?_ GE102.out|refine z7 ?_ GE109.out)|exact HB.out)) hb);have n4_:=z3.mk (hbox);have n5_:=z3.mk ((by rw [hg];exact (ze (by repeat (first|(with_reducible first|exact HB.out|apply z5|apply z0|apply z4|refine z7 ?_ GE101.out|refine z7 ?_ GE102.out|refine z7 ?_ GE109.out)|exact HB.out))) : w.heap.size ≤ gb113));have n6_:=z3.mk ((by rw [hg];exact (ze (by repeat (first|(with_reducible first|exact HB.out|apply z5|apply z0|apply z4|refine z7 ?_ GE101.out|refine z7 ?_ GE102.out|refine z7 ?_ GE109.out)|exact HB.out))) : w.heap.size ≤ gb113));have n7_:=z3.mk ((by rw [hg];exact Nat.ne_of_lt (zz (g:=gb101) (o:=.cells #[.slice A1_0 l1_0.length c1_0,.slice A1_1 l1_1.length c1_1] 64 (0,0)) (by (with_reducible repeat (first|refine z2 ?_ _|refine z6 ?_|refine z1 ?_ _));exact BK101.out)) : gb101 ≠ gb113));have n8_:=z3.mk ((by rw [hg];exact Nat.ne_of_gt (zz (g:=gb101) (o:=.cells #[.slice A1_0 l1_0.length c1_0,.slice A1_1 l1_1.length c1_1] 64 (0,0)) (by (with_reducible repeat (first|refine z2 ?_ _|refine z6 ?_|refine z1 ?_ _));exact BK101.out)) : gb113 ≠ gb101));have n9_:=z3.mk ((by rw [hg];exact Nat.ne_of_lt (zz (g:=gb102) (o:=.cells #[.slice A2_0 l2_0.length c2_0,.slice A2_1 l2_1.length c2_1] 66 (0,0)) (by (with_reducible repeat (first|refine z2 ?_ _|refine z6 ?_|refine z1 ?_ _));exact BK102.out)) : gb102 ≠ gb113));have n10_:=z3.mk ((by rw [hg];exact Nat.ne_of_gt (zz (g:=gb102) (o:=.cells #[.slice A2_0 l2_0.length c2_0,.slice A2_1 l2_1.length c2_1] 66 (0,0)) (by (with_reducible repeat (first|refine z2 ?_ _|refine z6 ?_|refine z1 ?_ _));exact BK102.out)) : gb113 ≠ gb102));have n11_:=z3.mk ((by rw [hg];exact Nat.ne_of_lt (zz (g:=gb109) (o:=.cells #[.int .u64 t106,.int .u64 t107] 51 (0,0)) (by (with_reducible repeat (first|refine z2 ?_ _|refine z6 ?_|refine z1 ?_ _));exact BK109.out)) : gb109 ≠ gb113));have n12_:=z3.mk ((by rw [hg];exact Nat.ne_of_gt (zz (g:=gb109) (o:=.cells #[.int .u64 t106,.int .u64 t107] 51 (0,0)) (by (with_reducible repeat (first|refine z2 ?_ _|refine z6 ?_|refine z1 ?_ _));exact BK109.out)) : gb113 ≠ gb109));clear BK101;clear BK102;clear BK109;clear HB;have BK101:=n0_;have BK102:=n1_;have BK109:=n2_;have HB:=n3_;have BK113:=n4_;have GW113:=n5_;have GE113:=n6_;have NB101_113:=n7_;have NB113_101:=n8_;have NB102_113:=n9_;have NB113_102:=n10_;have NB109_113:=n11_;have NB113_109:=n12_;clear n0_ n1_ n2_ n3_ n4_ n5_ n6_ n7_ n8_ n9_ n10_ n11_ n12_;clear hb hbox hg;have hnb41:=NB113_101.out;have hnc41:=NB101_113.out;have hnb42:=NB113_102.out;have hnc42:=NB102_113.out;have hnb43:=NB113_109.out;have hnc43:=NB109_113.out;have hcz44_0 : w40.cell? ⟨gb113,0,none⟩ = some (.int .u64 0):=(z9 BK113.out 0).trans rfl;have hcz44_1 : w40.cell? ⟨gb113,1,none⟩ = some (.int .u64 0):=(z9 BK113.out 1).trans rfl;have hfz44_0:=za BK113.out 0;have hfz44_1:=za BK113.out 1))
   (try simp only [Act.put,List.setIfInBounds_toArray,List.set_cons_zero,List.set_cons_succ])
   go_cut [67] (fun v67 wc=>∃ (kq : Nat) (x67_27 : Bool),v67 = .bool x67_27 ∧ z3 (z8.j1 kq a0 x67_27 l1_0 l1_1 l2_0 l2_1 t106 t107 t110 t111 = some r) ∧ z3 (kq ≤ kj3) ∧ z3 (wc.heap[gb101]? = some (.cells #[(.slice A1_0 l1_0.length c1_0),(.slice A1_1 l1_1.length c1_1)] 64 (0,0))) ∧ z3 (wc.heap[gb102]? = some (.cells #[(.slice A2_0 l2_0.length c2_0),(.slice A2_1 l2_1.length c2_1)] 66 (0,0))) ∧ z3 (wc.heap[gb109]? = some (.cells #[.int .u64 t106,.int .u64 t107] 51 (0,0))) ∧ z3 (wc.heap[gb113]? = some (.cells #[.int .u64 t110,.int .u64 t111] 51 (0,0))) ∧ z3 (Below w.heap.size w wc))
   case first =>
    have H:=HC28.out
    clear HC28
    by_cases c45 : t108 = 0
    rotate_left
    · rw [if_neg c45] at H
      have c45b0 : (t108 == 0) = false:=beq_eq_false_iff_ne.mpr c45
      have c45b1 : (t108 != 0) = true:=bne_iff_ne.mpr c45
      (first|rw [c45b0]|(simp only [zx,zC];rw [c45b0])|skip)
      have H':=z3.mk H
      clear H
      go_wp2
      go_meet
      case rel=>exact ⟨_,(true),(by first|rfl|(simp;done)|(simp [*];done)),H',⟨by have:=HJ3.out;first|omega|exact Nat.le_refl _⟩,⟨by (with_reducible repeat (first|refine z2 ?_ _|refine z6 ?_|refine z1 ?_ _));refine zF ?_ NB101_113.out _;(with_reducible repeat (first|refine z2 ?_ _|refine z6 ?_|refine z1 ?_ _));refine zF ?_ NB101_113.out _;(with_reducible repeat (first|refine z2 ?_ _|refine z6 ?_|refine z1 ?_ _));exact BK101.out⟩,⟨by (with_reducible repeat (first|refine z2 ?_ _|refine z6 ?_|refine z1 ?_ _));refine zF ?_ NB102_113.out _;(with_reducible repeat (first|refine z2 ?_ _|refine z6 ?_|refine z1 ?_ _));refine zF ?_ NB102_113.out _;(with_reducible repeat (first|refine z2 ?_ _|refine z6 ?_|refine z1 ?_ _));exact BK102.out⟩,⟨by (with_reducible repeat (first|refine z2 ?_ _|refine z6 ?_|refine z1 ?_ _));refine zF ?_ NB109_113.out _;(with_reducible repeat (first|refine z2 ?_ _|refine z6 ?_|refine z1 ?_ _));refine zF ?_ NB109_113.out _;(with_reducible repeat (first|refine z2 ?_ _|refine z6 ?_|refine z1 ?_ _));exact BK109.out⟩,⟨by (with_reducible repeat (first|refine z2 ?_ _|refine z6 ?_|refine z1 ?_ _));refine zG (cs:=#[.int .u64 t110,.int .u64 0]) ?_ 1 _ rfl;(with_reducible repeat (first|refine z2 ?_ _|refine z6 ?_|refine z1 ?_ _));refine zG (cs:=#[.int .u64 0,.int .u64 0]) ?_ 0 _ rfl;(with_reducible repeat (first|refine z2 ?_ _|refine z6 ?_|refine z1 ?_ _));exact BK113.out⟩,⟨by repeat (first|(with_reducible first|exact HB.out|apply z5|apply z0|apply z4|refine z7 ?_ GE101.out|refine z7 ?_ GE102.out|refine z7 ?_ GE109.out|refine z7 ?_ GE113.out)|exact HB.out)⟩⟩
    rw [if_pos c45] at H
    have c45b0 : (t108 == 0) = true:=beq_iff_eq.mpr c45
    have c45b1 : (t108 != 0) = false:=bne_eq_false_iff_eq.mpr c45
    clear c45
    (first|rw [c45b0]|(simp only [zx,zC];rw [c45b0])|skip)
    have H':=z3.mk H
    clear H
    go_wp2
    go_meet
    case rel=>exact ⟨_,((t112 != 0)),(by first|rfl|(simp;done)|(simp [*];done)),H',⟨by have:=HJ3.out;first|omega|exact Nat.le_refl _⟩,⟨by (with_reducible repeat (first|refine z2 ?_ _|refine z6 ?_|refine z1 ?_ _));refine zF ?_ NB101_113.out _;(with_reducible repeat (first|refine z2 ?_ _|refine z6 ?_|refine z1 ?_ _));refine zF ?_ NB101_113.out _;(with_reducible repeat (first|refine z2 ?_ _|refine z6 ?_|refine z1 ?_ _));exact BK101.out⟩,⟨by (with_reducible repeat (first|refine z2 ?_ _|refine z6 ?_|refine z1 ?_ _));refine zF ?_ NB102_113.out _;(with_reducible repeat (first|refine z2 ?_ _|refine z6 ?_|refine z1 ?_ _));refine zF ?_ NB102_113.out _;(with_reducible repeat (first|refine z2 ?_ _|refine z6 ?_|refine z1 ?_ _));exact BK102.out⟩,⟨by (with_reducible repeat (first|refine z2 ?_ _|refine z6 ?_|refine z1 ?_ _));refine zF ?_ NB109_113.out _;(with_reducible repeat (first|refine z2 ?_ _|refine z6 ?_|refine z1 ?_ _));refine zF ?_ NB109_113.out _;(with_reducible repeat (first|refine z2 ?_ _|refine z6 ?_|refine z1 ?_ _));exact BK109.out⟩,⟨by (with_reducible repeat (first|refine z2 ?_ _|refine z6 ?_|refine z1 ?_ _));refine zG (cs:=#[.int .u64 t110,.int .u64 0]) ?_ 1 _ rfl;(with_reducible repeat (first|refine z2 ?_ _|refine z6 ?_|refine z1 ?_ _));refine zG (cs:=#[.int .u64 0,.int .u64 0]) ?_ 0 _ rfl;(with_reducible repeat (first|refine z2 ?_ _|refine z6 ?_|refine z1 ?_ _));exact BK113.out⟩,⟨by repeat (first|(with_reducible first|exact HB.out|apply z5|apply z0|apply z4|refine z7 ?_ GE101.out|refine z7 ?_ GE102.out|refine z7 ?_ GE109.out|refine z7 ?_ GE113.out)|exact HB.out)⟩⟩
   case rest =>
    clear HC28
    (try clear c1);(try clear p1);(try clear q1);(try clear hx1);(try clear qi1);(try clear c2);(try clear p2);(try clear c3);(try clear c4);(try clear c7);(try clear c7b0);(try clear c7b1);(try clear c7b2);(try clear c8);(try clear c8b0);(try clear c8b1);(try clear c9);(try clear p10);(try clear q10);(try clear hx10);(try clear qi10);(try clear c11);(try clear c11b0);(try clear c11b1);(try clear c12);(try clear c12b0);(try clear c12b1);(try clear c14);(try clear c18);(try clear c21);(try clear c23);(try clear c29);(try clear c34);(try clear c35);(try clear c41);(try clear c42);(try clear c43);(try clear c45);(try clear c45b0);(try clear c45b1);(try clear hcz10_0);(try clear hcz10_1);(try clear hcz15_0);(try clear hcz15_1);(try clear hcz16_0);(try clear hcz16_1);(try clear hcz19_0);(try clear hcz19_1);(try clear hcz20_0);(try clear hcz20_1);(try clear hcz22_0);(try clear hcz22_1);(try clear hcz30_0);(try clear hcz30_1);(try clear hcz31_0);(try clear hcz31_1);(try clear hcz36_0);(try clear hcz36_1);(try clear hcz37_0);(try clear hcz37_1);(try clear hcz38_0);(try clear hcz38_1);(try clear hcz44_0);(try clear hcz44_1);(try clear hfz10_0);(try clear hfz10_1);(try clear hfz15_0);(try clear hfz15_1);(try clear hfz16_0);(try clear hfz16_1);(try clear hfz19_0);(try clear hfz19_1);(try clear hfz20_0);(try clear hfz20_1);(try clear hfz22_0);(try clear hfz22_1);(try clear hfz30_0);(try clear hfz30_1);(try clear hfz31_0);(try clear hfz31_1);(try clear hfz36_0);(try clear hfz36_1);(try clear hfz37_0);(try clear hfz37_1);(try clear hfz38_0);(try clear hfz38_1);(try clear hfz44_0);(try clear hfz44_1);(try clear hx103_0);(try clear hx103_1);(try clear p1);(try clear p10);(try clear p103);(try clear p2);(try clear q1);(try clear q10);(try clear q103)
    obtain ⟨kq,x67_27,rfl,HA,HJ27,BK101,BK102,BK109,BK113,HB⟩:=hcut
    cases kq with
    | zero=>exact absurd HA.out (by simp [z8.j1])
    | succ kj27 =>
     have H:=HA.out
     clear HA
     simp only [z8.j1] at H
     by_cases c46 : x67_27 = true
     · subst c46
       have H1 : ((zs.f kj27).bind fun t114=>(some t114)) = some r:=by rw [if_pos rfl] at H;exact H
       clear H
       have H:=H1
       clear H1
       replace H:=Option.bind_eq_some_iff.mp H
       obtain ⟨t114,A470,H⟩:=H
       replace H : (some t114) = some r:=H
       have A47:=z3.mk A470
       clear A470
       obtain rfl:=Option.some.inj H
       go_wp2_with (first|((with_reducible refine zp (f:=34) rfl ?_);refine goesL_ (some 68) rfl rfl Try.func34 (by kernel_rfl) rfl #[] rfl (by (try simp only [List.map_toArray,List.map_cons,List.map_nil]);first|done|rfl|(simp only [List.length_drop,List.length_take];rfl)) ?_;(with_reducible refine (zs.calls kj27  t114 _ A47.out).mono ?_);rintro e w48 ⟨rfl,hb⟩;refine ⟨_,rfl,?_⟩;have n0_:=z3.mk (zb (g:=gb101) (o:=.cells #[.slice A1_0 l1_0.length c1_0,.slice A1_1 l1_1.length c1_1] 64 (0,0)) (by (with_reducible repeat (first|refine z2 ?_ _|refine z6 ?_|refine z1 ?_ _));exact BK101.out) hb);have n1_:=z3.mk (zb (g:=gb102) (o:=.cells #[.slice A2_0 l2_0.length c2_0,.slice A2_1 l2_1.length c2_1] 66 (0,0)) (by (with_reducible repeat (first|refine z2 ?_ _|refine z6 ?_|refine z1 ?_ _));exact BK102.out) hb);have n2_:=z3.mk (zb (g:=gb109) (o:=.cells #[.int .u64 t106,.int .u64 t107] 51 (0,0)) (by (with_reducible repeat (first|refine z2 ?_ _|refine z6 ?_|refine z1 ?_ _));exact BK109.out) hb);have n3_:=z3.mk (zb (g:=gb113) (o:=.cells #[.int .u64 t110,.int .u64 t111] 51 (0,0)) (by (with_reducible repeat (first|refine z2 ?_ _|refine z6 ?_|refine z1 ?_ _));exact BK113.out) hb);have n4_:=z3.mk (zd (by repeat (first|(with_reducible first|exact HB.out|apply z5|apply z0|apply z4|refine z7 ?_ GE101.out|refine z7 ?_ GE102.out|refine z7 ?_ GE109.out|refine z7 ?_ GE113.out)|exact HB.out)) hb);clear BK101;clear BK102;clear BK109;clear BK113;clear HB;have BK101:=n0_;have BK102:=n1_;have BK109:=n2_;have BK113:=n3_;have HB:=n4_;clear n0_ n1_ n2_ n3_ n4_;(try clear hb);(try clear hb2);(try clear hk);(try clear hi)))
       go_ret
       exact ⟨by first|rfl|(simp [zh,zi] <;> rfl)|(simp [*,zh,zi] <;> rfl),by repeat (first|(with_reducible first|exact HB.out|apply z5|apply z0|apply z4|refine z7 ?_ GE101.out|refine z7 ?_ GE102.out|refine z7 ?_ GE109.out|refine z7 ?_ GE113.out)|exact HB.out)⟩
     replace c46:=Bool.eq_false_iff.mpr c46
     subst c46
     have H1 : (z8.l0 kj27 a0 ([] : List (S51)) 0 l1_0 l1_1 l2_0 l2_1 t106 t107 t110 t111) = some r:=by rw [if_neg (show ¬ (false = true) by decide)] at H;exact H
     clear H
     have H:=H1
     clear H1
     have H':=z3.mk H
     clear H
     go_wp2
     go_loopg [11,12] kj27 (fun kq v11 v12 w'=>∃ (x11_3 : List (S51)) (x12_3 : Int),v12 = .int .i64 x12_3 ∧ z3 (z8.l0 kq a0 x11_3 x12_3 l1_0 l1_1 l2_0 l2_1 t106 t107 t110 t111 = some r) ∧ z3 (kq ≤ kj27) ∧ z3 (Kd.R k51 51 w' w.heap.size (fun k_=>k_ ≠ gb109 ∧ k_ ≠ gb113) v11 x11_3) ∧ z3 (w'.heap[gb101]? = some (.cells #[(.slice A1_0 l1_0.length c1_0),(.slice A1_1 l1_1.length c1_1)] 64 (0,0))) ∧ z3 (w'.heap[gb102]? = some (.cells #[(.slice A2_0 l2_0.length c2_0),(.slice A2_1 l2_1.length c2_1)] 66 (0,0))) ∧ z3 (w'.heap[gb109]? = some (.cells #[.int .u64 t106,.int .u64 t107] 51 (0,0))) ∧ z3 (w'.heap[gb113]? = some (.cells #[.int .u64 t110,.int .u64 t111] 51 (0,0))) ∧ z3 (Below w.heap.size w w'))
     case atStart=>exact ⟨(([] : List (S51))),(0),(by first|rfl|(simp;done)|(simp [*];done)),H',⟨Nat.le_refl _⟩,⟨by first|exact Kd.z3U _ _ _ _ _|exact Kd.N_nil _ _ _ _ _|exact Kd.V_nil _ _ _ _ _|exact Kd.Q_nil _ _ _ _ _|exact Kd.S_nil _ _ _ _ _⟩,⟨by (with_reducible repeat (first|refine z2 ?_ _|refine z6 ?_|refine z1 ?_ _));exact BK101.out⟩,⟨by (with_reducible repeat (first|refine z2 ?_ _|refine z6 ?_|refine z1 ?_ _));exact BK102.out⟩,⟨by (with_reducible repeat (first|refine z2 ?_ _|refine z6 ?_|refine z1 ?_ _));exact BK109.out⟩,⟨by (with_reducible repeat (first|refine z2 ?_ _|refine z6 ?_|refine z1 ?_ _));exact BK113.out⟩,⟨by repeat (first|(with_reducible first|exact HB.out|apply z5|apply z0|apply z4|refine z7 ?_ GE101.out|refine z7 ?_ GE102.out|refine z7 ?_ GE109.out|refine z7 ?_ GE113.out)|exact HB.out)⟩⟩
     case round =>
      clear H'
      (try clear c1);(try clear p1);(try clear q1);(try clear hx1);(try clear qi1);(try clear c2);(try clear p2);(try clear c3);(try clear c4);(try clear c7);(try clear c7b0);(try clear c7b1);(try clear c7b2);(try clear c8);(try clear c8b0);(try clear c8b1);(try clear c9);(try clear p10);(try clear q10);(try clear hx10);(try clear qi10);(try clear c11);(try clear c11b0);(try clear c11b1);(try clear c12);(try clear c12b0);(try clear c12b1);(try clear c14);(try clear c18);(try clear c21);(try clear c23);(try clear c29);(try clear c34);(try clear c35);(try clear c41);(try clear c42);(try clear c43);(try clear c45);(try clear c45b0);(try clear c45b1);(try clear c46);(try clear hcz10_0);(try clear hcz10_1);(try clear hcz15_0);(try clear hcz15_1);(try clear hcz16_0);(try clear hcz16_1);(try clear hcz19_0);(try clear hcz19_1);(try clear hcz20_0);(try clear hcz20_1);(try clear hcz22_0);(try clear hcz22_1);(try clear hcz30_0);(try clear hcz30_1);(try clear hcz31_0);(try clear hcz31_1);(try clear hcz36_0);(try clear hcz36_1);(try clear hcz37_0);(try clear hcz37_1);(try clear hcz38_0);(try clear hcz38_1);(try clear hcz44_0);(try clear hcz44_1);(try clear hfz10_0);(try clear hfz10_1);(try clear hfz15_0);(try clear hfz15_1);(try clear hfz16_0);(try clear hfz16_1);(try clear hfz19_0);(try clear hfz19_1);(try clear hfz20_0);(try clear hfz20_1);(try clear hfz22_0);(try clear hfz22_1);(try clear hfz30_0);(try clear hfz30_1);(try clear hfz31_0);(try clear hfz31_1);(try clear hfz36_0);(try clear hfz36_1);(try clear hfz37_0);(try clear hfz37_1);(try clear hfz38_0);(try clear hfz38_1);(try clear hfz44_0);(try clear hfz44_1);(try clear hx103_0);(try clear hx103_1);(try clear p1);(try clear p10);(try clear p103);(try clear p2);(try clear q1);(try clear q10);(try clear q103)
      obtain ⟨x11_3,x12_3,rfl,HA,HK3,HO_11,BK101,BK102,BK109,BK113,HB⟩:=hrel
      cases gk with
      | zero=>exact absurd HA.out (by simp [z8.l0])
      | succ k3 =>
       have H:=HA.out
       clear HA
       simp only [z8.l0] at H
       by_cases c49 : x12_3 < (l1_0.length : Int)
       · rw [if_pos c49] at H
         have c49b0 : decide (x12_3 < (l1_0.length : Int)) = true:=decide_eq_true c49
         clear c49
         by_cases c50 : 0 ≤ x12_3
         rotate_left
         · rw [if_neg c50] at H
           exact absurd H (by simp)
         rw [if_pos c50] at H
         have c50b0 : decide (0 ≤ x12_3) = true:=decide_eq_true c50
         clear c50
         by_cases c51 : 0 < (l2_0.length : Int)
         rotate_left
         · rw [if_neg c51] at H
           exact absurd H (by simp)
         rw [if_pos c51] at H
         have c51b0 : decide (0 < (l2_0.length : Int)) = true:=decide_eq_true c51
         have c51b1 : decide (0 < l2_0.length) = true:=decide_eq_true (by omega)
         clear c51
         by_cases c52 : x12_3 < (l1_1.length : Int)
         rotate_left
         · rw [if_neg c52] at H
           exact absurd H (by simp)
         rw [if_pos c52] at H
         have c52b0 : decide (x12_3 < (l1_1.length : Int)) = true:=decide_eq_true c52
         clear c52
         replace H:=Option.bind_eq_some_iff.mp H
         obtain ⟨⟨t118,t119⟩,A530,H⟩:=H
         replace H : ((z1c.f ((zu l1_0 x12_3).f0) ((zu l1_0 x12_3).f1) t118 t119).bind fun bt120=>(if x11_3.length < 8796093022208 then (z8.l0 k3 a0 (x11_3 ++ [(⟨bt120.1,bt120.2⟩ : S51)]) (wrap64 (x12_3 + 1)) l1_0 l1_1 l2_0 l2_1 t106 t107 t110 t111) else (none))) = some r:=H
         have A53:=z3.mk A530
         clear A530
         replace H:=Option.bind_eq_some_iff.mp H
         obtain ⟨⟨t120,t121⟩,A540,H⟩:=H
         replace H : (if x11_3.length < 8796093022208 then (z8.l0 k3 a0 (x11_3 ++ [(⟨t120,t121⟩ : S51)]) (wrap64 (x12_3 + 1)) l1_0 l1_1 l2_0 l2_1 t106 t107 t110 t111) else (none)) = some r:=H
         have A54:=z3.mk A540
         clear A540
         by_cases c55 : x11_3.length < 8796093022208
         rotate_left
         · rw [if_neg c55] at H
           exact absurd H (by simp)
         rw [if_pos c55] at H
         have LMc55:=z3.mk c55
         clear c55
         obtain ⟨y122,hy122⟩ : ∃ y_ : List (S51),y_ = (x11_3 ++ [(⟨t120,t121⟩ : S51)]):=⟨_,rfl⟩
         replace H : (z8.l0 k3 a0 y122 (wrap64 (x12_3 + 1)) l1_0 l1_1 l2_0 l2_1 t106 t107 t110 t111) = some r:=by first|(rw [hy122];with_reducible exact H)|(have H2_:=(Option.bind_some _ _).symm.trans H;rw [hy122];with_reducible exact H2_)|(have H2_:=(Option.bind_some _ _).symm.trans H;with_reducible exact H2_)|with_reducible exact H|(rw [hy122];exact H)|exact H
         have Ny122:=z3.mk hy122
         clear hy122
         have H':=z3.mk H
         clear H
         have hnb56:=NB101_102.out
         have hnc56:=NB102_101.out
         have hnb57:=NB101_109.out
         have hnc57:=NB109_101.out
         have hnb58:=NB101_113.out
         have hnc58:=NB113_101.out
         have hcz59_0 : wr.cell? ⟨gb101,0,none⟩ = some (.slice A1_0 l1_0.length c1_0):=(z9 BK101.out 0).trans rfl
         have hcz59_1 : wr.cell? ⟨gb101,1,none⟩ = some (.slice A1_1 l1_1.length c1_1):=(z9 BK101.out 1).trans rfl
         have hfz59_0:=za BK101.out 0
         have hfz59_1:=za BK101.out 1
         try go_wp2
         have n0_:=z3.mk (Kd.zZ HO_11.out)
         have n1_:=z3.mk (z6 BK101.out)
         have n2_:=z3.mk (z6 BK102.out)
         have n3_:=z3.mk (z6 BK109.out)
         have n4_:=z3.mk (z6 BK113.out)
         have n5_:=z3.mk (z4 HB.out)
         clear HO_11
         clear BK101
         clear BK102
         clear BK109
         clear BK113
         clear HB
         have HO_11:=n0_
         have BK101:=n1_
         have BK102:=n2_
         have BK109:=n3_
         have BK113:=n4_
         have HB:=n5_
         clear n0_ n1_ n2_ n3_ n4_ n5_
         have p115 : 0 ≤ (x12_3 : Int):=of_decide_eq_true (by first|(with_reducible assumption)|assumption)
         have q115 : x12_3 < (l1_0.length : Int):=of_decide_eq_true (by first|(with_reducible assumption)|assumption)
         obtain ⟨ad115,e115,hx115_0,hx115_1⟩:=z1S HR1_0.out x12_3 p115 q115
         have hw115_1:=hx115_1
         have hw115_0:=hx115_0
         cases e115
         replace hx115_0:=(HB.out.cell (World.block_lt_of_cell? w _ hx115_0)).trans hx115_0
         replace hx115_1:=(HB.out.cell (World.block_lt_of_cell? w _ hx115_1)).trans hx115_1
         replace p115:=eq_true p115
         replace q115:=eq_true q115
         have p116 : 0 ≤ (0 : Int):=(by omega)
         have q116 : 0 < (l2_0.length : Int):=of_decide_eq_true (by first|(with_reducible assumption)|assumption)
         obtain ⟨ad116,e116,hx116_0,hx116_1⟩:=z1S HR2_0.out 0 p116 q116
         have hw116_1:=hx116_1
         (try rw [show ((0 : Int)).toNat = 0 from rfl] at hw116_1)
         (try rw [show 0 * 2 = 0 from rfl] at hw116_1)
         (try rw [Addr.add_zero'] at hw116_1)
         have hw116_0:=hx116_0
         (try rw [show ((0 : Int)).toNat = 0 from rfl] at hw116_0)
         (try rw [show 0 * 2 = 0 from rfl] at hw116_0)
         (try rw [Addr.add_zero'] at hw116_0)
         cases e116
         have qi116 : (0 < l2_0.length) = True:=eq_true (by omega)
         (try rw [show ((0 : Int)).toNat = 0 from rfl] at hx116_0)
         (try rw [show 0 * 2 = 0 from rfl] at hx116_0)
         (try rw [Addr.add_zero'] at hx116_0)
         (try rw [show ((0 : Int)).toNat = 0 from rfl] at hx116_1)
         (try rw [show 0 * 2 = 0 from rfl] at hx116_1)
         (try rw [Addr.add_zero'] at hx116_1)
         replace hx116_0:=(HB.out.cell (World.block_lt_of_cell? w _ hx116_0)).trans hx116_0
         replace hx116_1:=(HB.out.cell (World.block_lt_of_cell? w _ hx116_1)).trans hx116_1
         replace p116:=eq_true p116
         replace q116:=eq_true q116
         have p117 : 0 ≤ (x12_3 : Int):=of_decide_eq_true (by first|(with_reducible assumption)|assumption)
         have q117 : x12_3 < (l1_1.length : Int):=of_decide_eq_true (by first|(with_reducible assumption)|assumption)
         obtain ⟨ad117,e117,hx117_0,hx117_1⟩:=z1S HR1_1.out x12_3 p117 q117
         have hw117_1:=hx117_1
         have hw117_0:=hx117_0
         cases e117
         replace hx117_0:=(HB.out.cell (World.block_lt_of_cell? w _ hx117_0)).trans hx117_0
         replace hx117_1:=(HB.out.cell (World.block_lt_of_cell? w _ hx117_1)).trans hx117_1
         replace p117:=eq_true p117
         replace q117:=eq_true q117
         refine start_ (n:=21) (S:=fun w'=>w'.cell? ⟨gb101,0,none⟩ = some (.slice (some ad115) l1_0.length c1_0) ∧ w'.cell? ⟨gb101,1,none⟩ = some (.slice (some ad117) l1_1.length c1_1) ∧ w'.cell? ⟨gb102,0,none⟩ = some (.slice (some ad116) l2_0.length c2_0) ∧ w'.cell? ⟨gb102,1,none⟩ = some (.slice A2_1 l2_1.length c2_1) ∧ w'.cell? (ad115.add ((x12_3).toNat * 2)) = some (.int .u64 ((zu l1_0 x12_3).f0)) ∧ w'.cell? ⟨(ad115.add ((x12_3).toNat * 2)).block,(ad115.add ((x12_3).toNat * 2)).off + 1,none⟩ = some (.int .u64 ((zu l1_0 x12_3).f1)) ∧ w'.cell? ad116 = some (.int .u64 ((zu l2_0 0).f0)) ∧ w'.cell? ⟨ad116.block,ad116.off + 1,none⟩ = some (.int .u64 ((zu l2_0 0).f1)) ∧ w'.cell? (ad117.add ((x12_3).toNat * 2)) = some (.int .u64 ((zu l1_1 x12_3).f0)) ∧ w'.cell? ⟨(ad117.add ((x12_3).toNat * 2)).block,(ad117.add ((x12_3).toNat * 2)).off + 1,none⟩ = some (.int .u64 ((zu l1_1 x12_3).f1))) (ds:=[]) #[false,false,false,false,false,false,false,false,false,false,false,false,false,false,false,false,false,false,false,false,false] (by kernel_rfl) rfl rfl ⟨(z9 BK101.out 0).trans rfl,(z9 BK101.out 1).trans rfl,(z9 BK102.out 0).trans rfl,(z9 BK102.out 1).trans rfl,((HB.out.cell (World.block_lt_of_cell? w _ hw115_0)).trans hw115_0),((HB.out.cell (World.block_lt_of_cell? w _ hw115_1)).trans hw115_1),((HB.out.cell (World.block_lt_of_cell? w _ hw116_0)).trans hw116_0),((HB.out.cell (World.block_lt_of_cell? w _ hw116_1)).trans hw116_1),((HB.out.cell (World.block_lt_of_cell? w _ hw117_0)).trans hw117_0),((HB.out.cell (World.block_lt_of_cell? w _ hw117_1)).trans hw117_1)⟩ (fun hHeld=>?_);refine z1u z8.tab11 z8.bits11 (fun HT_ HW_=>?_)
         generalize wr.drew = w60 at HO_11 BK101 BK102 BK109 BK113 HB hx115_0 hx115_1 hx116_0 hx116_1 hx117_0 hx117_1 hHeld ⊢
         refine pure_ (i:=0) (N:=some 76) (v:=?_) (a':=?_) #[true,false,false,false,false,false,false,false,false,false,false,false,false,false,false,false,false,false,false,false,false] rfl rfl (zH HT_.out (by kernel_rfl)) (fun _ _ _ h=>h) (Or.inl ⟨by rfl,?_⟩) ?_ ?_
         rotate_left
         · intro w'
           go_simp
           with_reducible rfl
         rotate_left
         · simp only [Act.put,List.setIfInBounds_toArray,List.set_cons_zero,List.set_cons_succ,zx,zC]
           rfl
         refine pure_ (i:=1) (N:=some 77) (v:=?_) (a':=?_) #[true,true,false,false,false,false,false,false,false,false,false,false,false,false,false,false,false,false,false,false,false] rfl rfl (zH HT_.out (by kernel_rfl)) (fun _ _ _ h=>h) (Or.inl ⟨by rfl,?_⟩) ?_ ?_
         rotate_left
         · intro w'
           go_simp
           with_reducible rfl
         rotate_left
         · simp only [Act.put,List.setIfInBounds_toArray,List.set_cons_zero,List.set_cons_succ,zx,zC]
           rfl
         refine pure_ (i:=3) (N:=some 79) (v:=?_) (a':=?_) #[true,true,false,true,false,false,false,false,false,false,false,false,false,false,false,false,false,false,false,false,false] rfl rfl (zH HT_.out (by kernel_rfl)) (fun _ _ _ h=>h) (Or.inl ⟨by rfl,?_⟩) ?_ ?_
         rotate_left
         · intro w'
           go_simp
           with_reducible rfl
         rotate_left
         · simp only [Act.put,List.setIfInBounds_toArray,List.set_cons_zero,List.set_cons_succ,zx,zC]
           rfl
         refine pure_ (i:=6) (N:=some 82) (v:=?_) (a':=?_) #[true,true,false,true,false,false,true,false,false,false,false,false,false,false,false,false,false,false,false,false,false] rfl rfl (zH HT_.out (by kernel_rfl)) (fun _ _ _ h=>h) (Or.inl ⟨by rfl,?_⟩) ?_ ?_
         rotate_left
         · intro w'
           go_simp
           with_reducible rfl
         rotate_left
         · simp only [Act.put,List.setIfInBounds_toArray,List.set_cons_zero,List.set_cons_succ,zx,zC]
           rfl
         refine pure_ (i:=7) (N:=some 83) (v:=?_) (a':=?_) #[true,true,false,true,false,false,true,true,false,false,false,false,false,false,false,false,false,false,false,false,false] rfl rfl (zH HT_.out (by kernel_rfl)) (fun _ _ _ h=>h) (Or.inl ⟨by rfl,?_⟩) ?_ ?_
         rotate_left
         · intro w'
           go_simp
           with_reducible rfl
         rotate_left
         · simp only [Act.put,List.setIfInBounds_toArray,List.set_cons_zero,List.set_cons_succ,zx,zC]
           rfl
         refine pure_ (i:=11) (N:=some 87) (v:=?_) (a':=?_) #[true,true,false,true,false,false,true,true,false,false,false,true,false,false,false,false,false,false,false,false,false] rfl rfl (zH HT_.out (by kernel_rfl)) (fun _ _ _ h=>h) (Or.inl ⟨by rfl,?_⟩) ?_ ?_
         rotate_left
         · intro w'
           go_simp
           with_reducible rfl
         rotate_left
         · simp only [Act.put,List.setIfInBounds_toArray,List.set_cons_zero,List.set_cons_succ,zx,zC]
           rfl
         refine pure_ (i:=13) (N:=some 89) (v:=?_) (a':=?_) #[true,true,false,true,false,false,true,true,false,false,false,true,false,true,false,false,false,false,false,false,false] rfl rfl (zH HT_.out (by kernel_rfl)) (fun _ _ _ h=>h) (Or.inl ⟨by rfl,?_⟩) ?_ ?_
         rotate_left
         · intro w'
           go_simp
           with_reducible rfl
         rotate_left
         · simp only [Act.put,List.setIfInBounds_toArray,List.set_cons_zero,List.set_cons_succ,zx,zC]
           rfl
         refine take_ (i:=2) (N:=some 78) (v:=?_) (a':=?_) #[true,true,true,true,false,false,true,true,false,false,false,true,false,true,false,false,false,false,false,false,false] rfl rfl (z18 HT_.out HW_.out (by kernel_rfl)) (fun _ _ _ h=>h) (Or.inl ⟨by rfl,?_⟩) hHeld ?_ ?_
         rotate_left
         · rintro w' ⟨s0,s1,s2,s3,s4,s5,s6,s7,s8,s9⟩
           go_simp
           with_reducible rfl
         rotate_left
         · simp only [Act.put,List.setIfInBounds_toArray,List.set_cons_zero,List.set_cons_succ,zx,zC]
           rfl
         refine pure_ (i:=4) (N:=some 80) (v:=?_) (a':=?_) #[true,true,true,true,true,false,true,true,false,false,false,true,false,true,false,false,false,false,false,false,false] rfl rfl (zH HT_.out (by kernel_rfl)) (fun _ _ _ h=>h) (Or.inl ⟨by rfl,?_⟩) ?_ ?_
         rotate_left
         · intro w'
           go_simp
           with_reducible rfl
         rotate_left
         · simp only [Act.put,List.setIfInBounds_toArray,List.set_cons_zero,List.set_cons_succ,zx,zC]
           rfl
         refine take_ (i:=5) (N:=some 81) (v:=?_) (a':=?_) #[true,true,true,true,true,true,true,true,false,false,false,true,false,true,false,false,false,false,false,false,false] rfl rfl (z18 HT_.out HW_.out (by kernel_rfl)) (fun _ _ _ h=>h) (Or.inl ⟨by rfl,?_⟩) hHeld ?_ ?_
         rotate_left
         · rintro w' ⟨s0,s1,s2,s3,s4,s5,s6,s7,s8,s9⟩
           go_simp
           with_reducible rfl
         rotate_left
         · simp only [Act.put,List.setIfInBounds_toArray,List.set_cons_zero,List.set_cons_succ,zx,zC]
           rfl
         refine take_ (i:=8) (N:=some 84) (v:=?_) (a':=?_) #[true,true,true,true,true,true,true,true,true,false,false,true,false,true,false,false,false,false,false,false,false] rfl rfl (z18 HT_.out HW_.out (by kernel_rfl)) (fun _ _ _ h=>h) (Or.inl ⟨by rfl,?_⟩) hHeld ?_ ?_
         rotate_left
         · rintro w' ⟨s0,s1,s2,s3,s4,s5,s6,s7,s8,s9⟩
           go_simp
           with_reducible rfl
         rotate_left
         · simp only [Act.put,List.setIfInBounds_toArray,List.set_cons_zero,List.set_cons_succ,zx,zC]
           rfl
         refine pure_ (i:=9) (N:=some 85) (v:=?_) (a':=?_) #[true,true,true,true,true,true,true,true,true,true,false,true,false,true,false,false,false,false,false,false,false] rfl rfl (zH HT_.out (by kernel_rfl)) (fun _ _ _ h=>h) (Or.inl ⟨by rfl,?_⟩) ?_ ?_
         rotate_left
         · intro w'
           go_simp
           with_reducible rfl
         rotate_left
         · simp only [Act.put,List.setIfInBounds_toArray,List.set_cons_zero,List.set_cons_succ,zx,zC]
           rfl
         refine take_ (i:=10) (N:=some 86) (v:=?_) (a':=?_) #[true,true,true,true,true,true,true,true,true,true,true,true,false,true,false,false,false,false,false,false,false] rfl rfl (z18 HT_.out HW_.out (by kernel_rfl)) (fun _ _ _ h=>h) (Or.inl ⟨by rfl,?_⟩) hHeld ?_ ?_
         rotate_left
         · rintro w' ⟨s0,s1,s2,s3,s4,s5,s6,s7,s8,s9⟩
           go_simp
           with_reducible rfl
         rotate_left
         · simp only [Act.put,List.setIfInBounds_toArray,List.set_cons_zero,List.set_cons_succ,zx,zC]
           rfl
         refine take_ (i:=12) (N:=some 88) (v:=?_) (a':=?_) #[true,true,true,true,true,true,true,true,true,true,true,true,true,true,false,false,false,false,false,false,false] rfl rfl (z18 HT_.out HW_.out (by kernel_rfl)) (fun _ _ _ h=>h) (Or.inl ⟨by rfl,?_⟩) hHeld ?_ ?_
         rotate_left
         · rintro w' ⟨s0,s1,s2,s3,s4,s5,s6,s7,s8,s9⟩
           go_simp
           with_reducible rfl
         rotate_left
         · simp only [Act.put,List.setIfInBounds_toArray,List.set_cons_zero,List.set_cons_succ,zx,zC]
           rfl
         refine pure_ (i:=14) (N:=some 90) (v:=?_) (a':=?_) #[true,true,true,true,true,true,true,true,true,true,true,true,true,true,true,false,false,false,false,false,false] rfl rfl (zH HT_.out (by kernel_rfl)) (fun _ _ _ h=>h) (Or.inl ⟨by rfl,?_⟩) ?_ ?_
         rotate_left
         · intro w'
           go_simp
           with_reducible rfl
         rotate_left
         · simp only [Act.put,List.setIfInBounds_toArray,List.set_cons_zero,List.set_cons_succ,zx,zC]
           rfl
         refine take_ (i:=15) (N:=some 91) (v:=?_) (a':=?_) #[true,true,true,true,true,true,true,true,true,true,true,true,true,true,true,true,false,false,false,false,false] rfl rfl (z18 HT_.out HW_.out (by kernel_rfl)) (fun _ _ _ h=>h) (Or.inl ⟨by rfl,?_⟩) hHeld ?_ ?_
         rotate_left
         · rintro w' ⟨s0,s1,s2,s3,s4,s5,s6,s7,s8,s9⟩
           go_simp
           with_reducible rfl
         rotate_left
         · simp only [Act.put,List.setIfInBounds_toArray,List.set_cons_zero,List.set_cons_succ,zx,zC]
           rfl
         refine one_ (i:=16) (N:=some 92) #[true,true,true,true,true,true,true,true,true,true,true,true,true,true,true,true,true,false,false,false,false] rfl rfl (z1n HT_.out (by kernel_rfl)) (by decide) (fun K hK=>?_)
         refine goes_ Try.func41 (by kernel_rfl) rfl #[.int .i64 a0,.agg #[.int .u64 ((zu l2_0 0).f0),.int .u64 ((zu l2_0 0).f1)],.agg #[.int .u64 ((zu l1_1 x12_3).f0),.int .u64 ((zu l1_1 x12_3).f1)]] (by rfl) rfl rfl (by (try simp only [List.map_toArray,List.map_cons,List.map_nil]);first|done|rfl|(simp only [List.length_drop,List.length_take];rfl)) ?_
         with_reducible refine (zD.calls k3 a0 ((zu l2_0 0).f0) ((zu l2_0 0).f1) ((zu l1_1 x12_3).f0) ((zu l1_1 x12_3).f1) t118 t119 _ A53.out).mono ?_
         rintro e w61 ⟨rfl,hb⟩
         refine ⟨_,rfl,?_⟩
         have n0_:=z3.mk (Kd.z1e (by (with_reducible repeat (first|apply Kd.zQ|apply Kd.zR|apply Kd.zZ));exact HO_11.out) hb)
         have n1_:=z3.mk (zb (g:=gb101) (o:=.cells #[.slice (some ad115) l1_0.length c1_0,.slice (some ad117) l1_1.length c1_1] 64 (0,0)) (by (with_reducible repeat (first|refine z2 ?_ _|refine z6 ?_|refine z1 ?_ _));exact BK101.out) hb)
         have n2_:=z3.mk (zb (g:=gb102) (o:=.cells #[.slice (some ad116) l2_0.length c2_0,.slice A2_1 l2_1.length c2_1] 66 (0,0)) (by (with_reducible repeat (first|refine z2 ?_ _|refine z6 ?_|refine z1 ?_ _));exact BK102.out) hb)
         have n3_:=z3.mk (zb (g:=gb109) (o:=.cells #[.int .u64 t106,.int .u64 t107] 51 (0,0)) (by (with_reducible repeat (first|refine z2 ?_ _|refine z6 ?_|refine z1 ?_ _));exact BK109.out) hb)
         have n4_:=z3.mk (zb (g:=gb113) (o:=.cells #[.int .u64 t110,.int .u64 t111] 51 (0,0)) (by (with_reducible repeat (first|refine z2 ?_ _|refine z6 ?_|refine z1 ?_ _));exact BK113.out) hb)
         have n5_:=z3.mk (zd (by repeat (first|(with_reducible first|exact HB.out|apply z5|apply z0|apply z4|refine z7 ?_ GE101.out|refine z7 ?_ GE102.out|refine z7 ?_ GE109.out|refine z7 ?_ GE113.out)|exact HB.out)) hb)
         clear HO_11
         clear BK101
         clear BK102
         clear BK109
         clear BK113
         clear HB
         have HO_11:=n0_
         have BK101:=n1_
         have BK102:=n2_
         have BK109:=n3_
         have BK113:=n4_
         have HB:=n5_
         clear n0_ n1_ n2_ n3_ n4_ n5_
         (try clear hb)
         (try clear hb2)
         (try clear hk)
         (try clear hi)
         refine hK.out _ _ ⟨(z9 BK101.out 0).trans rfl,(z9 BK101.out 1).trans rfl,(z9 BK102.out 0).trans rfl,(z9 BK102.out 1).trans rfl,((HB.out.cell (World.block_lt_of_cell? w _ hw115_0)).trans hw115_0),((HB.out.cell (World.block_lt_of_cell? w _ hw115_1)).trans hw115_1),((HB.out.cell (World.block_lt_of_cell? w _ hw116_0)).trans hw116_0),((HB.out.cell (World.block_lt_of_cell? w _ hw116_1)).trans hw116_1),((HB.out.cell (World.block_lt_of_cell? w _ hw117_0)).trans hw117_0),((HB.out.cell (World.block_lt_of_cell? w _ hw117_1)).trans hw117_1)⟩ (fun hHeld=>?_)
         clear hK K
         refine norm_ (a':=?_) ?_ ?_
         rotate_left
         · show Act.put _ (some 92) _ = _
           simp only [Act.put,List.setIfInBounds_toArray,List.set_cons_zero,List.set_cons_succ,zx,zC]
           rfl
         refine one_ (i:=17) (N:=some 93) #[true,true,true,true,true,true,true,true,true,true,true,true,true,true,true,true,true,true,false,false,false] rfl rfl (z1n HT_.out (by kernel_rfl)) (by decide) (fun K hK=>?_)
         refine goes_ Try.func40 (by kernel_rfl) rfl #[.agg #[.int .u64 ((zu l1_0 x12_3).f0),.int .u64 ((zu l1_0 x12_3).f1)],.agg #[.int .u64 t118,.int .u64 t119]] (by rfl) rfl rfl (by (try simp only [List.map_toArray,List.map_cons,List.map_nil]);first|done|rfl|(simp only [List.length_drop,List.length_take];rfl)) ?_
         with_reducible refine (z1c.calls ((zu l1_0 x12_3).f0) ((zu l1_0 x12_3).f1) t118 t119 t120 t121 _ A54.out).mono ?_
         rintro e w62 ⟨rfl,hb⟩
         refine ⟨_,rfl,?_⟩
         have n0_:=z3.mk (Kd.z1e (by (with_reducible repeat (first|apply Kd.zQ|apply Kd.zR|apply Kd.zZ));exact HO_11.out) hb)
         have n1_:=z3.mk (zb (g:=gb101) (o:=.cells #[.slice (some ad115) l1_0.length c1_0,.slice (some ad117) l1_1.length c1_1] 64 (0,0)) (by (with_reducible repeat (first|refine z2 ?_ _|refine z6 ?_|refine z1 ?_ _));exact BK101.out) hb)
         have n2_:=z3.mk (zb (g:=gb102) (o:=.cells #[.slice (some ad116) l2_0.length c2_0,.slice A2_1 l2_1.length c2_1] 66 (0,0)) (by (with_reducible repeat (first|refine z2 ?_ _|refine z6 ?_|refine z1 ?_ _));exact BK102.out) hb)
         have n3_:=z3.mk (zb (g:=gb109) (o:=.cells #[.int .u64 t106,.int .u64 t107] 51 (0,0)) (by (with_reducible repeat (first|refine z2 ?_ _|refine z6 ?_|refine z1 ?_ _));exact BK109.out) hb)
         have n4_:=z3.mk (zb (g:=gb113) (o:=.cells #[.int .u64 t110,.int .u64 t111] 51 (0,0)) (by (with_reducible repeat (first|refine z2 ?_ _|refine z6 ?_|refine z1 ?_ _));exact BK113.out) hb)
         have n5_:=z3.mk (zd (by repeat (first|(with_reducible first|exact HB.out|apply z5|apply z0|apply z4|refine z7 ?_ GE101.out|refine z7 ?_ GE102.out|refine z7 ?_ GE109.out|refine z7 ?_ GE113.out)|exact HB.out)) hb)
         clear HO_11
         clear BK101
         clear BK102
         clear BK109
         clear BK113
         clear HB
         have HO_11:=n0_
         have BK101:=n1_
         have BK102:=n2_
         have BK109:=n3_
         have BK113:=n4_
         have HB:=n5_
         clear n0_ n1_ n2_ n3_ n4_ n5_
         (try clear hb)
         (try clear hb2)
         (try clear hk)
         (try clear hi)
         refine hK.out _ _ ⟨(z9 BK101.out 0).trans rfl,(z9 BK101.out 1).trans rfl,(z9 BK102.out 0).trans rfl,(z9 BK102.out 1).trans rfl,((HB.out.cell (World.block_lt_of_cell? w _ hw115_0)).trans hw115_0),((HB.out.cell (World.block_lt_of_cell? w _ hw115_1)).trans hw115_1),((HB.out.cell (World.block_lt_of_cell? w _ hw116_0)).trans hw116_0),((HB.out.cell (World.block_lt_of_cell? w _ hw116_1)).trans hw116_1),((HB.out.cell (World.block_lt_of_cell? w _ hw117_0)).trans hw117_0),((HB.out.cell (World.block_lt_of_cell? w _ hw117_1)).trans hw117_1)⟩ (fun hHeld=>?_)
         clear hK K
         refine norm_ (a':=?_) ?_ ?_
         rotate_left
         · show Act.put _ (some 93) _ = _
           simp only [Act.put,List.setIfInBounds_toArray,List.set_cons_zero,List.set_cons_succ,zx,zC]
           rfl
         refine one_ (i:=18) (N:=some 94) #[true,true,true,true,true,true,true,true,true,true,true,true,true,true,true,true,true,true,true,false,false] rfl rfl (z1n HT_.out (by kernel_rfl)) (by decide) (fun K hK=>?_)
         refine value_ (w1:=?_) (v:=?_) (by rfl) rfl ?_ ?_
         rotate_left 2
         · go_simp
           constructor
           · rfl
           · rfl
         refine hK.out _ _ ⟨(z9 (z1 BK101.out _) 0).trans rfl,(z9 (z1 BK101.out _) 1).trans rfl,(z9 (z1 BK102.out _) 0).trans rfl,(z9 (z1 BK102.out _) 1).trans rfl,(World.cell?_alloc_lt _ _ _ (World.block_lt_of_cell? _ _ (((HB.out.cell (World.block_lt_of_cell? w _ hw115_0)).trans hw115_0)))).trans (((HB.out.cell (World.block_lt_of_cell? w _ hw115_0)).trans hw115_0)),(World.cell?_alloc_lt _ _ _ (World.block_lt_of_cell? _ _ (((HB.out.cell (World.block_lt_of_cell? w _ hw115_1)).trans hw115_1)))).trans (((HB.out.cell (World.block_lt_of_cell? w _ hw115_1)).trans hw115_1)),(World.cell?_alloc_lt _ _ _ (World.block_lt_of_cell? _ _ (((HB.out.cell (World.block_lt_of_cell? w _ hw116_0)).trans hw116_0)))).trans (((HB.out.cell (World.block_lt_of_cell? w _ hw116_0)).trans hw116_0)),(World.cell?_alloc_lt _ _ _ (World.block_lt_of_cell? _ _ (((HB.out.cell (World.block_lt_of_cell? w _ hw116_1)).trans hw116_1)))).trans (((HB.out.cell (World.block_lt_of_cell? w _ hw116_1)).trans hw116_1)),(World.cell?_alloc_lt _ _ _ (World.block_lt_of_cell? _ _ (((HB.out.cell (World.block_lt_of_cell? w _ hw117_0)).trans hw117_0)))).trans (((HB.out.cell (World.block_lt_of_cell? w _ hw117_0)).trans hw117_0)),(World.cell?_alloc_lt _ _ _ (World.block_lt_of_cell? _ _ (((HB.out.cell (World.block_lt_of_cell? w _ hw117_1)).trans hw117_1)))).trans (((HB.out.cell (World.block_lt_of_cell? w _ hw117_1)).trans hw117_1))⟩ (fun hHeld=>?_)
         clear hK K
         refine norm_ (a':=?_) ?_ ?_
         rotate_left
         · show Act.put _ (some 94) _ = _
           simp only [Act.put,List.setIfInBounds_toArray,List.set_cons_zero,List.set_cons_succ,zx,zC]
           rfl
         refine one_ (i:=19) (N:=some 95) #[true,true,true,true,true,true,true,true,true,true,true,true,true,true,true,true,true,true,true,true,false] rfl rfl (z1n HT_.out (by kernel_rfl)) (by decide) (fun K hK=>?_)
         refine Kd.z3l k51 (w0:=w) w.heap.size (by rfl) (.tmp 76) (.tmp 94) 37 51 (.agg #[(.int .u64 0),(.int .u64 0)]) 16 rfl Try.underlying37 info51 rfl (by decide) (by omega) u11 x11_3 (⟨t120,t121⟩ : S51) [.int .u64 t120,.int .u64 t121] (fun k_=>k_ ≠ gb109 ∧ k_ ≠ gb113) (fun _=>False) rfl rfl ?aP (fun _ hk=>hk.elim) ?aF ?aO ?aB ?aS ?aL ?_
         (case aP=>exact z1H _ _ _ (⟨t120,t121⟩ : S51))
         (case aB=>exact (by repeat (first|(with_reducible first|exact HB.out|apply z5|apply z0|apply z4|refine z7 ?_ GE101.out|refine z7 ?_ GE102.out|refine z7 ?_ GE109.out|refine z7 ?_ GE113.out)|exact HB.out)))
         (case aF=>exact (fun k_ hk=>⟨Kd.freshB (g:=gb109) (o:=.cells #[.int .u64 t106,.int .u64 t107] 51 (0,0)) (by (with_reducible repeat (first|refine z2 ?_ _|refine z6 ?_|refine z1 ?_ _));exact BK109.out) k_ hk,Kd.freshB (g:=gb113) (o:=.cells #[.int .u64 t110,.int .u64 t111] 51 (0,0)) (by (with_reducible repeat (first|refine z2 ?_ _|refine z6 ?_|refine z1 ?_ _));exact BK113.out) k_ hk⟩))
         (case aO=>exact (by (with_reducible repeat (first|apply Kd.zQ|apply Kd.zR|apply Kd.zZ));exact HO_11.out))
         (case aS=>exact (ze (by repeat (first|(with_reducible first|exact HB.out|apply z5|apply z0|apply z4|refine z7 ?_ GE101.out|refine z7 ?_ GE102.out|refine z7 ?_ GE109.out|refine z7 ?_ GE113.out)|exact HB.out))))
         (case aL=>have:=LMc55.out;omega)
         intro v123 w63 ho hb hg hat
         rw [← Ny122.out] at ho
         have n0_:=z3.mk (z2j (g:=gb101) (o:=.cells #[.slice (some ad115) l1_0.length c1_0,.slice (some ad117) l1_1.length c1_1] 64 (0,0)) (by (with_reducible repeat (first|refine z2 ?_ _|refine z6 ?_|refine z1 ?_ _));exact BK101.out) hg (Kd.R_ne HO_11.out BK101.out (by decide)))
         have n1_:=z3.mk (z2j (g:=gb102) (o:=.cells #[.slice (some ad116) l2_0.length c2_0,.slice A2_1 l2_1.length c2_1] 66 (0,0)) (by (with_reducible repeat (first|refine z2 ?_ _|refine z6 ?_|refine z1 ?_ _));exact BK102.out) hg (Kd.R_ne HO_11.out BK102.out (by decide)))
         have n2_:=z3.mk (z2j (g:=gb109) (o:=.cells #[.int .u64 t106,.int .u64 t107] 51 (0,0)) (by (with_reducible repeat (first|refine z2 ?_ _|refine z6 ?_|refine z1 ?_ _));exact BK109.out) hg (Kd.z43 HO_11.out (fun _ hk=>hk.1)))
         have n3_:=z3.mk (z2j (g:=gb113) (o:=.cells #[.int .u64 t110,.int .u64 t111] 51 (0,0)) (by (with_reducible repeat (first|refine z2 ?_ _|refine z6 ?_|refine z1 ?_ _));exact BK113.out) hg (Kd.z43 HO_11.out (fun _ hk=>hk.2)))
         have n4_:=z3.mk (hb)
         have n5_:=z3.mk (ho)
         clear BK101
         clear BK102
         clear BK109
         clear BK113
         clear HB
         clear HO_11
         have BK101:=n0_
         have BK102:=n1_
         have BK109:=n2_
         have BK113:=n3_
         have HB:=n4_
         have HO124:=n5_
         clear n0_ n1_ n2_ n3_ n4_ n5_
         clear ho hb hg hat
         refine hK.out _ _ ⟨(z9 BK101.out 0).trans rfl,(z9 BK101.out 1).trans rfl,(z9 BK102.out 0).trans rfl,(z9 BK102.out 1).trans rfl,((HB.out.cell (World.block_lt_of_cell? w _ hw115_0)).trans hw115_0),((HB.out.cell (World.block_lt_of_cell? w _ hw115_1)).trans hw115_1),((HB.out.cell (World.block_lt_of_cell? w _ hw116_0)).trans hw116_0),((HB.out.cell (World.block_lt_of_cell? w _ hw116_1)).trans hw116_1),((HB.out.cell (World.block_lt_of_cell? w _ hw117_0)).trans hw117_0),((HB.out.cell (World.block_lt_of_cell? w _ hw117_1)).trans hw117_1)⟩ (fun hHeld=>?_)
         clear hK K
         refine norm_ (a':=?_) ?_ ?_
         rotate_left
         · show Act.put _ (some 95) _ = _
           simp only [Act.put,List.setIfInBounds_toArray,List.set_cons_zero,List.set_cons_succ,zx,zC]
           rfl
         refine pure_ (i:=20) (N:=some 11) (v:=?_) (a':=?_) #[true,true,true,true,true,true,true,true,true,true,true,true,true,true,true,true,true,true,true,true,true] rfl rfl (zH HT_.out (by kernel_rfl)) (fun _ _ _ h=>h) (Or.inl ⟨by rfl,?_⟩) ?_ ?_
         rotate_left
         · intro w'
           go_simp
           with_reducible rfl
         rotate_left
         · simp only [Act.put,List.setIfInBounds_toArray,List.set_cons_zero,List.set_cons_succ,zx,zC]
           rfl
         refine done_ (z1P HT_.out (by kernel_rfl)) ?_
         try go_wp2
         go_roundg k3
         case measure=>have:=HJ3.out;have:=HJ27.out;have:=HK3.out;omega
         case rel=>exact ⟨(y122),(wrap64 (x12_3 + 1)),(by first|rfl|(simp;done)|(simp [*];done)),H',⟨by have:=HJ3.out;have:=HJ27.out;have:=HK3.out;omega⟩,⟨by (with_reducible repeat (first|apply Kd.zQ|apply Kd.zR|apply Kd.zZ));exact HO124.out⟩,⟨by (with_reducible repeat (first|refine z2 ?_ _|refine z6 ?_|refine z1 ?_ _));exact BK101.out⟩,⟨by (with_reducible repeat (first|refine z2 ?_ _|refine z6 ?_|refine z1 ?_ _));exact BK102.out⟩,⟨by (with_reducible repeat (first|refine z2 ?_ _|refine z6 ?_|refine z1 ?_ _));exact BK109.out⟩,⟨by (with_reducible repeat (first|refine z2 ?_ _|refine z6 ?_|refine z1 ?_ _));exact BK113.out⟩,⟨by repeat (first|(with_reducible first|exact HB.out|apply z5|apply z0|apply z4|refine z7 ?_ GE101.out|refine z7 ?_ GE102.out|refine z7 ?_ GE109.out|refine z7 ?_ GE113.out)|exact HB.out)⟩⟩
       rw [if_neg c49] at H
       have c49b0 : decide (x12_3 < (l1_0.length : Int)) = false:=decide_eq_false c49
       clear c49
       replace H:=Option.bind_eq_some_iff.mp H
       obtain ⟨⟨t125,t126,t127⟩,A640,H⟩:=H
       replace H : ((zs.f k3).bind fun t129=>(if t129 = true then (if t127 = 0 then (if 0 < (l2_0.length : Int) then ((zD.f k3 a0 ((zu l2_0 0).f0) ((zu l2_0 0).f1) t110 t111).bind fun bt131=>((z1c.f t106 t107 bt131.1 bt131.2).bind fun bt133=>(some (t125 == bt133.1 && (t126 == bt133.2))))) else (none)) else (some false)) else (some false))) = some r:=H
       have A64:=z3.mk A640
       clear A640
       replace H:=Option.bind_eq_some_iff.mp H
       obtain ⟨t129,A650,H⟩:=H
       replace H : (if t129 = true then (if t127 = 0 then (if 0 < (l2_0.length : Int) then ((zD.f k3 a0 ((zu l2_0 0).f0) ((zu l2_0 0).f1) t110 t111).bind fun bt131=>((z1c.f t106 t107 bt131.1 bt131.2).bind fun bt133=>(some (t125 == bt133.1 && (t126 == bt133.2))))) else (none)) else (some false)) else (some false)) = some r:=H
       have A65:=z3.mk A650
       clear A650
       by_cases c66 : t129 = true
       rotate_left
       · replace c66:=Bool.eq_false_iff.mpr c66
         subst c66
         have H1 : (some false) = some r:=by rw [if_neg (show ¬ (false = true) by decide)] at H;exact H
         clear H
         have H:=H1
         clear H1
         obtain rfl:=Option.some.inj H
         have hnb109:=NB101_102.out
         have hnc109:=NB102_101.out
         have hnb110:=NB101_109.out
         have hnc110:=NB109_101.out
         have hnb111:=NB101_113.out
         have hnc111:=NB113_101.out
         have hcz112_0 : wr.cell? ⟨gb101,0,none⟩ = some (.slice A1_0 l1_0.length c1_0):=(z9 BK101.out 0).trans rfl
         have hcz112_1 : wr.cell? ⟨gb101,1,none⟩ = some (.slice A1_1 l1_1.length c1_1):=(z9 BK101.out 1).trans rfl
         have hfz112_0:=za BK101.out 0
         have hfz112_1:=za BK101.out 1
         have hnb113:=NB102_109.out
         have hnc113:=NB109_102.out
         have hnb114:=NB102_113.out
         have hnc114:=NB113_102.out
         have hcz115_0 : wr.cell? ⟨gb102,0,none⟩ = some (.slice A2_0 l2_0.length c2_0):=(z9 BK102.out 0).trans rfl
         have hcz115_1 : wr.cell? ⟨gb102,1,none⟩ = some (.slice A2_1 l2_1.length c2_1):=(z9 BK102.out 1).trans rfl
         have hfz115_0:=za BK102.out 0
         have hfz115_1:=za BK102.out 1
         obtain ⟨Ao116,co116,eo116⟩:=Kd.z1x HO_11.out
         subst eo116
         try go_wp2_with (first|((with_reducible refine zp (f:=35) rfl ?_);refine goesL_ (some 101) rfl rfl Try.func35 (by kernel_rfl) rfl #[.int .i64 a0,.slice Ao116 x11_3.length co116,.slice A2_1 l2_1.length c2_1] rfl (by (try simp only [List.map_toArray,List.map_cons,List.map_nil]);first|done|rfl|(simp only [List.length_drop,List.length_take];rfl)) ?_;(with_reducible refine (z10.calls k3 a0 _ _ x11_3 _ _ l2_1 t125 t126 t127 _ ?side1 ?side2 ?side3 ?side4 A64.out).mono ?_);(case side1=>repeat (first|exact (Kd.z14 HO_11.out).2.2|(with_reducible refine Kd.z16 ?_ _)|(with_reducible refine Kd.z17 ?_ _)|(with_reducible refine Kd.z1g ?_)));(case side2=>exact (Kd.z14 HO_11.out).2.1);(case side3=>repeat (first|exact (Kd.z1f HR2_1.out HB.out)|(with_reducible refine Kd.z16 ?_ _)|(with_reducible refine Kd.z17 ?_ _)|(with_reducible refine Kd.z1g ?_)));(case side4=>exact HC2_1.out);rintro e w117 ⟨rfl,hb⟩;refine ⟨_,rfl,?_⟩;have n0_:=z3.mk (Kd.z1e (by (with_reducible repeat (first|apply Kd.zQ|apply Kd.zR|apply Kd.zZ));exact HO_11.out) hb);have n1_:=z3.mk (zb (g:=gb101) (o:=.cells #[.slice A1_0 l1_0.length c1_0,.slice A1_1 l1_1.length c1_1] 64 (0,0)) (by (with_reducible repeat (first|refine z2 ?_ _|refine z6 ?_|refine z1 ?_ _));exact BK101.out) hb);have n2_:=z3.mk (zb (g:=gb102) (o:=.cells #[.slice A2_0 l2_0.length c2_0,.slice A2_1 l2_1.length c2_1] 66 (0,0)) (by (with_reducible repeat (first|refine z2 ?_ _|refine z6 ?_|refine z1 ?_ _));exact BK102.out) hb);have n3_:=z3.mk (zb (g:=gb109) (o:=.cells #[.int .u64 t106,.int .u64 t107] 51 (0,0)) (by (with_reducible repeat (first|refine z2 ?_ _|refine z6 ?_|refine z1 ?_ _));exact BK109.out) hb);have n4_:=z3.mk (zb (g:=gb113) (o:=.cells #[.int .u64 t110,.int .u64 t111] 51 (0,0)) (by (with_reducible repeat (first|refine z2 ?_ _|refine z6 ?_|refine z1 ?_ _));exact BK113.out) hb);have n5_:=z3.mk (zd (by repeat (first|(with_reducible first|exact HB.out|apply z5|apply z0|apply z4|refine z7 ?_ GE101.out|refine z7 ?_ GE102.out|refine z7 ?_ GE109.out|refine z7 ?_ GE113.out)|exact HB.out)) hb);clear HO_11;clear BK101;clear BK102;clear BK109;clear BK113;clear HB;have HO_11:=n0_;have BK101:=n1_;have BK102:=n2_;have BK109:=n3_;have BK113:=n4_;have HB:=n5_;clear n0_ n1_ n2_ n3_ n4_ n5_;(try clear hb);(try clear hb2);(try clear hk);(try clear hi))|((with_reducible refine zy (N:=13) rfl ?_);(try (refine z1z (by rfl) ?_;dsimp only));refine zv ?hg (N:=13) ?hd (cs:=#[.int .u64 0,.int .u64 0]) (t:=51) ?hr ?_;(case hd=>rfl);(case hg=>rfl);(case hr=>first|(go_simp;done)|(go_simp;rfl));intro gb128 hg w118 hbox hb;have n0_:=z3.mk (Kd.z1e (Kd.z1D (by (with_reducible repeat (first|apply Kd.zQ|apply Kd.zR|apply Kd.zZ));exact HO_11.out) gb128 (Nat.le_of_eq hg.symm)) hb);have n1_:=z3.mk (zb (g:=gb101) (o:=.cells #[.slice A1_0 l1_0.length c1_0,.slice A1_1 l1_1.length c1_1] 64 (0,0)) (by (with_reducible repeat (first|refine z2 ?_ _|refine z6 ?_|refine z1 ?_ _));exact BK101.out) hb);have n2_:=z3.mk (zb (g:=gb102) (o:=.cells #[.slice A2_0 l2_0.length c2_0,.slice A2_1 l2_1.length c2_1] 66 (0,0)) (by (with_reducible repeat (first|refine z2 ?_ _|refine z6 ?_|refine z1 ?_ _));exact BK102.out) hb);have n3_:=z3.mk (zb (g:=gb109) (o:=.cells #[.int .u64 t106,.int .u64 t107] 51 (0,0)) (by (with_reducible repeat (first|refine z2 ?_ _|refine z6 ?_|refine z1 ?_ _));exact BK109.out) hb);have n4_:=z3.mk (zb (g:=gb113) (o:=.cells #[.int .u64 t110,.int .u64 t111] 51 (0,0)) (by (with_reducible repeat (first|refine z2 ?_ _|refine z6 ?_|refine z1 ?_ _));exact BK113.out) hb);have n5_:=z3.mk (zd (by repeat (first|(with_reducible first|exact HB.out|apply z5|apply z0|apply z4|refine z7 ?_ GE101.out|refine z7 ?_ GE102.out|refine z7 ?_ GE109.out|refine z7 ?_ GE113.out)|exact HB.out)) hb);have n6_:=z3.mk (hbox);have n7_:=z3.mk ((by rw [hg];exact (ze (by repeat (first|(with_reducible first|exact HB.out|apply z5|apply z0|apply z4|refine z7 ?_ GE101.out|refine z7 ?_ GE102.out|refine z7 ?_ GE109.out|refine z7 ?_ GE113.out)|exact HB.out))) : w.heap.size ≤ gb128));have n8_:=z3.mk ((by rw [hg];exact (ze (by repeat (first|(with_reducible first|exact HB.out|apply z5|apply z0|apply z4|refine z7 ?_ GE101.out|refine z7 ?_ GE102.out|refine z7 ?_ GE109.out|refine z7 ?_ GE113.out)|exact HB.out))) : w.heap.size ≤ gb128));have n9_:=z3.mk ((by rw [hg];exact Nat.ne_of_lt (zz (g:=gb101) (o:=.cells #[.slice A1_0 l1_0.length c1_0,.slice A1_1 l1_1.length c1_1] 64 (0,0)) (by (with_reducible repeat (first|refine z2 ?_ _|refine z6 ?_|refine z1 ?_ _));exact BK101.out)) : gb101 ≠ gb128));have n10_:=z3.mk ((by rw [hg];exact Nat.ne_of_gt (zz (g:=gb101) (o:=.cells #[.slice A1_0 l1_0.length c1_0,.slice A1_1 l1_1.length c1_1] 64 (0,0)) (by (with_reducible repeat (first|refine z2 ?_ _|refine z6 ?_|refine z1 ?_ _));exact BK101.out)) : gb128 ≠ gb101));have n11_:=z3.mk ((by rw [hg];exact Nat.ne_of_lt (zz (g:=gb102) (o:=.cells #[.slice A2_0 l2_0.length c2_0,.slice A2_1 l2_1.length c2_1] 66 (0,0)) (by (with_reducible repeat (first|refine z2 ?_ _|refine z6 ?_|refine z1 ?_ _));exact BK102.out)) : gb102 ≠ gb128));have n12_:=z3.mk ((by rw [hg];exact Nat.ne_of_gt (zz (g:=gb102) (o:=.cells #[.slice A2_0 l2_0.length c2_0,.slice A2_1 l2_1.length c2_1] 66 (0,0)) (by (with_reducible repeat (first|refine z2 ?_ _|refine z6 ?_|refine z1 ?_ _));exact BK102.out)) : gb128 ≠ gb102));have n13_:=z3.mk ((by rw [hg];exact Nat.ne_of_lt (zz (g:=gb109) (o:=.cells #[.int .u64 t106,.int .u64 t107] 51 (0,0)) (by (with_reducible repeat (first|refine z2 ?_ _|refine z6 ?_|refine z1 ?_ _));exact BK109.out)) : gb109 ≠ gb128));have n14_:=z3.mk ((by rw [hg];exact Nat.ne_of_gt (zz (g:=gb109) (o:=.cells #[.int .u64 t106,.int .u64 t107] 51 (0,0)) (by (with_reducible repeat (first|refine z2 ?_ _|refine z6 ?_|refine z1 ?_ _));exact BK109.out)) : gb128 ≠ gb109));have n15_:=z3.mk ((by rw [hg];exact Nat.ne_of_lt (zz (g:=gb113) (o:=.cells #[.int .u64 t110,.int .u64 t111] 51 (0,0)) (by (with_reducible repeat (first|refine z2 ?_ _|refine z6 ?_|refine z1 ?_ _));exact BK113.out)) : gb113 ≠ gb128));have n16_:=z3.mk ((by rw [hg];exact Nat.ne_of_gt (zz (g:=gb113) (o:=.cells #[.int .u64 t110,.int .u64 t111] 51 (0,0)) (by (with_reducible repeat (first|refine z2 ?_ _|refine z6 ?_|refine z1 ?_ _));exact BK113.out)) : gb128 ≠ gb113));clear HO_11;clear BK101;clear BK102;clear BK109;clear BK113;clear HB;have HO_11:=n0_;have BK101:=n1_;have BK102:=n2_;have BK109:=n3_;have BK113:=n4_;have HB:=n5_;have BK128:=n6_;have GW128:=n7_;have GE128:=n8_;have NB101_128:=n9_;have NB128_101:=n10_;have NB102_128:=n11_;have NB128_102:=n12_;have NB109_128:=n13_;have NB128_109:=n14_;have NB113_128:=n15_;have NB128_113:=n16_;clear n0_ n1_ n2_ n3_ n4_ n5_ n6_ n7_ n8_ n9_ n10_ n11_ n12_ n13_ n14_ n15_ n16_;clear hb hbox hg;have hnb119:=NB128_101.out;have hnc119:=NB101_128.out;have hnb120:=NB128_102.out;have hnc120:=NB102_128.out;have hnb121:=NB128_109.out;have hnc121:=NB109_128.out;have hnb122:=NB128_113.out;have hnc122:=NB113_128.out;have hcz123_0 : w118.cell? ⟨gb128,0,none⟩ = some (.int .u64 0):=(z9 BK128.out 0).trans rfl;have hcz123_1 : w118.cell? ⟨gb128,1,none⟩ = some (.int .u64 0):=(z9 BK128.out 1).trans rfl;have hfz123_0:=za BK128.out 0;have hfz123_1:=za BK128.out 1))
         have n0_ : z3 (Kd.R k51 51 ((w118.setCell ⟨gb128,0,none⟩ (.int .u64 t125)).setCell ⟨gb128,1,none⟩ (.int .u64 t126)) w.heap.size (fun k_=>k_ ≠ gb109 ∧ k_ ≠ gb113 ∧ k_ ≠ gb128) (.slice Ao116 x11_3.length co116) x11_3):=⟨by (with_reducible repeat (first|apply Kd.zQ|apply Kd.zR|apply Kd.zZ));exact Kd.z1I (Kd.z3D (p:=⟨gb128,1,none⟩) (Kd.z3D (p:=⟨gb128,0,none⟩) (Kd.z1I HO_11.out (fun k_ hk=>(⟨hk,hk.2⟩ : _ ∧ k_ ≠ gb128))) (fun _ hk=>hk.2) (.int .u64 t125)) (fun _ hk=>hk.2) (.int .u64 t126)) (fun _ hk=>⟨hk.1.1.1,⟨hk.1.1.2,hk.1.2⟩⟩)⟩
         have n1_ : z3 (((w118.setCell ⟨gb128,0,none⟩ (.int .u64 t125)).setCell ⟨gb128,1,none⟩ (.int .u64 t126)).heap[gb101]? = some (.cells #[.slice A1_0 l1_0.length c1_0,.slice A1_1 l1_1.length c1_1] 64 (0,0))):=⟨by (with_reducible repeat (first|refine z2 ?_ _|refine z6 ?_|refine z1 ?_ _));refine zF ?_ NB101_128.out _;(with_reducible repeat (first|refine z2 ?_ _|refine z6 ?_|refine z1 ?_ _));refine zF ?_ NB101_128.out _;(with_reducible repeat (first|refine z2 ?_ _|refine z6 ?_|refine z1 ?_ _));exact BK101.out⟩
         have n2_ : z3 (((w118.setCell ⟨gb128,0,none⟩ (.int .u64 t125)).setCell ⟨gb128,1,none⟩ (.int .u64 t126)).heap[gb102]? = some (.cells #[.slice A2_0 l2_0.length c2_0,.slice A2_1 l2_1.length c2_1] 66 (0,0))):=⟨by (with_reducible repeat (first|refine z2 ?_ _|refine z6 ?_|refine z1 ?_ _));refine zF ?_ NB102_128.out _;(with_reducible repeat (first|refine z2 ?_ _|refine z6 ?_|refine z1 ?_ _));refine zF ?_ NB102_128.out _;(with_reducible repeat (first|refine z2 ?_ _|refine z6 ?_|refine z1 ?_ _));exact BK102.out⟩
         have n3_ : z3 (((w118.setCell ⟨gb128,0,none⟩ (.int .u64 t125)).setCell ⟨gb128,1,none⟩ (.int .u64 t126)).heap[gb109]? = some (.cells #[.int .u64 t106,.int .u64 t107] 51 (0,0))):=⟨by (with_reducible repeat (first|refine z2 ?_ _|refine z6 ?_|refine z1 ?_ _));refine zF ?_ NB109_128.out _;(with_reducible repeat (first|refine z2 ?_ _|refine z6 ?_|refine z1 ?_ _));refine zF ?_ NB109_128.out _;(with_reducible repeat (first|refine z2 ?_ _|refine z6 ?_|refine z1 ?_ _));exact BK109.out⟩
         have n4_ : z3 (((w118.setCell ⟨gb128,0,none⟩ (.int .u64 t125)).setCell ⟨gb128,1,none⟩ (.int .u64 t126)).heap[gb113]? = some (.cells #[.int .u64 t110,.int .u64 t111] 51 (0,0))):=⟨by (with_reducible repeat (first|refine z2 ?_ _|refine z6 ?_|refine z1 ?_ _));refine zF ?_ NB113_128.out _;(with_reducible repeat (first|refine z2 ?_ _|refine z6 ?_|refine z1 ?_ _));refine zF ?_ NB113_128.out _;(with_reducible repeat (first|refine z2 ?_ _|refine z6 ?_|refine z1 ?_ _));exact BK113.out⟩
         have n5_ : z3 (((w118.setCell ⟨gb128,0,none⟩ (.int .u64 t125)).setCell ⟨gb128,1,none⟩ (.int .u64 t126)).heap[gb128]? = some (.cells #[.int .u64 t125,.int .u64 t126] 51 (0,0))):=⟨by (with_reducible repeat (first|refine z2 ?_ _|refine z6 ?_|refine z1 ?_ _));refine zG (cs:=#[.int .u64 t125,.int .u64 0]) ?_ 1 _ rfl;(with_reducible repeat (first|refine z2 ?_ _|refine z6 ?_|refine z1 ?_ _));refine zG (cs:=#[.int .u64 0,.int .u64 0]) ?_ 0 _ rfl;(with_reducible repeat (first|refine z2 ?_ _|refine z6 ?_|refine z1 ?_ _));exact BK128.out⟩
         have n6_ : z3 (Below w.heap.size w ((w118.setCell ⟨gb128,0,none⟩ (.int .u64 t125)).setCell ⟨gb128,1,none⟩ (.int .u64 t126))):=⟨by repeat (first|(with_reducible first|exact HB.out|apply z5|apply z0|apply z4|refine z7 ?_ GE101.out|refine z7 ?_ GE102.out|refine z7 ?_ GE109.out|refine z7 ?_ GE113.out|refine z7 ?_ GE128.out)|exact HB.out)⟩
         (try clear HO_11)
         (try clear BK101)
         (try clear BK102)
         (try clear BK109)
         (try clear BK113)
         (try clear BK128)
         (try clear HB)
         generalize ((w118.setCell ⟨gb128,0,none⟩ (.int .u64 t125)).setCell ⟨gb128,1,none⟩ (.int .u64 t126)) = w124 at n0_ n1_ n2_ n3_ n4_ n5_ n6_ ⊢
         have HO_11:=n0_
         have BK101:=n1_
         have BK102:=n2_
         have BK109:=n3_
         have BK113:=n4_
         have BK128:=n5_
         have HB:=n6_
         clear n0_ n1_ n2_ n3_ n4_ n5_ n6_
         have n0_:=z3.mk (Kd.zZ HO_11.out)
         have n1_:=z3.mk (z6 BK101.out)
         have n2_:=z3.mk (z6 BK102.out)
         have n3_:=z3.mk (z6 BK109.out)
         have n4_:=z3.mk (z6 BK113.out)
         have n5_:=z3.mk (z6 BK128.out)
         have n6_:=z3.mk (z4 HB.out)
         clear HO_11
         clear BK101
         clear BK102
         clear BK109
         clear BK113
         clear BK128
         clear HB
         have HO_11:=n0_
         have BK101:=n1_
         have BK102:=n2_
         have BK109:=n3_
         have BK113:=n4_
         have BK128:=n5_
         have HB:=n6_
         clear n0_ n1_ n2_ n3_ n4_ n5_ n6_
         refine start_ (n:=19) (S:=fun w'=>True) (ds:=[]) #[false,false,false,false,false,false,false,false,false,false,false,false,false,false,false,false,false,false,false] (by kernel_rfl) rfl rfl trivial (fun hHeld=>?_);refine z1u z8.tab13 z8.bits13 (fun HT_ HW_=>?_)
         generalize w124.drew = w125 at HO_11 BK101 BK102 BK109 BK113 BK128 HB hHeld ⊢
         refine one_ (i:=0) (N:=some 104) #[true,false,false,false,false,false,false,false,false,false,false,false,false,false,false,false,false,false,false] rfl rfl (z1n HT_.out (by kernel_rfl)) (by decide) (fun K hK=>?_)
         refine goes_ Try.func34 (by kernel_rfl) rfl #[] (by rfl) rfl rfl (by (try simp only [List.map_toArray,List.map_cons,List.map_nil]);first|done|rfl|(simp only [List.length_drop,List.length_take];rfl)) ?_
         with_reducible refine (zs.calls k3  false _ A65.out).mono ?_
         rintro e w126 ⟨rfl,hb⟩
         refine ⟨_,rfl,?_⟩
         have n0_:=z3.mk (Kd.z1e (by (with_reducible repeat (first|apply Kd.zQ|apply Kd.zR|apply Kd.zZ));exact HO_11.out) hb)
         have n1_:=z3.mk (zb (g:=gb101) (o:=.cells #[.slice A1_0 l1_0.length c1_0,.slice A1_1 l1_1.length c1_1] 64 (0,0)) (by (with_reducible repeat (first|refine z2 ?_ _|refine z6 ?_|refine z1 ?_ _));exact BK101.out) hb)
         have n2_:=z3.mk (zb (g:=gb102) (o:=.cells #[.slice A2_0 l2_0.length c2_0,.slice A2_1 l2_1.length c2_1] 66 (0,0)) (by (with_reducible repeat (first|refine z2 ?_ _|refine z6 ?_|refine z1 ?_ _));exact BK102.out) hb)
         have n3_:=z3.mk (zb (g:=gb109) (o:=.cells #[.int .u64 t106,.int .u64 t107] 51 (0,0)) (by (with_reducible repeat (first|refine z2 ?_ _|refine z6 ?_|refine z1 ?_ _));exact BK109.out) hb)
         have n4_:=z3.mk (zb (g:=gb113) (o:=.cells #[.int .u64 t110,.int .u64 t111] 51 (0,0)) (by (with_reducible repeat (first|refine z2 ?_ _|refine z6 ?_|refine z1 ?_ _));exact BK113.out) hb)
         have n5_:=z3.mk (zb (g:=gb128) (o:=.cells #[.int .u64 t125,.int .u64 t126] 51 (0,0)) (by (with_reducible repeat (first|refine z2 ?_ _|refine z6 ?_|refine z1 ?_ _));exact BK128.out) hb)
         have n6_:=z3.mk (zd (by repeat (first|(with_reducible first|exact HB.out|apply z5|apply z0|apply z4|refine z7 ?_ GE101.out|refine z7 ?_ GE102.out|refine z7 ?_ GE109.out|refine z7 ?_ GE113.out|refine z7 ?_ GE128.out)|exact HB.out)) hb)
         clear HO_11
         clear BK101
         clear BK102
         clear BK109
         clear BK113
         clear BK128
         clear HB
         have HO_11:=n0_
         have BK101:=n1_
         have BK102:=n2_
         have BK109:=n3_
         have BK113:=n4_
         have BK128:=n5_
         have HB:=n6_
         clear n0_ n1_ n2_ n3_ n4_ n5_ n6_
         (try clear hb)
         (try clear hb2)
         (try clear hk)
         (try clear hi)
         refine hK.out _ _ trivial (fun hHeld=>?_)
         clear hK K
         refine norm_ (a':=?_) ?_ ?_
         rotate_left
         · show Act.put _ (some 104) _ = _
           simp only [Act.put,List.setIfInBounds_toArray,List.set_cons_zero,List.set_cons_succ,zx,zC]
           rfl
         refine pure_ (i:=1) (N:=some 105) (v:=?_) (a':=?_) #[true,true,false,false,false,false,false,false,false,false,false,false,false,false,false,false,false,false,false] rfl rfl (zH HT_.out (by kernel_rfl)) (fun _ _ _ h=>h) (Or.inl ⟨by rfl,?_⟩) ?_ ?_
         rotate_left
         · intro w'
           go_simp
           with_reducible rfl
         rotate_left
         · simp only [Act.put,List.setIfInBounds_toArray,List.set_cons_zero,List.set_cons_succ,zx,zC]
           rfl
         refine pure_ (i:=2) (N:=some 106) (v:=undef) (a':=?_) #[true,true,true,false,false,false,false,false,false,false,false,false,false,false,false,false,false,false,false] rfl rfl (zH HT_.out (by kernel_rfl)) (fun _ _ _ h=>h) (Or.inr ⟨by rfl,rfl⟩) ?_ ?_
         rotate_left
         · simp only [Act.put,List.setIfInBounds_toArray,List.set_cons_zero,List.set_cons_succ,zx,zC]
           rfl
         refine pure_ (i:=3) (N:=some 107) (v:=undef) (a':=?_) #[true,true,true,true,false,false,false,false,false,false,false,false,false,false,false,false,false,false,false] rfl rfl (zH HT_.out (by kernel_rfl)) (fun _ _ _ h=>h) (Or.inr ⟨by rfl,rfl⟩) ?_ ?_
         rotate_left
         · simp only [Act.put,List.setIfInBounds_toArray,List.set_cons_zero,List.set_cons_succ,zx,zC]
           rfl
         refine pure_ (i:=4) (N:=some 108) (v:=?_) (a':=?_) #[true,true,true,true,true,false,false,false,false,false,false,false,false,false,false,false,false,false,false] rfl rfl (zH HT_.out (by kernel_rfl)) (fun _ _ _ h=>h) (Or.inl ⟨by rfl,?_⟩) ?_ ?_
         rotate_left
         · intro w'
           go_simp
           with_reducible rfl
         rotate_left
         · simp only [Act.put,List.setIfInBounds_toArray,List.set_cons_zero,List.set_cons_succ,zx,zC]
           rfl
         refine pure_ (i:=5) (N:=some 109) (v:=?_) (a':=?_) #[true,true,true,true,true,true,false,false,false,false,false,false,false,false,false,false,false,false,false] rfl rfl (zH HT_.out (by kernel_rfl)) (fun _ _ _ h=>h) (Or.inl ⟨by rfl,?_⟩) ?_ ?_
         rotate_left
         · intro w'
           go_simp
           with_reducible rfl
         rotate_left
         · simp only [Act.put,List.setIfInBounds_toArray,List.set_cons_zero,List.set_cons_succ,zx,zC]
           rfl
         refine pure_ (i:=6) (N:=some 110) (v:=undef) (a':=?_) #[true,true,true,true,true,true,true,false,false,false,false,false,false,false,false,false,false,false,false] rfl rfl (zH HT_.out (by kernel_rfl)) (fun _ _ _ h=>h) (Or.inr ⟨by rfl,rfl⟩) ?_ ?_
         rotate_left
         · simp only [Act.put,List.setIfInBounds_toArray,List.set_cons_zero,List.set_cons_succ,zx,zC]
           rfl
         refine pure_ (i:=7) (N:=some 111) (v:=undef) (a':=?_) #[true,true,true,true,true,true,true,true,false,false,false,false,false,false,false,false,false,false,false] rfl rfl (zH HT_.out (by kernel_rfl)) (fun _ _ _ h=>h) (Or.inr ⟨by rfl,rfl⟩) ?_ ?_
         rotate_left
         · simp only [Act.put,List.setIfInBounds_toArray,List.set_cons_zero,List.set_cons_succ,zx,zC]
           rfl
         refine pure_ (i:=8) (N:=some 112) (v:=undef) (a':=?_) #[true,true,true,true,true,true,true,true,true,false,false,false,false,false,false,false,false,false,false] rfl rfl (zH HT_.out (by kernel_rfl)) (fun _ _ _ h=>h) (Or.inr ⟨by rfl,rfl⟩) ?_ ?_
         rotate_left
         · simp only [Act.put,List.setIfInBounds_toArray,List.set_cons_zero,List.set_cons_succ,zx,zC]
           rfl
         refine pure_ (i:=9) (N:=some 113) (v:=undef) (a':=?_) #[true,true,true,true,true,true,true,true,true,true,false,false,false,false,false,false,false,false,false] rfl rfl (zH HT_.out (by kernel_rfl)) (fun _ _ _ h=>h) (Or.inr ⟨by rfl,rfl⟩) ?_ ?_
         rotate_left
         · simp only [Act.put,List.setIfInBounds_toArray,List.set_cons_zero,List.set_cons_succ,zx,zC]
           rfl
         refine pure_ (i:=10) (N:=some 114) (v:=undef) (a':=?_) #[true,true,true,true,true,true,true,true,true,true,true,false,false,false,false,false,false,false,false] rfl rfl (zH HT_.out (by kernel_rfl)) (fun _ _ _ h=>h) (Or.inr ⟨by rfl,rfl⟩) ?_ ?_
         rotate_left
         · simp only [Act.put,List.setIfInBounds_toArray,List.set_cons_zero,List.set_cons_succ,zx,zC]
           rfl
         refine pure_ (i:=11) (N:=some 115) (v:=undef) (a':=?_) #[true,true,true,true,true,true,true,true,true,true,true,true,false,false,false,false,false,false,false] rfl rfl (zH HT_.out (by kernel_rfl)) (fun _ _ _ h=>h) (Or.inr ⟨by rfl,rfl⟩) ?_ ?_
         rotate_left
         · simp only [Act.put,List.setIfInBounds_toArray,List.set_cons_zero,List.set_cons_succ,zx,zC]
           rfl
         refine pure_ (i:=12) (N:=some 116) (v:=undef) (a':=?_) #[true,true,true,true,true,true,true,true,true,true,true,true,true,false,false,false,false,false,false] rfl rfl (zH HT_.out (by kernel_rfl)) (fun _ _ _ h=>h) (Or.inr ⟨by rfl,rfl⟩) ?_ ?_
         rotate_left
         · simp only [Act.put,List.setIfInBounds_toArray,List.set_cons_zero,List.set_cons_succ,zx,zC]
           rfl
         refine pure_ (i:=13) (N:=some 117) (v:=undef) (a':=?_) #[true,true,true,true,true,true,true,true,true,true,true,true,true,true,false,false,false,false,false] rfl rfl (zH HT_.out (by kernel_rfl)) (fun _ _ _ h=>h) (Or.inr ⟨by rfl,rfl⟩) ?_ ?_
         rotate_left
         · simp only [Act.put,List.setIfInBounds_toArray,List.set_cons_zero,List.set_cons_succ,zx,zC]
           rfl
         refine pure_ (i:=14) (N:=some 118) (v:=undef) (a':=?_) #[true,true,true,true,true,true,true,true,true,true,true,true,true,true,true,false,false,false,false] rfl rfl (zH HT_.out (by kernel_rfl)) (fun _ _ _ h=>h) (Or.inr ⟨by rfl,rfl⟩) ?_ ?_
         rotate_left
         · simp only [Act.put,List.setIfInBounds_toArray,List.set_cons_zero,List.set_cons_succ,zx,zC]
           rfl
         refine pure_ (i:=15) (N:=some 119) (v:=undef) (a':=?_) #[true,true,true,true,true,true,true,true,true,true,true,true,true,true,true,true,false,false,false] rfl rfl (zH HT_.out (by kernel_rfl)) (fun _ _ _ h=>h) (Or.inr ⟨by rfl,rfl⟩) ?_ ?_
         rotate_left
         · simp only [Act.put,List.setIfInBounds_toArray,List.set_cons_zero,List.set_cons_succ,zx,zC]
           rfl
         refine pure_ (i:=16) (N:=some 120) (v:=undef) (a':=?_) #[true,true,true,true,true,true,true,true,true,true,true,true,true,true,true,true,true,false,false] rfl rfl (zH HT_.out (by kernel_rfl)) (fun _ _ _ h=>h) (Or.inr ⟨by rfl,rfl⟩) ?_ ?_
         rotate_left
         · simp only [Act.put,List.setIfInBounds_toArray,List.set_cons_zero,List.set_cons_succ,zx,zC]
           rfl
         refine pure_ (i:=17) (N:=some 121) (v:=?_) (a':=?_) #[true,true,true,true,true,true,true,true,true,true,true,true,true,true,true,true,true,true,false] rfl rfl (zH HT_.out (by kernel_rfl)) (fun _ _ _ h=>h) (Or.inl ⟨by rfl,?_⟩) ?_ ?_
         rotate_left
         · intro w'
           go_simp
           with_reducible rfl
         rotate_left
         · simp only [Act.put,List.setIfInBounds_toArray,List.set_cons_zero,List.set_cons_succ,zx,zC]
           rfl
         refine pure_ (i:=18) (N:=some 6) (v:=?_) (a':=?_) #[true,true,true,true,true,true,true,true,true,true,true,true,true,true,true,true,true,true,true] rfl rfl (zH HT_.out (by kernel_rfl)) (fun _ _ _ h=>h) (Or.inl ⟨by rfl,?_⟩) ?_ ?_
         rotate_left
         · intro w'
           go_simp
           with_reducible rfl
         rotate_left
         · simp only [Act.put,List.setIfInBounds_toArray,List.set_cons_zero,List.set_cons_succ,zx,zC]
           rfl
         refine done_ (z1P HT_.out (by kernel_rfl)) ?_
         try go_wp2
         go_ret
         exact ⟨by first|rfl|(simp [zh,zi] <;> rfl)|(simp [*,zh,zi] <;> rfl),by repeat (first|(with_reducible first|exact HB.out|apply z5|apply z0|apply z4|refine z7 ?_ GE101.out|refine z7 ?_ GE102.out|refine z7 ?_ GE109.out|refine z7 ?_ GE113.out|refine z7 ?_ GE128.out)|exact HB.out)⟩
       subst c66
       have H1 : (if t127 = 0 then (if 0 < (l2_0.length : Int) then ((zD.f k3 a0 ((zu l2_0 0).f0) ((zu l2_0 0).f1) t110 t111).bind fun bt131=>((z1c.f t106 t107 bt131.1 bt131.2).bind fun bt133=>(some (t125 == bt133.1 && (t126 == bt133.2))))) else (none)) else (some false)) = some r:=by rw [if_pos rfl] at H;exact H
       clear H
       have H:=H1
       clear H1
       by_cases c67 : t127 = 0
       rotate_left
       · rw [if_neg c67] at H
         have c67b0 : (t127 == 0) = false:=beq_eq_false_iff_ne.mpr c67
         have c67b1 : (t127 != 0) = true:=bne_iff_ne.mpr c67
         obtain rfl:=Option.some.inj H
         have hnb91:=NB101_102.out
         have hnc91:=NB102_101.out
         have hnb92:=NB101_109.out
         have hnc92:=NB109_101.out
         have hnb93:=NB101_113.out
         have hnc93:=NB113_101.out
         have hcz94_0 : wr.cell? ⟨gb101,0,none⟩ = some (.slice A1_0 l1_0.length c1_0):=(z9 BK101.out 0).trans rfl
         have hcz94_1 : wr.cell? ⟨gb101,1,none⟩ = some (.slice A1_1 l1_1.length c1_1):=(z9 BK101.out 1).trans rfl
         have hfz94_0:=za BK101.out 0
         have hfz94_1:=za BK101.out 1
         have hnb95:=NB102_109.out
         have hnc95:=NB109_102.out
         have hnb96:=NB102_113.out
         have hnc96:=NB113_102.out
         have hcz97_0 : wr.cell? ⟨gb102,0,none⟩ = some (.slice A2_0 l2_0.length c2_0):=(z9 BK102.out 0).trans rfl
         have hcz97_1 : wr.cell? ⟨gb102,1,none⟩ = some (.slice A2_1 l2_1.length c2_1):=(z9 BK102.out 1).trans rfl
         have hfz97_0:=za BK102.out 0
         have hfz97_1:=za BK102.out 1
         obtain ⟨Ao98,co98,eo98⟩:=Kd.z1x HO_11.out
         subst eo98
         try go_wp2_with (first|((with_reducible refine zp (f:=35) rfl ?_);refine goesL_ (some 101) rfl rfl Try.func35 (by kernel_rfl) rfl #[.int .i64 a0,.slice Ao98 x11_3.length co98,.slice A2_1 l2_1.length c2_1] rfl (by (try simp only [List.map_toArray,List.map_cons,List.map_nil]);first|done|rfl|(simp only [List.length_drop,List.length_take];rfl)) ?_;(with_reducible refine (z10.calls k3 a0 _ _ x11_3 _ _ l2_1 t125 t126 t127 _ ?side1 ?side2 ?side3 ?side4 A64.out).mono ?_);(case side1=>repeat (first|exact (Kd.z14 HO_11.out).2.2|(with_reducible refine Kd.z16 ?_ _)|(with_reducible refine Kd.z17 ?_ _)|(with_reducible refine Kd.z1g ?_)));(case side2=>exact (Kd.z14 HO_11.out).2.1);(case side3=>repeat (first|exact (Kd.z1f HR2_1.out HB.out)|(with_reducible refine Kd.z16 ?_ _)|(with_reducible refine Kd.z17 ?_ _)|(with_reducible refine Kd.z1g ?_)));(case side4=>exact HC2_1.out);rintro e w99 ⟨rfl,hb⟩;refine ⟨_,rfl,?_⟩;have n0_:=z3.mk (Kd.z1e (by (with_reducible repeat (first|apply Kd.zQ|apply Kd.zR|apply Kd.zZ));exact HO_11.out) hb);have n1_:=z3.mk (zb (g:=gb101) (o:=.cells #[.slice A1_0 l1_0.length c1_0,.slice A1_1 l1_1.length c1_1] 64 (0,0)) (by (with_reducible repeat (first|refine z2 ?_ _|refine z6 ?_|refine z1 ?_ _));exact BK101.out) hb);have n2_:=z3.mk (zb (g:=gb102) (o:=.cells #[.slice A2_0 l2_0.length c2_0,.slice A2_1 l2_1.length c2_1] 66 (0,0)) (by (with_reducible repeat (first|refine z2 ?_ _|refine z6 ?_|refine z1 ?_ _));exact BK102.out) hb);have n3_:=z3.mk (zb (g:=gb109) (o:=.cells #[.int .u64 t106,.int .u64 t107] 51 (0,0)) (by (with_reducible repeat (first|refine z2 ?_ _|refine z6 ?_|refine z1 ?_ _));exact BK109.out) hb);have n4_:=z3.mk (zb (g:=gb113) (o:=.cells #[.int .u64 t110,.int .u64 t111] 51 (0,0)) (by (with_reducible repeat (first|refine z2 ?_ _|refine z6 ?_|refine z1 ?_ _));exact BK113.out) hb);have n5_:=z3.mk (zd (by repeat (first|(with_reducible first|exact HB.out|apply z5|apply z0|apply z4|refine z7 ?_ GE101.out|refine z7 ?_ GE102.out|refine z7 ?_ GE109.out|refine z7 ?_ GE113.out)|exact HB.out)) hb);clear HO_11;clear BK101;clear BK102;clear BK109;clear BK113;clear HB;have HO_11:=n0_;have BK101:=n1_;have BK102:=n2_;have BK109:=n3_;have BK113:=n4_;have HB:=n5_;clear n0_ n1_ n2_ n3_ n4_ n5_;(try clear hb);(try clear hb2);(try clear hk);(try clear hi))|((with_reducible refine zy (N:=13) rfl ?_);(try (refine z1z (by rfl) ?_;dsimp only));refine zv ?hg (N:=13) ?hd (cs:=#[.int .u64 0,.int .u64 0]) (t:=51) ?hr ?_;(case hd=>rfl);(case hg=>rfl);(case hr=>first|(go_simp;done)|(go_simp;rfl));intro gb128 hg w100 hbox hb;have n0_:=z3.mk (Kd.z1e (Kd.z1D (by (with_reducible repeat (first|apply Kd.zQ|apply Kd.zR|apply Kd.zZ));exact HO_11.out) gb128 (Nat.le_of_eq hg.symm)) hb);have n1_:=z3.mk (zb (g:=gb101) (o:=.cells #[.slice A1_0 l1_0.length c1_0,.slice A1_1 l1_1.length c1_1] 64 (0,0)) (by (with_reducible repeat (first|refine z2 ?_ _|refine z6 ?_|refine z1 ?_ _));exact BK101.out) hb);have n2_:=z3.mk (zb (g:=gb102) (o:=.cells #[.slice A2_0 l2_0.length c2_0,.slice A2_1 l2_1.length c2_1] 66 (0,0)) (by (with_reducible repeat (first|refine z2 ?_ _|refine z6 ?_|refine z1 ?_ _));exact BK102.out) hb);have n3_:=z3.mk (zb (g:=gb109) (o:=.cells #[.int .u64 t106,.int .u64 t107] 51 (0,0)) (by (with_reducible repeat (first|refine z2 ?_ _|refine z6 ?_|refine z1 ?_ _));exact BK109.out) hb);have n4_:=z3.mk (zb (g:=gb113) (o:=.cells #[.int .u64 t110,.int .u64 t111] 51 (0,0)) (by (with_reducible repeat (first|refine z2 ?_ _|refine z6 ?_|refine z1 ?_ _));exact BK113.out) hb);have n5_:=z3.mk (zd (by repeat (first|(with_reducible first|exact HB.out|apply z5|apply z0|apply z4|refine z7 ?_ GE101.out|refine z7 ?_ GE102.out|refine z7 ?_ GE109.out|refine z7 ?_ GE113.out)|exact HB.out)) hb);have n6_:=z3.mk (hbox);have n7_:=z3.mk ((by rw [hg];exact (ze (by repeat (first|(with_reducible first|exact HB.out|apply z5|apply z0|apply z4|refine z7 ?_ GE101.out|refine z7 ?_ GE102.out|refine z7 ?_ GE109.out|refine z7 ?_ GE113.out)|exact HB.out))) : w.heap.size ≤ gb128));have n8_:=z3.mk ((by rw [hg];exact (ze (by repeat (first|(with_reducible first|exact HB.out|apply z5|apply z0|apply z4|refine z7 ?_ GE101.out|refine z7 ?_ GE102.out|refine z7 ?_ GE109.out|refine z7 ?_ GE113.out)|exact HB.out))) : w.heap.size ≤ gb128));have n9_:=z3.mk ((by rw [hg];exact Nat.ne_of_lt (zz (g:=gb101) (o:=.cells #[.slice A1_0 l1_0.length c1_0,.slice A1_1 l1_1.length c1_1] 64 (0,0)) (by (with_reducible repeat (first|refine z2 ?_ _|refine z6 ?_|refine z1 ?_ _));exact BK101.out)) : gb101 ≠ gb128));have n10_:=z3.mk ((by rw [hg];exact Nat.ne_of_gt (zz (g:=gb101) (o:=.cells #[.slice A1_0 l1_0.length c1_0,.slice A1_1 l1_1.length c1_1] 64 (0,0)) (by (with_reducible repeat (first|refine z2 ?_ _|refine z6 ?_|refine z1 ?_ _));exact BK101.out)) : gb128 ≠ gb101));have n11_:=z3.mk ((by rw [hg];exact Nat.ne_of_lt (zz (g:=gb102) (o:=.cells #[.slice A2_0 l2_0.length c2_0,.slice A2_1 l2_1.length c2_1] 66 (0,0)) (by (with_reducible repeat (first|refine z2 ?_ _|refine z6 ?_|refine z1 ?_ _));exact BK102.out)) : gb102 ≠ gb128));have n12_:=z3.mk ((by rw [hg];exact Nat.ne_of_gt (zz (g:=gb102) (o:=.cells #[.slice A2_0 l2_0.length c2_0,.slice A2_1 l2_1.length c2_1] 66 (0,0)) (by (with_reducible repeat (first|refine z2 ?_ _|refine z6 ?_|refine z1 ?_ _));exact BK102.out)) : gb128 ≠ gb102));have n13_:=z3.mk ((by rw [hg];exact Nat.ne_of_lt (zz (g:=gb109) (o:=.cells #[.int .u64 t106,.int .u64 t107] 51 (0,0)) (by (with_reducible repeat (first|refine z2 ?_ _|refine z6 ?_|refine z1 ?_ _));exact BK109.out)) : gb109 ≠ gb128));have n14_:=z3.mk ((by rw [hg];exact Nat.ne_of_gt (zz (g:=gb109) (o:=.cells #[.int .u64 t106,.int .u64 t107] 51 (0,0)) (by (with_reducible repeat (first|refine z2 ?_ _|refine z6 ?_|refine z1 ?_ _));exact BK109.out)) : gb128 ≠ gb109));have n15_:=z3.mk ((by rw [hg];exact Nat.ne_of_lt (zz (g:=gb113) (o:=.cells #[.int .u64 t110,.int .u64 t111] 51 (0,0)) (by (with_reducible repeat (first|refine z2 ?_ _|refine z6 ?_|refine z1 ?_ _));exact BK113.out)) : gb113 ≠ gb128));have n16_:=z3.mk ((by rw [hg];exact Nat.ne_of_gt (zz (g:=gb113) (o:=.cells #[.int .u64 t110,.int .u64 t111] 51 (0,0)) (by (with_reducible repeat (first|refine z2 ?_ _|refine z6 ?_|refine z1 ?_ _));exact BK113.out)) : gb128 ≠ gb113));clear HO_11;clear BK101;clear BK102;clear BK109;clear BK113;clear HB;have HO_11:=n0_;have BK101:=n1_;have BK102:=n2_;have BK109:=n3_;have BK113:=n4_;have HB:=n5_;have BK128:=n6_;have GW128:=n7_;have GE128:=n8_;have NB101_128:=n9_;have NB128_101:=n10_;have NB102_128:=n11_;have NB128_102:=n12_;have NB109_128:=n13_;have NB128_109:=n14_;have NB113_128:=n15_;have NB128_113:=n16_;clear n0_ n1_ n2_ n3_ n4_ n5_ n6_ n7_ n8_ n9_ n10_ n11_ n12_ n13_ n14_ n15_ n16_;clear hb hbox hg;have hnb101:=NB128_101.out;have hnc101:=NB101_128.out;have hnb102:=NB128_102.out;have hnc102:=NB102_128.out;have hnb103:=NB128_109.out;have hnc103:=NB109_128.out;have hnb104:=NB128_113.out;have hnc104:=NB113_128.out;have hcz105_0 : w100.cell? ⟨gb128,0,none⟩ = some (.int .u64 0):=(z9 BK128.out 0).trans rfl;have hcz105_1 : w100.cell? ⟨gb128,1,none⟩ = some (.int .u64 0):=(z9 BK128.out 1).trans rfl;have hfz105_0:=za BK128.out 0;have hfz105_1:=za BK128.out 1))
         have n0_ : z3 (Kd.R k51 51 ((w100.setCell ⟨gb128,0,none⟩ (.int .u64 t125)).setCell ⟨gb128,1,none⟩ (.int .u64 t126)) w.heap.size (fun k_=>k_ ≠ gb109 ∧ k_ ≠ gb113 ∧ k_ ≠ gb128) (.slice Ao98 x11_3.length co98) x11_3):=⟨by (with_reducible repeat (first|apply Kd.zQ|apply Kd.zR|apply Kd.zZ));exact Kd.z1I (Kd.z3D (p:=⟨gb128,1,none⟩) (Kd.z3D (p:=⟨gb128,0,none⟩) (Kd.z1I HO_11.out (fun k_ hk=>(⟨hk,hk.2⟩ : _ ∧ k_ ≠ gb128))) (fun _ hk=>hk.2) (.int .u64 t125)) (fun _ hk=>hk.2) (.int .u64 t126)) (fun _ hk=>⟨hk.1.1.1,⟨hk.1.1.2,hk.1.2⟩⟩)⟩
         have n1_ : z3 (((w100.setCell ⟨gb128,0,none⟩ (.int .u64 t125)).setCell ⟨gb128,1,none⟩ (.int .u64 t126)).heap[gb101]? = some (.cells #[.slice A1_0 l1_0.length c1_0,.slice A1_1 l1_1.length c1_1] 64 (0,0))):=⟨by (with_reducible repeat (first|refine z2 ?_ _|refine z6 ?_|refine z1 ?_ _));refine zF ?_ NB101_128.out _;(with_reducible repeat (first|refine z2 ?_ _|refine z6 ?_|refine z1 ?_ _));refine zF ?_ NB101_128.out _;(with_reducible repeat (first|refine z2 ?_ _|refine z6 ?_|refine z1 ?_ _));exact BK101.out⟩
         have n2_ : z3 (((w100.setCell ⟨gb128,0,none⟩ (.int .u64 t125)).setCell ⟨gb128,1,none⟩ (.int .u64 t126)).heap[gb102]? = some (.cells #[.slice A2_0 l2_0.length c2_0,.slice A2_1 l2_1.length c2_1] 66 (0,0))):=⟨by (with_reducible repeat (first|refine z2 ?_ _|refine z6 ?_|refine z1 ?_ _));refine zF ?_ NB102_128.out _;(with_reducible repeat (first|refine z2 ?_ _|refine z6 ?_|refine z1 ?_ _));refine zF ?_ NB102_128.out _;(with_reducible repeat (first|refine z2 ?_ _|refine z6 ?_|refine z1 ?_ _));exact BK102.out⟩
         have n3_ : z3 (((w100.setCell ⟨gb128,0,none⟩ (.int .u64 t125)).setCell ⟨gb128,1,none⟩ (.int .u64 t126)).heap[gb109]? = some (.cells #[.int .u64 t106,.int .u64 t107] 51 (0,0))):=⟨by (with_reducible repeat (first|refine z2 ?_ _|refine z6 ?_|refine z1 ?_ _));refine zF ?_ NB109_128.out _;(with_reducible repeat (first|refine z2 ?_ _|refine z6 ?_|refine z1 ?_ _));refine zF ?_ NB109_128.out _;(with_reducible repeat (first|refine z2 ?_ _|refine z6 ?_|refine z1 ?_ _));exact BK109.out⟩
         have n4_ : z3 (((w100.setCell ⟨gb128,0,none⟩ (.int .u64 t125)).setCell ⟨gb128,1,none⟩ (.int .u64 t126)).heap[gb113]? = some (.cells #[.int .u64 t110,.int .u64 t111] 51 (0,0))):=⟨by (with_reducible repeat (first|refine z2 ?_ _|refine z6 ?_|refine z1 ?_ _));refine zF ?_ NB113_128.out _;(with_reducible repeat (first|refine z2 ?_ _|refine z6 ?_|refine z1 ?_ _));refine zF ?_ NB113_128.out _;(with_reducible repeat (first|refine z2 ?_ _|refine z6 ?_|refine z1 ?_ _));exact BK113.out⟩
         have n5_ : z3 (((w100.setCell ⟨gb128,0,none⟩ (.int .u64 t125)).setCell ⟨gb128,1,none⟩ (.int .u64 t126)).heap[gb128]? = some (.cells #[.int .u64 t125,.int .u64 t126] 51 (0,0))):=⟨by (with_reducible repeat (first|refine z2 ?_ _|refine z6 ?_|refine z1 ?_ _));refine zG (cs:=#[.int .u64 t125,.int .u64 0]) ?_ 1 _ rfl;(with_reducible repeat (first|refine z2 ?_ _|refine z6 ?_|refine z1 ?_ _));refine zG (cs:=#[.int .u64 0,.int .u64 0]) ?_ 0 _ rfl;(with_reducible repeat (first|refine z2 ?_ _|refine z6 ?_|refine z1 ?_ _));exact BK128.out⟩
         have n6_ : z3 (Below w.heap.size w ((w100.setCell ⟨gb128,0,none⟩ (.int .u64 t125)).setCell ⟨gb128,1,none⟩ (.int .u64 t126))):=⟨by repeat (first|(with_reducible first|exact HB.out|apply z5|apply z0|apply z4|refine z7 ?_ GE101.out|refine z7 ?_ GE102.out|refine z7 ?_ GE109.out|refine z7 ?_ GE113.out|refine z7 ?_ GE128.out)|exact HB.out)⟩
         (try clear HO_11)
         (try clear BK101)
         (try clear BK102)
         (try clear BK109)
         (try clear BK113)
         (try clear BK128)
         (try clear HB)
         generalize ((w100.setCell ⟨gb128,0,none⟩ (.int .u64 t125)).setCell ⟨gb128,1,none⟩ (.int .u64 t126)) = w106 at n0_ n1_ n2_ n3_ n4_ n5_ n6_ ⊢
         have HO_11:=n0_
         have BK101:=n1_
         have BK102:=n2_
         have BK109:=n3_
         have BK113:=n4_
         have BK128:=n5_
         have HB:=n6_
         clear n0_ n1_ n2_ n3_ n4_ n5_ n6_
         have n0_:=z3.mk (Kd.zZ HO_11.out)
         have n1_:=z3.mk (z6 BK101.out)
         have n2_:=z3.mk (z6 BK102.out)
         have n3_:=z3.mk (z6 BK109.out)
         have n4_:=z3.mk (z6 BK113.out)
         have n5_:=z3.mk (z6 BK128.out)
         have n6_:=z3.mk (z4 HB.out)
         clear HO_11
         clear BK101
         clear BK102
         clear BK109
         clear BK113
         clear BK128
         clear HB
         have HO_11:=n0_
         have BK101:=n1_
         have BK102:=n2_
         have BK109:=n3_
         have BK113:=n4_
         have BK128:=n5_
         have HB:=n6_
         clear n0_ n1_ n2_ n3_ n4_ n5_ n6_
         refine start_ (n:=19) (S:=fun w'=>True) (ds:=[]) #[false,false,false,false,false,false,false,false,false,false,false,false,false,false,false,false,false,false,false] (by kernel_rfl) rfl rfl trivial (fun hHeld=>?_);refine z1u z8.tab13 z8.bits13 (fun HT_ HW_=>?_)
         generalize w106.drew = w107 at HO_11 BK101 BK102 BK109 BK113 BK128 HB hHeld ⊢
         refine one_ (i:=0) (N:=some 104) #[true,false,false,false,false,false,false,false,false,false,false,false,false,false,false,false,false,false,false] rfl rfl (z1n HT_.out (by kernel_rfl)) (by decide) (fun K hK=>?_)
         refine goes_ Try.func34 (by kernel_rfl) rfl #[] (by rfl) rfl rfl (by (try simp only [List.map_toArray,List.map_cons,List.map_nil]);first|done|rfl|(simp only [List.length_drop,List.length_take];rfl)) ?_
         with_reducible refine (zs.calls k3  true _ A65.out).mono ?_
         rintro e w108 ⟨rfl,hb⟩
         refine ⟨_,rfl,?_⟩
         have n0_:=z3.mk (Kd.z1e (by (with_reducible repeat (first|apply Kd.zQ|apply Kd.zR|apply Kd.zZ));exact HO_11.out) hb)
         have n1_:=z3.mk (zb (g:=gb101) (o:=.cells #[.slice A1_0 l1_0.length c1_0,.slice A1_1 l1_1.length c1_1] 64 (0,0)) (by (with_reducible repeat (first|refine z2 ?_ _|refine z6 ?_|refine z1 ?_ _));exact BK101.out) hb)
         have n2_:=z3.mk (zb (g:=gb102) (o:=.cells #[.slice A2_0 l2_0.length c2_0,.slice A2_1 l2_1.length c2_1] 66 (0,0)) (by (with_reducible repeat (first|refine z2 ?_ _|refine z6 ?_|refine z1 ?_ _));exact BK102.out) hb)
         have n3_:=z3.mk (zb (g:=gb109) (o:=.cells #[.int .u64 t106,.int .u64 t107] 51 (0,0)) (by (with_reducible repeat (first|refine z2 ?_ _|refine z6 ?_|refine z1 ?_ _));exact BK109.out) hb)
         have n4_:=z3.mk (zb (g:=gb113) (o:=.cells #[.int .u64 t110,.int .u64 t111] 51 (0,0)) (by (with_reducible repeat (first|refine z2 ?_ _|refine z6 ?_|refine z1 ?_ _));exact BK113.out) hb)
         have n5_:=z3.mk (zb (g:=gb128) (o:=.cells #[.int .u64 t125,.int .u64 t126] 51 (0,0)) (by (with_reducible repeat (first|refine z2 ?_ _|refine z6 ?_|refine z1 ?_ _));exact BK128.out) hb)
         have n6_:=z3.mk (zd (by repeat (first|(with_reducible first|exact HB.out|apply z5|apply z0|apply z4|refine z7 ?_ GE101.out|refine z7 ?_ GE102.out|refine z7 ?_ GE109.out|refine z7 ?_ GE113.out|refine z7 ?_ GE128.out)|exact HB.out)) hb)
         clear HO_11
         clear BK101
         clear BK102
         clear BK109
         clear BK113
         clear BK128
         clear HB
         have HO_11:=n0_
         have BK101:=n1_
         have BK102:=n2_
         have BK109:=n3_
         have BK113:=n4_
         have BK128:=n5_
         have HB:=n6_
         clear n0_ n1_ n2_ n3_ n4_ n5_ n6_
         (try clear hb)
         (try clear hb2)
         (try clear hk)
         (try clear hi)
         refine hK.out _ _ trivial (fun hHeld=>?_)
         clear hK K
         refine norm_ (a':=?_) ?_ ?_
         rotate_left
         · show Act.put _ (some 104) _ = _
           simp only [Act.put,List.setIfInBounds_toArray,List.set_cons_zero,List.set_cons_succ,zx,zC]
           rfl
         refine pure_ (i:=1) (N:=some 105) (v:=?_) (a':=?_) #[true,true,false,false,false,false,false,false,false,false,false,false,false,false,false,false,false,false,false] rfl rfl (zH HT_.out (by kernel_rfl)) (fun _ _ _ h=>h) (Or.inl ⟨by rfl,?_⟩) ?_ ?_
         rotate_left
         · intro w'
           go_simp
           with_reducible rfl
         rotate_left
         · simp only [Act.put,List.setIfInBounds_toArray,List.set_cons_zero,List.set_cons_succ,zx,zC]
           rfl
         refine pure_ (i:=2) (N:=some 106) (v:=?_) (a':=?_) #[true,true,true,false,false,false,false,false,false,false,false,false,false,false,false,false,false,false,false] rfl rfl (zH HT_.out (by kernel_rfl)) (fun _ _ _ h=>h) (Or.inl ⟨by rfl,?_⟩) ?_ ?_
         rotate_left
         · intro w'
           go_simp
           with_reducible rfl
         rotate_left
         · simp only [Act.put,List.setIfInBounds_toArray,List.set_cons_zero,List.set_cons_succ,zx,zC]
           rfl
         refine pure_ (i:=3) (N:=some 107) (v:=?_) (a':=?_) #[true,true,true,true,false,false,false,false,false,false,false,false,false,false,false,false,false,false,false] rfl rfl (zH HT_.out (by kernel_rfl)) (fun _ _ _ h=>h) (Or.inl ⟨by rfl,?_⟩) ?_ ?_
         rotate_left
         · intro w'
           go_simp
           with_reducible rfl
         rotate_left
         · simp only [Act.put,List.setIfInBounds_toArray,List.set_cons_zero,List.set_cons_succ,zx,zC]
           rfl
         refine pure_ (i:=4) (N:=some 108) (v:=?_) (a':=?_) #[true,true,true,true,true,false,false,false,false,false,false,false,false,false,false,false,false,false,false] rfl rfl (zH HT_.out (by kernel_rfl)) (fun _ _ _ h=>h) (Or.inl ⟨by rfl,?_⟩) ?_ ?_
         rotate_left
         · intro w'
           go_simp
           with_reducible rfl
         rotate_left
         · simp only [Act.put,List.setIfInBounds_toArray,List.set_cons_zero,List.set_cons_succ,zx,zC]
           rfl
         refine pure_ (i:=5) (N:=some 109) (v:=?_) (a':=?_) #[true,true,true,true,true,true,false,false,false,false,false,false,false,false,false,false,false,false,false] rfl rfl (zH HT_.out (by kernel_rfl)) (fun _ _ _ h=>h) (Or.inl ⟨by rfl,?_⟩) ?_ ?_
         rotate_left
         · intro w'
           go_simp
           with_reducible rfl
         rotate_left
         · simp only [Act.put,List.setIfInBounds_toArray,List.set_cons_zero,List.set_cons_succ,zx,zC]
           rfl
         refine pure_ (i:=6) (N:=some 110) (v:=undef) (a':=?_) #[true,true,true,true,true,true,true,false,false,false,false,false,false,false,false,false,false,false,false] rfl rfl (zH HT_.out (by kernel_rfl)) (fun _ _ _ h=>h) (Or.inr ⟨by rfl,rfl⟩) ?_ ?_
         rotate_left
         · simp only [Act.put,List.setIfInBounds_toArray,List.set_cons_zero,List.set_cons_succ,zx,zC]
           rfl
         refine pure_ (i:=7) (N:=some 111) (v:=undef) (a':=?_) #[true,true,true,true,true,true,true,true,false,false,false,false,false,false,false,false,false,false,false] rfl rfl (zH HT_.out (by kernel_rfl)) (fun _ _ _ h=>h) (Or.inr ⟨by rfl,rfl⟩) ?_ ?_
         rotate_left
         · simp only [Act.put,List.setIfInBounds_toArray,List.set_cons_zero,List.set_cons_succ,zx,zC]
           rfl
         refine pure_ (i:=8) (N:=some 112) (v:=undef) (a':=?_) #[true,true,true,true,true,true,true,true,true,false,false,false,false,false,false,false,false,false,false] rfl rfl (zH HT_.out (by kernel_rfl)) (fun _ _ _ h=>h) (Or.inr ⟨by rfl,rfl⟩) ?_ ?_
         rotate_left
         · simp only [Act.put,List.setIfInBounds_toArray,List.set_cons_zero,List.set_cons_succ,zx,zC]
           rfl
         refine pure_ (i:=9) (N:=some 113) (v:=undef) (a':=?_) #[true,true,true,true,true,true,true,true,true,true,false,false,false,false,false,false,false,false,false] rfl rfl (zH HT_.out (by kernel_rfl)) (fun _ _ _ h=>h) (Or.inr ⟨by rfl,rfl⟩) ?_ ?_
         rotate_left
         · simp only [Act.put,List.setIfInBounds_toArray,List.set_cons_zero,List.set_cons_succ,zx,zC]
           rfl
         refine pure_ (i:=10) (N:=some 114) (v:=undef) (a':=?_) #[true,true,true,true,true,true,true,true,true,true,true,false,false,false,false,false,false,false,false] rfl rfl (zH HT_.out (by kernel_rfl)) (fun _ _ _ h=>h) (Or.inr ⟨by rfl,rfl⟩) ?_ ?_
         rotate_left
         · simp only [Act.put,List.setIfInBounds_toArray,List.set_cons_zero,List.set_cons_succ,zx,zC]
           rfl
         refine pure_ (i:=11) (N:=some 115) (v:=undef) (a':=?_) #[true,true,true,true,true,true,true,true,true,true,true,true,false,false,false,false,false,false,false] rfl rfl (zH HT_.out (by kernel_rfl)) (fun _ _ _ h=>h) (Or.inr ⟨by rfl,rfl⟩) ?_ ?_
         rotate_left
         · simp only [Act.put,List.setIfInBounds_toArray,List.set_cons_zero,List.set_cons_succ,zx,zC]
           rfl
         refine pure_ (i:=12) (N:=some 116) (v:=undef) (a':=?_) #[true,true,true,true,true,true,true,true,true,true,true,true,true,false,false,false,false,false,false] rfl rfl (zH HT_.out (by kernel_rfl)) (fun _ _ _ h=>h) (Or.inr ⟨by rfl,rfl⟩) ?_ ?_
         rotate_left
         · simp only [Act.put,List.setIfInBounds_toArray,List.set_cons_zero,List.set_cons_succ,zx,zC]
           rfl
         refine pure_ (i:=13) (N:=some 117) (v:=undef) (a':=?_) #[true,true,true,true,true,true,true,true,true,true,true,true,true,true,false,false,false,false,false] rfl rfl (zH HT_.out (by kernel_rfl)) (fun _ _ _ h=>h) (Or.inr ⟨by rfl,rfl⟩) ?_ ?_
         rotate_left
         · simp only [Act.put,List.setIfInBounds_toArray,List.set_cons_zero,List.set_cons_succ,zx,zC]
           rfl
         refine pure_ (i:=14) (N:=some 118) (v:=undef) (a':=?_) #[true,true,true,true,true,true,true,true,true,true,true,true,true,true,true,false,false,false,false] rfl rfl (zH HT_.out (by kernel_rfl)) (fun _ _ _ h=>h) (Or.inr ⟨by rfl,rfl⟩) ?_ ?_
         rotate_left
         · simp only [Act.put,List.setIfInBounds_toArray,List.set_cons_zero,List.set_cons_succ,zx,zC]
           rfl
         refine pure_ (i:=15) (N:=some 119) (v:=undef) (a':=?_) #[true,true,true,true,true,true,true,true,true,true,true,true,true,true,true,true,false,false,false] rfl rfl (zH HT_.out (by kernel_rfl)) (fun _ _ _ h=>h) (Or.inr ⟨by rfl,rfl⟩) ?_ ?_
         rotate_left
         · simp only [Act.put,List.setIfInBounds_toArray,List.set_cons_zero,List.set_cons_succ,zx,zC]
           rfl
         refine pure_ (i:=16) (N:=some 120) (v:=undef) (a':=?_) #[true,true,true,true,true,true,true,true,true,true,true,true,true,true,true,true,true,false,false] rfl rfl (zH HT_.out (by kernel_rfl)) (fun _ _ _ h=>h) (Or.inr ⟨by rfl,rfl⟩) ?_ ?_
         rotate_left
         · simp only [Act.put,List.setIfInBounds_toArray,List.set_cons_zero,List.set_cons_succ,zx,zC]
           rfl
         refine pure_ (i:=17) (N:=some 121) (v:=?_) (a':=?_) #[true,true,true,true,true,true,true,true,true,true,true,true,true,true,true,true,true,true,false] rfl rfl (zH HT_.out (by kernel_rfl)) (fun _ _ _ h=>h) (Or.inl ⟨by rfl,?_⟩) ?_ ?_
         rotate_left
         · intro w'
           go_simp
           with_reducible rfl
         rotate_left
         · simp only [Act.put,List.setIfInBounds_toArray,List.set_cons_zero,List.set_cons_succ,zx,zC]
           rfl
         refine pure_ (i:=18) (N:=some 6) (v:=?_) (a':=?_) #[true,true,true,true,true,true,true,true,true,true,true,true,true,true,true,true,true,true,true] rfl rfl (zH HT_.out (by kernel_rfl)) (fun _ _ _ h=>h) (Or.inl ⟨by rfl,?_⟩) ?_ ?_
         rotate_left
         · intro w'
           go_simp
           with_reducible rfl
         rotate_left
         · simp only [Act.put,List.setIfInBounds_toArray,List.set_cons_zero,List.set_cons_succ,zx,zC]
           rfl
         refine done_ (z1P HT_.out (by kernel_rfl)) ?_
         try go_wp2
         go_ret
         exact ⟨by first|rfl|(simp [zh,zi] <;> rfl)|(simp [*,zh,zi] <;> rfl),by repeat (first|(with_reducible first|exact HB.out|apply z5|apply z0|apply z4|refine z7 ?_ GE101.out|refine z7 ?_ GE102.out|refine z7 ?_ GE109.out|refine z7 ?_ GE113.out|refine z7 ?_ GE128.out)|exact HB.out)⟩
       rw [if_pos c67] at H
       have c67b0 : (t127 == 0) = true:=beq_iff_eq.mpr c67
       have c67b1 : (t127 != 0) = false:=bne_eq_false_iff_eq.mpr c67
       clear c67
       by_cases c68 : 0 < (l2_0.length : Int)
       rotate_left
       · rw [if_neg c68] at H
         exact absurd H (by simp)
       rw [if_pos c68] at H
       have c68b0 : decide (0 < (l2_0.length : Int)) = true:=decide_eq_true c68
       have c68b1 : decide (0 < l2_0.length) = true:=decide_eq_true (by omega)
       clear c68
       replace H:=Option.bind_eq_some_iff.mp H
       obtain ⟨⟨t131,t132⟩,A690,H⟩:=H
       replace H : ((z1c.f t106 t107 t131 t132).bind fun bt133=>(some (t125 == bt133.1 && (t126 == bt133.2)))) = some r:=H
       have A69:=z3.mk A690
       clear A690
       replace H:=Option.bind_eq_some_iff.mp H
       obtain ⟨⟨t133,t134⟩,A700,H⟩:=H
       replace H : (some (t125 == t133 && (t126 == t134))) = some r:=H
       have A70:=z3.mk A700
       clear A700
       obtain rfl:=Option.some.inj H
       have hnb71:=NB101_102.out
       have hnc71:=NB102_101.out
       have hnb72:=NB101_109.out
       have hnc72:=NB109_101.out
       have hnb73:=NB101_113.out
       have hnc73:=NB113_101.out
       have hcz74_0 : wr.cell? ⟨gb101,0,none⟩ = some (.slice A1_0 l1_0.length c1_0):=(z9 BK101.out 0).trans rfl
       have hcz74_1 : wr.cell? ⟨gb101,1,none⟩ = some (.slice A1_1 l1_1.length c1_1):=(z9 BK101.out 1).trans rfl
       have hfz74_0:=za BK101.out 0
       have hfz74_1:=za BK101.out 1
       have hnb75:=NB102_109.out
       have hnc75:=NB109_102.out
       have hnb76:=NB102_113.out
       have hnc76:=NB113_102.out
       have hcz77_0 : wr.cell? ⟨gb102,0,none⟩ = some (.slice A2_0 l2_0.length c2_0):=(z9 BK102.out 0).trans rfl
       have hcz77_1 : wr.cell? ⟨gb102,1,none⟩ = some (.slice A2_1 l2_1.length c2_1):=(z9 BK102.out 1).trans rfl
       have hfz77_0:=za BK102.out 0
       have hfz77_1:=za BK102.out 1
       obtain ⟨Ao78,co78,eo78⟩:=Kd.z1x HO_11.out
       subst eo78
       try go_wp2_with (first|((with_reducible refine zp (f:=35) rfl ?_);refine goesL_ (some 101) rfl rfl Try.func35 (by kernel_rfl) rfl #[.int .i64 a0,.slice Ao78 x11_3.length co78,.slice A2_1 l2_1.length c2_1] rfl (by (try simp only [List.map_toArray,List.map_cons,List.map_nil]);first|done|rfl|(simp only [List.length_drop,List.length_take];rfl)) ?_;(with_reducible refine (z10.calls k3 a0 _ _ x11_3 _ _ l2_1 t125 t126 t127 _ ?side1 ?side2 ?side3 ?side4 A64.out).mono ?_);(case side1=>repeat (first|exact (Kd.z14 HO_11.out).2.2|(with_reducible refine Kd.z16 ?_ _)|(with_reducible refine Kd.z17 ?_ _)|(with_reducible refine Kd.z1g ?_)));(case side2=>exact (Kd.z14 HO_11.out).2.1);(case side3=>repeat (first|exact (Kd.z1f HR2_1.out HB.out)|(with_reducible refine Kd.z16 ?_ _)|(with_reducible refine Kd.z17 ?_ _)|(with_reducible refine Kd.z1g ?_)));(case side4=>exact HC2_1.out);rintro e w79 ⟨rfl,hb⟩;refine ⟨_,rfl,?_⟩;have n0_:=z3.mk (Kd.z1e (by (with_reducible repeat (first|apply Kd.zQ|apply Kd.zR|apply Kd.zZ));exact HO_11.out) hb);have n1_:=z3.mk (zb (g:=gb101) (o:=.cells #[.slice A1_0 l1_0.length c1_0,.slice A1_1 l1_1.length c1_1] 64 (0,0)) (by (with_reducible repeat (first|refine z2 ?_ _|refine z6 ?_|refine z1 ?_ _));exact BK101.out) hb);have n2_:=z3.mk (zb (g:=gb102) (o:=.cells #[.slice A2_0 l2_0.length c2_0,.slice A2_1 l2_1.length c2_1] 66 (0,0)) (by (with_reducible repeat (first|refine z2 ?_ _|refine z6 ?_|refine z1 ?_ _));exact BK102.out) hb);have n3_:=z3.mk (zb (g:=gb109) (o:=.cells #[.int .u64 t106,.int .u64 t107] 51 (0,0)) (by (with_reducible repeat (first|refine z2 ?_ _|refine z6 ?_|refine z1 ?_ _));exact BK109.out) hb);have n4_:=z3.mk (zb (g:=gb113) (o:=.cells #[.int .u64 t110,.int .u64 t111] 51 (0,0)) (by (with_reducible repeat (first|refine z2 ?_ _|refine z6 ?_|refine z1 ?_ _));exact BK113.out) hb);have n5_:=z3.mk (zd (by repeat (first|(with_reducible first|exact HB.out|apply z5|apply z0|apply z4|refine z7 ?_ GE101.out|refine z7 ?_ GE102.out|refine z7 ?_ GE109.out|refine z7 ?_ GE113.out)|exact HB.out)) hb);clear HO_11;clear BK101;clear BK102;clear BK109;clear BK113;clear HB;have HO_11:=n0_;have BK101:=n1_;have BK102:=n2_;have BK109:=n3_;have BK113:=n4_;have HB:=n5_;clear n0_ n1_ n2_ n3_ n4_ n5_;(try clear hb);(try clear hb2);(try clear hk);(try clear hi))|((with_reducible refine zy (N:=13) rfl ?_);(try (refine z1z (by rfl) ?_;dsimp only));refine zv ?hg (N:=13) ?hd (cs:=#[.int .u64 0,.int .u64 0]) (t:=51) ?hr ?_;(case hd=>rfl);(case hg=>rfl);(case hr=>first|(go_simp;done)|(go_simp;rfl));intro gb128 hg w80 hbox hb;have n0_:=z3.mk (Kd.z1e (Kd.z1D (by (with_reducible repeat (first|apply Kd.zQ|apply Kd.zR|apply Kd.zZ));exact HO_11.out) gb128 (Nat.le_of_eq hg.symm)) hb);have n1_:=z3.mk (zb (g:=gb101) (o:=.cells #[.slice A1_0 l1_0.length c1_0,.slice A1_1 l1_1.length c1_1] 64 (0,0)) (by (with_reducible repeat (first|refine z2 ?_ _|refine z6 ?_|refine z1 ?_ _));exact BK101.out) hb);have n2_:=z3.mk (zb (g:=gb102) (o:=.cells #[.slice A2_0 l2_0.length c2_0,.slice A2_1 l2_1.length c2_1] 66 (0,0)) (by (with_reducible repeat (first|refine z2 ?_ _|refine z6 ?_|refine z1 ?_ _));exact BK102.out) hb);have n3_:=z3.mk (zb (g:=gb109) (o:=.cells #[.int .u64 t106,.int .u64 t107] 51 (0,0)) (by (with_reducible repeat (first|refine z2 ?_ _|refine z6 ?_|refine z1 ?_ _));exact BK109.out) hb);have n4_:=z3.mk (zb (g:=gb113) (o:=.cells #[.int .u64 t110,.int .u64 t111] 51 (0,0)) (by (with_reducible repeat (first|refine z2 ?_ _|refine z6 ?_|refine z1 ?_ _));exact BK113.out) hb);have n5_:=z3.mk (zd (by repeat (first|(with_reducible first|exact HB.out|apply z5|apply z0|apply z4|refine z7 ?_ GE101.out|refine z7 ?_ GE102.out|refine z7 ?_ GE109.out|refine z7 ?_ GE113.out)|exact HB.out)) hb);have n6_:=z3.mk (hbox);have n7_:=z3.mk ((by rw [hg];exact (ze (by repeat (first|(with_reducible first|exact HB.out|apply z5|apply z0|apply z4|refine z7 ?_ GE101.out|refine z7 ?_ GE102.out|refine z7 ?_ GE109.out|refine z7 ?_ GE113.out)|exact HB.out))) : w.heap.size ≤ gb128));have n8_:=z3.mk ((by rw [hg];exact (ze (by repeat (first|(with_reducible first|exact HB.out|apply z5|apply z0|apply z4|refine z7 ?_ GE101.out|refine z7 ?_ GE102.out|refine z7 ?_ GE109.out|refine z7 ?_ GE113.out)|exact HB.out))) : w.heap.size ≤ gb128));have n9_:=z3.mk ((by rw [hg];exact Nat.ne_of_lt (zz (g:=gb101) (o:=.cells #[.slice A1_0 l1_0.length c1_0,.slice A1_1 l1_1.length c1_1] 64 (0,0)) (by (with_reducible repeat (first|refine z2 ?_ _|refine z6 ?_|refine z1 ?_ _));exact BK101.out)) : gb101 ≠ gb128));have n10_:=z3.mk ((by rw [hg];exact Nat.ne_of_gt (zz (g:=gb101) (o:=.cells #[.slice A1_0 l1_0.length c1_0,.slice A1_1 l1_1.length c1_1] 64 (0,0)) (by (with_reducible repeat (first|refine z2 ?_ _|refine z6 ?_|refine z1 ?_ _));exact BK101.out)) : gb128 ≠ gb101));have n11_:=z3.mk ((by rw [hg];exact Nat.ne_of_lt (zz (g:=gb102) (o:=.cells #[.slice A2_0 l2_0.length c2_0,.slice A2_1 l2_1.length c2_1] 66 (0,0)) (by (with_reducible repeat (first|refine z2 ?_ _|refine z6 ?_|refine z1 ?_ _));exact BK102.out)) : gb102 ≠ gb128));have n12_:=z3.mk ((by rw [hg];exact Nat.ne_of_gt (zz (g:=gb102) (o:=.cells #[.slice A2_0 l2_0.length c2_0,.slice A2_1 l2_1.length c2_1] 66 (0,0)) (by (with_reducible repeat (first|refine z2 ?_ _|refine z6 ?_|refine z1 ?_ _));exact BK102.out)) : gb128 ≠ gb102));have n13_:=z3.mk ((by rw [hg];exact Nat.ne_of_lt (zz (g:=gb109) (o:=.cells #[.int .u64 t106,.int .u64 t107] 51 (0,0)) (by (with_reducible repeat (first|refine z2 ?_ _|refine z6 ?_|refine z1 ?_ _));exact BK109.out)) : gb109 ≠ gb128));have n14_:=z3.mk ((by rw [hg];exact Nat.ne_of_gt (zz (g:=gb109) (o:=.cells #[.int .u64 t106,.int .u64 t107] 51 (0,0)) (by (with_reducible repeat (first|refine z2 ?_ _|refine z6 ?_|refine z1 ?_ _));exact BK109.out)) : gb128 ≠ gb109));have n15_:=z3.mk ((by rw [hg];exact Nat.ne_of_lt (zz (g:=gb113) (o:=.cells #[.int .u64 t110,.int .u64 t111] 51 (0,0)) (by (with_reducible repeat (first|refine z2 ?_ _|refine z6 ?_|refine z1 ?_ _));exact BK113.out)) : gb113 ≠ gb128));have n16_:=z3.mk ((by rw [hg];exact Nat.ne_of_gt (zz (g:=gb113) (o:=.cells #[.int .u64 t110,.int .u64 t111] 51 (0,0)) (by (with_reducible repeat (first|refine z2 ?_ _|refine z6 ?_|refine z1 ?_ _));exact BK113.out)) : gb128 ≠ gb113));clear HO_11;clear BK101;clear BK102;clear BK109;clear BK113;clear HB;have HO_11:=n0_;have BK101:=n1_;have BK102:=n2_;have BK109:=n3_;have BK113:=n4_;have HB:=n5_;have BK128:=n6_;have GW128:=n7_;have GE128:=n8_;have NB101_128:=n9_;have NB128_101:=n10_;have NB102_128:=n11_;have NB128_102:=n12_;have NB109_128:=n13_;have NB128_109:=n14_;have NB113_128:=n15_;have NB128_113:=n16_;clear n0_ n1_ n2_ n3_ n4_ n5_ n6_ n7_ n8_ n9_ n10_ n11_ n12_ n13_ n14_ n15_ n16_;clear hb hbox hg;have hnb81:=NB128_101.out;have hnc81:=NB101_128.out;have hnb82:=NB128_102.out;have hnc82:=NB102_128.out;have hnb83:=NB128_109.out;have hnc83:=NB109_128.out;have hnb84:=NB128_113.out;have hnc84:=NB113_128.out;have hcz85_0 : w80.cell? ⟨gb128,0,none⟩ = some (.int .u64 0):=(z9 BK128.out 0).trans rfl;have hcz85_1 : w80.cell? ⟨gb128,1,none⟩ = some (.int .u64 0):=(z9 BK128.out 1).trans rfl;have hfz85_0:=za BK128.out 0;have hfz85_1:=za BK128.out 1))
       have n0_ : z3 (Kd.R k51 51 ((w80.setCell ⟨gb128,0,none⟩ (.int .u64 t125)).setCell ⟨gb128,1,none⟩ (.int .u64 t126)) w.heap.size (fun k_=>k_ ≠ gb109 ∧ k_ ≠ gb113 ∧ k_ ≠ gb128) (.slice Ao78 x11_3.length co78) x11_3):=⟨by (with_reducible repeat (first|apply Kd.zQ|apply Kd.zR|apply Kd.zZ));exact Kd.z1I (Kd.z3D (p:=⟨gb128,1,none⟩) (Kd.z3D (p:=⟨gb128,0,none⟩) (Kd.z1I HO_11.out (fun k_ hk=>(⟨hk,hk.2⟩ : _ ∧ k_ ≠ gb128))) (fun _ hk=>hk.2) (.int .u64 t125)) (fun _ hk=>hk.2) (.int .u64 t126)) (fun _ hk=>⟨hk.1.1.1,⟨hk.1.1.2,hk.1.2⟩⟩)⟩
       have n1_ : z3 (((w80.setCell ⟨gb128,0,none⟩ (.int .u64 t125)).setCell ⟨gb128,1,none⟩ (.int .u64 t126)).heap[gb101]? = some (.cells #[.slice A1_0 l1_0.length c1_0,.slice A1_1 l1_1.length c1_1] 64 (0,0))):=⟨by (with_reducible repeat (first|refine z2 ?_ _|refine z6 ?_|refine z1 ?_ _));refine zF ?_ NB101_128.out _;(with_reducible repeat (first|refine z2 ?_ _|refine z6 ?_|refine z1 ?_ _));refine zF ?_ NB101_128.out _;(with_reducible repeat (first|refine z2 ?_ _|refine z6 ?_|refine z1 ?_ _));exact BK101.out⟩
       have n2_ : z3 (((w80.setCell ⟨gb128,0,none⟩ (.int .u64 t125)).setCell ⟨gb128,1,none⟩ (.int .u64 t126)).heap[gb102]? = some (.cells #[.slice A2_0 l2_0.length c2_0,.slice A2_1 l2_1.length c2_1] 66 (0,0))):=⟨by (with_reducible repeat (first|refine z2 ?_ _|refine z6 ?_|refine z1 ?_ _));refine zF ?_ NB102_128.out _;(with_reducible repeat (first|refine z2 ?_ _|refine z6 ?_|refine z1 ?_ _));refine zF ?_ NB102_128.out _;(with_reducible repeat (first|refine z2 ?_ _|refine z6 ?_|refine z1 ?_ _));exact BK102.out⟩
       have n3_ : z3 (((w80.setCell ⟨gb128,0,none⟩ (.int .u64 t125)).setCell ⟨gb128,1,none⟩ (.int .u64 t126)).heap[gb109]? = some (.cells #[.int .u64 t106,.int .u64 t107] 51 (0,0))):=⟨by (with_reducible repeat (first|refine z2 ?_ _|refine z6 ?_|refine z1 ?_ _));refine zF ?_ NB109_128.out _;(with_reducible repeat (first|refine z2 ?_ _|refine z6 ?_|refine z1 ?_ _));refine zF ?_ NB109_128.out _;(with_reducible repeat (first|refine z2 ?_ _|refine z6 ?_|refine z1 ?_ _));exact BK109.out⟩
       have n4_ : z3 (((w80.setCell ⟨gb128,0,none⟩ (.int .u64 t125)).setCell ⟨gb128,1,none⟩ (.int .u64 t126)).heap[gb113]? = some (.cells #[.int .u64 t110,.int .u64 t111] 51 (0,0))):=⟨by (with_reducible repeat (first|refine z2 ?_ _|refine z6 ?_|refine z1 ?_ _));refine zF ?_ NB113_128.out _;(with_reducible repeat (first|refine z2 ?_ _|refine z6 ?_|refine z1 ?_ _));refine zF ?_ NB113_128.out _;(with_reducible repeat (first|refine z2 ?_ _|refine z6 ?_|refine z1 ?_ _));exact BK113.out⟩
       have n5_ : z3 (((w80.setCell ⟨gb128,0,none⟩ (.int .u64 t125)).setCell ⟨gb128,1,none⟩ (.int .u64 t126)).heap[gb128]? = some (.cells #[.int .u64 t125,.int .u64 t126] 51 (0,0))):=⟨by (with_reducible repeat (first|refine z2 ?_ _|refine z6 ?_|refine z1 ?_ _));refine zG (cs:=#[.int .u64 t125,.int .u64 0]) ?_ 1 _ rfl;(with_reducible repeat (first|refine z2 ?_ _|refine z6 ?_|refine z1 ?_ _));refine zG (cs:=#[.int .u64 0,.int .u64 0]) ?_ 0 _ rfl;(with_reducible repeat (first|refine z2 ?_ _|refine z6 ?_|refine z1 ?_ _));exact BK128.out⟩
       have n6_ : z3 (Below w.heap.size w ((w80.setCell ⟨gb128,0,none⟩ (.int .u64 t125)).setCell ⟨gb128,1,none⟩ (.int .u64 t126))):=⟨by repeat (first|(with_reducible first|exact HB.out|apply z5|apply z0|apply z4|refine z7 ?_ GE101.out|refine z7 ?_ GE102.out|refine z7 ?_ GE109.out|refine z7 ?_ GE113.out|refine z7 ?_ GE128.out)|exact HB.out)⟩
       (try clear HO_11)
       (try clear BK101)
       (try clear BK102)
       (try clear BK109)
       (try clear BK113)
       (try clear BK128)
       (try clear HB)
       generalize ((w80.setCell ⟨gb128,0,none⟩ (.int .u64 t125)).setCell ⟨gb128,1,none⟩ (.int .u64 t126)) = w86 at n0_ n1_ n2_ n3_ n4_ n5_ n6_ ⊢
       have HO_11:=n0_
       have BK101:=n1_
       have BK102:=n2_
       have BK109:=n3_
       have BK113:=n4_
       have BK128:=n5_
       have HB:=n6_
       clear n0_ n1_ n2_ n3_ n4_ n5_ n6_
       have n0_:=z3.mk (Kd.zZ HO_11.out)
       have n1_:=z3.mk (z6 BK101.out)
       have n2_:=z3.mk (z6 BK102.out)
       have n3_:=z3.mk (z6 BK109.out)
       have n4_:=z3.mk (z6 BK113.out)
       have n5_:=z3.mk (z6 BK128.out)
       have n6_:=z3.mk (z4 HB.out)
       clear HO_11
       clear BK101
       clear BK102
       clear BK109
       clear BK113
       clear BK128
       clear HB
       have HO_11:=n0_
       have BK101:=n1_
       have BK102:=n2_
       have BK109:=n3_
       have BK113:=n4_
       have BK128:=n5_
       have HB:=n6_
       clear n0_ n1_ n2_ n3_ n4_ n5_ n6_
       have p130 : 0 ≤ (0 : Int):=(by omega)
       have q130 : 0 < (l2_0.length : Int):=of_decide_eq_true (by first|(with_reducible assumption)|assumption)
       obtain ⟨ad130,e130,hx130_0,hx130_1⟩:=z1S HR2_0.out 0 p130 q130
       have hw130_1:=hx130_1
       (try rw [show ((0 : Int)).toNat = 0 from rfl] at hw130_1)
       (try rw [show 0 * 2 = 0 from rfl] at hw130_1)
       (try rw [Addr.add_zero'] at hw130_1)
       have hw130_0:=hx130_0
       (try rw [show ((0 : Int)).toNat = 0 from rfl] at hw130_0)
       (try rw [show 0 * 2 = 0 from rfl] at hw130_0)
       (try rw [Addr.add_zero'] at hw130_0)
       cases e130
       have qi130 : (0 < l2_0.length) = True:=eq_true (by omega)
       (try rw [show ((0 : Int)).toNat = 0 from rfl] at hx130_0)
       (try rw [show 0 * 2 = 0 from rfl] at hx130_0)
       (try rw [Addr.add_zero'] at hx130_0)
       (try rw [show ((0 : Int)).toNat = 0 from rfl] at hx130_1)
       (try rw [show 0 * 2 = 0 from rfl] at hx130_1)
       (try rw [Addr.add_zero'] at hx130_1)
       replace hx130_0:=(HB.out.cell (World.block_lt_of_cell? w _ hx130_0)).trans hx130_0
       replace hx130_1:=(HB.out.cell (World.block_lt_of_cell? w _ hx130_1)).trans hx130_1
       replace p130:=eq_true p130
       replace q130:=eq_true q130
       refine start_ (n:=19) (S:=fun w'=>w'.cell? ⟨gb128,0,none⟩ = some (.int .u64 t125) ∧ w'.cell? ⟨gb128,1,none⟩ = some (.int .u64 t126) ∧ w'.cell? ⟨gb109,0,none⟩ = some (.int .u64 t106) ∧ w'.cell? ⟨gb109,1,none⟩ = some (.int .u64 t107) ∧ w'.cell? ⟨gb102,0,none⟩ = some (.slice (some ad130) l2_0.length c2_0) ∧ w'.cell? ⟨gb102,1,none⟩ = some (.slice A2_1 l2_1.length c2_1) ∧ w'.cell? ⟨gb113,0,none⟩ = some (.int .u64 t110) ∧ w'.cell? ⟨gb113,1,none⟩ = some (.int .u64 t111) ∧ w'.cell? ad130 = some (.int .u64 ((zu l2_0 0).f0)) ∧ w'.cell? ⟨ad130.block,ad130.off + 1,none⟩ = some (.int .u64 ((zu l2_0 0).f1))) (ds:=[]) #[false,false,false,false,false,false,false,false,false,false,false,false,false,false,false,false,false,false,false] (by kernel_rfl) rfl rfl ⟨(z9 BK128.out 0).trans rfl,(z9 BK128.out 1).trans rfl,(z9 BK109.out 0).trans rfl,(z9 BK109.out 1).trans rfl,(z9 BK102.out 0).trans rfl,(z9 BK102.out 1).trans rfl,(z9 BK113.out 0).trans rfl,(z9 BK113.out 1).trans rfl,((HB.out.cell (World.block_lt_of_cell? w _ hw130_0)).trans hw130_0),((HB.out.cell (World.block_lt_of_cell? w _ hw130_1)).trans hw130_1)⟩ (fun hHeld=>?_);refine z1u z8.tab13 z8.bits13 (fun HT_ HW_=>?_)
       generalize w86.drew = w87 at HO_11 BK101 BK102 BK109 BK113 BK128 HB hx130_0 hx130_1 hHeld ⊢
       refine one_ (i:=0) (N:=some 104) #[true,false,false,false,false,false,false,false,false,false,false,false,false,false,false,false,false,false,false] rfl rfl (z1n HT_.out (by kernel_rfl)) (by decide) (fun K hK=>?_)
       refine goes_ Try.func34 (by kernel_rfl) rfl #[] (by rfl) rfl rfl (by (try simp only [List.map_toArray,List.map_cons,List.map_nil]);first|done|rfl|(simp only [List.length_drop,List.length_take];rfl)) ?_
       with_reducible refine (zs.calls k3  true _ A65.out).mono ?_
       rintro e w88 ⟨rfl,hb⟩
       refine ⟨_,rfl,?_⟩
       have n0_:=z3.mk (Kd.z1e (by (with_reducible repeat (first|apply Kd.zQ|apply Kd.zR|apply Kd.zZ));exact HO_11.out) hb)
       have n1_:=z3.mk (zb (g:=gb101) (o:=.cells #[.slice A1_0 l1_0.length c1_0,.slice A1_1 l1_1.length c1_1] 64 (0,0)) (by (with_reducible repeat (first|refine z2 ?_ _|refine z6 ?_|refine z1 ?_ _));exact BK101.out) hb)
       have n2_:=z3.mk (zb (g:=gb102) (o:=.cells #[.slice (some ad130) l2_0.length c2_0,.slice A2_1 l2_1.length c2_1] 66 (0,0)) (by (with_reducible repeat (first|refine z2 ?_ _|refine z6 ?_|refine z1 ?_ _));exact BK102.out) hb)
       have n3_:=z3.mk (zb (g:=gb109) (o:=.cells #[.int .u64 t106,.int .u64 t107] 51 (0,0)) (by (with_reducible repeat (first|refine z2 ?_ _|refine z6 ?_|refine z1 ?_ _));exact BK109.out) hb)
       have n4_:=z3.mk (zb (g:=gb113) (o:=.cells #[.int .u64 t110,.int .u64 t111] 51 (0,0)) (by (with_reducible repeat (first|refine z2 ?_ _|refine z6 ?_|refine z1 ?_ _));exact BK113.out) hb)
       have n5_:=z3.mk (zb (g:=gb128) (o:=.cells #[.int .u64 t125,.int .u64 t126] 51 (0,0)) (by (with_reducible repeat (first|refine z2 ?_ _|refine z6 ?_|refine z1 ?_ _));exact BK128.out) hb)
       have n6_:=z3.mk (zd (by repeat (first|(with_reducible first|exact HB.out|apply z5|apply z0|apply z4|refine z7 ?_ GE101.out|refine z7 ?_ GE102.out|refine z7 ?_ GE109.out|refine z7 ?_ GE113.out|refine z7 ?_ GE128.out)|exact HB.out)) hb)
       clear HO_11
       clear BK101
       clear BK102
       clear BK109
       clear BK113
       clear BK128
       clear HB
       have HO_11:=n0_
       have BK101:=n1_
       have BK102:=n2_
       have BK109:=n3_
       have BK113:=n4_
       have BK128:=n5_
       have HB:=n6_
       clear n0_ n1_ n2_ n3_ n4_ n5_ n6_
       (try clear hb)
       (try clear hb2)
       (try clear hk)
       (try clear hi)
       refine hK.out _ _ ⟨(z9 BK128.out 0).trans rfl,(z9 BK128.out 1).trans rfl,(z9 BK109.out 0).trans rfl,(z9 BK109.out 1).trans rfl,(z9 BK102.out 0).trans rfl,(z9 BK102.out 1).trans rfl,(z9 BK113.out 0).trans rfl,(z9 BK113.out 1).trans rfl,((HB.out.cell (World.block_lt_of_cell? w _ hw130_0)).trans hw130_0),((HB.out.cell (World.block_lt_of_cell? w _ hw130_1)).trans hw130_1)⟩ (fun hHeld=>?_)
       clear hK K
       refine norm_ (a':=?_) ?_ ?_
       rotate_left
       · show Act.put _ (some 104) _ = _
         simp only [Act.put,List.setIfInBounds_toArray,List.set_cons_zero,List.set_cons_succ,zx,zC]
         rfl
       refine pure_ (i:=1) (N:=some 105) (v:=?_) (a':=?_) #[true,true,false,false,false,false,false,false,false,false,false,false,false,false,false,false,false,false,false] rfl rfl (zH HT_.out (by kernel_rfl)) (fun _ _ _ h=>h) (Or.inl ⟨by rfl,?_⟩) ?_ ?_
       rotate_left
       · intro w'
         go_simp
         with_reducible rfl
       rotate_left
       · simp only [Act.put,List.setIfInBounds_toArray,List.set_cons_zero,List.set_cons_succ,zx,zC]
         rfl
       refine pure_ (i:=2) (N:=some 106) (v:=?_) (a':=?_) #[true,true,true,false,false,false,false,false,false,false,false,false,false,false,false,false,false,false,false] rfl rfl (zH HT_.out (by kernel_rfl)) (fun _ _ _ h=>h) (Or.inl ⟨by rfl,?_⟩) ?_ ?_
       rotate_left
       · intro w'
         go_simp
         with_reducible rfl
       rotate_left
       · simp only [Act.put,List.setIfInBounds_toArray,List.set_cons_zero,List.set_cons_succ,zx,zC]
         rfl
       refine pure_ (i:=3) (N:=some 107) (v:=?_) (a':=?_) #[true,true,true,true,false,false,false,false,false,false,false,false,false,false,false,false,false,false,false] rfl rfl (zH HT_.out (by kernel_rfl)) (fun _ _ _ h=>h) (Or.inl ⟨by rfl,?_⟩) ?_ ?_
       rotate_left
       · intro w'
         go_simp
         with_reducible rfl
       rotate_left
       · simp only [Act.put,List.setIfInBounds_toArray,List.set_cons_zero,List.set_cons_succ,zx,zC]
         rfl
       refine pure_ (i:=4) (N:=some 108) (v:=?_) (a':=?_) #[true,true,true,true,true,false,false,false,false,false,false,false,false,false,false,false,false,false,false] rfl rfl (zH HT_.out (by kernel_rfl)) (fun _ _ _ h=>h) (Or.inl ⟨by rfl,?_⟩) ?_ ?_
       rotate_left
       · intro w'
         go_simp
         with_reducible rfl
       rotate_left
       · simp only [Act.put,List.setIfInBounds_toArray,List.set_cons_zero,List.set_cons_succ,zx,zC]
         rfl
       refine pure_ (i:=5) (N:=some 109) (v:=?_) (a':=?_) #[true,true,true,true,true,true,false,false,false,false,false,false,false,false,false,false,false,false,false] rfl rfl (zH HT_.out (by kernel_rfl)) (fun _ _ _ h=>h) (Or.inl ⟨by rfl,?_⟩) ?_ ?_
       rotate_left
       · intro w'
         go_simp
         with_reducible rfl
       rotate_left
       · simp only [Act.put,List.setIfInBounds_toArray,List.set_cons_zero,List.set_cons_succ,zx,zC]
         rfl
       refine pure_ (i:=8) (N:=some 112) (v:=?_) (a':=?_) #[true,true,true,true,true,true,false,false,true,false,false,false,false,false,false,false,false,false,false] rfl rfl (zH HT_.out (by kernel_rfl)) (fun _ _ _ h=>h) (Or.inl ⟨by rfl,?_⟩) ?_ ?_
       rotate_left
       · intro w'
         go_simp
         with_reducible rfl
       rotate_left
       · simp only [Act.put,List.setIfInBounds_toArray,List.set_cons_zero,List.set_cons_succ,zx,zC]
         rfl
       refine pure_ (i:=9) (N:=some 113) (v:=?_) (a':=?_) #[true,true,true,true,true,true,false,false,true,true,false,false,false,false,false,false,false,false,false] rfl rfl (zH HT_.out (by kernel_rfl)) (fun _ _ _ h=>h) (Or.inl ⟨by rfl,?_⟩) ?_ ?_
       rotate_left
       · intro w'
         go_simp
         with_reducible rfl
       rotate_left
       · simp only [Act.put,List.setIfInBounds_toArray,List.set_cons_zero,List.set_cons_succ,zx,zC]
         rfl
       refine take_ (i:=6) (N:=some 110) (v:=?_) (a':=?_) #[true,true,true,true,true,true,true,false,true,true,false,false,false,false,false,false,false,false,false] rfl rfl (z18 HT_.out HW_.out (by kernel_rfl)) (fun _ _ _ h=>h) (Or.inl ⟨by rfl,?_⟩) hHeld ?_ ?_
       rotate_left
       · rintro w' ⟨s0,s1,s2,s3,s4,s5,s6,s7,s8,s9⟩
         go_simp
         with_reducible rfl
       rotate_left
       · simp only [Act.put,List.setIfInBounds_toArray,List.set_cons_zero,List.set_cons_succ,zx,zC]
         rfl
       refine take_ (i:=7) (N:=some 111) (v:=?_) (a':=?_) #[true,true,true,true,true,true,true,true,true,true,false,false,false,false,false,false,false,false,false] rfl rfl (z18 HT_.out HW_.out (by kernel_rfl)) (fun _ _ _ h=>h) (Or.inl ⟨by rfl,?_⟩) hHeld ?_ ?_
       rotate_left
       · rintro w' ⟨s0,s1,s2,s3,s4,s5,s6,s7,s8,s9⟩
         go_simp
         with_reducible rfl
       rotate_left
       · simp only [Act.put,List.setIfInBounds_toArray,List.set_cons_zero,List.set_cons_succ,zx,zC]
         rfl
       refine take_ (i:=10) (N:=some 114) (v:=?_) (a':=?_) #[true,true,true,true,true,true,true,true,true,true,true,false,false,false,false,false,false,false,false] rfl rfl (z18 HT_.out HW_.out (by kernel_rfl)) (fun _ _ _ h=>h) (Or.inl ⟨by rfl,?_⟩) hHeld ?_ ?_
       rotate_left
       · rintro w' ⟨s0,s1,s2,s3,s4,s5,s6,s7,s8,s9⟩
         go_simp
         with_reducible rfl
       rotate_left
       · simp only [Act.put,List.setIfInBounds_toArray,List.set_cons_zero,List.set_cons_succ,zx,zC]
         rfl
       refine pure_ (i:=11) (N:=some 115) (v:=?_) (a':=?_) #[true,true,true,true,true,true,true,true,true,true,true,true,false,false,false,false,false,false,false] rfl rfl (zH HT_.out (by kernel_rfl)) (fun _ _ _ h=>h) (Or.inl ⟨by rfl,?_⟩) ?_ ?_
       rotate_left
       · intro w'
         go_simp
         with_reducible rfl
       rotate_left
       · simp only [Act.put,List.setIfInBounds_toArray,List.set_cons_zero,List.set_cons_succ,zx,zC]
         rfl
       refine take_ (i:=12) (N:=some 116) (v:=?_) (a':=?_) #[true,true,true,true,true,true,true,true,true,true,true,true,true,false,false,false,false,false,false] rfl rfl (z18 HT_.out HW_.out (by kernel_rfl)) (fun _ _ _ h=>h) (Or.inl ⟨by rfl,?_⟩) hHeld ?_ ?_
       rotate_left
       · rintro w' ⟨s0,s1,s2,s3,s4,s5,s6,s7,s8,s9⟩
         go_simp
         with_reducible rfl
       rotate_left
       · simp only [Act.put,List.setIfInBounds_toArray,List.set_cons_zero,List.set_cons_succ,zx,zC]
         rfl
       refine take_ (i:=13) (N:=some 117) (v:=?_) (a':=?_) #[true,true,true,true,true,true,true,true,true,true,true,true,true,true,false,false,false,false,false] rfl rfl (z18 HT_.out HW_.out (by kernel_rfl)) (fun _ _ _ h=>h) (Or.inl ⟨by rfl,?_⟩) hHeld ?_ ?_
       rotate_left
       · rintro w' ⟨s0,s1,s2,s3,s4,s5,s6,s7,s8,s9⟩
         go_simp
         with_reducible rfl
       rotate_left
       · simp only [Act.put,List.setIfInBounds_toArray,List.set_cons_zero,List.set_cons_succ,zx,zC]
         rfl
       refine one_ (i:=14) (N:=some 118) #[true,true,true,true,true,true,true,true,true,true,true,true,true,true,true,false,false,false,false] rfl rfl (z1n HT_.out (by kernel_rfl)) (by decide) (fun K hK=>?_)
       refine goes_ Try.func41 (by kernel_rfl) rfl #[.int .i64 a0,.agg #[.int .u64 ((zu l2_0 0).f0),.int .u64 ((zu l2_0 0).f1)],.agg #[.int .u64 t110,.int .u64 t111]] (by rfl) rfl rfl (by (try simp only [List.map_toArray,List.map_cons,List.map_nil]);first|done|rfl|(simp only [List.length_drop,List.length_take];rfl)) ?_
       with_reducible refine (zD.calls k3 a0 ((zu l2_0 0).f0) ((zu l2_0 0).f1) t110 t111 t131 t132 _ A69.out).mono ?_
       rintro e w89 ⟨rfl,hb⟩
       refine ⟨_,rfl,?_⟩
       have n0_:=z3.mk (Kd.z1e (by (with_reducible repeat (first|apply Kd.zQ|apply Kd.zR|apply Kd.zZ));exact HO_11.out) hb)
       have n1_:=z3.mk (zb (g:=gb101) (o:=.cells #[.slice A1_0 l1_0.length c1_0,.slice A1_1 l1_1.length c1_1] 64 (0,0)) (by (with_reducible repeat (first|refine z2 ?_ _|refine z6 ?_|refine z1 ?_ _));exact BK101.out) hb)
       have n2_:=z3.mk (zb (g:=gb102) (o:=.cells #[.slice (some ad130) l2_0.length c2_0,.slice A2_1 l2_1.length c2_1] 66 (0,0)) (by (with_reducible repeat (first|refine z2 ?_ _|refine z6 ?_|refine z1 ?_ _));exact BK102.out) hb)
       have n3_:=z3.mk (zb (g:=gb109) (o:=.cells #[.int .u64 t106,.int .u64 t107] 51 (0,0)) (by (with_reducible repeat (first|refine z2 ?_ _|refine z6 ?_|refine z1 ?_ _));exact BK109.out) hb)
       have n4_:=z3.mk (zb (g:=gb113) (o:=.cells #[.int .u64 t110,.int .u64 t111] 51 (0,0)) (by (with_reducible repeat (first|refine z2 ?_ _|refine z6 ?_|refine z1 ?_ _));exact BK113.out) hb)
       have n5_:=z3.mk (zb (g:=gb128) (o:=.cells #[.int .u64 t125,.int .u64 t126] 51 (0,0)) (by (with_reducible repeat (first|refine z2 ?_ _|refine z6 ?_|refine z1 ?_ _));exact BK128.out) hb)
       have n6_:=z3.mk (zd (by repeat (first|(with_reducible first|exact HB.out|apply z5|apply z0|apply z4|refine z7 ?_ GE101.out|refine z7 ?_ GE102.out|refine z7 ?_ GE109.out|refine z7 ?_ GE113.out|refine z7 ?_ GE128.out)|exact HB.out)) hb)
       clear HO_11
       clear BK101
       clear BK102
       clear BK109
       clear BK113
       clear BK128
       clear HB
       have HO_11:=n0_
       have BK101:=n1_
       have BK102:=n2_
       have BK109:=n3_
       have BK113:=n4_
       have BK128:=n5_
       have HB:=n6_
       clear n0_ n1_ n2_ n3_ n4_ n5_ n6_
       (try clear hb)
       (try clear hb2)
       (try clear hk)
       (try clear hi)
       refine hK.out _ _ ⟨(z9 BK128.out 0).trans rfl,(z9 BK128.out 1).trans rfl,(z9 BK109.out 0).trans rfl,(z9 BK109.out 1).trans rfl,(z9 BK102.out 0).trans rfl,(z9 BK102.out 1).trans rfl,(z9 BK113.out 0).trans rfl,(z9 BK113.out 1).trans rfl,((HB.out.cell (World.block_lt_of_cell? w _ hw130_0)).trans hw130_0),((HB.out.cell (World.block_lt_of_cell? w _ hw130_1)).trans hw130_1)⟩ (fun hHeld=>?_)
       clear hK K
       refine norm_ (a':=?_) ?_ ?_
       rotate_left
       · show Act.put _ (some 118) _ = _
         simp only [Act.put,List.setIfInBounds_toArray,List.set_cons_zero,List.set_cons_succ,zx,zC]
         rfl
       refine one_ (i:=15) (N:=some 119) #[true,true,true,true,true,true,true,true,true,true,true,true,true,true,true,true,false,false,false] rfl rfl (z1n HT_.out (by kernel_rfl)) (by decide) (fun K hK=>?_)
       refine goes_ Try.func40 (by kernel_rfl) rfl #[.agg #[.int .u64 t106,.int .u64 t107],.agg #[.int .u64 t131,.int .u64 t132]] (by rfl) rfl rfl (by (try simp only [List.map_toArray,List.map_cons,List.map_nil]);first|done|rfl|(simp only [List.length_drop,List.length_take];rfl)) ?_
       with_reducible refine (z1c.calls t106 t107 t131 t132 t133 t134 _ A70.out).mono ?_
       rintro e w90 ⟨rfl,hb⟩
       refine ⟨_,rfl,?_⟩
       have n0_:=z3.mk (Kd.z1e (by (with_reducible repeat (first|apply Kd.zQ|apply Kd.zR|apply Kd.zZ));exact HO_11.out) hb)
       have n1_:=z3.mk (zb (g:=gb101) (o:=.cells #[.slice A1_0 l1_0.length c1_0,.slice A1_1 l1_1.length c1_1] 64 (0,0)) (by (with_reducible repeat (first|refine z2 ?_ _|refine z6 ?_|refine z1 ?_ _));exact BK101.out) hb)
       have n2_:=z3.mk (zb (g:=gb102) (o:=.cells #[.slice (some ad130) l2_0.length c2_0,.slice A2_1 l2_1.length c2_1] 66 (0,0)) (by (with_reducible repeat (first|refine z2 ?_ _|refine z6 ?_|refine z1 ?_ _));exact BK102.out) hb)
       have n3_:=z3.mk (zb (g:=gb109) (o:=.cells #[.int .u64 t106,.int .u64 t107] 51 (0,0)) (by (with_reducible repeat (first|refine z2 ?_ _|refine z6 ?_|refine z1 ?_ _));exact BK109.out) hb)
       have n4_:=z3.mk (zb (g:=gb113) (o:=.cells #[.int .u64 t110,.int .u64 t111] 51 (0,0)) (by (with_reducible repeat (first|refine z2 ?_ _|refine z6 ?_|refine z1 ?_ _));exact BK113.out) hb)
       have n5_:=z3.mk (zb (g:=gb128) (o:=.cells #[.int .u64 t125,.int .u64 t126] 51 (0,0)) (by (with_reducible repeat (first|refine z2 ?_ _|refine z6 ?_|refine z1 ?_ _));exact BK128.out) hb)
       have n6_:=z3.mk (zd (by repeat (first|(with_reducible first|exact HB.out|apply z5|apply z0|apply z4|refine z7 ?_ GE101.out|refine z7 ?_ GE102.out|refine z7 ?_ GE109.out|refine z7 ?_ GE113.out|refine z7 ?_ GE128.out)|exact HB.out)) hb)
       clear HO_11
       clear BK101
       clear BK102
       clear BK109
       clear BK113
       clear BK128
       clear HB
       have HO_11:=n0_
       have BK101:=n1_
       have BK102:=n2_
       have BK109:=n3_
       have BK113:=n4_
       have BK128:=n5_
       have HB:=n6_
       clear n0_ n1_ n2_ n3_ n4_ n5_ n6_
       (try clear hb)
       (try clear hb2)
       (try clear hk)
       (try clear hi)
       refine hK.out _ _ ⟨(z9 BK128.out 0).trans rfl,(z9 BK128.out 1).trans rfl,(z9 BK109.out 0).trans rfl,(z9 BK109.out 1).trans rfl,(z9 BK102.out 0).trans rfl,(z9 BK102.out 1).trans rfl,(z9 BK113.out 0).trans rfl,(z9 BK113.out 1).trans rfl,((HB.out.cell (World.block_lt_of_cell? w _ hw130_0)).trans hw130_0),((HB.out.cell (World.block_lt_of_cell? w _ hw130_1)).trans hw130_1)⟩ (fun hHeld=>?_)
       clear hK K
       refine norm_ (a':=?_) ?_ ?_
       rotate_left
       · show Act.put _ (some 119) _ = _
         simp only [Act.put,List.setIfInBounds_toArray,List.set_cons_zero,List.set_cons_succ,zx,zC]
         rfl
       refine pure_ (i:=16) (N:=some 120) (v:=?_) (a':=?_) #[true,true,true,true,true,true,true,true,true,true,true,true,true,true,true,true,true,false,false] rfl rfl (zH HT_.out (by kernel_rfl)) (fun _ _ _ h=>h) (Or.inl ⟨by rfl,?_⟩) ?_ ?_
       rotate_left
       · intro w'
         go_simp
         with_reducible rfl
       rotate_left
       · simp only [Act.put,List.setIfInBounds_toArray,List.set_cons_zero,List.set_cons_succ,zx,zC]
         rfl
       refine pure_ (i:=17) (N:=some 121) (v:=?_) (a':=?_) #[true,true,true,true,true,true,true,true,true,true,true,true,true,true,true,true,true,true,false] rfl rfl (zH HT_.out (by kernel_rfl)) (fun _ _ _ h=>h) (Or.inl ⟨by rfl,?_⟩) ?_ ?_
       rotate_left
       · intro w'
         go_simp
         with_reducible rfl
       rotate_left
       · simp only [Act.put,List.setIfInBounds_toArray,List.set_cons_zero,List.set_cons_succ,zx,zC]
         rfl
       refine pure_ (i:=18) (N:=some 6) (v:=?_) (a':=?_) #[true,true,true,true,true,true,true,true,true,true,true,true,true,true,true,true,true,true,true] rfl rfl (zH HT_.out (by kernel_rfl)) (fun _ _ _ h=>h) (Or.inl ⟨by rfl,?_⟩) ?_ ?_
       rotate_left
       · intro w'
         go_simp
         with_reducible rfl
       rotate_left
       · simp only [Act.put,List.setIfInBounds_toArray,List.set_cons_zero,List.set_cons_succ,zx,zC]
         rfl
       refine done_ (z1P HT_.out (by kernel_rfl)) ?_
       try go_wp2
       go_ret
       exact ⟨by first|rfl|(simp [zh,zi] <;> rfl)|(simp [*,zh,zi] <;> rfl),by repeat (first|(with_reducible first|exact HB.out|apply z5|apply z0|apply z4|refine z7 ?_ GE101.out|refine z7 ?_ GE102.out|refine z7 ?_ GE109.out|refine z7 ?_ GE113.out|refine z7 ?_ GE128.out)|exact HB.out)⟩
end Go.Proofs.Ytngcaphdkgihmaa.P
/- What the arguments of a law read as: for each type that can be told, any reading of it is one of a value of its kind, with its numbers in their ranges. Own text. -/
namespace Go.Proofs.Ytngcaphdkgihmaa.Reads
open Go.ChangeShapes Go.WideShapes Go.ChangeAt Go.RowKit Go.Deep Go.Proofs.YtngcaphdkgihmaaW.PrintWords
set_option linter.unusedVariables false

/-- Whatever is read at type t is of kind d, and good. -/
def ReadsAs {α : Type} (P : Program) (t : TypeId) (d : Kd α) (good : α → Prop) : Prop :=
  ∀ {H : Type} (enc : TypeId × Value → H) (w : World) (base : Nat) (spare : Nat → Bool) (held : Bool) (fuel : Nat) (cs : List Value) (x : DataW H × List MemPlace), DataW.trod enc P w base spare held fuel t cs = some x → ∃ a, d.K w a cs ∧ good a

theorem z5d {P : Program} {t : TypeId} {k : IntKind} (ht : P.underlying t = some (.int k)) : ReadsAs P t (Kd.int k) (fun n => (Lit.int k n).wf = true) := by
  intro H enc w base spare held fuel cs x h
  obtain ⟨n, rfl, _, hw⟩ := DataW.trod_int ht h
  exact ⟨n, rfl, hw⟩
theorem op_bool {P : Program} {t : TypeId} (ht : P.underlying t = some .bool) : ReadsAs P t Kd.bool (fun _ => True) := by
  intro H enc w base spare held fuel cs x h
  obtain ⟨n, rfl, _⟩ := DataW.trod_bool ht h
  exact ⟨n, rfl, trivial⟩
theorem z3W (a : Addr) (i j : Nat) : (a.add i).add j = a.add (i + j) := Go.Deep.add_add a i j
theorem op_slice {α : Type} {P : Program} {t e : TypeId} {d : Kd α} {good : α → Prop} (ht : P.underlying t = some (.slice e)) (hc : P.cellsOf e = d.sz) (he : ReadsAs P e d good) : ReadsAs P t (Kd.slice e d) (fun l => (∀ x ∈ l, good x) ∧ l.length ≤ maxLen) := by
  intro H enc w base spare held fuel cs x h
  rcases open_slice ht h with ⟨rfl, _⟩ | ⟨a, len, cap, m, n, D, Pl, rfl, hb, hl, hm, hmm, rfl, hx⟩
  · exact ⟨[], ⟨none, 0, rfl, Nat.le_refl _, Kd.C_nil d w⟩, ⟨by simp, Nat.zero_le _⟩⟩
  · have hlm : len ≤ m := by rw [hmm]; split <;> omega
    have hex : ∀ i, i < len → ∃ y : α, ∃ c, c.length = d.sz ∧ d.K w y c ∧ good y ∧ ∀ j u, c[j]? = some u → w.cell? (a.add (i * d.sz + j)) = some u := by
      intro i hi
      obtain ⟨cs', h1, h2⟩ := hx i (by omega)
      obtain ⟨_, hlen, hcell⟩ := World.cells?_some h1
      obtain ⟨y, hK, hg⟩ := he enc w base spare held n cs' _ h2
      refine ⟨y, cs', by rw [hlen, hc], hK, hg, fun j u hu => ?_⟩
      have hj : j < P.cellsOf e := by rw [← hlen]; exact (List.getElem?_eq_some_iff.1 hu).1
      have := hcell j hj
      rw [z3W] at this
      rw [← hc, this]; exact hu
    have hmax : len ≤ 9223372036854775807 := by
      have h9 : len ≤ maxLen := by omega
      simpa [maxLen] using h9
    have hlen : (List.ofFn (fun i : Fin len => Classical.choose (hex i.1 i.2))).length = len := List.length_ofFn
    refine ⟨List.ofFn (fun i : Fin len => Classical.choose (hex i.1 i.2)), ⟨some a, cap, by rw [hlen], by rw [hlen]; exact hl, rfl, by rw [hlen]; exact hmax, fun _ => ⟨a, rfl, ?_⟩⟩, ?_, by rw [hlen]; omega⟩
    · intro j p hp
      obtain ⟨hj, hpj⟩ := List.getElem?_eq_some_iff.1 hp
      rw [List.length_ofFn] at hj
      rw [List.getElem_ofFn] at hpj
      obtain ⟨c, h1, h2, _, h4⟩ := Classical.choose_spec (hex j hj)
      exact ⟨c, h1, by rw [← hpj]; exact h2, h4⟩
    · intro y hy
      obtain ⟨i, rfl⟩ := List.mem_ofFn.1 hy
      obtain ⟨c, _, _, h3, _⟩ := Classical.choose_spec (hex i.1 i.2)
      exact h3

/-- Fields that lie one behind the other. -/
def ReadsFs {α : Type} (P : Program) (fs : List Field) (off : Nat) (d : Kd α) (good : α → Prop) : Prop :=
  ∀ {H : Type} (enc : TypeId × Value → H) (w : World) (base : Nat) (spare : Nat → Bool) (held : Bool) (n : Nat) (cs : List Value), cs.length = d.sz →
    (∀ f ∈ fs, off ≤ f.offset ∧ ∃ x, DataW.trod enc P w base spare held n f.type ((cs.drop (f.offset - off)).take (P.cellsOf f.type)) = some x) → ∃ a, d.K w a cs ∧ good a
theorem z3O {α : Type} {P : Program} {f : Field} {off : Nat} {d : Kd α} {good : α → Prop} (hs : P.cellsOf f.type = d.sz) (ho : f.offset = off) (he : ReadsAs P f.type d good) : ReadsFs P [f] off d good := by
  intro H enc w base spare held n cs hl h
  obtain ⟨_, x, hx⟩ := h f (by simp)
  rw [ho, Nat.sub_self, List.drop_zero, hs, ← hl, List.take_length] at hx
  exact he enc w base spare held n cs x hx
theorem z3N {α β : Type} {P : Program} {f : Field} {fs : List Field} {off : Nat} {d : Kd α} {d' : Kd β} {good : α → Prop} {good' : β → Prop} (hs : P.cellsOf f.type = d.sz) (ho : f.offset = off) (he : ReadsAs P f.type d good)
    (hr : ReadsFs P fs (off + d.sz) d' good') (hoff : ∀ g ∈ fs, off + d.sz ≤ g.offset) : ReadsFs P (f :: fs) off (Kd.pair d d') (fun x => good x.1 ∧ good' x.2) := by
  intro H enc w base spare held n cs hl h
  have hl' : cs.length = d.sz + d'.sz := hl
  obtain ⟨_, x, hx⟩ := h f (by simp)
  rw [ho, Nat.sub_self, List.drop_zero, hs] at hx
  obtain ⟨a, hK, hg⟩ := he enc w base spare held n _ x hx
  obtain ⟨b, hK', hg'⟩ := hr enc w base spare held n (cs.drop d.sz) (by rw [List.length_drop]; omega) (fun g hgm => by
    obtain ⟨_, y, hy⟩ := h g (by simp [hgm])
    have ho' := hoff g hgm
    refine ⟨ho', y, ?_⟩
    rw [List.drop_drop, show d.sz + (g.offset - (off + d.sz)) = g.offset - off by omega]
    exact hy)
  exact ⟨(a, b), ⟨cs.take d.sz, cs.drop d.sz, (List.take_append_drop _ _).symm, hK, hK'⟩, hg, hg'⟩
theorem z3M {α β : Type} {P : Program} {t : TypeId} {fs : Array Field} {l : List Field} {d : Kd α} {good : α → Prop} (f : β → α) (hsurj : ∀ a, ∃ b, f b = a) (ht : P.underlying t = some (.struct fs)) (hfl : fs.toList = l) (hs : P.cellsOf t = d.sz) (h : ReadsFs P l 0 d good) :
    ReadsAs P t (Kd.iso d f) (fun b => good (f b)) := by
  intro H enc w base spare held fuel cs x hx
  obtain ⟨xs, n, rfl, _, hlen, hxs, hall⟩ := DataW.trod_struct ht hx
  obtain ⟨a, hK, hg⟩ := h enc w base spare held n cs (by rw [hlen, hs]) (fun g hgm => by
    rw [← hfl] at hgm
    obtain ⟨i, hi, rfl⟩ := List.mem_iff_getElem.1 hgm
    have h1 := hall i fs.toList[i] (by simp at hi ⊢)
    have hi' : i < xs.length := by rw [hxs]; simpa using hi
    refine ⟨Nat.zero_le _, xs[i], ?_⟩
    rw [Nat.sub_zero, h1, List.getElem?_eq_getElem hi'])
  obtain ⟨b, rfl⟩ := hsurj a
  exact ⟨b, hK, hg⟩

/-- Elements of an array, one behind the other. -/
def ReadsAr {α : Type} (P : Program) (e : TypeId) (m : Nat) (d : Kd α) (good : α → Prop) : Prop :=
  ∀ {H : Type} (enc : TypeId × Value → H) (w : World) (base : Nat) (spare : Nat → Bool) (held : Bool) (n : Nat) (cs : List Value), cs.length = d.sz →
    (∀ i, i < m → ∃ x, DataW.trod enc P w base spare held n e ((cs.drop (i * P.cellsOf e)).take (P.cellsOf e)) = some x) → ∃ a, d.K w a cs ∧ good a
theorem z5f {α : Type} {P : Program} {e : TypeId} {d : Kd α} {good : α → Prop} (hs : P.cellsOf e = d.sz) (he : ReadsAs P e d good) : ReadsAr P e 1 d good := by
  intro H enc w base spare held n cs hl h
  obtain ⟨x, hx⟩ := h 0 (by omega)
  rw [Nat.zero_mul, List.drop_zero, hs, ← hl, List.take_length] at hx
  exact he enc w base spare held n cs x hx
theorem z5e {α β : Type} {P : Program} {e : TypeId} {m : Nat} {d : Kd α} {d' : Kd β} {good : α → Prop} {good' : β → Prop} (hs : P.cellsOf e = d.sz) (he : ReadsAs P e d good) (hr : ReadsAr P e m d' good') :
    ReadsAr P e (m + 1) (Kd.pair d d') (fun x => good x.1 ∧ good' x.2) := by
  intro H enc w base spare held n cs hl h
  have hl' : cs.length = d.sz + d'.sz := hl
  obtain ⟨x, hx⟩ := h 0 (by omega)
  rw [Nat.zero_mul, List.drop_zero, hs] at hx
  obtain ⟨a, hK, hg⟩ := he enc w base spare held n _ x hx
  obtain ⟨b, hK', hg'⟩ := hr enc w base spare held n (cs.drop d.sz) (by rw [List.length_drop]; omega) (fun i hi => by
    obtain ⟨y, hy⟩ := h (i + 1) (by omega)
    refine ⟨y, ?_⟩
    rw [List.drop_drop, show d.sz + i * P.cellsOf e = (i + 1) * P.cellsOf e by rw [hs, Nat.add_mul]; omega]
    exact hy)
  exact ⟨(a, b), ⟨cs.take d.sz, cs.drop d.sz, (List.take_append_drop _ _).symm, hK, hK'⟩, hg, hg'⟩
theorem op_array {α β : Type} {P : Program} {t e : TypeId} {m : Nat} {d : Kd α} {good : α → Prop} (f : β → α) (hsurj : ∀ a, ∃ b, f b = a) (ht : P.underlying t = some (.array m e)) (hs : P.cellsOf t = d.sz) (h : ReadsAr P e m d good) :
    ReadsAs P t (Kd.iso d f) (fun b => good (f b)) := by
  intro H enc w base spare held fuel cs x hx
  obtain ⟨xs, n, rfl, _, hlen, hxs, hall⟩ := DataW.trod_array ht hx
  obtain ⟨a, hK, hg⟩ := h enc w base spare held n cs (by rw [hlen, hs]) (fun i hi => by
    have hi' : i < xs.length := by omega
    exact ⟨xs[i], by rw [hall i hi, List.getElem?_eq_getElem hi']⟩)
  obtain ⟨b, rfl⟩ := hsurj a
  exact ⟨b, hK, hg⟩
theorem z3L {P : Program} {w : World} {r : Reach} {base : Nat} {t e : TypeId} {m : Nat} {v : Value} (ht : P.underlying t = some (.array m e)) (h : Value.okWide P w r base t v) : ∃ cs, v = .agg cs ∧ cs.size = P.cellsOf t := by
  simp only [Value.okWide, ht] at h
  cases v <;> simp_all

/-- An argument that is a slice. -/
theorem arg_slice {α : Type} {P : Program} {H : Type} {enc : TypeId × Value → H} {W : World} {base : Nat} {spare : Nat → Bool} {held : Bool} {t e : TypeId} {d : Kd α} {good : List α → Prop} {v : Value} {dd : DataW H} {ps : List MemPlace}
    (hop : ReadsAs P t (Kd.slice e d) good) {e' : TypeId} (ht : P.underlying t = some (.slice e')) {r : Reach} {b : Nat} (hv : Value.okWide P W r b t v) (h : DataW.Trod enc P W base spare held t v dd ps) :
    ∃ (l : List α) (A : Option Addr) (c : Nat), v = .slice A l.length c ∧ l.length ≤ c ∧ Kd.C d W A l.length l ∧ good l := by
  obtain ⟨A, len, cap, rfl⟩ := okWide_slice ht hv
  obtain ⟨fuel, hf⟩ := h
  obtain ⟨l, ⟨A', c, hcs, hl, hC⟩, hg⟩ := hop enc W base spare held fuel _ _ hf
  simp [Value.cells] at hcs
  obtain ⟨rfl, rfl, rfl⟩ := hcs
  exact ⟨l, A, cap, rfl, hl, hC, hg⟩
theorem arg_int {P : Program} {H : Type} {enc : TypeId × Value → H} {W : World} {base : Nat} {spare : Nat → Bool} {held : Bool} {t : TypeId} {k : IntKind} {v : Value} {dd : DataW H} {ps : List MemPlace}
    (ht : P.underlying t = some (.int k)) {r : Reach} {b : Nat} (hv : Value.okWide P W r b t v) (h : DataW.Trod enc P W base spare held t v dd ps) :
    ∃ n, v = .int k n ∧ (Lit.int k n).wf = true := by
  obtain ⟨n, rfl⟩ := okWide_int ht hv
  obtain ⟨fuel, hf⟩ := h
  obtain ⟨l, hcs, hg⟩ := z5d ht enc W base spare held fuel _ _ hf
  have : n = l := by
    have h1 : ([Value.int k n] : List Value) = [.int k l] := hcs
    simpa using h1
  subst this
  exact ⟨n, rfl, hg⟩
theorem arg_bool {P : Program} {W : World} {t : TypeId} {v : Value} (ht : P.underlying t = some .bool) {r : Reach} {b : Nat} (hv : Value.okWide P W r b t v) : ∃ n, v = .bool n := okWide_bool ht hv
/-- An argument that is a struct: its cells. -/
theorem z4s {α : Type} {P : Program} {H : Type} {enc : TypeId × Value → H} {W : World} {base : Nat} {spare : Nat → Bool} {held : Bool} {t : TypeId} {fs : Array Field} {d : Kd α} {good : α → Prop} {v : Value} {dd : DataW H} {ps : List MemPlace}
    (hop : ReadsAs P t d good) (ht : P.underlying t = some (.struct fs)) {r : Reach} {b : Nat} (hv : Value.okWide P W r b t v) (h : DataW.Trod enc P W base spare held t v dd ps) :
    ∃ (a : α) (cs : List Value), v = .agg cs.toArray ∧ d.K W a cs ∧ good a := by
  obtain ⟨cs, rfl, _⟩ := okWide_struct ht hv
  obtain ⟨fuel, hf⟩ := h
  obtain ⟨a, hK, hg⟩ := hop enc W base spare held fuel _ _ hf
  exact ⟨a, cs.toList, by simp, hK, hg⟩
/-- An argument that is an array: its cells. -/
theorem z4O {α : Type} {P : Program} {H : Type} {enc : TypeId × Value → H} {W : World} {base : Nat} {spare : Nat → Bool} {held : Bool} {t e : TypeId} {m : Nat} {d : Kd α} {good : α → Prop} {v : Value} {dd : DataW H} {ps : List MemPlace}
    (hop : ReadsAs P t d good) (ht : P.underlying t = some (.array m e)) {r : Reach} {b : Nat} (hv : Value.okWide P W r b t v) (h : DataW.Trod enc P W base spare held t v dd ps) :
    ∃ (a : α) (cs : List Value), v = .agg cs.toArray ∧ d.K W a cs ∧ good a := by
  obtain ⟨cs, rfl, _⟩ := z3L ht hv
  obtain ⟨fuel, hf⟩ := h
  obtain ⟨a, hK, hg⟩ := hop enc W base spare held fuel _ _ hf
  exact ⟨a, cs.toList, by simp, hK, hg⟩
end Go.Proofs.Ytngcaphdkgihmaa.Reads
-- Own text: the statement that is left of the law CubeSums, and what a reading of its arguments is.
namespace Go.Proofs.Ytngcaphdkgihmaa.Stated.cubeSums
open Go.RowKit Go.Proofs.YtngcaphdkgihmaaW.PrintWords Go.Proofs.Ytngcaphdkgihmaa.P Go.Proofs.Ytngcaphdkgihmaa.Reads
def Pure : Prop := ∀ (x0 : Int) (x1 : S64) (x2 : S66), ((Lit.int .i64 x0).wf = true) → ((((∀ x_ ∈ x1.f0, ((Lit.int .u64 x_.f0).wf = true) ∧ ((Lit.int .u64 x_.f1).wf = true)) ∧ x1.f0.length ≤ maxLen)) ∧ (((∀ x_ ∈ x1.f1, ((Lit.int .u64 x_.f0).wf = true) ∧ ((Lit.int .u64 x_.f1).wf = true)) ∧ x1.f1.length ≤ maxLen))) → ((((∀ x_ ∈ x2.f0, ((Lit.int .u64 x_.f0).wf = true) ∧ ((Lit.int .u64 x_.f1).wf = true)) ∧ x2.f0.length ≤ maxLen)) ∧ (((∀ x_ ∈ x2.f1, ((Lit.int .u64 x_.f0).wf = true) ∧ ((Lit.int .u64 x_.f1).wf = true)) ∧ x2.f1.length ≤ maxLen))) → ∃ k, z8.f k x0 x1.f0 x1.f1 x2.f0 x2.f1 = some true
end Go.Proofs.Ytngcaphdkgihmaa.Stated.cubeSums
/- Rounds: what is told by enough of them; and the arithmetic of whole numbers as the printed functions spell it. Own text. -/
namespace Go.Proofs.YtngcaphdkgihmaaW.PrintWords
set_option linter.unusedVariables false
set_option linter.unusedSimpArgs false
namespace Ev
variable {α β : Type}
theorem ret (r : α) : Ev (fun _ => some r) r := ⟨0, fun _ _ => rfl⟩
theorem ret' {a r : α} (h : a = r) : Ev (fun _ => some a) r := h ▸ Ev.ret a
theorem const {o : Option α} {r : α} (h : o = some r) : Ev (fun _ => o) r := ⟨0, fun _ _ => h⟩
theorem pos {c : Prop} [Decidable c] {f g : Nat → Option α} {r : α} (h : c) (k : Ev f r) : Ev (fun n => if c then f n else g n) r := by
  simp only [if_pos h]; exact k
theorem neg {c : Prop} [Decidable c] {f g : Nat → Option α} {r : α} (h : ¬ c) (k : Ev g r) : Ev (fun n => if c then f n else g n) r := by
  simp only [if_neg h]; exact k
theorem bnd {g : Nat → Option α} {f : Nat → α → Option β} {a : α} {r : β} (h : Ev g a) (k : Ev (fun n => f n a) r) : Ev (fun n => (g n).bind (f n)) r := Ev.bind h k
theorem bnd0 {o : Option α} {f : Nat → α → Option β} {a : α} {r : β} (h : o = some a) (k : Ev (fun n => f n a) r) : Ev (fun n => o.bind (f n)) r := Ev.bind (Ev.const h) k
theorem uniq {g : Nat → Option α} {a b : α} (h : Ev g a) (k : Ev g b) : a = b := by
  obtain ⟨K, hK⟩ := h; obtain ⟨L, hL⟩ := k
  have := hK (max K L) (Nat.le_max_left _ _); rw [hL _ (Nat.le_max_right _ _)] at this
  exact (Option.some.inj this).symm
theorem eqn {g : Nat → Option α} {a b : α} (h : Ev g a) (e : a = b) : Ev g b := e ▸ h
end Ev
end Go.Proofs.YtngcaphdkgihmaaW.PrintWords
namespace Go.Proofs.Ytngcaphdkgihmaa.Ar
open Go.RowKit Go.Proofs.YtngcaphdkgihmaaW.PrintWords Go.Proofs.YtngcaphdkgihmaaW.PrintMore
set_option linter.unusedVariables false
set_option linter.unusedSimpArgs false
theorem i64_id {x : Int} (h0 : -9223372036854775808 ≤ x) (h1 : x ≤ 9223372036854775807) : IntKind.i64.wrap x = x := by rw [IntKind.wrap_i64]; omega
theorem z20 {x : Int} (h0 : -9223372036854775808 ≤ x) (h1 : x ≤ 9223372036854775807) : wrap64 x = x := by unfold wrap64; omega
theorem z1o {i L : Nat} (h : i < L) (hL : L ≤ 4611686018427387904) : wrap64 ((i : Int) + 1) = ((i + 1 : Nat) : Int) := by rw [z20 (by omega) (by omega)]; omega
theorem w64_add {i j : Nat} (h : i ≤ 2305843009213693952) (h' : j ≤ 2305843009213693952) : wrap64 ((i : Int) + (j : Int)) = ((i + j : Nat) : Int) := by rw [z20 (by omega) (by omega)]; omega
theorem w64_sub {i j : Nat} (h : j ≤ i) (h' : i ≤ 4611686018427387904) : wrap64 ((i : Int) - (j : Int)) = ((i - j : Nat) : Int) := by rw [z20 (by omega) (by omega)]; omega
theorem z1Z {x : Int} (h0 : 0 ≤ x) (h1 : x < 18446744073709551616) : IntKind.u64.wrap x = x := by
  simp [IntKind.wrap, IntKind.bits, IntKind.signed]; omega
theorem z3Z (w : Nat) (h : w ≤ 62) : shl .i64 1 (w : Int) = ((2 ^ w : Nat) : Int) := by
  unfold shl
  have h64 : IntKind.i64.bits = 64 := rfl
  rw [h64, Int.toNat_natCast, Nat.min_eq_left (by omega), Int.one_mul]
  have hp : (2 : Nat) ^ w ≤ 2 ^ 62 := Nat.pow_le_pow_right (by decide) h
  have hc : ((2 : Int) ^ w) = ((2 ^ w : Nat) : Int) := by simp
  rw [hc]
  have h62 : (2 : Nat) ^ 62 = 4611686018427387904 := by decide
  generalize 2 ^ w = p at hp ⊢
  exact i64_id (by omega) (by omega)
theorem z2w (w : Nat) (h : w ≤ 63) : shl .u64 1 (w : Int) = ((2 ^ w : Nat) : Int) := by
  unfold shl
  have h64 : IntKind.u64.bits = 64 := rfl
  rw [h64, Int.toNat_natCast, Nat.min_eq_left (by omega), Int.one_mul]
  have hp : (2 : Nat) ^ w ≤ 2 ^ 63 := Nat.pow_le_pow_right (by decide) h
  have hc : ((2 : Int) ^ w) = ((2 ^ w : Nat) : Int) := by simp
  rw [hc]
  have h63 : (2 : Nat) ^ 63 = 9223372036854775808 := by decide
  generalize 2 ^ w = p at hp ⊢
  exact z1Z (by omega) (by omega)
theorem z3z (a w : Nat) (h : w ≤ 64) : shr .u64 (a : Int) (w : Int) = ((a / 2 ^ w : Nat) : Int) := by
  unfold shr
  have h64 : IntKind.u64.bits = 64 := rfl
  rw [h64, Int.toNat_natCast, Nat.min_eq_left h]; simp
theorem shr_i64 (a w : Nat) (h : w ≤ 64) : shr .i64 (a : Int) (w : Int) = ((a / 2 ^ w : Nat) : Int) := by
  unfold shr
  have h64 : IntKind.i64.bits = 64 := rfl
  rw [h64, Int.toNat_natCast, Nat.min_eq_left h]; simp
theorem z3p (op : BinOp) (a b : Nat) (ha : a < 2 ^ 64) (hb : b < 2 ^ 64) :
    (op = .and → Go.bits op .u64 a b = ((a &&& b : Nat) : Int)) ∧ (op = .or → Go.bits op .u64 a b = ((a ||| b : Nat) : Int)) ∧ (op = .xor → Go.bits op .u64 a b = ((a ^^^ b : Nat) : Int)) := by
  have ha' : a % 2 ^ IntKind.u64.bits = a := Nat.mod_eq_of_lt ha
  have hb' : b % 2 ^ IntKind.u64.bits = b := Nat.mod_eq_of_lt hb
  refine ⟨?_, ?_, ?_⟩ <;> rintro rfl <;> simp only [Go.bits, BitVec.ofInt_natCast, BitVec.toNat_and, BitVec.toNat_or, BitVec.toNat_xor, BitVec.toNat_ofNat, ha', hb']
  · exact z1Z (Int.natCast_nonneg _) (by have := Nat.and_lt_two_pow a hb; omega)
  · exact z1Z (Int.natCast_nonneg _) (by have := Nat.or_lt_two_pow ha hb; omega)
  · exact z1Z (Int.natCast_nonneg _) (by have := Nat.xor_lt_two_pow ha hb; omega)
theorem z1O (a b : Nat) (ha : a < 2 ^ 64) (hb : b < 2 ^ 64) : Go.bits .and .u64 a b = ((a &&& b : Nat) : Int) := (z3p .and a b ha hb).1 rfl
theorem z4f (a b : Nat) (ha : a < 2 ^ 64) (hb : b < 2 ^ 64) : Go.bits .or .u64 a b = ((a ||| b : Nat) : Int) := (z3p .or a b ha hb).2.1 rfl
theorem z1r (a b : Nat) (ha : a < 2 ^ 64) (hb : b < 2 ^ 64) : Go.bits .xor .u64 a b = ((a ^^^ b : Nat) : Int) := (z3p .xor a b ha hb).2.2 rfl
theorem z3F (x w : Nat) (hx : x < 2 ^ 63) (hw : w ≤ 62) : Go.bits .and .i64 (x : Int) (((2 ^ w : Nat) : Int) - 1) = ((x % 2 ^ w : Nat) : Int) := by
  have := Go.bits_mask .i64 63 (by decide) (fun n h0 h1 => i64_id (by omega) (by omega)) w (by omega) (x : Int) (by omega) (by exact_mod_cast hx)
  have hc : (((2 ^ w : Nat) : Int) - 1) = 2 ^ w - 1 := by simp
  rw [hc, this]; simp
theorem two_pow_le {w : Nat} (h : w ≤ 6) : 2 ^ w ≤ 64 := Nat.pow_le_pow_right (n := 2) (by decide) h
theorem wf_i64 {x : Int} (h : (Lit.int .i64 x).wf = true) : -9223372036854775808 ≤ x ∧ x ≤ 9223372036854775807 := by
  simp only [Lit.wf, IntKind.min, IntKind.max, IntKind.signed, IntKind.bits, Bool.and_eq_true, decide_eq_true_eq] at h; simp at h; omega
theorem wf_u64 {x : Int} (h : (Lit.int .u64 x).wf = true) : 0 ≤ x ∧ x < 18446744073709551616 := by
  simp only [Lit.wf, IntKind.min, IntKind.max, IntKind.signed, IntKind.bits, Bool.and_eq_true, decide_eq_true_eq] at h; simp at h; omega
theorem rdOf_eq {α : Type} (d : α) (l : List α) (i : Nat) : rdOf d l (i : Int) = l.getD i d := by unfold rdOf; rw [Int.toNat_natCast]
end Go.Proofs.Ytngcaphdkgihmaa.Ar
/- The tower of fields of characteristic two, as pairs of pairs of bits: its laws. Own text; nothing of the program in it. -/
namespace Go.Proofs.Ytngcaphdkgihmaa.Tw
set_option linter.unusedVariables false
set_option linter.unusedSimpArgs false

/-- Level n: a bit, or two halves: the higher one and the lower one. -/
def T : Nat → Type
  | 0 => Bool
  | n + 1 => T n × T n
def zero : (n : Nat) → T n
  | 0 => false
  | n + 1 => (zero n, zero n)
def one : (n : Nat) → T n
  | 0 => true
  | n + 1 => (zero n, one n)
/-- The generator. -/
def gen : (n : Nat) → T n
  | 0 => true
  | n + 1 => (one n, zero n)
def add : {n : Nat} → T n → T n → T n
  | 0, a, b => Bool.xor a b
  | _ + 1, a, b => (add a.1 b.1, add a.2 b.2)
def mul : {n : Nat} → T n → T n → T n
  | 0, a, b => Bool.and a b
  | n + 1, a, b => (add (add (mul a.1 b.2) (mul a.2 b.1)) (mul (gen n) (mul a.1 b.1)), add (mul a.2 b.2) (mul a.1 b.1))
instance {n : Nat} : Add (T n) := ⟨add⟩
instance {n : Nat} : Mul (T n) := ⟨mul⟩
instance {n : Nat} : Zero (T n) := ⟨zero n⟩
instance {n : Nat} : One (T n) := ⟨one n⟩
instance : {n : Nat} → DecidableEq (T n)
  | 0 => inferInstanceAs (DecidableEq Bool)
  | n + 1 => let _ : DecidableEq (T n) := instDecidableEqT; inferInstanceAs (DecidableEq (T n × T n))
theorem z2N {n : Nat} (a b : T (n + 1)) : (a + b).1 = a.1 + b.1 := rfl
theorem z3o {n : Nat} (a b : T (n + 1)) : (a + b).2 = a.2 + b.2 := rfl
theorem z1A {n : Nat} (a b : T (n + 1)) : (a * b).1 = (a.1 * b.2 + a.2 * b.1) + gen n * (a.1 * b.1) := rfl
theorem z1B {n : Nat} (a b : T (n + 1)) : (a * b).2 = a.2 * b.2 + a.1 * b.1 := rfl
theorem z2J {n : Nat} : (0 : T (n + 1)).1 = 0 := rfl
theorem z2K {n : Nat} : (0 : T (n + 1)).2 = 0 := rfl
theorem z3v {n : Nat} : (1 : T (n + 1)).1 = 0 := rfl
theorem z3w {n : Nat} : (1 : T (n + 1)).2 = 1 := rfl
theorem z24 {n : Nat} : (gen (n + 1)).1 = 1 := rfl
theorem z25 {n : Nat} : (gen (n + 1)).2 = 0 := rfl
theorem z48 : gen 0 = 1 := rfl
/-- The element of two halves. -/
def mk {n : Nat} (a b : T n) : T (n + 1) := (a, b)
theorem z1L {n : Nat} (a b : T n) : (mk a b).1 = a := rfl
theorem z1T {n : Nat} (a b : T n) : (mk a b).2 = b := rfl
theorem ext {n : Nat} {a b : T (n + 1)} (h1 : a.1 = b.1) (h2 : a.2 = b.2) : a = b := Prod.ext h1 h2

theorem add_comm : {n : Nat} → (a b : T n) → a + b = b + a
  | 0, a, b => Bool.xor_comm a b
  | n + 1, a, b => ext (add_comm a.1 b.1) (add_comm a.2 b.2)
theorem add_assoc : {n : Nat} → (a b c : T n) → a + b + c = a + (b + c)
  | 0, a, b, c => Bool.xor_assoc a b c
  | n + 1, a, b, c => ext (add_assoc a.1 b.1 c.1) (add_assoc a.2 b.2 c.2)
theorem zero_add : {n : Nat} → (a : T n) → 0 + a = a
  | 0, a => Bool.false_xor a
  | n + 1, a => ext (zero_add a.1) (zero_add a.2)
theorem z1K : {n : Nat} → (a : T n) → a + a = 0
  | 0, a => Bool.xor_self a
  | n + 1, a => ext (z1K a.1) (z1K a.2)
theorem add_zero {n : Nat} (a : T n) : a + 0 = a := by rw [add_comm, zero_add]
theorem z1s {n : Nat} (a b c : T n) : a + (b + c) = b + (a + c) := by rw [← add_assoc, add_comm a b, add_assoc]
theorem z3E {n : Nat} (a b : T n) : a + (a + b) = b := by rw [← add_assoc, z1K, zero_add]
theorem z4M {n : Nat} {a b c : T n} (h : a + b = a + c) : b = c := by
  have := congrArg (a + ·) h
  simpa only [z3E] using this
theorem add_eq_zero {n : Nat} {a b : T n} (h : a + b = 0) : a = b := by
  have := congrArg (· + b) h
  simp only [add_assoc, z1K, add_zero, zero_add] at this
  exact this
theorem eq_add_of {n : Nat} {a b c : T n} (h : a + b = c) : a = c + b := by rw [← h, add_assoc, z1K, add_zero]

/-- The laws of products, all at once. -/
structure Laws (n : Nat) : Prop where
  comm : ∀ a b : T n, a * b = b * a
  zero_mul : ∀ a : T n, 0 * a = 0
  one_mul : ∀ a : T n, 1 * a = a
  mul_add : ∀ a b c : T n, a * (b + c) = a * b + a * c
  assoc : ∀ a b c : T n, a * b * c = a * (b * c)
theorem laws : (n : Nat) → Laws n
  | 0 => ⟨Bool.and_comm, Bool.false_and, Bool.true_and, by intro a b c; cases a <;> cases b <;> cases c <;> rfl, Bool.and_assoc⟩
  | n + 1 => by
    obtain ⟨comm, zmul, omul, madd, massoc⟩ := laws n
    have addm : ∀ a b c : T n, (a + b) * c = a * c + b * c := fun a b c => by rw [comm, madd, comm c a, comm c b]
    have mulz : ∀ a : T n, a * 0 = 0 := fun a => by rw [comm, zmul]
    have mulo : ∀ a : T n, a * 1 = a := fun a => by rw [comm, omul]
    have lcomm : ∀ a b c : T n, a * (b * c) = b * (a * c) := fun a b c => by rw [← massoc, comm a b, massoc]
    refine ⟨fun a b => ext ?_ ?_, fun a => ext ?_ ?_, fun a => ext ?_ ?_, fun a b c => ext ?_ ?_, fun a b c => ext ?_ ?_⟩
    · simp only [z1A]; rw [comm a.1 b.2, comm a.2 b.1, comm a.1 b.1, add_comm (b.2 * a.1)]
    · simp only [z1B]; rw [comm a.2 b.2, comm a.1 b.1]
    · simp only [z1A, z2J, z2K, zmul, mulz, add_zero]
    · simp only [z1B, z2J, z2K, zmul, mulz, add_zero]
    · simp only [z1A, z3v, z3w, zmul, mulz, omul, add_zero, zero_add]
    · simp only [z1B, z3v, z3w, zmul, mulz, omul, add_zero, zero_add]
    · simp only [z1A, z2N, z3o, madd, addm, add_assoc, z1s, add_comm]
    · simp only [z1B, z2N, z3o, madd, addm, add_assoc, z1s, add_comm]
    · simp only [z1A, z1B, madd, addm, massoc, lcomm, comm, add_assoc, z1s, add_comm]
    · simp only [z1A, z1B, madd, addm, massoc, lcomm, comm, add_assoc, z1s, add_comm]
section
variable {n : Nat} (a b c d : T n)
theorem mul_comm : a * b = b * a := (laws n).comm a b
theorem mul_assoc : a * b * c = a * (b * c) := (laws n).assoc a b c
theorem mul_left_comm : a * (b * c) = b * (a * c) := by rw [← mul_assoc, mul_comm a b, mul_assoc]
theorem zero_mul : 0 * a = 0 := (laws n).zero_mul a
theorem z1M : a * 0 = 0 := by rw [mul_comm, zero_mul]
theorem one_mul : 1 * a = a := (laws n).one_mul a
theorem mul_one : a * 1 = a := by rw [mul_comm, one_mul]
theorem mul_add : a * (b + c) = a * b + a * c := (laws n).mul_add a b c
theorem add_mul : (a + b) * c = a * c + b * c := by rw [mul_comm, mul_add, mul_comm c a, mul_comm c b]
theorem add_sq : (a + b) * (a + b) = a * a + b * b := by
  rw [mul_add, add_mul, add_mul, mul_comm b a, add_assoc, ← add_assoc (a * b), z1K, zero_add]
end
end Go.Proofs.Ytngcaphdkgihmaa.Tw

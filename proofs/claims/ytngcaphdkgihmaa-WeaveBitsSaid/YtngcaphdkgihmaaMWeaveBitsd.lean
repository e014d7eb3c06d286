/- Own text: merged by wip/tools/pack.py out of what the law WeaveBits reaches. -/
import Derived.Test.YtngcaphdkgihmaaMWeaveBitsb
import Derived.Test.YtngcaphdkgihmaaMWeaveBitsc
namespace Go.Proofs.Ytngcaphdkgihmaa.P
open Go.RowKit Go.Proofs.YtngcaphdkgihmaaW.PrintWords Go.Proofs.YtngcaphdkgihmaaW.PrintLast Go.Proofs.YtngcaphdkgihmaaW.PrintMore
attribute [local go_sem] zU zW z15 z16 zQ zR zV zX   -- for this text's walks alone
set_option linter.unusedVariables false
set_option linter.unusedSimpArgs false
def z1e.f (a0_0 : Int) (a0_1 : Int) (a1 : Int) : Option (Int × Int):=if a1 = 0 then (some (a0_0,a0_1)) else (if a1 ≥ 64 then (if 0 ≤ (wrap64 (a1 - 64)) then (some (0,shr .u64 a0_0 (wrap64 (a1 - 64)))) else (none)) else (if 0 ≤ a1 then (if 0 ≤ (wrap64 (64 - a1)) then (some (shr .u64 a0_0 a1,Go.bits .or .u64 (shr .u64 a0_1 a1) (shl .u64 a0_0 (wrap64 (64 - a1))))) else (none)) else (none)))
def z1e.T5 : Bool × List (List Nat × List Nat):=(true,[([],[]),([0],[0]),([],[]),([1,2],[1,2]),([],[]),([4],[4]),([],[]),([5,6],[5,6]),([],[]),([8],[8]),([],[]),([10],[10]),([9,11],[9,11]),([7,12],[7,12]),([3,13],[3,13]),([14,0,1,2,3,4,5,6,7,8,9,10,11,12,13,14],[14])])
def z1e.B5 : List Nat:=[0,1,0,7,0,16,0,112,0,256,0,1024,3840,8176,16383,32767]
theorem z1e.tab5 : rtab .any (opsOf Try.f77 5) = z1e.T5:=by kernel_rfl
theorem z1e.bits5 : waitsOk z1e.T5.2 z1e.B5 = true:=by kernel_rfl
set_option maxHeartbeats 8000000 in
set_option maxRecDepth 100000 in
theorem z1e.calls (a0_0 : Int) (a0_1 : Int) (a1 : Int) (r1 : Int) (r2 : Int) (w : World) (h : z1e.f a0_0 a0_1 a1 = some (r1,r2)) :
 Calls Try.prog 77 #[.agg #[.int .u64 a0_0,.int .u64 a0_1],.int .i64 a1] w fun e w'=>e = .returned (.agg #[.int .u64 r1,.int .u64 r2]) ∧ Below w.heap.size w w':=by
 have hu51:=Try.underlying51
 have HB:=z3.mk (Below.refl w.heap.size w)
 have H : (if a1 = 0 then (some (a0_0,a0_1)) else (if a1 ≥ 64 then (if 0 ≤ (wrap64 (a1 - 64)) then (some (0,shr .u64 a0_0 (wrap64 (a1 - 64)))) else (none)) else (if 0 ≤ a1 then (if 0 ≤ (wrap64 (64 - a1)) then (some (shr .u64 a0_0 a1,Go.bits .or .u64 (shr .u64 a0_1 a1) (shl .u64 a0_0 (wrap64 (64 - a1))))) else (none)) else (none)))) = some (r1,r2):=h
 clear h
 by_cases c3 : a1 = 0
 · rw [if_pos c3] at H
   have c3b0 : (a1 == 0) = true:=beq_iff_eq.mpr c3
   have c3b1 : (a1 != 0) = false:=bne_eq_false_iff_eq.mpr c3
   clear c3
   simp only [Option.some.injEq,Prod.mk.injEq] at H
   obtain ⟨rfl,rfl⟩:=H
   go_enter Try.func77,Try.ntmps77
   go_wp2_with (first|((with_reducible refine zA (N:=2) rfl ?_);refine zB ?hg (N:=2) ?hd (cs:=#[.int .u64 a0_0,.int .u64 a0_1]) (t:=51) ?hr ?_;(case hd=>rfl);(case hg=>rfl);(case hr=>first|(go_simp;done)|(go_simp;rfl));intro gb101 hg w4 hbox hb;have n0_:=z3.mk (za (by repeat (first|(with_reducible first|exact HB.out|apply z2|apply z0|apply z1)|exact HB.out)) hb);have n1_:=z3.mk (hbox);have n2_:=z3.mk ((by rw [hg];exact (zc (by repeat (first|(with_reducible first|exact HB.out|apply z2|apply z0|apply z1)|exact HB.out))) : w.heap.size ≤ gb101));have n3_:=z3.mk ((by rw [hg];exact (zc (by repeat (first|(with_reducible first|exact HB.out|apply z2|apply z0|apply z1)|exact HB.out))) : w.heap.size ≤ gb101));clear HB;have HB:=n0_;have BK101:=n1_;have GW101:=n2_;have GE101:=n3_;clear n0_ n1_ n2_ n3_;clear hb hbox hg)|((with_reducible refine zA (N:=4) rfl ?_);refine zB ?hg (N:=4) ?hd (cs:=#[.int .u64 0,.int .u64 0]) (t:=51) ?hr ?_;(case hd=>rfl);(case hg=>rfl);(case hr=>first|(go_simp;done)|(go_simp;rfl));intro gb102 hg w5 hbox hb;have n0_:=z3.mk (zk (g:=gb101) (o:=.cells #[.int .u64 a0_0,.int .u64 a0_1] 51 (0,0)) (by (with_reducible repeat (first|refine z5 ?_ _|refine z7 ?_|refine z4 ?_ _));exact BK101.out) hb);have n1_:=z3.mk (za (by repeat (first|(with_reducible first|exact HB.out|apply z2|apply z0|apply z1|refine z6 ?_ GE101.out)|exact HB.out)) hb);have n2_:=z3.mk (hbox);have n3_:=z3.mk ((by rw [hg];exact (zc (by repeat (first|(with_reducible first|exact HB.out|apply z2|apply z0|apply z1|refine z6 ?_ GE101.out)|exact HB.out))) : w.heap.size ≤ gb102));have n4_:=z3.mk ((by rw [hg];exact (zc (by repeat (first|(with_reducible first|exact HB.out|apply z2|apply z0|apply z1|refine z6 ?_ GE101.out)|exact HB.out))) : w.heap.size ≤ gb102));have n5_:=z3.mk ((by rw [hg];exact Nat.ne_of_lt (zS (g:=gb101) (o:=.cells #[.int .u64 a0_0,.int .u64 a0_1] 51 (0,0)) (by (with_reducible repeat (first|refine z5 ?_ _|refine z7 ?_|refine z4 ?_ _));exact BK101.out)) : gb101 ≠ gb102));have n6_:=z3.mk ((by rw [hg];exact Nat.ne_of_gt (zS (g:=gb101) (o:=.cells #[.int .u64 a0_0,.int .u64 a0_1] 51 (0,0)) (by (with_reducible repeat (first|refine z5 ?_ _|refine z7 ?_|refine z4 ?_ _));exact BK101.out)) : gb102 ≠ gb101));clear BK101;clear HB;have BK101:=n0_;have HB:=n1_;have BK102:=n2_;have GW102:=n3_;have GE102:=n4_;have NB101_102:=n5_;have NB102_101:=n6_;clear n0_ n1_ n2_ n3_ n4_ n5_ n6_;clear hb hbox hg;have hnb6:=NB101_102.out;have hnc6:=NB102_101.out;have hcz7_0 : w5.cell? ⟨gb101,0,none⟩ = some (.int .u64 a0_0):=(ze BK101.out 0).trans rfl;have hcz7_1 : w5.cell? ⟨gb101,1,none⟩ = some (.int .u64 a0_1):=(ze BK101.out 1).trans rfl;have hfz7_0:=zd BK101.out 0;have hfz7_1:=zd BK101.out 1;have hcz8_0 : w5.cell? ⟨gb102,0,none⟩ = some (.int .u64 0):=(ze BK102.out 0).trans rfl;have hcz8_1 : w5.cell? ⟨gb102,1,none⟩ = some (.int .u64 0):=(ze BK102.out 1).trans rfl;have hfz8_0:=zd BK102.out 0;have hfz8_1:=zd BK102.out 1))
   refine bodyPost_ret (results_cell_row rfl _ _ gb102 51 #[.int .u64 a0_0,.int .u64 a0_1] (0,0) _ rfl (by (with_reducible repeat (first|refine z5 ?_ _|refine z7 ?_|refine z4 ?_ _));refine zH (cs:=#[.int .u64 a0_0,.int .u64 0]) ?_ 1 _ rfl;(with_reducible repeat (first|refine z5 ?_ _|refine z7 ?_|refine z4 ?_ _));refine zH (cs:=#[.int .u64 0,.int .u64 0]) ?_ 0 _ rfl;(with_reducible repeat (first|refine z5 ?_ _|refine z7 ?_|refine z4 ?_ _));exact BK102.out) Try.underlying51 rfl (by kernel_rfl)) rfl ?_
   exact ⟨by first|rfl|(simp [zf,zg] <;> rfl)|(simp [*,zf,zg] <;> rfl),by repeat (first|(with_reducible first|exact HB.out|apply z2|apply z0|apply z1|refine z6 ?_ GE101.out|refine z6 ?_ GE102.out)|exact HB.out)⟩
 rw [if_neg c3] at H
 have c3b0 : (a1 == 0) = false:=beq_eq_false_iff_ne.mpr c3
 have c3b1 : (a1 != 0) = true:=bne_iff_ne.mpr c3
 by_cases c9 : a1 ≥ 64
 · rw [if_pos c9] at H
   have c9b0 : decide (64 ≤ a1) = true:=decide_eq_true c9
   clear c9
   obtain ⟨ji10,hji10⟩ : ∃ j_ : Int,(wrap64 (a1 - 64)) = j_:=⟨_,rfl⟩
   replace H : (if 0 ≤ (ji10) then (some (0,shr .u64 a0_0 (ji10))) else (none)) = some (r1,r2):=by first|(rw [hji10] at H;exact H)|(simp only [hji10] at H ⊢;exact H)
   have hji10w : (IntKind.i64.wrap (a1 - 64)) = ji10:=(zC _).trans hji10
   by_cases c11 : 0 ≤ (ji10)
   rotate_left
   · rw [if_neg c11] at H
     exact absurd H (by simp)
   rw [if_pos c11] at H
   have c11b0:=eq_true c11
   have c11b1 : decide (0 ≤ (ji10)) = true:=decide_eq_true c11
   clear c11
   obtain ⟨ji12,hji12⟩ : ∃ j_ : Int,(shr .u64 a0_0 (ji10)) = j_:=⟨_,rfl⟩
   replace H : (some (0,ji12)) = some (r1,r2):=by first|(rw [hji12] at H;exact H)|(simp only [hji12] at H ⊢;exact H)
   have hji12_ : (a0_0 / 2 ^ min (ji10).toNat 64) = ji12:=hji12
   have hji12z : (ji10) ≤ 64 → (a0_0 / 2 ^ (ji10).toNat) = ji12:=z1C hji12
   simp only [Option.some.injEq,Prod.mk.injEq] at H
   obtain ⟨rfl,rfl⟩:=H
   go_enter Try.func77,Try.ntmps77
   go_wp2_with (first|((with_reducible refine zA (N:=2) rfl ?_);refine zB ?hg (N:=2) ?hd (cs:=#[.int .u64 a0_0,.int .u64 a0_1]) (t:=51) ?hr ?_;(case hd=>rfl);(case hg=>rfl);(case hr=>first|(go_simp;done)|(go_simp;rfl));intro gb101 hg w13 hbox hb;have n0_:=z3.mk (za (by repeat (first|(with_reducible first|exact HB.out|apply z2|apply z0|apply z1)|exact HB.out)) hb);have n1_:=z3.mk (hbox);have n2_:=z3.mk ((by rw [hg];exact (zc (by repeat (first|(with_reducible first|exact HB.out|apply z2|apply z0|apply z1)|exact HB.out))) : w.heap.size ≤ gb101));have n3_:=z3.mk ((by rw [hg];exact (zc (by repeat (first|(with_reducible first|exact HB.out|apply z2|apply z0|apply z1)|exact HB.out))) : w.heap.size ≤ gb101));clear HB;have HB:=n0_;have BK101:=n1_;have GW101:=n2_;have GE101:=n3_;clear n0_ n1_ n2_ n3_;clear hb hbox hg)|((with_reducible refine zA (N:=4) rfl ?_);refine zB ?hg (N:=4) ?hd (cs:=#[.int .u64 0,.int .u64 0]) (t:=51) ?hr ?_;(case hd=>rfl);(case hg=>rfl);(case hr=>first|(go_simp;done)|(go_simp;rfl));intro gb102 hg w14 hbox hb;have n0_:=z3.mk (zk (g:=gb101) (o:=.cells #[.int .u64 a0_0,.int .u64 a0_1] 51 (0,0)) (by (with_reducible repeat (first|refine z5 ?_ _|refine z7 ?_|refine z4 ?_ _));exact BK101.out) hb);have n1_:=z3.mk (za (by repeat (first|(with_reducible first|exact HB.out|apply z2|apply z0|apply z1|refine z6 ?_ GE101.out)|exact HB.out)) hb);have n2_:=z3.mk (hbox);have n3_:=z3.mk ((by rw [hg];exact (zc (by repeat (first|(with_reducible first|exact HB.out|apply z2|apply z0|apply z1|refine z6 ?_ GE101.out)|exact HB.out))) : w.heap.size ≤ gb102));have n4_:=z3.mk ((by rw [hg];exact (zc (by repeat (first|(with_reducible first|exact HB.out|apply z2|apply z0|apply z1|refine z6 ?_ GE101.out)|exact HB.out))) : w.heap.size ≤ gb102));have n5_:=z3.mk ((by rw [hg];exact Nat.ne_of_lt (zS (g:=gb101) (o:=.cells #[.int .u64 a0_0,.int .u64 a0_1] 51 (0,0)) (by (with_reducible repeat (first|refine z5 ?_ _|refine z7 ?_|refine z4 ?_ _));exact BK101.out)) : gb101 ≠ gb102));have n6_:=z3.mk ((by rw [hg];exact Nat.ne_of_gt (zS (g:=gb101) (o:=.cells #[.int .u64 a0_0,.int .u64 a0_1] 51 (0,0)) (by (with_reducible repeat (first|refine z5 ?_ _|refine z7 ?_|refine z4 ?_ _));exact BK101.out)) : gb102 ≠ gb101));clear BK101;clear HB;have BK101:=n0_;have HB:=n1_;have BK102:=n2_;have GW102:=n3_;have GE102:=n4_;have NB101_102:=n5_;have NB102_101:=n6_;clear n0_ n1_ n2_ n3_ n4_ n5_ n6_;clear hb hbox hg;have hnb15:=NB101_102.out;have hnc15:=NB102_101.out;have hcz16_0 : w14.cell? ⟨gb101,0,none⟩ = some (.int .u64 a0_0):=(ze BK101.out 0).trans rfl;have hcz16_1 : w14.cell? ⟨gb101,1,none⟩ = some (.int .u64 a0_1):=(ze BK101.out 1).trans rfl;have hfz16_0:=zd BK101.out 0;have hfz16_1:=zd BK101.out 1;have hcz17_0 : w14.cell? ⟨gb102,0,none⟩ = some (.int .u64 0):=(ze BK102.out 0).trans rfl;have hcz17_1 : w14.cell? ⟨gb102,1,none⟩ = some (.int .u64 0):=(ze BK102.out 1).trans rfl;have hfz17_0:=zd BK102.out 0;have hfz17_1:=zd BK102.out 1))
   refine bodyPost_ret (results_cell_row rfl _ _ gb102 51 #[.int .u64 0,.int .u64 ji12] (0,0) _ rfl (by (with_reducible repeat (first|refine z5 ?_ _|refine z7 ?_|refine z4 ?_ _));refine zH (cs:=#[.int .u64 0,.int .u64 0]) ?_ 1 _ rfl;(with_reducible repeat (first|refine z5 ?_ _|refine z7 ?_|refine z4 ?_ _));refine zH (cs:=#[.int .u64 0,.int .u64 0]) ?_ 0 _ rfl;(with_reducible repeat (first|refine z5 ?_ _|refine z7 ?_|refine z4 ?_ _));exact BK102.out) Try.underlying51 rfl (by kernel_rfl)) rfl ?_
   exact ⟨by first|rfl|(simp [zf,zg] <;> rfl)|(simp only [← hji10,← hji12];first|rfl|(simp [zf,zg] <;> rfl))|(simp [*,zf,zg] <;> rfl),by repeat (first|(with_reducible first|exact HB.out|apply z2|apply z0|apply z1|refine z6 ?_ GE101.out|refine z6 ?_ GE102.out)|exact HB.out)⟩
 rw [if_neg c9] at H
 have c9b0 : decide (64 ≤ a1) = false:=decide_eq_false c9
 clear c9
 by_cases c18 : 0 ≤ a1
 rotate_left
 · rw [if_neg c18] at H
   exact absurd H (by simp)
 rw [if_pos c18] at H
 have c18b0:=eq_true c18
 have c18b1 : decide (0 ≤ a1) = true:=decide_eq_true c18
 clear c18
 obtain ⟨ji19,hji19⟩ : ∃ j_ : Int,(shr .u64 a0_0 a1) = j_:=⟨_,rfl⟩
 replace H : (if 0 ≤ (wrap64 (64 - a1)) then (some (ji19,Go.bits .or .u64 (shr .u64 a0_1 a1) (shl .u64 a0_0 (wrap64 (64 - a1))))) else (none)) = some (r1,r2):=by first|(rw [hji19] at H;exact H)|(simp only [hji19] at H ⊢;exact H)
 have hji19_ : (a0_0 / 2 ^ min a1.toNat 64) = ji19:=hji19
 have hji19z : a1 ≤ 64 → (a0_0 / 2 ^ a1.toNat) = ji19:=z1C hji19
 have c20b0:=eq_true (of_decide_eq_true (by first|(with_reducible assumption)|assumption) : 0 ≤ a1)
 obtain ⟨ji21,hji21⟩ : ∃ j_ : Int,(shr .u64 a0_1 a1) = j_:=⟨_,rfl⟩
 replace H : (if 0 ≤ (wrap64 (64 - a1)) then (some (ji19,Go.bits .or .u64 (ji21) (shl .u64 a0_0 (wrap64 (64 - a1))))) else (none)) = some (r1,r2):=by first|(rw [hji21] at H;exact H)|(simp only [hji21] at H ⊢;exact H)
 have hji21_ : (a0_1 / 2 ^ min a1.toNat 64) = ji21:=hji21
 have hji21z : a1 ≤ 64 → (a0_1 / 2 ^ a1.toNat) = ji21:=z1C hji21
 obtain ⟨ji22,hji22⟩ : ∃ j_ : Int,(wrap64 (64 - a1)) = j_:=⟨_,rfl⟩
 replace H : (if 0 ≤ (ji22) then (some (ji19,Go.bits .or .u64 (ji21) (shl .u64 a0_0 (ji22)))) else (none)) = some (r1,r2):=by first|(rw [hji22] at H;exact H)|(simp only [hji22] at H ⊢;exact H)
 have hji22w : (IntKind.i64.wrap (64 - a1)) = ji22:=(zC _).trans hji22
 by_cases c23 : 0 ≤ (ji22)
 rotate_left
 · rw [if_neg c23] at H
   exact absurd H (by simp)
 rw [if_pos c23] at H
 have c23b0:=eq_true c23
 have c23b1 : decide (0 ≤ (ji22)) = true:=decide_eq_true c23
 clear c23
 obtain ⟨ji24,hji24⟩ : ∃ j_ : Int,(shl .u64 a0_0 (ji22)) = j_:=⟨_,rfl⟩
 replace H : (some (ji19,Go.bits .or .u64 (ji21) (ji24))) = some (r1,r2):=by first|(rw [hji24] at H;exact H)|(simp only [hji24] at H ⊢;exact H)
 have hji24_ : (IntKind.u64.wrap (a0_0 * 2 ^ min (ji22).toNat 64)) = ji24:=hji24
 have hji24z : (ji22) ≤ 64 → (IntKind.u64.wrap (a0_0 * 2 ^ (ji22).toNat)) = ji24:=z19 hji24
 have hji24n0 : 0 ≤ ji24:=by rw [← hji24];exact Int.emod_nonneg _ (by decide)
 have hji24n1 : decide (0 ≤ ji24) = true:=decide_eq_true hji24n0
 replace hji24n0:=eq_true hji24n0
 simp only [Option.some.injEq,Prod.mk.injEq] at H
 obtain ⟨rfl,rfl⟩:=H
 go_enter Try.func77,Try.ntmps77
 try go_wp2_with (first|((with_reducible refine zA (N:=2) rfl ?_);refine zB ?hg (N:=2) ?hd (cs:=#[.int .u64 a0_0,.int .u64 a0_1]) (t:=51) ?hr ?_;(case hd=>rfl);(case hg=>rfl);(case hr=>first|(go_simp;done)|(go_simp;rfl));intro gb101 hg w25 hbox hb;have n0_:=z3.mk (za (by repeat (first|(with_reducible first|exact HB.out|apply z2|apply z0|apply z1)|exact HB.out)) hb);have n1_:=z3.mk (hbox);have n2_:=z3.mk ((by rw [hg];exact (zc (by repeat (first|(with_reducible first|exact HB.out|apply z2|apply z0|apply z1)|exact HB.out))) : w.heap.size ≤ gb101));have n3_:=z3.mk ((by rw [hg];exact (zc (by repeat (first|(with_reducible first|exact HB.out|apply z2|apply z0|apply z1)|exact HB.out))) : w.heap.size ≤ gb101));clear HB;have HB:=n0_;have BK101:=n1_;have GW101:=n2_;have GE101:=n3_;clear n0_ n1_ n2_ n3_;clear hb hbox hg)|((with_reducible refine zA (N:=4) rfl ?_);refine zB ?hg (N:=4) ?hd (cs:=#[.int .u64 0,.int .u64 0]) (t:=51) ?hr ?_;(case hd=>rfl);(case hg=>rfl);(case hr=>first|(go_simp;done)|(go_simp;rfl));intro gb102 hg w26 hbox hb;have n0_:=z3.mk (zk (g:=gb101) (o:=.cells #[.int .u64 a0_0,.int .u64 a0_1] 51 (0,0)) (by (with_reducible repeat (first|refine z5 ?_ _|refine z7 ?_|refine z4 ?_ _));exact BK101.out) hb);have n1_:=z3.mk (za (by repeat (first|(with_reducible first|exact HB.out|apply z2|apply z0|apply z1|refine z6 ?_ GE101.out)|exact HB.out)) hb);have n2_:=z3.mk (hbox);have n3_:=z3.mk ((by rw [hg];exact (zc (by repeat (first|(with_reducible first|exact HB.out|apply z2|apply z0|apply z1|refine z6 ?_ GE101.out)|exact HB.out))) : w.heap.size ≤ gb102));have n4_:=z3.mk ((by rw [hg];exact (zc (by repeat (first|(with_reducible first|exact HB.out|apply z2|apply z0|apply z1|refine z6 ?_ GE101.out)|exact HB.out))) : w.heap.size ≤ gb102));have n5_:=z3.mk ((by rw [hg];exact Nat.ne_of_lt (zS (g:=gb101) (o:=.cells #[.int .u64 a0_0,.int .u64 a0_1] 51 (0,0)) (by (with_reducible repeat (first|refine z5 ?_ _|refine z7 ?_|refine z4 ?_ _));exact BK101.out)) : gb101 ≠ gb102));have n6_:=z3.mk ((by rw [hg];exact Nat.ne_of_gt (zS (g:=gb101) (o:=.cells #[.int .u64 a0_0,.int .u64 a0_1] 51 (0,0)) (by (with_reducible repeat (first|refine z5 ?_ _|refine z7 ?_|refine z4 ?_ _));exact BK101.out)) : gb102 ≠ gb101));clear BK101;clear HB;have BK101:=n0_;have HB:=n1_;have BK102:=n2_;have GW102:=n3_;have GE102:=n4_;have NB101_102:=n5_;have NB102_101:=n6_;clear n0_ n1_ n2_ n3_ n4_ n5_ n6_;clear hb hbox hg))
 have n0_:=z3.mk (z7 BK101.out)
 have n1_:=z3.mk (z7 BK102.out)
 have n2_:=z3.mk (z1 HB.out)
 clear BK101
 clear BK102
 clear HB
 have BK101:=n0_
 have BK102:=n1_
 have HB:=n2_
 clear n0_ n1_ n2_
 refine start_ (n:=16) (S:=fun w'=>w'.cell? ⟨gb101,0,none⟩ = some (.int .u64 a0_0) ∧ w'.cell? ⟨gb101,1,none⟩ = some (.int .u64 a0_1)) (ds:=[]) #[false,false,false,false,false,false,false,false,false,false,false,false,false,false,false,false] (by kernel_rfl) rfl rfl ⟨(ze BK101.out 0).trans rfl,(ze BK101.out 1).trans rfl⟩ (fun hHeld=>?_);refine z1D z1e.tab5 z1e.bits5 (fun HT_ HW_=>?_)
 generalize w26.drew = w27 at BK101 BK102 HB hHeld ⊢
 refine pure_ (i:=0) (N:=some 18) (v:=?_) (a':=?_) #[true,false,false,false,false,false,false,false,false,false,false,false,false,false,false,false] rfl rfl (zO HT_.out (by kernel_rfl)) (fun _ _ _ h=>h) (Or.inl ⟨by rfl,?_⟩) ?_ ?_
 rotate_left
 · intro w'
   go_simp
   with_reducible rfl
 rotate_left
 · simp only [Act.put,List.setIfInBounds_toArray,List.set_cons_zero,List.set_cons_succ,zC,zK]
   rfl
 refine pure_ (i:=2) (N:=some 20) (v:=?_) (a':=?_) #[true,false,true,false,false,false,false,false,false,false,false,false,false,false,false,false] rfl rfl (zO HT_.out (by kernel_rfl)) (fun _ _ _ h=>h) (Or.inl ⟨by rfl,?_⟩) ?_ ?_
 rotate_left
 · intro w'
   go_simp
   with_reducible rfl
 rotate_left
 · simp only [Act.put,List.setIfInBounds_toArray,List.set_cons_zero,List.set_cons_succ,zC,zK]
   rfl
 refine pure_ (i:=4) (N:=some 22) (v:=?_) (a':=?_) #[true,false,true,false,true,false,false,false,false,false,false,false,false,false,false,false] rfl rfl (zO HT_.out (by kernel_rfl)) (fun _ _ _ h=>h) (Or.inl ⟨by rfl,?_⟩) ?_ ?_
 rotate_left
 · intro w'
   go_simp
   with_reducible rfl
 rotate_left
 · simp only [Act.put,List.setIfInBounds_toArray,List.set_cons_zero,List.set_cons_succ,zC,zK]
   rfl
 refine pure_ (i:=6) (N:=some 24) (v:=?_) (a':=?_) #[true,false,true,false,true,false,true,false,false,false,false,false,false,false,false,false] rfl rfl (zO HT_.out (by kernel_rfl)) (fun _ _ _ h=>h) (Or.inl ⟨by rfl,?_⟩) ?_ ?_
 rotate_left
 · intro w'
   go_simp
   with_reducible rfl
 rotate_left
 · simp only [Act.put,List.setIfInBounds_toArray,List.set_cons_zero,List.set_cons_succ,zC,zK]
   rfl
 refine pure_ (i:=8) (N:=some 26) (v:=?_) (a':=?_) #[true,false,true,false,true,false,true,false,true,false,false,false,false,false,false,false] rfl rfl (zO HT_.out (by kernel_rfl)) (fun _ _ _ h=>h) (Or.inl ⟨by rfl,?_⟩) ?_ ?_
 rotate_left
 · intro w'
   go_simp
   with_reducible rfl
 rotate_left
 · simp only [Act.put,List.setIfInBounds_toArray,List.set_cons_zero,List.set_cons_succ,zC,zK]
   rfl
 refine pure_ (i:=10) (N:=some 28) (v:=?_) (a':=?_) #[true,false,true,false,true,false,true,false,true,false,true,false,false,false,false,false] rfl rfl (zO HT_.out (by kernel_rfl)) (fun _ _ _ h=>h) (Or.inl ⟨by rfl,?_⟩) ?_ ?_
 rotate_left
 · intro w'
   go_simp
   with_reducible rfl
 rotate_left
 · simp only [Act.put,List.setIfInBounds_toArray,List.set_cons_zero,List.set_cons_succ,zC,zK]
   rfl
 refine pure_ (i:=11) (N:=some 29) (v:=?_) (a':=?_) #[true,false,true,false,true,false,true,false,true,false,true,true,false,false,false,false] rfl rfl (zO HT_.out (by kernel_rfl)) (fun _ _ _ h=>h) (Or.inl ⟨by rfl,?_⟩) ?_ ?_
 rotate_left
 · intro w'
   go_simp
   with_reducible rfl
 rotate_left
 · simp only [Act.put,List.setIfInBounds_toArray,List.set_cons_zero,List.set_cons_succ,zC,zK]
   rfl
 refine take_ (i:=1) (N:=some 19) (v:=?_) (a':=?_) #[true,true,true,false,true,false,true,false,true,false,true,true,false,false,false,false] rfl rfl (z1n HT_.out HW_.out (by kernel_rfl)) (fun _ _ _ h=>h) (Or.inl ⟨by rfl,?_⟩) hHeld ?_ ?_
 rotate_left
 · rintro w' ⟨s0,s1⟩
   go_simp
   with_reducible rfl
 rotate_left
 · simp only [Act.put,List.setIfInBounds_toArray,List.set_cons_zero,List.set_cons_succ,zC,zK]
   rfl
 refine pure_ (i:=3) (N:=some 21) (v:=?_) (a':=?_) #[true,true,true,true,true,false,true,false,true,false,true,true,false,false,false,false] rfl rfl (zO HT_.out (by kernel_rfl)) (fun _ _ _ h=>h) (Or.inl ⟨by rfl,?_⟩) ?_ ?_
 rotate_left
 · intro w'
   go_simp
   with_reducible rfl
 rotate_left
 · simp only [Act.put,List.setIfInBounds_toArray,List.set_cons_zero,List.set_cons_succ,zC,zK]
   rfl
 refine take_ (i:=5) (N:=some 23) (v:=?_) (a':=?_) #[true,true,true,true,true,true,true,false,true,false,true,true,false,false,false,false] rfl rfl (z1n HT_.out HW_.out (by kernel_rfl)) (fun _ _ _ h=>h) (Or.inl ⟨by rfl,?_⟩) hHeld ?_ ?_
 rotate_left
 · rintro w' ⟨s0,s1⟩
   go_simp
   with_reducible rfl
 rotate_left
 · simp only [Act.put,List.setIfInBounds_toArray,List.set_cons_zero,List.set_cons_succ,zC,zK]
   rfl
 refine pure_ (i:=7) (N:=some 25) (v:=?_) (a':=?_) #[true,true,true,true,true,true,true,true,true,false,true,true,false,false,false,false] rfl rfl (zO HT_.out (by kernel_rfl)) (fun _ _ _ h=>h) (Or.inl ⟨by rfl,?_⟩) ?_ ?_
 rotate_left
 · intro w'
   go_simp
   with_reducible rfl
 rotate_left
 · simp only [Act.put,List.setIfInBounds_toArray,List.set_cons_zero,List.set_cons_succ,zC,zK]
   rfl
 refine take_ (i:=9) (N:=some 27) (v:=?_) (a':=?_) #[true,true,true,true,true,true,true,true,true,true,true,true,false,false,false,false] rfl rfl (z1n HT_.out HW_.out (by kernel_rfl)) (fun _ _ _ h=>h) (Or.inl ⟨by rfl,?_⟩) hHeld ?_ ?_
 rotate_left
 · rintro w' ⟨s0,s1⟩
   go_simp
   with_reducible rfl
 rotate_left
 · simp only [Act.put,List.setIfInBounds_toArray,List.set_cons_zero,List.set_cons_succ,zC,zK]
   rfl
 refine pure_ (i:=12) (N:=some 30) (v:=?_) (a':=?_) #[true,true,true,true,true,true,true,true,true,true,true,true,true,false,false,false] rfl rfl (zO HT_.out (by kernel_rfl)) (fun _ _ _ h=>h) (Or.inl ⟨by rfl,?_⟩) ?_ ?_
 rotate_left
 · intro w'
   go_simp
   with_reducible rfl
 rotate_left
 · simp only [Act.put,List.setIfInBounds_toArray,List.set_cons_zero,List.set_cons_succ,zC,zK]
   rfl
 refine pure_ (i:=13) (N:=some 31) (v:=?_) (a':=?_) #[true,true,true,true,true,true,true,true,true,true,true,true,true,true,false,false] rfl rfl (zO HT_.out (by kernel_rfl)) (fun _ _ _ h=>h) (Or.inl ⟨by rfl,?_⟩) ?_ ?_
 rotate_left
 · intro w'
   go_simp
   with_reducible rfl
 rotate_left
 · simp only [Act.put,List.setIfInBounds_toArray,List.set_cons_zero,List.set_cons_succ,zC,zK]
   rfl
 refine pure_ (i:=14) (N:=some 32) (v:=?_) (a':=?_) #[true,true,true,true,true,true,true,true,true,true,true,true,true,true,true,false] rfl rfl (zO HT_.out (by kernel_rfl)) (fun _ _ _ h=>h) (Or.inl ⟨by rfl,?_⟩) ?_ ?_
 rotate_left
 · intro w'
   go_simp
   with_reducible rfl
 rotate_left
 · simp only [Act.put,List.setIfInBounds_toArray,List.set_cons_zero,List.set_cons_succ,zC,zK]
   rfl
 refine one_ (i:=15) (N:=none) #[true,true,true,true,true,true,true,true,true,true,true,true,true,true,true,true] rfl rfl (z1y HT_.out (by kernel_rfl)) (by decide) (fun K hK=>?_)
 have hs28 : w27.cell? ⟨gb102,0,none⟩ = some (.int .u64 0):=(ze BK102.out 0).trans rfl
 have hfs28:=zd BK102.out 0
 have hns28_0:=NB101_102.out
 have hms28_0:=NB102_101.out
 have hs29 : w27.cell? ⟨gb102,1,none⟩ = some (.int .u64 0):=(ze BK102.out 1).trans rfl
 have hfs29:=zd BK102.out 1
 have hns29_0:=NB101_102.out
 have hms29_0:=NB102_101.out
 refine skip_ (w1:=?_) (by rfl) rfl ?_ ?_
 rotate_left
 · go_simp
   rfl
 refine hK.out _ _ ⟨((z1i (p:=⟨gb102,_,none⟩) NB101_102.out _).trans (((z1i (p:=⟨gb102,_,none⟩) NB101_102.out _).trans (hHeld.1)))),((z1i (p:=⟨gb102,_,none⟩) NB101_102.out _).trans (((z1i (p:=⟨gb102,_,none⟩) NB101_102.out _).trans (hHeld.2))))⟩ (fun hHeld=>?_)
 clear hK K
 refine done_ (z25 HT_.out (by kernel_rfl)) ?_
 try go_wp2
 refine bodyPost_ret (results_cell_row rfl _ _ gb102 51 #[.int .u64 ji19,.int .u64 (Go.bits .or .u64 (ji21) (ji24))] (0,0) _ rfl (by (with_reducible repeat (first|refine z5 ?_ _|refine z7 ?_|refine z4 ?_ _));refine zH (cs:=#[.int .u64 ji19,.int .u64 0]) ?_ 1 _ rfl;(with_reducible repeat (first|refine z5 ?_ _|refine z7 ?_|refine z4 ?_ _));refine zH (cs:=#[.int .u64 0,.int .u64 0]) ?_ 0 _ rfl;(with_reducible repeat (first|refine z5 ?_ _|refine z7 ?_|refine z4 ?_ _));exact BK102.out) Try.underlying51 rfl (by kernel_rfl)) rfl ?_
 exact ⟨by first|rfl|(simp [zf,zg] <;> rfl)|(simp only [← hji19,← hji21,← hji22,← hji24];first|rfl|(simp [zf,zg] <;> rfl))|(simp [*,zf,zg] <;> rfl),by repeat (first|(with_reducible first|exact HB.out|apply z2|apply z0|apply z1|refine z6 ?_ GE101.out|refine z6 ?_ GE102.out)|exact HB.out)⟩
end Go.Proofs.Ytngcaphdkgihmaa.P
namespace Go.Proofs.Ytngcaphdkgihmaa.P
open Go.RowKit Go.Proofs.YtngcaphdkgihmaaW.PrintWords Go.Proofs.YtngcaphdkgihmaaW.PrintLast Go.Proofs.YtngcaphdkgihmaaW.PrintMore
attribute [local go_sem] zU zW z15 z16 zQ zR zV zX   -- for this text's walks alone
set_option linter.unusedVariables false
set_option linter.unusedSimpArgs false
def z1h.f (a0 : Int) (a1_0 : Int) (a1_1 : Int) : Option (Int × Int):=if a0 = 7 then (some (a1_0,a1_1)) else (if a0 = 6 then (some (0,a1_1)) else (if 0 ≤ a0 then (some (0,Go.bits .and .u64 a1_1 (IntKind.u64.wrap ((shl .u64 1 (shl .u64 1 a0)) - 1)))) else (none)))
def z1h.T5 : Bool × List (List Nat × List Nat):=(true,[([],[]),([0],[0]),([],[]),([2],[2]),([3],[3]),([4],[4]),([1,5],[1,5]),([6],[6]),([7,0,1,2,3,4,5,6,7],[7])])
def z1h.B5 : List Nat:=[0,1,0,4,12,28,63,127,255]
theorem z1h.tab5 : rtab .any (opsOf Try.f76 5) = z1h.T5:=by kernel_rfl
theorem z1h.bits5 : waitsOk z1h.T5.2 z1h.B5 = true:=by kernel_rfl
set_option maxHeartbeats 8000000 in
set_option maxRecDepth 100000 in
theorem z1h.calls (a0 : Int) (a1_0 : Int) (a1_1 : Int) (r1 : Int) (r2 : Int) (w : World) (h : z1h.f a0 a1_0 a1_1 = some (r1,r2)) :
 Calls Try.prog 76 #[.int .i64 a0,.agg #[.int .u64 a1_0,.int .u64 a1_1]] w fun e w'=>e = .returned (.agg #[.int .u64 r1,.int .u64 r2]) ∧ Below w.heap.size w w':=by
 have hu51:=Try.underlying51
 have HB:=z3.mk (Below.refl w.heap.size w)
 have H : (if a0 = 7 then (some (a1_0,a1_1)) else (if a0 = 6 then (some (0,a1_1)) else (if 0 ≤ a0 then (some (0,Go.bits .and .u64 a1_1 (IntKind.u64.wrap ((shl .u64 1 (shl .u64 1 a0)) - 1)))) else (none)))) = some (r1,r2):=h
 clear h
 by_cases c3 : a0 = 7
 · rw [if_pos c3] at H
   have c3b0 : (a0 == 7) = true:=beq_iff_eq.mpr c3
   have c3b1 : (a0 != 7) = false:=bne_eq_false_iff_eq.mpr c3
   clear c3
   simp only [Option.some.injEq,Prod.mk.injEq] at H
   obtain ⟨rfl,rfl⟩:=H
   go_enter Try.func76,Try.ntmps76
   go_wp2_with (first|((with_reducible refine zA (N:=3) rfl ?_);refine zB ?hg (N:=3) ?hd (cs:=#[.int .u64 a1_0,.int .u64 a1_1]) (t:=51) ?hr ?_;(case hd=>rfl);(case hg=>rfl);(case hr=>first|(go_simp;done)|(go_simp;rfl));intro gb101 hg w4 hbox hb;have n0_:=z3.mk (za (by repeat (first|(with_reducible first|exact HB.out|apply z2|apply z0|apply z1)|exact HB.out)) hb);have n1_:=z3.mk (hbox);have n2_:=z3.mk ((by rw [hg];exact (zc (by repeat (first|(with_reducible first|exact HB.out|apply z2|apply z0|apply z1)|exact HB.out))) : w.heap.size ≤ gb101));have n3_:=z3.mk ((by rw [hg];exact (zc (by repeat (first|(with_reducible first|exact HB.out|apply z2|apply z0|apply z1)|exact HB.out))) : w.heap.size ≤ gb101));clear HB;have HB:=n0_;have BK101:=n1_;have GW101:=n2_;have GE101:=n3_;clear n0_ n1_ n2_ n3_;clear hb hbox hg)|((with_reducible refine zA (N:=4) rfl ?_);refine zB ?hg (N:=4) ?hd (cs:=#[.int .u64 0,.int .u64 0]) (t:=51) ?hr ?_;(case hd=>rfl);(case hg=>rfl);(case hr=>first|(go_simp;done)|(go_simp;rfl));intro gb102 hg w5 hbox hb;have n0_:=z3.mk (zk (g:=gb101) (o:=.cells #[.int .u64 a1_0,.int .u64 a1_1] 51 (0,0)) (by (with_reducible repeat (first|refine z5 ?_ _|refine z7 ?_|refine z4 ?_ _));exact BK101.out) hb);have n1_:=z3.mk (za (by repeat (first|(with_reducible first|exact HB.out|apply z2|apply z0|apply z1|refine z6 ?_ GE101.out)|exact HB.out)) hb);have n2_:=z3.mk (hbox);have n3_:=z3.mk ((by rw [hg];exact (zc (by repeat (first|(with_reducible first|exact HB.out|apply z2|apply z0|apply z1|refine z6 ?_ GE101.out)|exact HB.out))) : w.heap.size ≤ gb102));have n4_:=z3.mk ((by rw [hg];exact (zc (by repeat (first|(with_reducible first|exact HB.out|apply z2|apply z0|apply z1|refine z6 ?_ GE101.out)|exact HB.out))) : w.heap.size ≤ gb102));have n5_:=z3.mk ((by rw [hg];exact Nat.ne_of_lt (zS (g:=gb101) (o:=.cells #[.int .u64 a1_0,.int .u64 a1_1] 51 (0,0)) (by (with_reducible repeat (first|refine z5 ?_ _|refine z7 ?_|refine z4 ?_ _));exact BK101.out)) : gb101 ≠ gb102));have n6_:=z3.mk ((by rw [hg];exact Nat.ne_of_gt (zS (g:=gb101) (o:=.cells #[.int .u64 a1_0,.int .u64 a1_1] 51 (0,0)) (by (with_reducible repeat (first|refine z5 ?_ _|refine z7 ?_|refine z4 ?_ _));exact BK101.out)) : gb102 ≠ gb101));clear BK101;clear HB;have BK101:=n0_;have HB:=n1_;have BK102:=n2_;have GW102:=n3_;have GE102:=n4_;have NB101_102:=n5_;have NB102_101:=n6_;clear n0_ n1_ n2_ n3_ n4_ n5_ n6_;clear hb hbox hg;have hnb6:=NB101_102.out;have hnc6:=NB102_101.out;have hcz7_0 : w5.cell? ⟨gb101,0,none⟩ = some (.int .u64 a1_0):=(ze BK101.out 0).trans rfl;have hcz7_1 : w5.cell? ⟨gb101,1,none⟩ = some (.int .u64 a1_1):=(ze BK101.out 1).trans rfl;have hfz7_0:=zd BK101.out 0;have hfz7_1:=zd BK101.out 1;have hcz8_0 : w5.cell? ⟨gb102,0,none⟩ = some (.int .u64 0):=(ze BK102.out 0).trans rfl;have hcz8_1 : w5.cell? ⟨gb102,1,none⟩ = some (.int .u64 0):=(ze BK102.out 1).trans rfl;have hfz8_0:=zd BK102.out 0;have hfz8_1:=zd BK102.out 1))
   refine bodyPost_ret (results_cell_row rfl _ _ gb102 51 #[.int .u64 a1_0,.int .u64 a1_1] (0,0) _ rfl (by (with_reducible repeat (first|refine z5 ?_ _|refine z7 ?_|refine z4 ?_ _));refine zH (cs:=#[.int .u64 a1_0,.int .u64 0]) ?_ 1 _ rfl;(with_reducible repeat (first|refine z5 ?_ _|refine z7 ?_|refine z4 ?_ _));refine zH (cs:=#[.int .u64 0,.int .u64 0]) ?_ 0 _ rfl;(with_reducible repeat (first|refine z5 ?_ _|refine z7 ?_|refine z4 ?_ _));exact BK102.out) Try.underlying51 rfl (by kernel_rfl)) rfl ?_
   exact ⟨by first|rfl|(simp [zf,zg] <;> rfl)|(simp [*,zf,zg] <;> rfl),by repeat (first|(with_reducible first|exact HB.out|apply z2|apply z0|apply z1|refine z6 ?_ GE101.out|refine z6 ?_ GE102.out)|exact HB.out)⟩
 rw [if_neg c3] at H
 have c3b0 : (a0 == 7) = false:=beq_eq_false_iff_ne.mpr c3
 have c3b1 : (a0 != 7) = true:=bne_iff_ne.mpr c3
 by_cases c9 : a0 = 6
 · rw [if_pos c9] at H
   have c9b0 : (a0 == 6) = true:=beq_iff_eq.mpr c9
   have c9b1 : (a0 != 6) = false:=bne_eq_false_iff_eq.mpr c9
   clear c9
   simp only [Option.some.injEq,Prod.mk.injEq] at H
   obtain ⟨rfl,rfl⟩:=H
   go_enter Try.func76,Try.ntmps76
   go_wp2_with (first|((with_reducible refine zA (N:=3) rfl ?_);refine zB ?hg (N:=3) ?hd (cs:=#[.int .u64 a1_0,.int .u64 a1_1]) (t:=51) ?hr ?_;(case hd=>rfl);(case hg=>rfl);(case hr=>first|(go_simp;done)|(go_simp;rfl));intro gb101 hg w10 hbox hb;have n0_:=z3.mk (za (by repeat (first|(with_reducible first|exact HB.out|apply z2|apply z0|apply z1)|exact HB.out)) hb);have n1_:=z3.mk (hbox);have n2_:=z3.mk ((by rw [hg];exact (zc (by repeat (first|(with_reducible first|exact HB.out|apply z2|apply z0|apply z1)|exact HB.out))) : w.heap.size ≤ gb101));have n3_:=z3.mk ((by rw [hg];exact (zc (by repeat (first|(with_reducible first|exact HB.out|apply z2|apply z0|apply z1)|exact HB.out))) : w.heap.size ≤ gb101));clear HB;have HB:=n0_;have BK101:=n1_;have GW101:=n2_;have GE101:=n3_;clear n0_ n1_ n2_ n3_;clear hb hbox hg)|((with_reducible refine zA (N:=4) rfl ?_);refine zB ?hg (N:=4) ?hd (cs:=#[.int .u64 0,.int .u64 0]) (t:=51) ?hr ?_;(case hd=>rfl);(case hg=>rfl);(case hr=>first|(go_simp;done)|(go_simp;rfl));intro gb102 hg w11 hbox hb;have n0_:=z3.mk (zk (g:=gb101) (o:=.cells #[.int .u64 a1_0,.int .u64 a1_1] 51 (0,0)) (by (with_reducible repeat (first|refine z5 ?_ _|refine z7 ?_|refine z4 ?_ _));exact BK101.out) hb);have n1_:=z3.mk (za (by repeat (first|(with_reducible first|exact HB.out|apply z2|apply z0|apply z1|refine z6 ?_ GE101.out)|exact HB.out)) hb);have n2_:=z3.mk (hbox);have n3_:=z3.mk ((by rw [hg];exact (zc (by repeat (first|(with_reducible first|exact HB.out|apply z2|apply z0|apply z1|refine z6 ?_ GE101.out)|exact HB.out))) : w.heap.size ≤ gb102));have n4_:=z3.mk ((by rw [hg];exact (zc (by repeat (first|(with_reducible first|exact HB.out|apply z2|apply z0|apply z1|refine z6 ?_ GE101.out)|exact HB.out))) : w.heap.size ≤ gb102));have n5_:=z3.mk ((by rw [hg];exact Nat.ne_of_lt (zS (g:=gb101) (o:=.cells #[.int .u64 a1_0,.int .u64 a1_1] 51 (0,0)) (by (with_reducible repeat (first|refine z5 ?_ _|refine z7 ?_|refine z4 ?_ _));exact BK101.out)) : gb101 ≠ gb102));have n6_:=z3.mk ((by rw [hg];exact Nat.ne_of_gt (zS (g:=gb101) (o:=.cells #[.int .u64 a1_0,.int .u64 a1_1] 51 (0,0)) (by (with_reducible repeat (first|refine z5 ?_ _|refine z7 ?_|refine z4 ?_ _));exact BK101.out)) : gb102 ≠ gb101));clear BK101;clear HB;have BK101:=n0_;have HB:=n1_;have BK102:=n2_;have GW102:=n3_;have GE102:=n4_;have NB101_102:=n5_;have NB102_101:=n6_;clear n0_ n1_ n2_ n3_ n4_ n5_ n6_;clear hb hbox hg;have hnb12:=NB101_102.out;have hnc12:=NB102_101.out;have hcz13_0 : w11.cell? ⟨gb101,0,none⟩ = some (.int .u64 a1_0):=(ze BK101.out 0).trans rfl;have hcz13_1 : w11.cell? ⟨gb101,1,none⟩ = some (.int .u64 a1_1):=(ze BK101.out 1).trans rfl;have hfz13_0:=zd BK101.out 0;have hfz13_1:=zd BK101.out 1;have hcz14_0 : w11.cell? ⟨gb102,0,none⟩ = some (.int .u64 0):=(ze BK102.out 0).trans rfl;have hcz14_1 : w11.cell? ⟨gb102,1,none⟩ = some (.int .u64 0):=(ze BK102.out 1).trans rfl;have hfz14_0:=zd BK102.out 0;have hfz14_1:=zd BK102.out 1))
   refine bodyPost_ret (results_cell_row rfl _ _ gb102 51 #[.int .u64 0,.int .u64 a1_1] (0,0) _ rfl (by (with_reducible repeat (first|refine z5 ?_ _|refine z7 ?_|refine z4 ?_ _));refine zH (cs:=#[.int .u64 0,.int .u64 0]) ?_ 1 _ rfl;(with_reducible repeat (first|refine z5 ?_ _|refine z7 ?_|refine z4 ?_ _));refine zH (cs:=#[.int .u64 0,.int .u64 0]) ?_ 0 _ rfl;(with_reducible repeat (first|refine z5 ?_ _|refine z7 ?_|refine z4 ?_ _));exact BK102.out) Try.underlying51 rfl (by kernel_rfl)) rfl ?_
   exact ⟨by first|rfl|(simp [zf,zg] <;> rfl)|(simp [*,zf,zg] <;> rfl),by repeat (first|(with_reducible first|exact HB.out|apply z2|apply z0|apply z1|refine z6 ?_ GE101.out|refine z6 ?_ GE102.out)|exact HB.out)⟩
 rw [if_neg c9] at H
 have c9b0 : (a0 == 6) = false:=beq_eq_false_iff_ne.mpr c9
 have c9b1 : (a0 != 6) = true:=bne_iff_ne.mpr c9
 by_cases c15 : 0 ≤ a0
 rotate_left
 · rw [if_neg c15] at H
   exact absurd H (by simp)
 rw [if_pos c15] at H
 have c15b0:=eq_true c15
 have c15b1 : decide (0 ≤ a0) = true:=decide_eq_true c15
 clear c15
 obtain ⟨ji16,hji16⟩ : ∃ j_ : Int,(shl .u64 1 a0) = j_:=⟨_,rfl⟩
 replace H : (some (0,Go.bits .and .u64 a1_1 (IntKind.u64.wrap ((shl .u64 1 (ji16)) - 1)))) = some (r1,r2):=by first|(rw [hji16] at H;exact H)|(simp only [hji16] at H ⊢;exact H)
 have hji16_ : (IntKind.u64.wrap (1 * 2 ^ min a0.toNat 64)) = ji16:=hji16
 have hji16z : a0 ≤ 64 → (IntKind.u64.wrap (1 * 2 ^ a0.toNat)) = ji16:=z19 hji16
 have hji16n0 : 0 ≤ ji16:=by rw [← hji16];exact Int.emod_nonneg _ (by decide)
 have hji16n1 : decide (0 ≤ ji16) = true:=decide_eq_true hji16n0
 replace hji16n0:=eq_true hji16n0
 have hji16u : (IntKind.u64.wrap (2 ^ min a0.toNat 64)) = ji16:=by have h_:=hji16_;rw [Int.one_mul] at h_;exact h_
 have hji16v : a0 ≤ 64 → (IntKind.u64.wrap (2 ^ a0.toNat)) = ji16:=fun hle_=>by have h_:=hji16z hle_;rw [Int.one_mul] at h_;exact h_
 obtain ⟨ji17,hji17⟩ : ∃ j_ : Int,(shl .u64 1 (ji16)) = j_:=⟨_,rfl⟩
 replace H : (some (0,Go.bits .and .u64 a1_1 (IntKind.u64.wrap ((ji17) - 1)))) = some (r1,r2):=by first|(rw [hji17] at H;exact H)|(simp only [hji17] at H ⊢;exact H)
 have hji17_ : (IntKind.u64.wrap (1 * 2 ^ min (ji16).toNat 64)) = ji17:=hji17
 have hji17z : (ji16) ≤ 64 → (IntKind.u64.wrap (1 * 2 ^ (ji16).toNat)) = ji17:=z19 hji17
 have hji17n0 : 0 ≤ ji17:=by rw [← hji17];exact Int.emod_nonneg _ (by decide)
 have hji17n1 : decide (0 ≤ ji17) = true:=decide_eq_true hji17n0
 replace hji17n0:=eq_true hji17n0
 have hji17u : (IntKind.u64.wrap (2 ^ min (ji16).toNat 64)) = ji17:=by have h_:=hji17_;rw [Int.one_mul] at h_;exact h_
 have hji17v : (ji16) ≤ 64 → (IntKind.u64.wrap (2 ^ (ji16).toNat)) = ji17:=fun hle_=>by have h_:=hji17z hle_;rw [Int.one_mul] at h_;exact h_
 simp only [Option.some.injEq,Prod.mk.injEq] at H
 obtain ⟨rfl,rfl⟩:=H
 go_enter Try.func76,Try.ntmps76
 try go_wp2_with (first|((with_reducible refine zA (N:=3) rfl ?_);refine zB ?hg (N:=3) ?hd (cs:=#[.int .u64 a1_0,.int .u64 a1_1]) (t:=51) ?hr ?_;(case hd=>rfl);(case hg=>rfl);(case hr=>first|(go_simp;done)|(go_simp;rfl));intro gb101 hg w18 hbox hb;have n0_:=z3.mk (za (by repeat (first|(with_reducible first|exact HB.out|apply z2|apply z0|apply z1)|exact HB.out)) hb);have n1_:=z3.mk (hbox);have n2_:=z3.mk ((by rw [hg];exact (zc (by repeat (first|(with_reducible first|exact HB.out|apply z2|apply z0|apply z1)|exact HB.out))) : w.heap.size ≤ gb101));have n3_:=z3.mk ((by rw [hg];exact (zc (by repeat (first|(with_reducible first|exact HB.out|apply z2|apply z0|apply z1)|exact HB.out))) : w.heap.size ≤ gb101));clear HB;have HB:=n0_;have BK101:=n1_;have GW101:=n2_;have GE101:=n3_;clear n0_ n1_ n2_ n3_;clear hb hbox hg)|((with_reducible refine zA (N:=4) rfl ?_);refine zB ?hg (N:=4) ?hd (cs:=#[.int .u64 0,.int .u64 0]) (t:=51) ?hr ?_;(case hd=>rfl);(case hg=>rfl);(case hr=>first|(go_simp;done)|(go_simp;rfl));intro gb102 hg w19 hbox hb;have n0_:=z3.mk (zk (g:=gb101) (o:=.cells #[.int .u64 a1_0,.int .u64 a1_1] 51 (0,0)) (by (with_reducible repeat (first|refine z5 ?_ _|refine z7 ?_|refine z4 ?_ _));exact BK101.out) hb);have n1_:=z3.mk (za (by repeat (first|(with_reducible first|exact HB.out|apply z2|apply z0|apply z1|refine z6 ?_ GE101.out)|exact HB.out)) hb);have n2_:=z3.mk (hbox);have n3_:=z3.mk ((by rw [hg];exact (zc (by repeat (first|(with_reducible first|exact HB.out|apply z2|apply z0|apply z1|refine z6 ?_ GE101.out)|exact HB.out))) : w.heap.size ≤ gb102));have n4_:=z3.mk ((by rw [hg];exact (zc (by repeat (first|(with_reducible first|exact HB.out|apply z2|apply z0|apply z1|refine z6 ?_ GE101.out)|exact HB.out))) : w.heap.size ≤ gb102));have n5_:=z3.mk ((by rw [hg];exact Nat.ne_of_lt (zS (g:=gb101) (o:=.cells #[.int .u64 a1_0,.int .u64 a1_1] 51 (0,0)) (by (with_reducible repeat (first|refine z5 ?_ _|refine z7 ?_|refine z4 ?_ _));exact BK101.out)) : gb101 ≠ gb102));have n6_:=z3.mk ((by rw [hg];exact Nat.ne_of_gt (zS (g:=gb101) (o:=.cells #[.int .u64 a1_0,.int .u64 a1_1] 51 (0,0)) (by (with_reducible repeat (first|refine z5 ?_ _|refine z7 ?_|refine z4 ?_ _));exact BK101.out)) : gb102 ≠ gb101));clear BK101;clear HB;have BK101:=n0_;have HB:=n1_;have BK102:=n2_;have GW102:=n3_;have GE102:=n4_;have NB101_102:=n5_;have NB102_101:=n6_;clear n0_ n1_ n2_ n3_ n4_ n5_ n6_;clear hb hbox hg))
 have n0_:=z3.mk (z7 BK101.out)
 have n1_:=z3.mk (z7 BK102.out)
 have n2_:=z3.mk (z1 HB.out)
 clear BK101
 clear BK102
 clear HB
 have BK101:=n0_
 have BK102:=n1_
 have HB:=n2_
 clear n0_ n1_ n2_
 refine start_ (n:=9) (S:=fun w'=>w'.cell? ⟨gb101,0,none⟩ = some (.int .u64 a1_0) ∧ w'.cell? ⟨gb101,1,none⟩ = some (.int .u64 a1_1)) (ds:=[]) #[false,false,false,false,false,false,false,false,false] (by kernel_rfl) rfl rfl ⟨(ze BK101.out 0).trans rfl,(ze BK101.out 1).trans rfl⟩ (fun hHeld=>?_);refine z1D z1h.tab5 z1h.bits5 (fun HT_ HW_=>?_)
 generalize w19.drew = w20 at BK101 BK102 HB hHeld ⊢
 refine pure_ (i:=0) (N:=some 15) (v:=?_) (a':=?_) #[true,false,false,false,false,false,false,false,false] rfl rfl (zO HT_.out (by kernel_rfl)) (fun _ _ _ h=>h) (Or.inl ⟨by rfl,?_⟩) ?_ ?_
 rotate_left
 · intro w'
   go_simp
   with_reducible rfl
 rotate_left
 · simp only [Act.put,List.setIfInBounds_toArray,List.set_cons_zero,List.set_cons_succ,zC,zK]
   rfl
 refine pure_ (i:=2) (N:=some 17) (v:=?_) (a':=?_) #[true,false,true,false,false,false,false,false,false] rfl rfl (zO HT_.out (by kernel_rfl)) (fun _ _ _ h=>h) (Or.inl ⟨by rfl,?_⟩) ?_ ?_
 rotate_left
 · intro w'
   go_simp
   with_reducible rfl
 rotate_left
 · simp only [Act.put,List.setIfInBounds_toArray,List.set_cons_zero,List.set_cons_succ,zC,zK]
   rfl
 refine pure_ (i:=3) (N:=some 18) (v:=?_) (a':=?_) #[true,false,true,true,false,false,false,false,false] rfl rfl (zO HT_.out (by kernel_rfl)) (fun _ _ _ h=>h) (Or.inl ⟨by rfl,?_⟩) ?_ ?_
 rotate_left
 · intro w'
   go_simp
   with_reducible rfl
 rotate_left
 · simp only [Act.put,List.setIfInBounds_toArray,List.set_cons_zero,List.set_cons_succ,zC,zK]
   rfl
 refine pure_ (i:=4) (N:=some 19) (v:=?_) (a':=?_) #[true,false,true,true,true,false,false,false,false] rfl rfl (zO HT_.out (by kernel_rfl)) (fun _ _ _ h=>h) (Or.inl ⟨by rfl,?_⟩) ?_ ?_
 rotate_left
 · intro w'
   go_simp
   with_reducible rfl
 rotate_left
 · simp only [Act.put,List.setIfInBounds_toArray,List.set_cons_zero,List.set_cons_succ,zC,zK]
   rfl
 refine pure_ (i:=5) (N:=some 20) (v:=?_) (a':=?_) #[true,false,true,true,true,true,false,false,false] rfl rfl (zO HT_.out (by kernel_rfl)) (fun _ _ _ h=>h) (Or.inl ⟨by rfl,?_⟩) ?_ ?_
 rotate_left
 · intro w'
   go_simp
   with_reducible rfl
 rotate_left
 · simp only [Act.put,List.setIfInBounds_toArray,List.set_cons_zero,List.set_cons_succ,zC,zK]
   rfl
 refine take_ (i:=1) (N:=some 16) (v:=?_) (a':=?_) #[true,true,true,true,true,true,false,false,false] rfl rfl (z1n HT_.out HW_.out (by kernel_rfl)) (fun _ _ _ h=>h) (Or.inl ⟨by rfl,?_⟩) hHeld ?_ ?_
 rotate_left
 · rintro w' ⟨s0,s1⟩
   go_simp
   with_reducible rfl
 rotate_left
 · simp only [Act.put,List.setIfInBounds_toArray,List.set_cons_zero,List.set_cons_succ,zC,zK]
   rfl
 refine pure_ (i:=6) (N:=some 21) (v:=?_) (a':=?_) #[true,true,true,true,true,true,true,false,false] rfl rfl (zO HT_.out (by kernel_rfl)) (fun _ _ _ h=>h) (Or.inl ⟨by rfl,?_⟩) ?_ ?_
 rotate_left
 · intro w'
   go_simp
   with_reducible rfl
 rotate_left
 · simp only [Act.put,List.setIfInBounds_toArray,List.set_cons_zero,List.set_cons_succ,zC,zK]
   rfl
 refine pure_ (i:=7) (N:=some 22) (v:=?_) (a':=?_) #[true,true,true,true,true,true,true,true,false] rfl rfl (zO HT_.out (by kernel_rfl)) (fun _ _ _ h=>h) (Or.inl ⟨by rfl,?_⟩) ?_ ?_
 rotate_left
 · intro w'
   go_simp
   with_reducible rfl
 rotate_left
 · simp only [Act.put,List.setIfInBounds_toArray,List.set_cons_zero,List.set_cons_succ,zC,zK]
   rfl
 refine one_ (i:=8) (N:=none) #[true,true,true,true,true,true,true,true,true] rfl rfl (z1y HT_.out (by kernel_rfl)) (by decide) (fun K hK=>?_)
 have hs21 : w20.cell? ⟨gb102,0,none⟩ = some (.int .u64 0):=(ze BK102.out 0).trans rfl
 have hfs21:=zd BK102.out 0
 have hns21_0:=NB101_102.out
 have hms21_0:=NB102_101.out
 have hs22 : w20.cell? ⟨gb102,1,none⟩ = some (.int .u64 0):=(ze BK102.out 1).trans rfl
 have hfs22:=zd BK102.out 1
 have hns22_0:=NB101_102.out
 have hms22_0:=NB102_101.out
 refine skip_ (w1:=?_) (by rfl) rfl ?_ ?_
 rotate_left
 · go_simp
   rfl
 refine hK.out _ _ ⟨((z1i (p:=⟨gb102,_,none⟩) NB101_102.out _).trans (((z1i (p:=⟨gb102,_,none⟩) NB101_102.out _).trans (hHeld.1)))),((z1i (p:=⟨gb102,_,none⟩) NB101_102.out _).trans (((z1i (p:=⟨gb102,_,none⟩) NB101_102.out _).trans (hHeld.2))))⟩ (fun hHeld=>?_)
 clear hK K
 refine done_ (z25 HT_.out (by kernel_rfl)) ?_
 try go_wp2
 refine bodyPost_ret (results_cell_row rfl _ _ gb102 51 #[.int .u64 0,.int .u64 (Go.bits .and .u64 a1_1 (IntKind.u64.wrap ((ji17) - 1)))] (0,0) _ rfl (by (with_reducible repeat (first|refine z5 ?_ _|refine z7 ?_|refine z4 ?_ _));refine zH (cs:=#[.int .u64 0,.int .u64 0]) ?_ 1 _ rfl;(with_reducible repeat (first|refine z5 ?_ _|refine z7 ?_|refine z4 ?_ _));refine zH (cs:=#[.int .u64 0,.int .u64 0]) ?_ 0 _ rfl;(with_reducible repeat (first|refine z5 ?_ _|refine z7 ?_|refine z4 ?_ _));exact BK102.out) Try.underlying51 rfl (by kernel_rfl)) rfl ?_
 exact ⟨by first|rfl|(simp [zf,zg] <;> rfl)|(simp only [← hji16,← hji17];first|rfl|(simp [zf,zg] <;> rfl))|(simp [*,zf,zg] <;> rfl),by repeat (first|(with_reducible first|exact HB.out|apply z2|apply z0|apply z1|refine z6 ?_ GE101.out|refine z6 ?_ GE102.out)|exact HB.out)⟩
end Go.Proofs.Ytngcaphdkgihmaa.P
/- Small numbers laid side by side in a great one. Own text, plain. -/
namespace Go.Proofs.Ytngcaphdkgihmaa.Sp
open Go.RowKit Go.Proofs.YtngcaphdkgihmaaW.PrintWords Go.Proofs.YtngcaphdkgihmaaW.PrintMore Go.Proofs.Ytngcaphdkgihmaa.P Go.Proofs.Ytngcaphdkgihmaa.Ar Go.Proofs.Ytngcaphdkgihmaa.Tw
set_option linter.unusedVariables false
set_option linter.unusedSimpArgs false
/-- The first k of numbers of b bits, side by side. -/
def gv (f : Nat → Nat) (b : Nat) : Nat → Nat
  | 0 => 0
  | k + 1 => gv f b k + f k * 2 ^ (b * k)
theorem z49 {f : Nat → Nat} {b : Nat} : ∀ k, (∀ j, j < k → f j < 2 ^ b) → gv f b k < 2 ^ (b * k)
  | 0, _ => by simp [gv]
  | k + 1, h => by
    have h1 := z49 k (fun j hj => h j (by omega))
    have h2 := h k (by omega)
    show gv f b k + f k * 2 ^ (b * k) < 2 ^ (b * (k + 1))
    rw [Nat.mul_succ, Nat.pow_add, Nat.mul_comm (2 ^ (b * k))]
    have h3 : (f k + 1) * 2 ^ (b * k) ≤ 2 ^ b * 2 ^ (b * k) := Nat.mul_le_mul_right _ h2
    rw [Nat.add_mul, Nat.one_mul] at h3
    omega
theorem z4G {f : Nat → Nat} {b : Nat} (hb : 0 < b) : ∀ k, (∀ j, j < k → f j < 2 ^ b) → ∀ n, n < b * k → (gv f b k).testBit n = (f (n / b)).testBit (n % b)
  | 0, _, n, hn => by simp at hn
  | k + 1, h, n, hn => by
    have h1 := z49 k (fun j hj => h j (by omega))
    show (gv f b k + f k * 2 ^ (b * k)).testBit n = _
    rw [Nat.add_comm, Nat.mul_comm (f k), Nat.testBit_two_pow_mul_add _ h1]
    by_cases c : n < b * k
    · rw [if_pos c]; exact z4G hb k (fun j hj => h j (by omega)) n c
    · rw [if_neg c]
      have hq : n / b = k := by
        rw [Nat.div_eq_of_lt_le]
        · rw [Nat.mul_comm]; omega
        · rw [Nat.mul_comm]; exact hn
      have hr : n % b = n - b * k := by
        have := Nat.div_add_mod n b
        rw [hq] at this; omega
      rw [hq, hr]
theorem gv_get {f : Nat → Nat} {b : Nat} (hb : 0 < b) {k : Nat} (h : ∀ j, j < k → f j < 2 ^ b) {j : Nat} (hj : j < k) : gv f b k / 2 ^ (b * j) % 2 ^ b = f j := by
  apply Nat.eq_of_testBit_eq
  intro i
  rw [Nat.testBit_mod_two_pow, Nat.testBit_div_two_pow]
  by_cases c : i < b
  · have hlt : i + b * j < b * k := by
      have : b * (j + 1) ≤ b * k := Nat.mul_le_mul_left _ hj
      rw [Nat.mul_succ] at this; omega
    rw [z4G hb k h _ hlt, Nat.add_mul_div_left _ _ hb, Nat.add_mul_mod_self_left, Nat.div_eq_of_lt c, Nat.mod_eq_of_lt c, Nat.zero_add]
    simp [c]
  · have : (f j).testBit i = false := Nat.testBit_lt_two_pow (Nat.lt_of_lt_of_le (h j hj) (Nat.pow_le_pow_right (by decide) (by omega)))
    simp [c, this]
theorem z4H {f g : Nat → Nat} {b : Nat} : ∀ k, (∀ j, j < k → f j = g j) → gv f b k = gv g b k
  | 0, _ => rfl
  | k + 1, h => by
    show gv f b k + f k * 2 ^ (b * k) = gv g b k + g k * 2 ^ (b * k)
    rw [z4H k (fun j hj => h j (by omega)), h k (by omega)]
theorem z4I (v b : Nat) (hb : 0 < b) : ∀ k, gv (fun k => v / 2 ^ (b * k) % 2 ^ b) b k = v % 2 ^ (b * k)
  | 0 => by simp [gv, Nat.mod_one]
  | k + 1 => by
    show gv _ b k + v / 2 ^ (b * k) % 2 ^ b * 2 ^ (b * k) = _
    rw [z4I v b hb k, Nat.mul_succ, Nat.pow_add, Nat.mod_mul, Nat.mul_comm (2 ^ (b * k))]
theorem hi_of {v : Nat} (h : v < 2 ^ 128) : hi (of 7 v) = ((v / 2 ^ 64 : Nat) : Int) := by
  unfold hi; rw [z1E, z1V, z1F 6 _ (by rw [z3q]; omega), z3q]
theorem lo_of {v : Nat} (h : v < 2 ^ 128) : lo (of 7 v) = ((v % 2 ^ 64 : Nat) : Int) := by
  unfold lo; rw [z1E, z20, z1F 6 _ (by rw [z3q]; omega), z3q]
theorem z2i {v : Nat} (h : v < 2 ^ 128) : val (of 7 v) = v := z1F 7 v (by rw [z37]; exact h)
theorem z3l (x : E) : val x < 2 ^ 128 := by have := z18 x; rwa [z37] at this
theorem val_h (x : E) : val x.1 = val x / 2 ^ 64 := by rw [← z5Q x]; rfl
theorem val_l (x : E) : val x.2 = val x % 2 ^ 64 := by rw [← z5R x]; rfl
theorem hi_v (x : E) : hi x = ((val x / 2 ^ 64 : Nat) : Int) := by unfold hi; rw [val_h]
theorem lo_v (x : E) : lo x = ((val x % 2 ^ 64 : Nat) : Int) := by unfold lo; rw [val_l]
theorem shlu (a w : Nat) (h : w ≤ 64) : shl .u64 (a : Int) (w : Int) = ((a * 2 ^ w % 2 ^ 64 : Nat) : Int) := by
  unfold shl
  have h64 : IntKind.u64.bits = 64 := rfl
  rw [h64, Int.toNat_natCast, Nat.min_eq_left h]
  have hc : (a : Int) * 2 ^ w = ((a * 2 ^ w : Nat) : Int) := by simp
  rw [hc]
  generalize a * 2 ^ w = p
  simp [IntKind.wrap, IntKind.bits, IntKind.signed]
theorem shli (a w : Nat) (h : w ≤ 62) (hp : a * 2 ^ w ≤ 4611686018427387904) : shl .i64 (a : Int) (w : Int) = ((a * 2 ^ w : Nat) : Int) := by
  unfold shl
  have h64 : IntKind.i64.bits = 64 := rfl
  rw [h64, Int.toNat_natCast, Nat.min_eq_left (by omega)]
  have hc : (a : Int) * 2 ^ w = ((a * 2 ^ w : Nat) : Int) := by simp
  rw [hc]
  generalize a * 2 ^ w = p at hp
  exact z5x (by omega) (by omega)
theorem split64 (v : Nat) : v = 2 ^ 64 * (v / 2 ^ 64) + v % 2 ^ 64 := (Nat.div_add_mod v (2 ^ 64)).symm
/-- So many bits higher. -/
theorem up_hi (v n : Nat) (hn : n < 64) (h : v * 2 ^ n < 2 ^ 128) : (v / 2 ^ 64 * 2 ^ n % 2 ^ 64) ||| (v % 2 ^ 64 / 2 ^ (64 - n)) = v * 2 ^ n / 2 ^ 64 := by
  apply Nat.eq_of_testBit_eq
  intro i
  rw [Nat.testBit_or, Nat.testBit_mod_two_pow, Nat.testBit_mul_two_pow, Nat.testBit_div_two_pow, Nat.testBit_div_two_pow, Nat.testBit_mod_two_pow, Nat.testBit_div_two_pow, Nat.testBit_mul_two_pow]
  by_cases c : i < 64
  · by_cases d : n ≤ i
    · have e1 : ¬ (i + (64 - n) < 64) := by omega
      have e2 : n ≤ i + 64 := by omega
      have e3 : i - n + 64 = i + 64 - n := by omega
      simp [c, d, e1, e2, e3]
    · have e1 : i + (64 - n) < 64 := by omega
      have e2 : n ≤ i + 64 := by omega
      have e3 : i + (64 - n) = i + 64 - n := by omega
      have e4 : i + 64 - n < 64 := by omega
      simp [c, d, e1, e2, e3, e4]
  · have e1 : ¬ (i + (64 - n) < 64) := by omega
    have hbit : (v * 2 ^ n).testBit (i + 64) = false := Nat.testBit_lt_two_pow (Nat.lt_of_lt_of_le h (Nat.pow_le_pow_right (by decide) (by omega)))
    rw [Nat.testBit_mul_two_pow] at hbit
    simp [c, e1]
    simpa using hbit
theorem up_eq (x : E) (n : Nat) (hn : n < 128) (h : val x * 2 ^ n < 2 ^ 128) : z1d.f (hi x) (lo x) (n : Int) = some (hi (of 7 (val x * 2 ^ n)), lo (of 7 (val x * 2 ^ n))) := by
  unfold z1d.f
  rw [hi_of h, lo_of h]
  by_cases c0 : (n : Int) = 0
  · rw [if_pos c0, hi_v, lo_v]
    have : n = 0 := by omega
    subst this
    simp
  rw [if_neg c0]
  by_cases c : (n : Int) ≥ 64
  · have e : wrap64 ((n : Int) - 64) = ((n - 64 : Nat) : Int) := by rw [z1J (by omega) (by omega)]; omega
    rw [if_pos c, e, if_pos (Int.natCast_nonneg _), lo_v, shlu _ _ (by omega)]
    have hsmall : val x < 2 ^ 64 := by
      rcases Nat.lt_or_ge (val x) (2 ^ 64) with g | g
      · exact g
      · exfalso
        have h1 : 2 ^ 64 * 2 ^ 64 ≤ val x * 2 ^ n := Nat.mul_le_mul g (Nat.pow_le_pow_right (by decide) (by omega))
        have : (2 : Nat) ^ 64 * 2 ^ 64 = 2 ^ 128 := by decide
        omega
    have hpn : 2 ^ n = 2 ^ (n - 64) * 2 ^ 64 := by rw [← Nat.pow_add]; congr 1; omega
    rw [Nat.mod_eq_of_lt hsmall]
    have e2 : val x * 2 ^ n = val x * 2 ^ (n - 64) * 2 ^ 64 := by rw [hpn, Nat.mul_assoc]
    rw [e2] at h ⊢
    have h4 : val x * 2 ^ (n - 64) < 2 ^ 64 := by
      have : (2 : Nat) ^ 128 = 2 ^ 64 * 2 ^ 64 := by decide
      rw [this] at h
      exact Nat.lt_of_mul_lt_mul_right h
    rw [Nat.mod_eq_of_lt h4, Nat.mul_mod_left, Nat.mul_div_cancel _ (Nat.two_pow_pos 64)]
    rfl
  · have e : wrap64 (64 - (n : Int)) = ((64 - n : Nat) : Int) := by rw [z1J (by omega) (by omega)]; omega
    rw [if_neg c, if_pos (Int.natCast_nonneg _), e, if_pos (Int.natCast_nonneg _), hi_v, lo_v, shlu _ _ (by omega), shlu _ _ (by omega), z2u _ _ (by omega)]
    rw [z3B _ _ (Nat.mod_lt _ (Nat.two_pow_pos 64)) (Nat.lt_of_le_of_lt (Nat.div_le_self _ _) (Nat.mod_lt _ (Nat.two_pow_pos 64))), up_hi _ _ (by omega) h, Nat.mod_mul_mod]
/-- So many bits lower. -/
theorem down_lo (v n : Nat) (hn : n < 64) : (v % 2 ^ 64 / 2 ^ n) ||| (v / 2 ^ 64 * 2 ^ (64 - n) % 2 ^ 64) = v / 2 ^ n % 2 ^ 64 := by
  apply Nat.eq_of_testBit_eq
  intro i
  rw [Nat.testBit_or, Nat.testBit_mod_two_pow, Nat.testBit_mul_two_pow, Nat.testBit_div_two_pow, Nat.testBit_div_two_pow, Nat.testBit_mod_two_pow, Nat.testBit_mod_two_pow, Nat.testBit_div_two_pow]
  by_cases c : i < 64
  · by_cases d : i + n < 64
    · have e1 : ¬ (64 - n ≤ i) := by omega
      simp [c, d, e1]
    · have e1 : 64 - n ≤ i := by omega
      have e3 : i - (64 - n) + 64 = i + n := by omega
      simp [c, d, e1, e3]
  · have d : ¬ (i + n < 64) := by omega
    simp [c, d]
theorem down_eq (x : E) (n : Nat) (hn : n < 128) : z1e.f (hi x) (lo x) (n : Int) = some (hi (of 7 (val x / 2 ^ n)), lo (of 7 (val x / 2 ^ n))) := by
  have hv := z3l x
  have h : val x / 2 ^ n < 2 ^ 128 := Nat.lt_of_le_of_lt (Nat.div_le_self _ _) hv
  unfold z1e.f
  rw [hi_of h, lo_of h]
  by_cases c0 : (n : Int) = 0
  · rw [if_pos c0, hi_v, lo_v]
    have : n = 0 := by omega
    subst this
    simp
  rw [if_neg c0]
  by_cases c : (n : Int) ≥ 64
  · have e : wrap64 ((n : Int) - 64) = ((n - 64 : Nat) : Int) := by rw [z1J (by omega) (by omega)]; omega
    rw [if_pos c, e, if_pos (Int.natCast_nonneg _), hi_v, z2u _ _ (by omega), Nat.div_div_eq_div_mul, ← Nat.pow_add, show 64 + (n - 64) = n by omega]
    have h64 : val x / 2 ^ n < 2 ^ 64 := by
      have hpn : 2 ^ 64 ≤ 2 ^ n := Nat.pow_le_pow_right (by decide) (by omega)
      have h1 : val x / 2 ^ n ≤ val x / 2 ^ 64 := Nat.div_le_div_left hpn (Nat.two_pow_pos 64)
      omega
    rw [Nat.div_eq_of_lt h64, Nat.mod_eq_of_lt h64]
    rfl
  · have e : wrap64 (64 - (n : Int)) = ((64 - n : Nat) : Int) := by rw [z1J (by omega) (by omega)]; omega
    rw [if_neg c, if_pos (Int.natCast_nonneg _), e, if_pos (Int.natCast_nonneg _), hi_v, lo_v, shlu _ _ (by omega), z2u _ _ (by omega), z2u _ _ (by omega)]
    rw [z3B _ _ (Nat.lt_of_le_of_lt (Nat.div_le_self _ _) (Nat.mod_lt _ (Nat.two_pow_pos 64))) (Nat.mod_lt _ (Nat.two_pow_pos 64)), down_lo _ _ (by omega), Nat.div_div_eq_div_mul, Nat.div_div_eq_div_mul, Nat.mul_comm (2 ^ 64)]
theorem cut_eq (l : Nat) (hl : l ≤ 7) (x : E) : z1h.f (l : Int) (hi x) (lo x) = some (hi (of 7 (val x % 2 ^ 2 ^ l)), lo (of 7 (val x % 2 ^ 2 ^ l))) := by
  have hv := z3l x
  have h : val x % 2 ^ 2 ^ l < 2 ^ 128 := Nat.lt_of_le_of_lt (Nat.mod_le _ _) hv
  unfold z1h.f
  by_cases c7 : (l : Int) = 7
  · have : l = 7 := by omega
    subst this
    rw [if_pos c7, Nat.mod_eq_of_lt (show val x < 2 ^ 2 ^ 7 from hv), z1w]
  rw [if_neg c7, hi_of h, lo_of h]
  by_cases c6 : (l : Int) = 6
  · have : l = 6 := by omega
    subst this
    rw [if_pos c6, lo_v]
    have e : (2 : Nat) ^ 2 ^ 6 = 2 ^ 64 := rfl
    rw [e, Nat.div_eq_of_lt (Nat.mod_lt _ (Nat.two_pow_pos 64)), Nat.mod_mod]
    rfl
  · have h32 := z1B (n := l) (by omega)
    have hq : 2 ^ 2 ^ l ≤ 2 ^ 32 := Nat.pow_le_pow_right (by decide) h32
    have hq0 := Nat.two_pow_pos (2 ^ l)
    have hr := Nat.mod_lt (val x) hq0
    have e2 : (2 : Nat) ^ 32 < 2 ^ 64 := by decide
    rw [if_neg c6, if_pos (Int.natCast_nonneg _), z26 l (by omega), z26 (2 ^ l) (by omega)]
    have e1 : IntKind.u64.wrap (((2 ^ 2 ^ l : Nat) : Int) - 1) = ((2 ^ 2 ^ l - 1 : Nat) : Int) := by rw [z2b (by omega) (by omega)]; omega
    rw [e1, lo_v, z1T _ _ (Nat.mod_lt _ (Nat.two_pow_pos 64)) (by omega), Nat.and_two_pow_sub_one_eq_mod, Nat.mod_mod_of_dvd _ (Nat.pow_dvd_pow 2 (by omega)), Nat.div_eq_of_lt (by omega), Nat.mod_eq_of_lt (show val x % 2 ^ 2 ^ l < 2 ^ 64 by omega)]
    rfl
end Go.Proofs.Ytngcaphdkgihmaa.Sp
namespace Go.Proofs.Ytngcaphdkgihmaa.P
open Go.RowKit Go.Proofs.YtngcaphdkgihmaaW.PrintWords Go.Proofs.YtngcaphdkgihmaaW.PrintLast Go.Proofs.YtngcaphdkgihmaaW.PrintMore
attribute [local go_sem] zU zW z15 z16 zQ zR zV zX   -- for this text's walks alone
set_option linter.unusedVariables false
set_option linter.unusedSimpArgs false
def z1k.f (a0_0 : Int) (a0_1 : Int) (a1 : Int) : Option (Int):=if a1 ≥ 64 then (if 0 ≤ (IntKind.u64.wrap (wrap64 (a1 - 64))) then (some (Go.bits .and .u64 (shr .u64 a0_0 (IntKind.u64.wrap (wrap64 (a1 - 64)))) 1)) else (none)) else (if 0 ≤ (IntKind.u64.wrap (a1)) then (some (Go.bits .and .u64 (shr .u64 a0_1 (IntKind.u64.wrap (a1))) 1)) else (none))
set_option maxHeartbeats 8000000 in
set_option maxRecDepth 100000 in
theorem z1k.calls (a0_0 : Int) (a0_1 : Int) (a1 : Int) (r : Int) (w : World) (h : z1k.f a0_0 a0_1 a1 = some r) :
 Calls Try.prog 81 #[.agg #[.int .u64 a0_0,.int .u64 a0_1],.int .i64 a1] w fun e w'=>e = .returned (.int .u64 r) ∧ Below w.heap.size w w':=by
 have hu61:=Try.underlying61
 have HB:=z3.mk (Below.refl w.heap.size w)
 have H : (if a1 ≥ 64 then (if 0 ≤ (IntKind.u64.wrap (wrap64 (a1 - 64))) then (some (Go.bits .and .u64 (shr .u64 a0_0 (IntKind.u64.wrap (wrap64 (a1 - 64)))) 1)) else (none)) else (if 0 ≤ (IntKind.u64.wrap (a1)) then (some (Go.bits .and .u64 (shr .u64 a0_1 (IntKind.u64.wrap (a1))) 1)) else (none))) = some r:=h
 clear h
 by_cases c3 : a1 ≥ 64
 · rw [if_pos c3] at H
   have c3b0 : decide (64 ≤ a1) = true:=decide_eq_true c3
   clear c3
   obtain ⟨ji4,hji4⟩ : ∃ j_ : Int,(IntKind.u64.wrap (wrap64 (a1 - 64))) = j_:=⟨_,rfl⟩
   replace H : (if 0 ≤ (ji4) then (some (Go.bits .and .u64 (shr .u64 a0_0 (ji4)) 1)) else (none)) = some r:=by first|(rw [hji4] at H;exact H)|(simp only [hji4] at H ⊢;exact H)
   by_cases c5 : 0 ≤ (ji4)
   rotate_left
   · rw [if_neg c5] at H
     exact absurd H (by simp)
   rw [if_pos c5] at H
   have c5b0:=eq_true c5
   have c5b1 : decide (0 ≤ (ji4)) = true:=decide_eq_true c5
   clear c5
   obtain ⟨ji6,hji6⟩ : ∃ j_ : Int,(shr .u64 a0_0 (ji4)) = j_:=⟨_,rfl⟩
   replace H : (some (Go.bits .and .u64 (ji6) 1)) = some r:=by first|(rw [hji6] at H;exact H)|(simp only [hji6] at H ⊢;exact H)
   have hji6_ : (a0_0 / 2 ^ min (ji4).toNat 64) = ji6:=hji6
   have hji6z : (ji4) ≤ 64 → (a0_0 / 2 ^ (ji4).toNat) = ji6:=z1C hji6
   obtain rfl:=Option.some.inj H
   go_enter Try.func81,Try.ntmps81
   go_wp2_with (first|((with_reducible refine zA (N:=2) rfl ?_);refine zB ?hg (N:=2) ?hd (cs:=#[.int .u64 a0_0,.int .u64 a0_1]) (t:=61) ?hr ?_;(case hd=>rfl);(case hg=>rfl);(case hr=>first|(go_simp;done)|(go_simp;rfl));intro gb101 hg w7 hbox hb;have n0_:=z3.mk (za (by repeat (first|(with_reducible first|exact HB.out|apply z2|apply z0|apply z1)|exact HB.out)) hb);have n1_:=z3.mk (hbox);have n2_:=z3.mk ((by rw [hg];exact (zc (by repeat (first|(with_reducible first|exact HB.out|apply z2|apply z0|apply z1)|exact HB.out))) : w.heap.size ≤ gb101));have n3_:=z3.mk ((by rw [hg];exact (zc (by repeat (first|(with_reducible first|exact HB.out|apply z2|apply z0|apply z1)|exact HB.out))) : w.heap.size ≤ gb101));clear HB;have HB:=n0_;have BK101:=n1_;have GW101:=n2_;have GE101:=n3_;clear n0_ n1_ n2_ n3_;clear hb hbox hg;have hcz8_0 : w7.cell? ⟨gb101,0,none⟩ = some (.int .u64 a0_0):=(ze BK101.out 0).trans rfl;have hcz8_1 : w7.cell? ⟨gb101,1,none⟩ = some (.int .u64 a0_1):=(ze BK101.out 1).trans rfl;have hfz8_0:=zd BK101.out 0;have hfz8_1:=zd BK101.out 1))
   go_ret
   exact ⟨by first|rfl|(simp [zf,zg] <;> rfl)|(simp only [← hji4,← hji6];first|rfl|(simp [zf,zg] <;> rfl))|(simp [*,zf,zg] <;> rfl),by repeat (first|(with_reducible first|exact HB.out|apply z2|apply z0|apply z1|refine z6 ?_ GE101.out)|exact HB.out)⟩
 rw [if_neg c3] at H
 have c3b0 : decide (64 ≤ a1) = false:=decide_eq_false c3
 clear c3
 obtain ⟨ji9,hji9⟩ : ∃ j_ : Int,(IntKind.u64.wrap (a1)) = j_:=⟨_,rfl⟩
 replace H : (if 0 ≤ (ji9) then (some (Go.bits .and .u64 (shr .u64 a0_1 (ji9)) 1)) else (none)) = some r:=by first|(rw [hji9] at H;exact H)|(simp only [hji9] at H ⊢;exact H)
 by_cases c10 : 0 ≤ (ji9)
 rotate_left
 · rw [if_neg c10] at H
   exact absurd H (by simp)
 rw [if_pos c10] at H
 have c10b0:=eq_true c10
 have c10b1 : decide (0 ≤ (ji9)) = true:=decide_eq_true c10
 clear c10
 obtain ⟨ji11,hji11⟩ : ∃ j_ : Int,(shr .u64 a0_1 (ji9)) = j_:=⟨_,rfl⟩
 replace H : (some (Go.bits .and .u64 (ji11) 1)) = some r:=by first|(rw [hji11] at H;exact H)|(simp only [hji11] at H ⊢;exact H)
 have hji11_ : (a0_1 / 2 ^ min (ji9).toNat 64) = ji11:=hji11
 have hji11z : (ji9) ≤ 64 → (a0_1 / 2 ^ (ji9).toNat) = ji11:=z1C hji11
 obtain rfl:=Option.some.inj H
 go_enter Try.func81,Try.ntmps81
 go_wp2_with (first|((with_reducible refine zA (N:=2) rfl ?_);refine zB ?hg (N:=2) ?hd (cs:=#[.int .u64 a0_0,.int .u64 a0_1]) (t:=61) ?hr ?_;(case hd=>rfl);(case hg=>rfl);(case hr=>first|(go_simp;done)|(go_simp;rfl));intro gb101 hg w12 hbox hb;have n0_:=z3.mk (za (by repeat (first|(with_reducible first|exact HB.out|apply z2|apply z0|apply z1)|exact HB.out)) hb);have n1_:=z3.mk (hbox);have n2_:=z3.mk ((by rw [hg];exact (zc (by repeat (first|(with_reducible first|exact HB.out|apply z2|apply z0|apply z1)|exact HB.out))) : w.heap.size ≤ gb101));have n3_:=z3.mk ((by rw [hg];exact (zc (by repeat (first|(with_reducible first|exact HB.out|apply z2|apply z0|apply z1)|exact HB.out))) : w.heap.size ≤ gb101));clear HB;have HB:=n0_;have BK101:=n1_;have GW101:=n2_;have GE101:=n3_;clear n0_ n1_ n2_ n3_;clear hb hbox hg;have hcz13_0 : w12.cell? ⟨gb101,0,none⟩ = some (.int .u64 a0_0):=(ze BK101.out 0).trans rfl;have hcz13_1 : w12.cell? ⟨gb101,1,none⟩ = some (.int .u64 a0_1):=(ze BK101.out 1).trans rfl;have hfz13_0:=zd BK101.out 0;have hfz13_1:=zd BK101.out 1))
 go_ret
 exact ⟨by first|rfl|(simp [zf,zg] <;> rfl)|(simp only [← hji9,← hji11];first|rfl|(simp [zf,zg] <;> rfl))|(simp [*,zf,zg] <;> rfl),by repeat (first|(with_reducible first|exact HB.out|apply z2|apply z0|apply z1|refine z6 ?_ GE101.out)|exact HB.out)⟩
end Go.Proofs.Ytngcaphdkgihmaa.P
namespace Go.Proofs.Ytngcaphdkgihmaa.P
open Go.RowKit Go.Proofs.YtngcaphdkgihmaaW.PrintWords Go.Proofs.YtngcaphdkgihmaaW.PrintLast Go.Proofs.YtngcaphdkgihmaaW.PrintMore
attribute [local go_sem] zU zW z15 z16 zQ zR zV zX   -- for this text's walks alone
set_option linter.unusedVariables false
set_option linter.unusedSimpArgs false
mutual
def zs.j0 : Nat → Int → List Int → Bool → Int → Int → Option (Bool)
 | 0,_,_,_,_,_=>none
 | k + 1,x0,x5,x13,x102000,x102001=>if x13 = true then (some false) else (if 0 ≤ x0 then (if x0 < (x5.length : Int) then (zs.l0 k (rd x5 x0) x102000 x102001) else (none)) else (none))
def zs.l0 : Nat → Int → Int → Int → Option (Bool)
 | 0,_,_,_=>none
 | k + 1,x6,x102000,x102001=>if x6 < 128 then ((z1k.f x102000 x102001 x6).bind fun t106=>(if t106 = 1 then (some false) else (zs.l0 k (wrap64 (x6 + 1)) x102000 x102001))) else (some true)
end
def zs.f (k : Nat) (a0 : Int) (a1_0 : Int) (a1_1 : Int) : Option (Bool):=(some (([1,2,4,8,16,32,64,128] : List Int) : List Int)).bind fun y102=>(if a0 < 0 then (zs.j0 k a0 y102 true a1_0 a1_1) else (zs.j0 k a0 y102 (decide (a0 > 7)) a1_0 a1_1))
theorem zs.z12 : ∀ k,(∀ y0 y1 y2 y3 y4,LeO (zs.j0 k y0 y1 y2 y3 y4) (zs.j0 (k + 1) y0 y1 y2 y3 y4)) ∧ (∀ y0 y1 y2,LeO (zs.l0 k y0 y1 y2) (zs.l0 (k + 1) y0 y1 y2))
 | 0=>⟨fun _ _ _ _ _ r h=>by simp [zs.j0] at h,fun _ _ _ r h=>by simp [zs.l0] at h⟩
 | k + 1=>by
  obtain ⟨ih0,ih1⟩:=zs.z12 k
  refine ⟨?_,?_⟩
  · intro y0 y1 y2 y3 y4
    unfold zs.j0
    repeat' first
    | (with_reducible exact ih0 _ _ _ _ _)
    | (with_reducible exact ih1 _ _ _)
    | (with_reducible exact LeO.refl _)
    | (with_reducible exact LeO.none _)
    | (with_reducible refine LeO.ite ?_ ?_)
    | (with_reducible refine LeO.bind ?_ (fun _=>?_))
    | exact ih0 _ _ _ _ _
    | exact ih1 _ _ _
    | exact LeO.none _
    | refine LeO.ite ?_ ?_
    | refine LeO.bind ?_ (fun _=>?_)
  · intro y0 y1 y2
    unfold zs.l0
    repeat' first
    | (with_reducible exact ih0 _ _ _ _ _)
    | (with_reducible exact ih1 _ _ _)
    | (with_reducible exact LeO.refl _)
    | (with_reducible exact LeO.none _)
    | (with_reducible refine LeO.ite ?_ ?_)
    | (with_reducible refine LeO.bind ?_ (fun _=>?_))
    | exact ih0 _ _ _ _ _
    | exact ih1 _ _ _
    | exact LeO.none _
    | refine LeO.ite ?_ ?_
    | refine LeO.bind ?_ (fun _=>?_)
theorem zs.mono : ∀ a0 a1 a2 k,LeO (zs.f k a0 a1 a2) (zs.f (k + 1) a0 a1 a2):=by
 intro a0 a1 a2 k
 obtain ⟨ih0,ih1⟩:=zs.z12 k
 unfold zs.f
 repeat' first
  | (with_reducible exact ih0 _ _ _ _ _)
  | (with_reducible exact ih1 _ _ _)
  | (with_reducible exact LeO.refl _)
  | (with_reducible exact LeO.none _)
  | (with_reducible refine LeO.ite ?_ ?_)
  | (with_reducible refine LeO.bind ?_ (fun _=>?_))
  | exact ih0 _ _ _ _ _
  | exact ih1 _ _ _
  | exact LeO.none _
  | refine LeO.ite ?_ ?_
  | refine LeO.bind ?_ (fun _=>?_)
set_option maxHeartbeats 8000000 in
set_option maxRecDepth 100000 in
theorem zs.calls (k : Nat) (a0 : Int) (a1_0 : Int) (a1_1 : Int) (r : Bool) (w : World) (h : zs.f k a0 a1_0 a1_1 = some r) :
 Calls Try.prog 39 #[.int .i64 a0,.agg #[.int .u64 a1_0,.int .u64 a1_1]] w fun e w'=>e = .returned (.bool r) ∧ Below w.heap.size w w':=by
 have hu61:=Try.underlying61
 have HB:=z3.mk (Below.refl w.heap.size w)
 have H : ((some (([1,2,4,8,16,32,64,128] : List Int) : List Int)).bind fun y102=>(if a0 < 0 then (zs.j0 k a0 y102 true a1_0 a1_1) else (zs.j0 k a0 y102 (decide (a0 > 7)) a1_0 a1_1))) = some r:=h
 clear h
 obtain ⟨y102,hy102⟩ : ∃ y_ : List Int,y_ = (([1,2,4,8,16,32,64,128] : List Int)):=⟨_,rfl⟩
 replace H : (if a0 < 0 then (zs.j0 k a0 y102 true a1_0 a1_1) else (zs.j0 k a0 y102 (decide (a0 > 7)) a1_0 a1_1)) = some r:=by first|(rw [hy102];with_reducible exact H)|(have H2_:=(Option.bind_some _ _).symm.trans H;rw [hy102];with_reducible exact H2_)|(have H2_:=(Option.bind_some _ _).symm.trans H;with_reducible exact H2_)|with_reducible exact H|(rw [hy102];exact H)|exact H
 have Ny102:=z3.mk hy102
 clear hy102
 have HC3:=z3.mk H
 clear H
 go_enter Try.func39,Try.ntmps39
 go_upto_region 2 with (first|((with_reducible refine zA (N:=3) rfl ?_);refine zB ?hg (N:=3) ?hd (cs:=#[.int .u64 a1_0,.int .u64 a1_1]) (t:=61) ?hr ?_;(case hd=>rfl);(case hg=>rfl);(case hr=>first|(go_simp;done)|(go_simp;rfl));intro gb101 hg w4 hbox hb;have n0_:=z3.mk (za (by repeat (first|(with_reducible first|exact HB.out|apply z2|apply z0|apply z1)|exact HB.out)) hb);have n1_:=z3.mk (hbox);have n2_:=z3.mk ((by rw [hg];exact (zc (by repeat (first|(with_reducible first|exact HB.out|apply z2|apply z0|apply z1)|exact HB.out))) : w.heap.size ≤ gb101));have n3_:=z3.mk ((by rw [hg];exact (zc (by repeat (first|(with_reducible first|exact HB.out|apply z2|apply z0|apply z1)|exact HB.out))) : w.heap.size ≤ gb101));clear HB;have HB:=n0_;have BK101:=n1_;have GW101:=n2_;have GE101:=n3_;clear n0_ n1_ n2_ n3_;clear hb hbox hg)|((with_reducible refine zA (N:=7) rfl ?_);refine Kd.z24 (Kd.int .i64) _ 3 ?hg (N:=7) ?hd (xs:=([1,2,4,8,16,32,64,128] : List Int)) (inner:=[.int .i64 1,.int .i64 2,.int .i64 4,.int .i64 8,.int .i64 16,.int .i64 32,.int .i64 64,.int .i64 128]) (ok:=fun _=>True) (okp:=fun _=>True) ?hr ?hp (fun _ hk=>hk) trivial (Below.refl _ _) (Nat.le_refl _) (by simp) ?_;(case hd=>rfl);(case hg=>rfl);(case hr=>first|(go_simp;done)|(go_simp;rfl));(case hp=>exact (Reps.one (show Kd.M (Kd.int .i64) _ _ _ 1 [.int .i64 1] from rfl) (Reps.one (show Kd.M (Kd.int .i64) _ _ _ 2 [.int .i64 2] from rfl) (Reps.one (show Kd.M (Kd.int .i64) _ _ _ 4 [.int .i64 4] from rfl) (Reps.one (show Kd.M (Kd.int .i64) _ _ _ 8 [.int .i64 8] from rfl) (Reps.one (show Kd.M (Kd.int .i64) _ _ _ 16 [.int .i64 16] from rfl) (Reps.one (show Kd.M (Kd.int .i64) _ _ _ 32 [.int .i64 32] from rfl) (Reps.one (show Kd.M (Kd.int .i64) _ _ _ 64 [.int .i64 64] from rfl) (Reps.one (show Kd.M (Kd.int .i64) _ _ _ 128 [.int .i64 128] from rfl) (Reps.none _ _))))))))));intro v103 w5 ho6 hb hg_ hnew_;clear hg_ hnew_;(first|rw [← Ny102.out] at ho6|(simp only [Int.reduceToNat] at ho6;rw [← Ny102.out] at ho6));have n0_:=z3.mk (Kd.z17 ho6 (zc (by repeat (first|(with_reducible first|exact HB.out|apply z2|apply z0|apply z1|refine z6 ?_ GE101.out)|exact HB.out))));have n1_:=z3.mk (zk (g:=gb101) (o:=.cells #[.int .u64 a1_0,.int .u64 a1_1] 61 (0,0)) (by (with_reducible repeat (first|refine z5 ?_ _|refine z7 ?_|refine z4 ?_ _));exact BK101.out) hb);have n2_:=z3.mk (za (by repeat (first|(with_reducible first|exact HB.out|apply z2|apply z0|apply z1|refine z6 ?_ GE101.out)|exact HB.out)) hb);clear BK101;clear HB;have HO104:=n0_;have BK101:=n1_;have HB:=n2_;clear n0_ n1_ n2_;clear hb ho6))
 (try simp only [Act.put,List.setIfInBounds_toArray,List.set_cons_zero,List.set_cons_succ])
 go_cut [13] (fun v13 wc=>∃ (kq : Nat) (x13_2 : Bool),v13 = .bool x13_2 ∧ z3 (zs.j0 kq a0 y102 x13_2 a1_0 a1_1 = some r) ∧ z3 (kq ≤ k) ∧ z3 (Kd.R (Kd.int .i64) 3 wc w.heap.size (fun _=>True) v103 y102) ∧ z3 (wc.heap[gb101]? = some (.cells #[.int .u64 a1_0,.int .u64 a1_1] 61 (0,0))) ∧ z3 (Below w.heap.size w wc))
 case first =>
  have H:=HC3.out
  clear HC3
  by_cases c7 : a0 < 0
  rotate_left
  · rw [if_neg c7] at H
    have c7b0 : decide (a0 < 0) = false:=decide_eq_false c7
    clear c7
    (first|rw [c7b0]|(simp only [zC,zK];rw [c7b0])|skip)
    have H':=z3.mk H
    clear H
    go_wp2
    go_meet
    case rel=>exact ⟨_,(decide (a0 > 7)),(by first|rfl|(simp;done)|(simp [*];done)),H',⟨by first|omega|exact Nat.le_refl _⟩,⟨by (with_reducible repeat (first|apply Kd.zl|apply Kd.zm|apply Kd.zw));exact HO104.out⟩,⟨by (with_reducible repeat (first|refine z5 ?_ _|refine z7 ?_|refine z4 ?_ _));exact BK101.out⟩,⟨by repeat (first|(with_reducible first|exact HB.out|apply z2|apply z0|apply z1|refine z6 ?_ GE101.out)|exact HB.out)⟩⟩
  rw [if_pos c7] at H
  have c7b0 : decide (a0 < 0) = true:=decide_eq_true c7
  clear c7
  (first|rw [c7b0]|(simp only [zC,zK];rw [c7b0])|skip)
  have H':=z3.mk H
  clear H
  go_wp2
  go_meet
  case rel=>exact ⟨_,(true),(by first|rfl|(simp;done)|(simp [*];done)),H',⟨by first|omega|exact Nat.le_refl _⟩,⟨by (with_reducible repeat (first|apply Kd.zl|apply Kd.zm|apply Kd.zw));exact HO104.out⟩,⟨by (with_reducible repeat (first|refine z5 ?_ _|refine z7 ?_|refine z4 ?_ _));exact BK101.out⟩,⟨by repeat (first|(with_reducible first|exact HB.out|apply z2|apply z0|apply z1|refine z6 ?_ GE101.out)|exact HB.out)⟩⟩
 case rest =>
  clear HC3
  (try clear p2);(try clear c3);(try clear c7);(try clear c7b0)
  obtain ⟨kq,x13_2,rfl,HA,HJ2,HO_5,BK101,HB⟩:=hcut
  cases kq with
  | zero=>exact absurd HA.out (by simp [zs.j0])
  | succ kj2 =>
   have H:=HA.out
   clear HA
   simp only [zs.j0] at H
   by_cases c8 : x13_2 = true
   · subst c8
     have H1 : (some false) = some r:=by rw [if_pos rfl] at H;exact H
     clear H
     have H:=H1
     clear H1
     obtain rfl:=Option.some.inj H
     go_wp2
     go_ret
     exact ⟨by first|rfl|(simp [zf,zg] <;> rfl)|(simp [*,zf,zg] <;> rfl),by repeat (first|(with_reducible first|exact HB.out|apply z2|apply z0|apply z1|refine z6 ?_ GE101.out)|exact HB.out)⟩
   replace c8:=Bool.eq_false_iff.mpr c8
   subst c8
   have H1 : (if 0 ≤ a0 then (if a0 < (y102.length : Int) then (zs.l0 kj2 (rd y102 a0) a1_0 a1_1) else (none)) else (none)) = some r:=by rw [if_neg (show ¬ (false = true) by decide)] at H;exact H
   clear H
   have H:=H1
   clear H1
   by_cases c9 : 0 ≤ a0
   rotate_left
   · rw [if_neg c9] at H
     exact absurd H (by simp)
   rw [if_pos c9] at H
   have c9b0 : decide (0 ≤ a0) = true:=decide_eq_true c9
   clear c9
   by_cases c10 : a0 < (y102.length : Int)
   rotate_left
   · rw [if_neg c10] at H
     exact absurd H (by simp)
   rw [if_pos c10] at H
   have c10b0 : decide (a0 < (y102.length : Int)) = true:=decide_eq_true c10
   clear c10
   have H':=z3.mk H
   clear H
   obtain ⟨Ao11,co11,eo11⟩:=Kd.z10 HO_5.out
   subst eo11
   have p105 : 0 ≤ (a0 : Int):=of_decide_eq_true (by first|(with_reducible assumption)|assumption)
   have q105 : a0 < (y102.length : Int):=of_decide_eq_true (by first|(with_reducible assumption)|assumption)
   obtain ⟨ad105,e105,hx105_0⟩:=Kd.z1U (Kd.zN HO_5.out).2.2 a0 p105 q105
   cases e105
   replace p105:=eq_true p105
   replace q105:=eq_true q105
   go_wp2
   go_loopg [6] kj2 (fun kq v6 w'=>∃ (x6_2 : Int),v6 = .int .i64 x6_2 ∧ z3 (zs.l0 kq x6_2 a1_0 a1_1 = some r) ∧ z3 (kq ≤ kj2) ∧ z3 (w'.heap[gb101]? = some (.cells #[.int .u64 a1_0,.int .u64 a1_1] 61 (0,0))) ∧ z3 (Below w.heap.size w w'))
   case atStart=>exact ⟨(rd y102 a0),(by first|rfl|(simp;done)|(simp [*];done)),H',⟨Nat.le_refl _⟩,⟨by (with_reducible repeat (first|refine z5 ?_ _|refine z7 ?_|refine z4 ?_ _));exact BK101.out⟩,⟨by repeat (first|(with_reducible first|exact HB.out|apply z2|apply z0|apply z1|refine z6 ?_ GE101.out)|exact HB.out)⟩⟩
   case round =>
    clear H'
    (try clear c1);(try clear p1);(try clear q1);(try clear hx1);(try clear p2);(try clear c3);(try clear c7);(try clear c7b0);(try clear c8);(try clear c9);(try clear c9b0);(try clear c10);(try clear c10b0);(try clear p10);(try clear q10);(try clear hx10);(try clear hx105_0);(try clear p105);(try clear p2);(try clear q105)
    obtain ⟨x6_2,rfl,HA,HK2,BK101,HB⟩:=hrel
    cases gk with
    | zero=>exact absurd HA.out (by simp [zs.l0])
    | succ k2 =>
     have H:=HA.out
     clear HA
     simp only [zs.l0] at H
     by_cases c12 : x6_2 < 128
     rotate_left
     · rw [if_neg c12] at H
       have c12b0 : decide (x6_2 < 128) = false:=decide_eq_false c12
       clear c12
       obtain rfl:=Option.some.inj H
       go_wp2
       go_ret
       exact ⟨by first|rfl|(simp [zf,zg] <;> rfl)|(simp [*,zf,zg] <;> rfl),by repeat (first|(with_reducible first|exact HB.out|apply z2|apply z0|apply z1|refine z6 ?_ GE101.out)|exact HB.out)⟩
     rw [if_pos c12] at H
     have c12b0 : decide (x6_2 < 128) = true:=decide_eq_true c12
     clear c12
     replace H:=Option.bind_eq_some_iff.mp H
     obtain ⟨t106,A130,H⟩:=H
     replace H : (if t106 = 1 then (some false) else (zs.l0 k2 (wrap64 (x6_2 + 1)) a1_0 a1_1)) = some r:=H
     have A13:=z3.mk A130
     clear A130
     by_cases c14 : t106 = 1
     · rw [if_pos c14] at H
       have c14b0 : (t106 == 1) = true:=beq_iff_eq.mpr c14
       have c14b1 : (t106 != 1) = false:=bne_eq_false_iff_eq.mpr c14
       clear c14
       obtain rfl:=Option.some.inj H
       have hcz15_0 : wr.cell? ⟨gb101,0,none⟩ = some (.int .u64 a1_0):=(ze BK101.out 0).trans rfl
       have hcz15_1 : wr.cell? ⟨gb101,1,none⟩ = some (.int .u64 a1_1):=(ze BK101.out 1).trans rfl
       have hfz15_0:=zd BK101.out 0
       have hfz15_1:=zd BK101.out 1
       go_wp2_with (first|((with_reducible refine zq (f:=81) rfl ?_);refine goesL_ (some 24) rfl rfl Try.func81 (by kernel_rfl) rfl #[.agg #[.int .u64 a1_0,.int .u64 a1_1],.int .i64 x6_2] rfl (by (try simp only [List.map_toArray,List.map_cons,List.map_nil]);first|done|rfl|(simp only [List.length_drop,List.length_take];rfl)) ?_;(with_reducible refine (z1k.calls a1_0 a1_1 x6_2 t106 _ A13.out).mono ?_);rintro e w16 ⟨rfl,hb⟩;refine ⟨_,rfl,?_⟩;have n0_:=z3.mk (zk (g:=gb101) (o:=.cells #[.int .u64 a1_0,.int .u64 a1_1] 61 (0,0)) (by (with_reducible repeat (first|refine z5 ?_ _|refine z7 ?_|refine z4 ?_ _));exact BK101.out) hb);have n1_:=z3.mk (za (by repeat (first|(with_reducible first|exact HB.out|apply z2|apply z0|apply z1|refine z6 ?_ GE101.out)|exact HB.out)) hb);clear BK101;clear HB;have BK101:=n0_;have HB:=n1_;clear n0_ n1_;(try clear hb);(try clear hb2);(try clear hk);(try clear hi)))
       go_ret
       exact ⟨by first|rfl|(simp [zf,zg] <;> rfl)|(simp [*,zf,zg] <;> rfl),by repeat (first|(with_reducible first|exact HB.out|apply z2|apply z0|apply z1|refine z6 ?_ GE101.out)|exact HB.out)⟩
     rw [if_neg c14] at H
     have c14b0 : (t106 == 1) = false:=beq_eq_false_iff_ne.mpr c14
     have c14b1 : (t106 != 1) = true:=bne_iff_ne.mpr c14
     have H':=z3.mk H
     clear H
     have hcz17_0 : wr.cell? ⟨gb101,0,none⟩ = some (.int .u64 a1_0):=(ze BK101.out 0).trans rfl
     have hcz17_1 : wr.cell? ⟨gb101,1,none⟩ = some (.int .u64 a1_1):=(ze BK101.out 1).trans rfl
     have hfz17_0:=zd BK101.out 0
     have hfz17_1:=zd BK101.out 1
     go_wp2_with (first|((with_reducible refine zq (f:=81) rfl ?_);refine goesL_ (some 24) rfl rfl Try.func81 (by kernel_rfl) rfl #[.agg #[.int .u64 a1_0,.int .u64 a1_1],.int .i64 x6_2] rfl (by (try simp only [List.map_toArray,List.map_cons,List.map_nil]);first|done|rfl|(simp only [List.length_drop,List.length_take];rfl)) ?_;(with_reducible refine (z1k.calls a1_0 a1_1 x6_2 t106 _ A13.out).mono ?_);rintro e w18 ⟨rfl,hb⟩;refine ⟨_,rfl,?_⟩;have n0_:=z3.mk (zk (g:=gb101) (o:=.cells #[.int .u64 a1_0,.int .u64 a1_1] 61 (0,0)) (by (with_reducible repeat (first|refine z5 ?_ _|refine z7 ?_|refine z4 ?_ _));exact BK101.out) hb);have n1_:=z3.mk (za (by repeat (first|(with_reducible first|exact HB.out|apply z2|apply z0|apply z1|refine z6 ?_ GE101.out)|exact HB.out)) hb);clear BK101;clear HB;have BK101:=n0_;have HB:=n1_;clear n0_ n1_;(try clear hb);(try clear hb2);(try clear hk);(try clear hi)))
     go_roundg k2
     case measure=>have:=HJ2.out;have:=HK2.out;omega
     case rel=>exact ⟨(wrap64 (x6_2 + 1)),(by first|rfl|(simp;done)|(simp [*];done)),H',⟨by have:=HJ2.out;have:=HK2.out;omega⟩,⟨by (with_reducible repeat (first|refine z5 ?_ _|refine z7 ?_|refine z4 ?_ _));exact BK101.out⟩,⟨by repeat (first|(with_reducible first|exact HB.out|apply z2|apply z0|apply z1|refine z6 ?_ GE101.out)|exact HB.out)⟩⟩
end Go.Proofs.Ytngcaphdkgihmaa.P
namespace Go.Proofs.Ytngcaphdkgihmaa.P
open Go.RowKit Go.Proofs.YtngcaphdkgihmaaW.PrintWords Go.Proofs.YtngcaphdkgihmaaW.PrintLast Go.Proofs.YtngcaphdkgihmaaW.PrintMore
attribute [local go_sem] zU zW z15 z16 zQ zR zV zX   -- for this text's walks alone
set_option linter.unusedVariables false
set_option linter.unusedSimpArgs false
def zn.l0 : Nat → Int → List (S61) → Int → Option (Bool)
 | 0,_,_,_=>none
 | k + 1,x0,x1,x5=>if x5 < (x1.length : Int) then (if 0 ≤ x5 then ((zs.f k x0 ((z14 x1 x5).f0) ((z14 x1 x5).f1)).bind fun t102=>(if t102 = true then (zn.l0 k x0 x1 (wrap64 (x5 + 1))) else (some false))) else (none)) else (some true)
def zn.f (k : Nat) (a0 : Int) (l1 : List (S61)) : Option (Bool):=zn.l0 k a0 l1 0
theorem zn.z12 : ∀ k,(∀ y0 y1 y2,LeO (zn.l0 k y0 y1 y2) (zn.l0 (k + 1) y0 y1 y2))
 | 0=>fun _ _ _ r h=>by simp [zn.l0] at h
 | k + 1=>by
  have ih0:=zn.z12 k
  · intro y0 y1 y2
    unfold zn.l0
    repeat' first
    | (with_reducible exact ih0 _ _ _)
    | (with_reducible exact zs.mono _ _ _ _)
    | (with_reducible exact LeO.refl _)
    | (with_reducible exact LeO.none _)
    | (with_reducible refine LeO.ite ?_ ?_)
    | (with_reducible refine LeO.bind ?_ (fun _=>?_))
    | exact ih0 _ _ _
    | exact zs.mono _ _ _ _
    | exact LeO.none _
    | refine LeO.ite ?_ ?_
    | refine LeO.bind ?_ (fun _=>?_)
theorem zn.mono : ∀ a0 a1 k,LeO (zn.f k a0 a1) (zn.f (k + 1) a0 a1):=by
 intro a0 a1 k
 have ih0:=zn.z12 k
 unfold zn.f
 repeat' first
  | (with_reducible exact ih0 _ _ _)
  | (with_reducible exact zs.mono _ _ _ _)
  | (with_reducible exact LeO.refl _)
  | (with_reducible exact LeO.none _)
  | (with_reducible refine LeO.ite ?_ ?_)
  | (with_reducible refine LeO.bind ?_ (fun _=>?_))
  | exact ih0 _ _ _
  | exact zs.mono _ _ _ _
  | exact LeO.none _
  | refine LeO.ite ?_ ?_
  | refine LeO.bind ?_ (fun _=>?_)
set_option maxHeartbeats 8000000 in
set_option maxRecDepth 100000 in
theorem zn.calls (k : Nat) (a0 : Int) (A1 : Option Addr) (c1 : Nat) (l1 : List (S61)) (r : Bool) (w : World) (hr1 : Kd.C k61 w A1 l1.length l1) (hc1 : l1.length ≤ c1) (h : zn.f k a0 l1 = some r) :
 Calls Try.prog 46 #[.int .i64 a0,.slice A1 l1.length c1] w fun e w'=>e = .returned (.bool r) ∧ Below w.heap.size w w':=by
 have hu61:=Try.underlying61
 have HR1:=z3.mk hr1
 have HC1:=z3.mk hc1
 clear hr1 hc1
 have HB:=z3.mk (Below.refl w.heap.size w)
 have H : (zn.l0 k a0 l1 0) = some r:=h
 clear h
 have H':=z3.mk H
 clear H
 go_enter Try.func46,Try.ntmps46
 go_wp2
 go_loopg [5] k (fun kq v5 w'=>∃ (x5_1 : Int),v5 = .int .i64 x5_1 ∧ z3 (zn.l0 kq a0 l1 x5_1 = some r) ∧ z3 (kq ≤ k) ∧ z3 (Below w.heap.size w w'))
 case atStart=>exact ⟨(0),(by first|rfl|(simp;done)|(simp [*];done)),H',⟨Nat.le_refl _⟩,⟨by repeat (first|(with_reducible first|exact HB.out|apply z2|apply z0|apply z1)|exact HB.out)⟩⟩
 case round =>
  clear H'
  (try clear c1);(try clear p2)
  obtain ⟨x5_1,rfl,HA,HK1,HB⟩:=hrel
  cases gk with
  | zero=>exact absurd HA.out (by simp [zn.l0])
  | succ k1 =>
   have H:=HA.out
   clear HA
   simp only [zn.l0] at H
   by_cases c3 : x5_1 < (l1.length : Int)
   rotate_left
   · rw [if_neg c3] at H
     have c3b0 : decide (x5_1 < (l1.length : Int)) = false:=decide_eq_false c3
     clear c3
     obtain rfl:=Option.some.inj H
     go_wp2
     go_ret
     exact ⟨by first|rfl|(simp [zf,zg] <;> rfl)|(simp [*,zf,zg] <;> rfl),by repeat (first|(with_reducible first|exact HB.out|apply z2|apply z0|apply z1)|exact HB.out)⟩
   rw [if_pos c3] at H
   have c3b0 : decide (x5_1 < (l1.length : Int)) = true:=decide_eq_true c3
   clear c3
   by_cases c4 : 0 ≤ x5_1
   rotate_left
   · rw [if_neg c4] at H
     exact absurd H (by simp)
   rw [if_pos c4] at H
   have c4b0 : decide (0 ≤ x5_1) = true:=decide_eq_true c4
   clear c4
   replace H:=Option.bind_eq_some_iff.mp H
   obtain ⟨t102,A50,H⟩:=H
   replace H : (if t102 = true then (zn.l0 k1 a0 l1 (wrap64 (x5_1 + 1))) else (some false)) = some r:=H
   have A5:=z3.mk A50
   clear A50
   by_cases c6 : t102 = true
   rotate_left
   · replace c6:=Bool.eq_false_iff.mpr c6
     subst c6
     have H1 : (some false) = some r:=by rw [if_neg (show ¬ (false = true) by decide)] at H;exact H
     clear H
     have H:=H1
     clear H1
     obtain rfl:=Option.some.inj H
     have p101 : 0 ≤ (x5_1 : Int):=of_decide_eq_true (by first|(with_reducible assumption)|assumption)
     have q101 : x5_1 < (l1.length : Int):=of_decide_eq_true (by first|(with_reducible assumption)|assumption)
     obtain ⟨ad101,e101,hx101_0,hx101_1⟩:=z2S HR1.out x5_1 p101 q101
     cases e101
     replace hx101_0:=(HB.out.cell (World.block_lt_of_cell? w _ hx101_0)).trans hx101_0
     replace hx101_1:=(HB.out.cell (World.block_lt_of_cell? w _ hx101_1)).trans hx101_1
     replace p101:=eq_true p101
     replace q101:=eq_true q101
     go_wp2_with (first|((with_reducible refine zq (f:=39) rfl ?_);refine goesL_ (some 17) rfl rfl Try.func39 (by kernel_rfl) rfl #[.int .i64 a0,.agg #[.int .u64 ((z14 l1 x5_1).f0),.int .u64 ((z14 l1 x5_1).f1)]] rfl (by (try simp only [List.map_toArray,List.map_cons,List.map_nil]);first|done|rfl|(simp only [List.length_drop,List.length_take];rfl)) ?_;(with_reducible refine (zs.calls k1 a0 ((z14 l1 x5_1).f0) ((z14 l1 x5_1).f1) false _ A5.out).mono ?_);rintro e w8 ⟨rfl,hb⟩;refine ⟨_,rfl,?_⟩;have n0_:=z3.mk (za (by repeat (first|(with_reducible first|exact HB.out|apply z2|apply z0|apply z1)|exact HB.out)) hb);clear HB;have HB:=n0_;clear n0_;(try clear hb);(try clear hb2);(try clear hk);(try clear hi)))
     go_ret
     exact ⟨by first|rfl|(simp [zf,zg] <;> rfl)|(simp [*,zf,zg] <;> rfl),by repeat (first|(with_reducible first|exact HB.out|apply z2|apply z0|apply z1)|exact HB.out)⟩
   subst c6
   have H1 : (zn.l0 k1 a0 l1 (wrap64 (x5_1 + 1))) = some r:=by rw [if_pos rfl] at H;exact H
   clear H
   have H:=H1
   clear H1
   have H':=z3.mk H
   clear H
   have p101 : 0 ≤ (x5_1 : Int):=of_decide_eq_true (by first|(with_reducible assumption)|assumption)
   have q101 : x5_1 < (l1.length : Int):=of_decide_eq_true (by first|(with_reducible assumption)|assumption)
   obtain ⟨ad101,e101,hx101_0,hx101_1⟩:=z2S HR1.out x5_1 p101 q101
   cases e101
   replace hx101_0:=(HB.out.cell (World.block_lt_of_cell? w _ hx101_0)).trans hx101_0
   replace hx101_1:=(HB.out.cell (World.block_lt_of_cell? w _ hx101_1)).trans hx101_1
   replace p101:=eq_true p101
   replace q101:=eq_true q101
   go_wp2_with (first|((with_reducible refine zq (f:=39) rfl ?_);refine goesL_ (some 17) rfl rfl Try.func39 (by kernel_rfl) rfl #[.int .i64 a0,.agg #[.int .u64 ((z14 l1 x5_1).f0),.int .u64 ((z14 l1 x5_1).f1)]] rfl (by (try simp only [List.map_toArray,List.map_cons,List.map_nil]);first|done|rfl|(simp only [List.length_drop,List.length_take];rfl)) ?_;(with_reducible refine (zs.calls k1 a0 ((z14 l1 x5_1).f0) ((z14 l1 x5_1).f1) true _ A5.out).mono ?_);rintro e w7 ⟨rfl,hb⟩;refine ⟨_,rfl,?_⟩;have n0_:=z3.mk (za (by repeat (first|(with_reducible first|exact HB.out|apply z2|apply z0|apply z1)|exact HB.out)) hb);clear HB;have HB:=n0_;clear n0_;(try clear hb);(try clear hb2);(try clear hk);(try clear hi)))
   go_roundg k1
   case measure=>have:=HK1.out;omega
   case rel=>exact ⟨(wrap64 (x5_1 + 1)),(by first|rfl|(simp;done)|(simp [*];done)),H',⟨by have:=HK1.out;omega⟩,⟨by repeat (first|(with_reducible first|exact HB.out|apply z2|apply z0|apply z1)|exact HB.out)⟩⟩
end Go.Proofs.Ytngcaphdkgihmaa.P
namespace Go.Proofs.Ytngcaphdkgihmaa.P
open Go.RowKit Go.Proofs.YtngcaphdkgihmaaW.PrintWords Go.Proofs.YtngcaphdkgihmaaW.PrintLast Go.Proofs.YtngcaphdkgihmaaW.PrintMore
attribute [local go_sem] zU zW z15 z16 zQ zR zV zX   -- for this text's walks alone
set_option linter.unusedVariables false
set_option linter.unusedSimpArgs false
def zF.l0 : Nat → List (S51) → List (S61) → Int → Option ((List (S61)))
 | 0,_,_,_=>none
 | k + 1,x0,x3,x4=>if x4 < (x0.length : Int) then (if 0 ≤ x4 then (if x3.length < 8796093022208 then (zF.l0 k x0 (x3 ++ [(⟨(zu x0 x4).f0,(zu x0 x4).f1⟩ : S61)]) (wrap64 (x4 + 1))) else (none)) else (none)) else (some x3)
def zF.f (k : Nat) (l0 : List (S51)) : Option ((List (S61))):=zF.l0 k l0 ([] : List (S61)) 0
theorem zF.z12 : ∀ k,(∀ y0 y1 y2,LeO (zF.l0 k y0 y1 y2) (zF.l0 (k + 1) y0 y1 y2))
 | 0=>fun _ _ _ r h=>by simp [zF.l0] at h
 | k + 1=>by
  have ih0:=zF.z12 k
  · intro y0 y1 y2
    unfold zF.l0
    repeat' first
    | (with_reducible exact ih0 _ _ _)
    | (with_reducible exact LeO.refl _)
    | (with_reducible exact LeO.none _)
    | (with_reducible refine LeO.ite ?_ ?_)
    | (with_reducible refine LeO.bind ?_ (fun _=>?_))
    | exact ih0 _ _ _
    | exact LeO.none _
    | refine LeO.ite ?_ ?_
    | refine LeO.bind ?_ (fun _=>?_)
theorem zF.mono : ∀ a0 k,LeO (zF.f k a0) (zF.f (k + 1) a0):=by
 intro a0 k
 have ih0:=zF.z12 k
 unfold zF.f
 repeat' first
  | (with_reducible exact ih0 _ _ _)
  | (with_reducible exact LeO.refl _)
  | (with_reducible exact LeO.none _)
  | (with_reducible refine LeO.ite ?_ ?_)
  | (with_reducible refine LeO.bind ?_ (fun _=>?_))
  | exact ih0 _ _ _
  | exact LeO.none _
  | refine LeO.ite ?_ ?_
  | refine LeO.bind ?_ (fun _=>?_)
set_option maxHeartbeats 8000000 in
set_option maxRecDepth 100000 in
theorem zF.calls (k : Nat) (A0 : Option Addr) (c0 : Nat) (l0 : List (S51)) (r : List (S61)) (w : World) (hr0 : Kd.C k51 w A0 l0.length l0) (hc0 : l0.length ≤ c0) (h : zF.f k l0 = some r) :
 Calls Try.prog 27 #[.slice A0 l0.length c0] w fun e w'=>∃ v0_ : Value,e = .returned (v0_) ∧ Kd.R k61 61 w' w.heap.size (fun _=>True) v0_ r ∧ Below w.heap.size w w':=by
 have hu51:=Try.underlying51
 have HR0:=z3.mk hr0
 have HC0:=z3.mk hc0
 clear hr0 hc0
 have HB:=z3.mk (Below.refl w.heap.size w)
 have H : (zF.l0 k l0 ([] : List (S61)) 0) = some r:=h
 clear h
 have H':=z3.mk H
 clear H
 go_enter Try.func27,Try.ntmps27
 go_wp2
 go_loopg [3,4] k (fun kq v3 v4 w'=>∃ (x3_1 : List (S61)) (x4_1 : Int),v4 = .int .i64 x4_1 ∧ z3 (zF.l0 kq l0 x3_1 x4_1 = some r) ∧ z3 (kq ≤ k) ∧ z3 (Kd.R k61 61 w' w.heap.size (fun _=>True) v3 x3_1) ∧ z3 (Below w.heap.size w w'))
 case atStart=>exact ⟨(([] : List (S61))),(0),(by first|rfl|(simp;done)|(simp [*];done)),H',⟨Nat.le_refl _⟩,⟨by first|exact Kd.z1G _ _ _ _ _|exact Kd.z1P _ _ _ _ _|exact Kd.z1S _ _ _ _ _|exact Kd.z1Q _ _ _ _ _|exact Kd.z1R _ _ _ _ _⟩,⟨by repeat (first|(with_reducible first|exact HB.out|apply z2|apply z0|apply z1)|exact HB.out)⟩⟩
 case round =>
  clear H'
  obtain ⟨x3_1,x4_1,rfl,HA,HK1,HO_3,HB⟩:=hrel
  cases gk with
  | zero=>exact absurd HA.out (by simp [zF.l0])
  | succ k1 =>
   have H:=HA.out
   clear HA
   simp only [zF.l0] at H
   by_cases c2 : x4_1 < (l0.length : Int)
   rotate_left
   · rw [if_neg c2] at H
     have c2b0 : decide (x4_1 < (l0.length : Int)) = false:=decide_eq_false c2
     clear c2
     obtain rfl:=Option.some.inj H
     go_wp2
     go_ret
     exact ⟨_,by first|rfl|(simp [zf,zg] <;> rfl)|(simp [*,zf,zg] <;> rfl),by (with_reducible repeat (first|apply Kd.zl|apply Kd.zm|apply Kd.zw));exact HO_3.out,by repeat (first|(with_reducible first|exact HB.out|apply z2|apply z0|apply z1)|exact HB.out)⟩
   rw [if_pos c2] at H
   have c2b0 : decide (x4_1 < (l0.length : Int)) = true:=decide_eq_true c2
   clear c2
   by_cases c3 : 0 ≤ x4_1
   rotate_left
   · rw [if_neg c3] at H
     exact absurd H (by simp)
   rw [if_pos c3] at H
   have c3b0 : decide (0 ≤ x4_1) = true:=decide_eq_true c3
   clear c3
   by_cases c4 : x3_1.length < 8796093022208
   rotate_left
   · rw [if_neg c4] at H
     exact absurd H (by simp)
   rw [if_pos c4] at H
   have LMc4:=z3.mk c4
   clear c4
   obtain ⟨y102,hy102⟩ : ∃ y_ : List (S61),y_ = (x3_1 ++ [(⟨(zu l0 x4_1).f0,(zu l0 x4_1).f1⟩ : S61)]):=⟨_,rfl⟩
   replace H : (zF.l0 k1 l0 y102 (wrap64 (x4_1 + 1))) = some r:=by first|(rw [hy102];with_reducible exact H)|(have H2_:=(Option.bind_some _ _).symm.trans H;rw [hy102];with_reducible exact H2_)|(have H2_:=(Option.bind_some _ _).symm.trans H;with_reducible exact H2_)|with_reducible exact H|(rw [hy102];exact H)|exact H
   have Ny102:=z3.mk hy102
   clear hy102
   have H':=z3.mk H
   clear H
   have p101 : 0 ≤ (x4_1 : Int):=of_decide_eq_true (by first|(with_reducible assumption)|assumption)
   have q101 : x4_1 < (l0.length : Int):=of_decide_eq_true (by first|(with_reducible assumption)|assumption)
   obtain ⟨ad101,e101,hx101_0,hx101_1⟩:=z29 HR0.out x4_1 p101 q101
   cases e101
   replace hx101_0:=(HB.out.cell (World.block_lt_of_cell? w _ hx101_0)).trans hx101_0
   replace hx101_1:=(HB.out.cell (World.block_lt_of_cell? w _ hx101_1)).trans hx101_1
   replace p101:=eq_true p101
   replace q101:=eq_true q101
   go_wp2_with (first|((with_reducible refine z1u (b:=.append) (xs:=#[.tmp 11,.tmp 16]) rfl ?_);at_builtin;refine Kd.z1Y k61 (w0:=w) w.heap.size rfl (.tmp 11) (.tmp 16) 43 61 (.agg #[(.int .u64 0),(.int .u64 0)]) 16 rfl Try.underlying43 info61 rfl (by decide) (by omega) u3 x3_1 (⟨(zu l0 x4_1).f0,(zu l0 x4_1).f1⟩ : S61) [.int .u64 ((zu l0 x4_1).f0),.int .u64 ((zu l0 x4_1).f1)] (fun _=>True) (fun _=>False) rfl rfl ?aP (fun _ hk=>hk.elim) ?aF ?aO ?aB ?aS ?aL ?_;(case aP=>exact z3Q _ _ _ (⟨(zu l0 x4_1).f0,(zu l0 x4_1).f1⟩ : S61));(case aB=>exact (by repeat (first|(with_reducible first|exact HB.out|apply z2|apply z0|apply z1)|exact HB.out)));(case aF=>exact (fun _ _=>trivial));(case aO=>exact (by (with_reducible repeat (first|apply Kd.zl|apply Kd.zm|apply Kd.zw));exact HO_3.out));(case aS=>exact (zc (by repeat (first|(with_reducible first|exact HB.out|apply z2|apply z0|apply z1)|exact HB.out))));(case aL=>have:=LMc4.out;omega);intro v103 w5 ho hb hg hat;rw [← Ny102.out] at ho;have n0_:=z3.mk (hb);have n1_:=z3.mk (ho);clear HB;clear HO_3;have HB:=n0_;have HO104:=n1_;clear n0_ n1_;clear ho hb hg hat))
   go_roundg k1
   case measure=>have:=HK1.out;omega
   case rel=>exact ⟨(y102),(wrap64 (x4_1 + 1)),(by first|rfl|(simp;done)|(simp [*];done)),H',⟨by have:=HK1.out;omega⟩,⟨by (with_reducible repeat (first|apply Kd.zl|apply Kd.zm|apply Kd.zw));exact HO104.out⟩,⟨by repeat (first|(with_reducible first|exact HB.out|apply z2|apply z0|apply z1)|exact HB.out)⟩⟩
end Go.Proofs.Ytngcaphdkgihmaa.P
namespace Go.Proofs.Ytngcaphdkgihmaa.P
open Go.RowKit Go.Proofs.YtngcaphdkgihmaaW.PrintWords Go.Proofs.YtngcaphdkgihmaaW.PrintLast Go.Proofs.YtngcaphdkgihmaaW.PrintMore
attribute [local go_sem] zU zW z15 z16 zQ zR zV zX   -- for this text's walks alone
set_option linter.unusedVariables false
set_option linter.unusedSimpArgs false
theorem eqA61 (d : Nat) (w : World) (x0 y0 : Int) (x1 y1 : Int) :
 (Op.equalIn (d + 2) 61 (.agg #[.int .u64 x0,.int .u64 x1]) (.agg #[.int .u64 y0,.int .u64 y1])).run Try.prog w = .ok (x0 == y0 && (x1 == y1)) w:=by
 refine eqA_of Try.underlying61 (by kernel_rfl) ?_
 refine z4D (by rfl) (by go_simp;rfl) (by go_simp;rfl) (by go_simp) ?_
 exact z4E (by rfl) (by go_simp;rfl) (by go_simp;rfl) (by go_simp)
end Go.Proofs.Ytngcaphdkgihmaa.P
namespace Go.Proofs.Ytngcaphdkgihmaa.P
open Go.RowKit Go.Proofs.YtngcaphdkgihmaaW.PrintWords Go.Proofs.YtngcaphdkgihmaaW.PrintLast Go.Proofs.YtngcaphdkgihmaaW.PrintMore
attribute [local go_sem] zU zW z15 z16 zQ zR zV zX   -- for this text's walks alone
set_option linter.unusedVariables false
set_option linter.unusedSimpArgs false
attribute [local go_sem high] eqA61
def zD.l0 : Nat → List (S51) → List (S61) → Int → Option (Bool)
 | 0,_,_,_=>none
 | k + 1,x0,x1,x5=>if x5 < (x0.length : Int) then (if 0 ≤ x5 then (if x5 < (x1.length : Int) then (if (!(((zu x0 x5).f0) == ((z14 x1 x5).f0)) || (!(((zu x0 x5).f1) == ((z14 x1 x5).f1)))) = true then (some false) else (zD.l0 k x0 x1 (wrap64 (x5 + 1)))) else (none)) else (none)) else (some true)
def zD.f (k : Nat) (l0 : List (S51)) (l1 : List (S61)) : Option (Bool):=if (l0.length : Int) = (l1.length : Int) then (zD.l0 k l0 l1 0) else (some false)
theorem zD.z12 : ∀ k,(∀ y0 y1 y2,LeO (zD.l0 k y0 y1 y2) (zD.l0 (k + 1) y0 y1 y2))
 | 0=>fun _ _ _ r h=>by simp [zD.l0] at h
 | k + 1=>by
  have ih0:=zD.z12 k
  · intro y0 y1 y2
    unfold zD.l0
    repeat' first
    | (with_reducible exact ih0 _ _ _)
    | (with_reducible exact LeO.refl _)
    | (with_reducible exact LeO.none _)
    | (with_reducible refine LeO.ite ?_ ?_)
    | (with_reducible refine LeO.bind ?_ (fun _=>?_))
    | exact ih0 _ _ _
    | exact LeO.none _
    | refine LeO.ite ?_ ?_
    | refine LeO.bind ?_ (fun _=>?_)
theorem zD.mono : ∀ a0 a1 k,LeO (zD.f k a0 a1) (zD.f (k + 1) a0 a1):=by
 intro a0 a1 k
 have ih0:=zD.z12 k
 unfold zD.f
 repeat' first
  | (with_reducible exact ih0 _ _ _)
  | (with_reducible exact LeO.refl _)
  | (with_reducible exact LeO.none _)
  | (with_reducible refine LeO.ite ?_ ?_)
  | (with_reducible refine LeO.bind ?_ (fun _=>?_))
  | exact ih0 _ _ _
  | exact LeO.none _
  | refine LeO.ite ?_ ?_
  | refine LeO.bind ?_ (fun _=>?_)
set_option maxHeartbeats 8000000 in
set_option maxRecDepth 100000 in
theorem zD.calls (k : Nat) (A0 : Option Addr) (c0 : Nat) (l0 : List (S51)) (A1 : Option Addr) (c1 : Nat) (l1 : List (S61)) (r : Bool) (w : World) (hr0 : Kd.C k51 w A0 l0.length l0) (hc0 : l0.length ≤ c0) (hr1 : Kd.C k61 w A1 l1.length l1) (hc1 : l1.length ≤ c1) (h : zD.f k l0 l1 = some r) :
 Calls Try.prog 25 #[.slice A0 l0.length c0,.slice A1 l1.length c1] w fun e w'=>e = .returned (.bool r) ∧ Drawn0 w w':=by
 have hu51:=Try.underlying51
 have hu61:=Try.underlying61
 have HR0:=z3.mk hr0
 have HC0:=z3.mk hc0
 clear hr0 hc0
 have HR1:=z3.mk hr1
 have HC1:=z3.mk hc1
 clear hr1 hc1
 have H : (if (l0.length : Int) = (l1.length : Int) then (zD.l0 k l0 l1 0) else (some false)) = some r:=h
 clear h
 by_cases c3 : (l0.length : Int) = (l1.length : Int)
 rotate_left
 · rw [if_neg c3] at H
   have c3b0 : ((l0.length : Int) == (l1.length : Int)) = false:=beq_eq_false_iff_ne.mpr c3
   have c3b1 : ((l0.length : Int) != (l1.length : Int)) = true:=bne_iff_ne.mpr c3
   have c3b2 : (l0.length == l1.length) = false:=by first|simpa using c3|(simp at c3 ⊢;omega)
   obtain rfl:=Option.some.inj H
   go_enter Try.func25,Try.ntmps25
   go_wp2
   repeat (go_quiet (fail);try go_wp2)
   go_ret
   exact ⟨by first|rfl|(simp;done)|(simp [*];done),by repeat (first|exact Drawn0.refl _|apply Drawn0.step)⟩
 rw [if_pos c3] at H
 have c3b0 : ((l0.length : Int) == (l1.length : Int)) = true:=beq_iff_eq.mpr c3
 have c3b1 : ((l0.length : Int) != (l1.length : Int)) = false:=bne_eq_false_iff_eq.mpr c3
 have c3b2 : (l0.length == l1.length) = true:=by first|simpa using c3|(simp at c3 ⊢;omega)
 clear c3
 have H':=z3.mk H
 clear H
 go_enter Try.func25,Try.ntmps25
 go_wp2
 repeat (go_quiet (fail);try go_wp2)
 go_loopg [5] k (fun kq v5 w'=>∃ (x5_1 : Int),v5 = .int .i64 x5_1 ∧ z3 (zD.l0 kq l0 l1 x5_1 = some r) ∧ z3 (kq ≤ k) ∧ Drawn0 w w')
 case atStart=>exact ⟨(0),(by first|rfl|(simp;done)|(simp [*];done)),H',⟨Nat.le_refl _⟩,by repeat (first|exact Drawn0.refl _|apply Drawn0.step)⟩
 case round =>
  clear H'
  (try clear c1);(try clear c2);(try clear p2);(try clear c3);(try clear c3b0);(try clear c3b1);(try clear c3b2)
  obtain ⟨x5_1,rfl,HA,HK1,⟨m1,rfl⟩⟩:=hrel
  cases gk with
  | zero=>exact absurd HA.out (by simp [zD.l0])
  | succ k1 =>
   have H:=HA.out
   clear HA
   simp only [zD.l0] at H
   by_cases c4 : x5_1 < (l0.length : Int)
   rotate_left
   · rw [if_neg c4] at H
     have c4b0 : decide (x5_1 < (l0.length : Int)) = false:=decide_eq_false c4
     clear c4
     obtain rfl:=Option.some.inj H
     go_wp2
     repeat (go_quiet (fail);try go_wp2)
     go_ret
     exact ⟨by first|rfl|(simp;done)|(simp [*];done),by repeat (first|exact Drawn0.refl _|apply Drawn0.step)⟩
   rw [if_pos c4] at H
   have c4b0 : decide (x5_1 < (l0.length : Int)) = true:=decide_eq_true c4
   clear c4
   by_cases c5 : 0 ≤ x5_1
   rotate_left
   · rw [if_neg c5] at H
     exact absurd H (by simp)
   rw [if_pos c5] at H
   have c5b0 : decide (0 ≤ x5_1) = true:=decide_eq_true c5
   clear c5
   by_cases c6 : x5_1 < (l1.length : Int)
   rotate_left
   · rw [if_neg c6] at H
     exact absurd H (by simp)
   rw [if_pos c6] at H
   have c6b0 : decide (x5_1 < (l1.length : Int)) = true:=decide_eq_true c6
   clear c6
   by_cases c7 : (!(((zu l0 x5_1).f0) == ((z14 l1 x5_1).f0)) || (!(((zu l0 x5_1).f1) == ((z14 l1 x5_1).f1)))) = true
   · rw [if_pos c7] at H
     have c7b0 : (!(((zu l0 x5_1).f0) == ((z14 l1 x5_1).f0)) || (!(((zu l0 x5_1).f1) == ((z14 l1 x5_1).f1)))) = true:=c7
     clear c7
     obtain rfl:=Option.some.inj H
     have p101 : 0 ≤ (x5_1 : Int):=of_decide_eq_true (by first|(with_reducible assumption)|assumption)
     have q101 : x5_1 < (l0.length : Int):=of_decide_eq_true (by first|(with_reducible assumption)|assumption)
     obtain ⟨ad101,e101,hx101_0,hx101_1⟩:=z29 HR0.out x5_1 p101 q101
     cases e101
     replace p101:=eq_true p101
     replace q101:=eq_true q101
     have p102 : 0 ≤ (x5_1 : Int):=of_decide_eq_true (by first|(with_reducible assumption)|assumption)
     have q102 : x5_1 < (l1.length : Int):=of_decide_eq_true (by first|(with_reducible assumption)|assumption)
     obtain ⟨ad102,e102,hx102_0,hx102_1⟩:=z2S HR1.out x5_1 p102 q102
     cases e102
     replace p102:=eq_true p102
     replace q102:=eq_true q102
     go_wp2
     repeat (go_quiet (fail);try go_wp2)
     go_ret
     exact ⟨by first|rfl|(simp;done)|(simp [*];done),by repeat (first|exact Drawn0.refl _|apply Drawn0.step)⟩
   rw [if_neg c7] at H
   have c7b0 : (!(((zu l0 x5_1).f0) == ((z14 l1 x5_1).f0)) || (!(((zu l0 x5_1).f1) == ((z14 l1 x5_1).f1)))) = false:=by simpa using c7
   clear c7
   have H':=z3.mk H
   clear H
   have p101 : 0 ≤ (x5_1 : Int):=of_decide_eq_true (by first|(with_reducible assumption)|assumption)
   have q101 : x5_1 < (l0.length : Int):=of_decide_eq_true (by first|(with_reducible assumption)|assumption)
   obtain ⟨ad101,e101,hx101_0,hx101_1⟩:=z29 HR0.out x5_1 p101 q101
   cases e101
   replace p101:=eq_true p101
   replace q101:=eq_true q101
   have p102 : 0 ≤ (x5_1 : Int):=of_decide_eq_true (by first|(with_reducible assumption)|assumption)
   have q102 : x5_1 < (l1.length : Int):=of_decide_eq_true (by first|(with_reducible assumption)|assumption)
   obtain ⟨ad102,e102,hx102_0,hx102_1⟩:=z2S HR1.out x5_1 p102 q102
   cases e102
   replace p102:=eq_true p102
   replace q102:=eq_true q102
   go_wp2
   repeat (go_quiet (fail);try go_wp2)
   go_roundg k1
   case measure=>have:=HK1.out;omega
   case rel=>exact ⟨(wrap64 (x5_1 + 1)),(by first|rfl|(simp;done)|(simp [*];done)),H',⟨by have:=HK1.out;omega⟩,by repeat (first|exact Drawn0.refl _|apply Drawn0.step)⟩
end Go.Proofs.Ytngcaphdkgihmaa.P
/- Lists of elements: which are of a level, the same ones, the document's. Own text. -/
namespace Go.Proofs.Ytngcaphdkgihmaa.Sp
open Go.RowKit Go.Proofs.YtngcaphdkgihmaaW.PrintWords Go.Proofs.YtngcaphdkgihmaaW.PrintMore Go.Proofs.Ytngcaphdkgihmaa.P Go.Proofs.Ytngcaphdkgihmaa.Ar Go.Proofs.Ytngcaphdkgihmaa.Tw
set_option linter.unusedVariables false
set_option linter.unusedSimpArgs false
/-- Is there such a level? -/
def LvS (L : Int) : Prop := 0 ≤ L ∧ L ≤ 7
instance (L : Int) : Decidable (LvS L) := by unfold LvS; infer_instance
theorem z4W {L : Int} (h : ¬ LvS L) : Ev (fun k => zI.f k L) 0 := by
  unfold zI.f
  by_cases h0 : L < 0
  · exact Ev.pos h0 (Ev.step (fun k => by rw [zI.j0]) (Ev.pos rfl (Ev.ret _)))
  · rw [decide_eq_true (show L > 7 by unfold LvS at h; omega)]
    exact Ev.neg h0 (Ev.step (fun k => by rw [zI.j0]) (Ev.pos rfl (Ev.ret _)))
theorem z5T {L : Int} (h : LvS L) : ∃ v, v ≠ 0 ∧ Ev (fun k => zI.f k L) v := by
  obtain ⟨h0, h7⟩ := h
  obtain ⟨l, rfl⟩ := Int.eq_ofNat_of_zero_le h0
  have hstep : ∀ v, Ev (fun k => zI.j0 k (l : Int) false) v → Ev (fun k => zI.f k (l : Int)) v := by
    intro v hv
    unfold zI.f
    rw [decide_eq_false (show ¬ ((l : Int) > 7) by omega)]
    exact Ev.neg (by omega) hv
  by_cases c : (l : Int) ≤ 3
  · exact ⟨1, by decide, hstep 1 (Ev.step (fun k => by rw [zI.j0]) (Ev.neg (by decide) (Ev.pos c (Ev.ret _))))⟩
  · have e : wrap64 ((l : Int) - 3) = ((l - 3 : Nat) : Int) := by rw [z1J (by omega) (by omega)]; omega
    refine ⟨((2 ^ (l - 3) : Nat) : Int), by have := Nat.two_pow_pos (l - 3); omega, hstep _ (Ev.step (fun k => by rw [zI.j0]) (Ev.neg (by decide) (Ev.neg c ?_)))⟩
    rw [e]
    exact Ev.pos (Int.natCast_nonneg _) (Ev.ret' (z3k (l - 3) (by omega)))
theorem rdL (l : Nat) (h : l ≤ 7) : rd ([1, 2, 4, 8, 16, 32, 64, 128] : List Int) (l : Int) = ((2 ^ l : Nat) : Int) := by
  have : ∀ m, m ≤ 7 → rd ([1, 2, 4, 8, 16, 32, 64, 128] : List Int) ((m : Nat) : Int) = ((2 ^ m : Nat) : Int) := by decide
  exact this l h
theorem z3a (a n : Nat) (ha : a < 2 ^ 64) (hn : n ≤ 64) : Go.bits .and .u64 (shr .u64 (a : Int) (n : Int)) 1 = if a.testBit n then 1 else 0 := by
  rw [z2u a n hn]
  have hd : a / 2 ^ n < 2 ^ 64 := Nat.lt_of_le_of_lt (Nat.div_le_self _ _) ha
  rw [show (1 : Int) = ((1 : Nat) : Int) from rfl, z1T _ 1 hd (by decide), Nat.and_one_is_mod, Nat.testBit_eq_decide_div_mod_eq]
  by_cases c : a / 2 ^ n % 2 = 1
  · rw [c]; simp
  · rw [show a / 2 ^ n % 2 = 0 by omega]; simp
theorem z5L (x : E) (n : Nat) (hn : n < 128) : z1k.f (hi x) (lo x) (n : Int) = some (if (val x).testBit n then 1 else 0) := by
  have hx1 := z18 x.1
  have hx2 := z18 x.2
  have hQ : Q 6 = 2 ^ 64 := rfl
  rw [hQ] at hx1 hx2
  have hv : val x = 2 ^ 64 * val x.1 + val x.2 := by rw [z1s, hQ, Nat.mul_comm]
  unfold z1k.f
  rw [hv, Nat.testBit_two_pow_mul_add _ hx2]
  unfold hi lo
  by_cases c : n < 64
  · have e : IntKind.u64.wrap (n : Int) = (n : Int) := z2b (by omega) (by omega)
    rw [if_neg (by omega), e, if_pos (Int.natCast_nonneg _), z3a _ _ hx2 (by omega), if_pos c]
  · have e : IntKind.u64.wrap (wrap64 ((n : Int) - 64)) = ((n - 64 : Nat) : Int) := by
      rw [z1J (by omega) (by omega), z2b (by omega) (by omega)]; omega
    rw [if_pos (by omega), e, if_pos (Int.natCast_nonneg _), z3a _ _ hx1 (by omega), if_neg c]
theorem refOf_l0 (x : E) : ∀ (d n : Nat), n + d = 128 → Ev (fun k => zs.l0 k (n : Int) (hi x) (lo x)) (decide (val x < 2 ^ n)) := by
  intro d
  induction d with
  | zero =>
    intro n hn
    have : n = 128 := by omega
    subst this
    have := z18 x; rw [z37] at this
    rw [decide_eq_true this]
    exact Ev.step (fun k => by rw [zs.l0]) (Ev.neg (by decide) (Ev.ret _))
  | succ d ih =>
    intro n hn
    have hn' : n < 128 := by omega
    refine Ev.step (fun k => by rw [zs.l0]) (Ev.pos (by omega) (Ev.bnd0 (z5L x n hn') ?_))
    simp only [z1v hn' (show 128 ≤ 4611686018427387904 by decide)]
    cases c : (val x).testBit n with
    | true =>
      refine Ev.pos (by simp) (Ev.ret' ?_)
      symm; rw [decide_eq_false_iff_not]
      intro h; rw [Nat.testBit_lt_two_pow h] at c; cases c
    | false =>
      refine Ev.neg (by simp) ?_
      have hih := ih (n + 1) (by omega)
      have e : decide (val x < 2 ^ (n + 1)) = decide (val x < 2 ^ n) := by
        rw [decide_eq_decide]
        constructor
        · intro h
          apply Nat.lt_pow_two_of_testBit
          intro i hi
          by_cases e : i = n
          · rw [e]; exact c
          · exact Nat.testBit_lt_two_pow (Nat.lt_of_lt_of_le h (Nat.pow_le_pow_right (by decide) (by omega)))
        · intro h; exact Nat.lt_of_lt_of_le h (Nat.pow_le_pow_right (by decide) (by omega))
      rw [← e]; exact hih
theorem refOf_ev (L : Int) (x : E) : Ev (fun k => zs.f k L (hi x) (lo x)) (decide (OfS L x)) := by
  unfold zs.f
  refine Ev.bnd0 (a := ([1, 2, 4, 8, 16, 32, 64, 128] : List Int)) rfl ?_
  by_cases h0 : L < 0
  · refine Ev.pos h0 (Ev.step (fun k => by rw [zs.j0]) (Ev.pos rfl (Ev.ret' ?_)))
    symm; rw [decide_eq_false_iff_not]; rintro ⟨h, _⟩; omega
  refine Ev.neg h0 ?_
  by_cases h7 : L > 7
  · rw [decide_eq_true h7]
    refine Ev.step (fun k => by rw [zs.j0]) (Ev.pos rfl (Ev.ret' ?_))
    symm; rw [decide_eq_false_iff_not]; rintro ⟨_, h, _⟩; omega
  rw [decide_eq_false h7]
  obtain ⟨l, rfl⟩ := Int.eq_ofNat_of_zero_le (show 0 ≤ L by omega)
  refine Ev.step (fun k => by rw [zs.j0]) (Ev.neg (by decide) (Ev.pos (Int.natCast_nonneg _) (Ev.pos (by simp; omega) ?_)))
  rw [rdL l (by omega)]
  have hp : 2 ^ l ≤ 128 := Nat.pow_le_pow_right (n := 2) (by decide) (show l ≤ 7 by omega)
  have := refOf_l0 x (128 - 2 ^ l) (2 ^ l) (by omega)
  have e : decide (val x < 2 ^ 2 ^ l) = decide (OfS (l : Int) x) := by
    rw [decide_eq_decide]; unfold OfS InL Q; rw [Int.toNat_natCast]
    exact ⟨fun h => ⟨by omega, by omega, h⟩, fun h => h.2.2⟩
  rw [← e]; exact this
/-- All of a level. -/
def AllS (L : Int) (X : List E) : Prop := ∀ x ∈ X, OfS L x
instance (L : Int) (X : List E) : Decidable (AllS L X) := by unfold AllS; infer_instance
theorem z5l {L : Int} {X : List E} {i : Nat} (h : i < X.length) : AllS L (X.drop i) ↔ OfS L (X.getD i 0) ∧ AllS L (X.drop (i + 1)) := by
  rw [List.drop_eq_getElem_cons h]
  have : X.getD i 0 = X[i] := by rw [List.getD_eq_getElem?_getD, List.getElem?_eq_getElem h]; rfl
  rw [this]
  exact List.forall_mem_cons
theorem All_l0 (L : Int) (X : List E) (hX : X.length ≤ 1000000) : ∀ (d i : Nat), i + d = X.length → Ev (fun k => zn.l0 k L (X.map toR) (i : Int)) (decide (AllS L (X.drop i))) := by
  intro d
  induction d with
  | zero =>
    intro i hi
    refine Ev.step (fun k => by rw [zn.l0]) (Ev.neg (by rw [List.length_map]; omega) (Ev.ret' ?_))
    symm; rw [decide_eq_true_eq, List.drop_eq_nil_of_le (by omega)]
    intro x hx; cases hx
  | succ d ih =>
    intro i hi
    have hi' : i < X.length := by omega
    refine Ev.step (fun k => by rw [zn.l0]) (Ev.pos (by rw [List.length_map]; omega) (Ev.pos (Int.natCast_nonneg _) ?_))
    simp only [rdR, z4S, z4T, z1v hi' (show X.length ≤ 4611686018427387904 by omega)]
    refine Ev.bnd (refOf_ev L _) ?_
    have hd := z5l (L := L) hi'
    by_cases c : OfS L (X.getD i 0)
    · refine Ev.pos (decide_eq_true c) ((ih (i + 1) (by omega)).eqn ?_)
      rw [decide_eq_decide, hd]; exact ⟨fun h => ⟨c, h⟩, fun h => h.2⟩
    · refine Ev.neg (by simpa using c) (Ev.ret' ?_)
      symm; rw [decide_eq_false_iff_not, hd]; exact fun h => c h.1
theorem All_ev (L : Int) (X : List E) (hX : X.length ≤ 1000000) : Ev (fun k => zn.f k L (X.map toR)) (decide (AllS L X)) := All_l0 L X hX X.length 0 (by omega)
theorem z3R {α β : Type} (f : α → β) (X : List α) (d : α) (i : Nat) (h : i < X.length) : (X.take (i + 1)).map f = (X.take i).map f ++ [f (X.getD i d)] := by
  rw [List.take_succ_eq_append_getElem h, List.map_append]
  have : X.getD i d = X[i] := by rw [List.getD_eq_getElem?_getD, List.getElem?_eq_getElem h]; rfl
  rw [this]; rfl
theorem Ref_l0 (X : List E) (hX : X.length ≤ 1000000) : ∀ (d i : Nat), i + d = X.length → Ev (fun k => zF.l0 k (X.map toS) ((X.take i).map toR) (i : Int)) (X.map toR) := by
  intro d
  induction d with
  | zero =>
    intro i hi
    refine Ev.step (fun k => by rw [zF.l0]) (Ev.neg (by rw [List.length_map]; omega) (Ev.ret' ?_))
    rw [List.take_of_length_le (by omega)]
  | succ d ih =>
    intro i hi
    have hi' : i < X.length := by omega
    refine Ev.step (fun k => by rw [zF.l0]) (Ev.pos (by rw [List.length_map]; omega) (Ev.pos (Int.natCast_nonneg _) (Ev.pos (by rw [List.length_map, List.length_take]; omega) ?_)))
    simp only [rdS, z3D, z3E, z1v hi' (show X.length ≤ 4611686018427387904 by omega)]
    have hih := ih (i + 1) (by omega)
    rw [z3R toR X 0 i hi'] at hih
    exact hih
theorem Ref_ev (X : List E) (hX : X.length ≤ 1000000) : Ev (fun k => zF.f k (X.map toS)) (X.map toR) := Ref_l0 X hX X.length 0 (by omega)
theorem Same_l0 (X Y : List E) (hl : X.length = Y.length) (hX : X.length ≤ 1000000) : ∀ (d i : Nat), i + d = X.length → (∀ j, j < i → X.getD j 0 = Y.getD j 0) → Ev (fun k => zD.l0 k (X.map toS) (Y.map toR) (i : Int)) (decide (X = Y)) := by
  intro d
  induction d with
  | zero =>
    intro i hi h
    refine Ev.step (fun k => by rw [zD.l0]) (Ev.neg (by rw [List.length_map]; omega) (Ev.ret' ?_))
    symm; rw [decide_eq_true_eq]
    apply List.ext_getElem hl
    intro j h1 h2
    have := h j (by omega)
    simpa [List.getD_eq_getElem?_getD, h1, h2] using this
  | succ d ih =>
    intro i hid h
    have hi' : i < X.length := by omega
    refine Ev.step (fun k => by rw [zD.l0]) (Ev.pos (by rw [List.length_map]; omega) (Ev.pos (Int.natCast_nonneg _) (Ev.pos (by rw [List.length_map]; omega) ?_)))
    simp only [rdS, rdR, z3D, z3E, z4S, z4T, z1v hi' (show X.length ≤ 4611686018427387904 by omega)]
    by_cases c : X.getD i 0 = Y.getD i 0
    · refine Ev.neg (by rw [c]; simp) (ih (i + 1) (by omega) (fun j hj => ?_))
      by_cases e : j = i
      · rw [e]; exact c
      · exact h j (by omega)
    · refine Ev.pos ?_ (Ev.ret' ?_)
      · simp only [Bool.or_eq_true, Bool.not_eq_true', beq_eq_false_iff_ne]
        by_cases e : hi (X.getD i 0) = hi (Y.getD i 0)
        · right; intro e2; exact c (z4J e e2)
        · left; exact e
      · symm; rw [decide_eq_false_iff_not]
        rintro rfl; exact c rfl
theorem Same_ev (X Y : List E) (hX : X.length ≤ 1000000) : Ev (fun k => zD.f k (X.map toS) (Y.map toR)) (decide (X = Y)) := by
  unfold zD.f
  by_cases h : X.length = Y.length
  · exact Ev.pos (by rw [List.length_map, List.length_map]; omega) (Same_l0 X Y h hX X.length 0 (by omega) (fun j hj => by omega))
  · refine Ev.neg (by rw [List.length_map, List.length_map]; omega) (Ev.ret' ?_)
    symm; rw [decide_eq_false_iff_not]
    rintro rfl; exact h rfl
/-- The same element? as the program asks. -/
theorem eq_pair (x y : E) : (hi x == hi y && (lo x == lo y)) = decide (x = y) := by
  rw [Bool.eq_iff_iff, Bool.and_eq_true, beq_iff_eq, beq_iff_eq, decide_eq_true_eq]
  exact ⟨fun h => z4J h.1 h.2, fun h => by rw [h]; exact ⟨rfl, rfl⟩⟩
theorem eq_none (x : E) : (hi x == 0 && (lo x == 0)) = decide (x = 0) := by
  rw [← eq_pair, z2o, z2q]
end Go.Proofs.Ytngcaphdkgihmaa.Sp
namespace Go.Proofs.Ytngcaphdkgihmaa.P
open Go.RowKit Go.Proofs.YtngcaphdkgihmaaW.PrintWords Go.Proofs.YtngcaphdkgihmaaW.PrintLast Go.Proofs.YtngcaphdkgihmaaW.PrintMore
attribute [local go_sem] zU zW z15 z16 zQ zR zV zX   -- for this text's walks alone
set_option linter.unusedVariables false
set_option linter.unusedSimpArgs false
mutual
def zv.l0 : Nat → Int → Int → List (S51) → List (S51) → Int → Int → Option ((List (S51)) × Int)
 | 0,_,_,_,_,_,_=>none
 | k + 1,x0,x1,x9,x23,x24,x25=>if x25 < x24 then (if 0 ≤ x25 then (if x25 < (x23.length : Int) then (if 0 ≤ (wrap64 (x1 - x0)) then (zv.l1 k x0 x1 x9 x23 x24 x25 (shl .i64 1 (wrap64 (x1 - x0))) 0 ((zu x23 x25).f0) ((zu x23 x25).f1)) else (none)) else (none)) else (none)) else (some (x9,0))
def zv.l1 : Nat → Int → Int → List (S51) → List (S51) → Int → Int → Int → Int → Int → Int → Option ((List (S51)) × Int)
 | 0,_,_,_,_,_,_,_,_,_,_=>none
 | k + 1,x0,x1,x9,x23,x24,x25,x32,x33,x105000,x105001=>if x33 < x32 then (if 0 ≤ x0 then ((z1e.f x105000 x105001 (shl .i64 x33 x0)).bind fun bt105=>((z1h.f x0 bt105.1 bt105.2).bind fun bt107=>(if x9.length < 8796093022208 then (zv.l1 k x0 x1 (x9 ++ [(⟨bt107.1,bt107.2⟩ : S51)]) x23 x24 x25 x32 (wrap64 (x33 + 1)) x105000 x105001) else (none)))) else (none)) else (zv.l0 k x0 x1 x9 x23 x24 (wrap64 (x25 + 1)))
end
def zv.f (k : Nat) (a0 : Int) (a1 : Int) (l2 : List (S51)) : Option ((List (S51)) × Int):=(z13.f k a0 a1).bind fun t101=>(if t101 = 0 then ((zP.f k a1 l2).bind fun t102=>(if t102 = true then (zv.l0 k a0 a1 ([] : List (S51)) l2 (l2.length : Int) 0) else (some (([] : List (S51)),5)))) else (some (([] : List (S51)),t101)))
theorem zv.z12 : ∀ k,(∀ y0 y1 y2 y3 y4 y5,LeO (zv.l0 k y0 y1 y2 y3 y4 y5) (zv.l0 (k + 1) y0 y1 y2 y3 y4 y5)) ∧ (∀ y0 y1 y2 y3 y4 y5 y6 y7 y8 y9,LeO (zv.l1 k y0 y1 y2 y3 y4 y5 y6 y7 y8 y9) (zv.l1 (k + 1) y0 y1 y2 y3 y4 y5 y6 y7 y8 y9))
 | 0=>⟨fun _ _ _ _ _ _ r h=>by simp [zv.l0] at h,fun _ _ _ _ _ _ _ _ _ _ r h=>by simp [zv.l1] at h⟩
 | k + 1=>by
  obtain ⟨ih0,ih1⟩:=zv.z12 k
  refine ⟨?_,?_⟩
  · intro y0 y1 y2 y3 y4 y5
    unfold zv.l0
    repeat' first
    | (with_reducible exact ih0 _ _ _ _ _ _)
    | (with_reducible exact ih1 _ _ _ _ _ _ _ _ _ _)
    | (with_reducible exact z13.mono _ _ _)
    | (with_reducible exact zP.mono _ _ _)
    | (with_reducible exact LeO.refl _)
    | (with_reducible exact LeO.none _)
    | (with_reducible refine LeO.ite ?_ ?_)
    | (with_reducible refine LeO.bind ?_ (fun _=>?_))
    | exact ih0 _ _ _ _ _ _
    | exact ih1 _ _ _ _ _ _ _ _ _ _
    | exact z13.mono _ _ _
    | exact zP.mono _ _ _
    | exact LeO.none _
    | refine LeO.ite ?_ ?_
    | refine LeO.bind ?_ (fun _=>?_)
  · intro y0 y1 y2 y3 y4 y5 y6 y7 y8 y9
    unfold zv.l1
    repeat' first
    | (with_reducible exact ih0 _ _ _ _ _ _)
    | (with_reducible exact ih1 _ _ _ _ _ _ _ _ _ _)
    | (with_reducible exact z13.mono _ _ _)
    | (with_reducible exact zP.mono _ _ _)
    | (with_reducible exact LeO.refl _)
    | (with_reducible exact LeO.none _)
    | (with_reducible refine LeO.ite ?_ ?_)
    | (with_reducible refine LeO.bind ?_ (fun _=>?_))
    | exact ih0 _ _ _ _ _ _
    | exact ih1 _ _ _ _ _ _ _ _ _ _
    | exact z13.mono _ _ _
    | exact zP.mono _ _ _
    | exact LeO.none _
    | refine LeO.ite ?_ ?_
    | refine LeO.bind ?_ (fun _=>?_)
theorem zv.mono : ∀ a0 a1 a2 k,LeO (zv.f k a0 a1 a2) (zv.f (k + 1) a0 a1 a2):=by
 intro a0 a1 a2 k
 obtain ⟨ih0,ih1⟩:=zv.z12 k
 unfold zv.f
 repeat' first
  | (with_reducible exact ih0 _ _ _ _ _ _)
  | (with_reducible exact ih1 _ _ _ _ _ _ _ _ _ _)
  | (with_reducible exact z13.mono _ _ _)
  | (with_reducible exact zP.mono _ _ _)
  | (with_reducible exact LeO.refl _)
  | (with_reducible exact LeO.none _)
  | (with_reducible refine LeO.ite ?_ ?_)
  | (with_reducible refine LeO.bind ?_ (fun _=>?_))
  | exact ih0 _ _ _ _ _ _
  | exact ih1 _ _ _ _ _ _ _ _ _ _
  | exact z13.mono _ _ _
  | exact zP.mono _ _ _
  | exact LeO.none _
  | refine LeO.ite ?_ ?_
  | refine LeO.bind ?_ (fun _=>?_)
def zv.T13 : Bool × List (List Nat × List Nat):=(true,[([],[]),([],[]),([],[]),([],[]),([],[]),([3,4],[3,4]),([2,5],[2,5]),([1,6,6],[1,6]),([7],[7]),([0,8,7],[0,8]),([9,9,0,1,2,3,4,5,6,7,8,9],[0,9])])
def zv.B13 : List Nat:=[0,0,0,0,0,24,60,126,254,511,1023]
theorem zv.tab13 : rtab .any (opsOf Try.f32 13) = zv.T13:=by kernel_rfl
theorem zv.bits13 : waitsOk zv.T13.2 zv.B13 = true:=by kernel_rfl
set_option maxHeartbeats 8000000 in
set_option maxRecDepth 100000 in
theorem zv.calls (k : Nat) (a0 : Int) (a1 : Int) (A2 : Option Addr) (c2 : Nat) (l2 : List (S51)) (r1 : List (S51)) (r2 : Int) (w : World) (hr2 : Kd.C k51 w A2 l2.length l2) (hc2 : l2.length ≤ c2) (h : zv.f k a0 a1 l2 = some (r1,r2)) :
 Calls Try.prog 32 #[.int .i64 a0,.int .i64 a1,.slice A2 l2.length c2] w fun e w'=>∃ v0_ : Value,e = .returned (.tuple #[v0_,.int .i64 r2]) ∧ Kd.R k51 51 w' w.heap.size (fun _=>True) v0_ r1 ∧ Below w.heap.size w w':=by
 have hu51:=Try.underlying51
 have HR2:=z3.mk hr2
 have HC2:=z3.mk hc2
 clear hr2 hc2
 have HB:=z3.mk (Below.refl w.heap.size w)
 have H : ((z13.f k a0 a1).bind fun t101=>(if t101 = 0 then ((zP.f k a1 l2).bind fun t102=>(if t102 = true then (zv.l0 k a0 a1 ([] : List (S51)) l2 (l2.length : Int) 0) else (some (([] : List (S51)),5)))) else (some (([] : List (S51)),t101)))) = some (r1,r2):=h
 clear h
 replace H:=Option.bind_eq_some_iff.mp H
 obtain ⟨t101,A40,H⟩:=H
 replace H : (if t101 = 0 then ((zP.f k a1 l2).bind fun t102=>(if t102 = true then (zv.l0 k a0 a1 ([] : List (S51)) l2 (l2.length : Int) 0) else (some (([] : List (S51)),5)))) else (some (([] : List (S51)),t101))) = some (r1,r2):=H
 have A4:=z3.mk A40
 clear A40
 by_cases c5 : t101 = 0
 rotate_left
 · rw [if_neg c5] at H
   have c5b0 : (t101 == 0) = false:=beq_eq_false_iff_ne.mpr c5
   have c5b1 : (t101 != 0) = true:=bne_iff_ne.mpr c5
   simp only [Option.some.injEq,Prod.mk.injEq] at H
   obtain ⟨rfl,rfl⟩:=H
   go_enter Try.func32,Try.ntmps32
   go_wp2_with (first|((with_reducible refine zq (f:=69) rfl ?_);refine goesL_ (some 15) rfl rfl Try.func69 (by kernel_rfl) rfl #[.int .i64 a0,.int .i64 a1] rfl (by (try simp only [List.map_toArray,List.map_cons,List.map_nil]);first|done|rfl|(simp only [List.length_drop,List.length_take];rfl)) ?_;(with_reducible refine (z13.calls k a0 a1 t101 _ A4.out).mono ?_);rintro e w' ⟨rfl,⟨nd,rfl⟩⟩;refine ⟨_,rfl,?_⟩))
   go_ret2
   exact ⟨_,by first|rfl|(simp [zf,zg] <;> rfl)|(simp [*,zf,zg] <;> rfl),by first|exact Kd.z1G _ _ _ _ _|exact Kd.z1P _ _ _ _ _|exact Kd.z1S _ _ _ _ _|exact Kd.z1Q _ _ _ _ _|exact Kd.z1R _ _ _ _ _,by repeat (first|(with_reducible first|exact HB.out|apply z2|apply z0|apply z1)|exact HB.out)⟩
 rw [if_pos c5] at H
 have c5b0 : (t101 == 0) = true:=beq_iff_eq.mpr c5
 have c5b1 : (t101 != 0) = false:=bne_eq_false_iff_eq.mpr c5
 clear c5
 replace H:=Option.bind_eq_some_iff.mp H
 obtain ⟨t102,A60,H⟩:=H
 replace H : (if t102 = true then (zv.l0 k a0 a1 ([] : List (S51)) l2 (l2.length : Int) 0) else (some (([] : List (S51)),5))) = some (r1,r2):=H
 have A6:=z3.mk A60
 clear A60
 by_cases c7 : t102 = true
 rotate_left
 · replace c7:=Bool.eq_false_iff.mpr c7
   subst c7
   have H1 : (some (([] : List (S51)),5)) = some (r1,r2):=by rw [if_neg (show ¬ (false = true) by decide)] at H;exact H
   clear H
   have H:=H1
   clear H1
   simp only [Option.some.injEq,Prod.mk.injEq] at H
   obtain ⟨rfl,rfl⟩:=H
   go_enter Try.func32,Try.ntmps32
   go_wp2_with (first|((with_reducible refine zq (f:=69) rfl ?_);refine goesL_ (some 15) rfl rfl Try.func69 (by kernel_rfl) rfl #[.int .i64 a0,.int .i64 a1] rfl (by (try simp only [List.map_toArray,List.map_cons,List.map_nil]);first|done|rfl|(simp only [List.length_drop,List.length_take];rfl)) ?_;(with_reducible refine (z13.calls k a0 a1 t101 _ A4.out).mono ?_);rintro e w' ⟨rfl,⟨nd,rfl⟩⟩;refine ⟨_,rfl,?_⟩)|((with_reducible refine zq (f:=70) rfl ?_);refine goesL_ (some 21) rfl rfl Try.func70 (by kernel_rfl) rfl #[.int .i64 a1,.slice A2 l2.length c2] rfl (by (try simp only [List.map_toArray,List.map_cons,List.map_nil]);first|done|rfl|(simp only [List.length_drop,List.length_take];rfl)) ?_;(with_reducible refine (zP.calls k a1 _ _ l2 false _ ?side1 ?side2 A6.out).mono ?_);(case side1=>repeat (first|exact HR2.out|(with_reducible refine Kd.z1p ?_ _)|(with_reducible refine Kd.z1q ?_ _)|(with_reducible refine Kd.z1z ?_)));(case side2=>exact HC2.out);rintro e w27 ⟨rfl,hb⟩;refine ⟨_,rfl,?_⟩;have n0_:=z3.mk (za (by repeat (first|(with_reducible first|exact HB.out|apply z2|apply z0|apply z1)|exact HB.out)) hb);clear HB;have HB:=n0_;clear n0_;(try clear hb);(try clear hb2);(try clear hk);(try clear hi)))
   go_ret2
   exact ⟨_,by first|rfl|(simp [zf,zg] <;> rfl)|(simp [*,zf,zg] <;> rfl),by first|exact Kd.z1G _ _ _ _ _|exact Kd.z1P _ _ _ _ _|exact Kd.z1S _ _ _ _ _|exact Kd.z1Q _ _ _ _ _|exact Kd.z1R _ _ _ _ _,by repeat (first|(with_reducible first|exact HB.out|apply z2|apply z0|apply z1)|exact HB.out)⟩
 subst c7
 have H1 : (zv.l0 k a0 a1 ([] : List (S51)) l2 (l2.length : Int) 0) = some (r1,r2):=by rw [if_pos rfl] at H;exact H
 clear H
 have H:=H1
 clear H1
 have H':=z3.mk H
 clear H
 go_enter Try.func32,Try.ntmps32
 go_wp2_with (first|((with_reducible refine zq (f:=69) rfl ?_);refine goesL_ (some 15) rfl rfl Try.func69 (by kernel_rfl) rfl #[.int .i64 a0,.int .i64 a1] rfl (by (try simp only [List.map_toArray,List.map_cons,List.map_nil]);first|done|rfl|(simp only [List.length_drop,List.length_take];rfl)) ?_;(with_reducible refine (z13.calls k a0 a1 t101 _ A4.out).mono ?_);rintro e w' ⟨rfl,⟨nd,rfl⟩⟩;refine ⟨_,rfl,?_⟩)|((with_reducible refine zq (f:=70) rfl ?_);refine goesL_ (some 21) rfl rfl Try.func70 (by kernel_rfl) rfl #[.int .i64 a1,.slice A2 l2.length c2] rfl (by (try simp only [List.map_toArray,List.map_cons,List.map_nil]);first|done|rfl|(simp only [List.length_drop,List.length_take];rfl)) ?_;(with_reducible refine (zP.calls k a1 _ _ l2 true _ ?side1 ?side2 A6.out).mono ?_);(case side1=>repeat (first|exact HR2.out|(with_reducible refine Kd.z1p ?_ _)|(with_reducible refine Kd.z1q ?_ _)|(with_reducible refine Kd.z1z ?_)));(case side2=>exact HC2.out);rintro e w8 ⟨rfl,hb⟩;refine ⟨_,rfl,?_⟩;have n0_:=z3.mk (za (by repeat (first|(with_reducible first|exact HB.out|apply z2|apply z0|apply z1)|exact HB.out)) hb);clear HB;have HB:=n0_;clear n0_;(try clear hb);(try clear hb2);(try clear hk);(try clear hi)))
 go_loopg [9,25] k (fun kq v9 v25 w'=>∃ (x9_1 : List (S51)) (x25_1 : Int),v25 = .int .i64 x25_1 ∧ z3 (zv.l0 kq a0 a1 x9_1 l2 (l2.length : Int) x25_1 = some (r1,r2)) ∧ z3 (kq ≤ k) ∧ z3 (Kd.R k51 51 w' w.heap.size (fun _=>True) v9 x9_1) ∧ z3 (Below w.heap.size w w'))
 case atStart=>exact ⟨(([] : List (S51))),(0),(by first|rfl|(simp;done)|(simp [*];done)),H',⟨Nat.le_refl _⟩,⟨by first|exact Kd.z1G _ _ _ _ _|exact Kd.z1P _ _ _ _ _|exact Kd.z1S _ _ _ _ _|exact Kd.z1Q _ _ _ _ _|exact Kd.z1R _ _ _ _ _⟩,⟨by repeat (first|(with_reducible first|exact HB.out|apply z2|apply z0|apply z1)|exact HB.out)⟩⟩
 case round =>
  clear H'
  (try clear c2);(try clear p2);(try clear c3);(try clear c5);(try clear c5b0);(try clear c5b1);(try clear c6);(try clear c7)
  obtain ⟨x9_1,x25_1,rfl,HA,HK1,HO_9,HB⟩:=hrel
  cases gk with
  | zero=>exact absurd HA.out (by simp [zv.l0])
  | succ k1 =>
   have H:=HA.out
   clear HA
   simp only [zv.l0] at H
   by_cases c9 : x25_1 < (l2.length : Int)
   rotate_left
   · rw [if_neg c9] at H
     have c9b0 : decide (x25_1 < (l2.length : Int)) = false:=decide_eq_false c9
     clear c9
     simp only [Option.some.injEq,Prod.mk.injEq] at H
     obtain ⟨rfl,rfl⟩:=H
     go_wp2
     go_ret2
     exact ⟨_,by first|rfl|(simp [zf,zg] <;> rfl)|(simp [*,zf,zg] <;> rfl),by (with_reducible repeat (first|apply Kd.zl|apply Kd.zm|apply Kd.zw));exact HO_9.out,by repeat (first|(with_reducible first|exact HB.out|apply z2|apply z0|apply z1)|exact HB.out)⟩
   rw [if_pos c9] at H
   have c9b0 : decide (x25_1 < (l2.length : Int)) = true:=decide_eq_true c9
   clear c9
   by_cases c10 : 0 ≤ x25_1
   rotate_left
   · rw [if_neg c10] at H
     exact absurd H (by simp)
   rw [if_pos c10] at H
   have c10b0 : decide (0 ≤ x25_1) = true:=decide_eq_true c10
   clear c10
   by_cases c11 : x25_1 < (l2.length : Int)
   rotate_left
   · rw [if_neg c11] at H
     exact absurd H (by simp)
   rw [if_pos c11] at H
   have c11b0 : decide (x25_1 < (l2.length : Int)) = true:=decide_eq_true c11
   clear c11
   obtain ⟨ji12,hji12⟩ : ∃ j_ : Int,(wrap64 (a1 - a0)) = j_:=⟨_,rfl⟩
   replace H : (if 0 ≤ (ji12) then (zv.l1 k1 a0 a1 x9_1 l2 (l2.length : Int) x25_1 (shl .i64 1 (ji12)) 0 ((zu l2 x25_1).f0) ((zu l2 x25_1).f1)) else (none)) = some (r1,r2):=by first|(rw [hji12] at H;exact H)|(simp only [hji12] at H ⊢;exact H)
   have hji12w : (IntKind.i64.wrap (a1 - a0)) = ji12:=(zC _).trans hji12
   by_cases c13 : 0 ≤ (ji12)
   rotate_left
   · rw [if_neg c13] at H
     exact absurd H (by simp)
   rw [if_pos c13] at H
   have c13b0:=eq_true c13
   have c13b1 : decide (0 ≤ (ji12)) = true:=decide_eq_true c13
   clear c13
   obtain ⟨ji14,hji14⟩ : ∃ j_ : Int,(shl .i64 1 (ji12)) = j_:=⟨_,rfl⟩
   replace H : (zv.l1 k1 a0 a1 x9_1 l2 (l2.length : Int) x25_1 ji14 0 ((zu l2 x25_1).f0) ((zu l2 x25_1).f1)) = some (r1,r2):=by first|(rw [hji14] at H;exact H)|(simp only [hji14] at H ⊢;exact H)
   have hji14_ : (IntKind.i64.wrap (1 * 2 ^ min (ji12).toNat 64)) = ji14:=hji14
   have hji14z : (ji12) ≤ 64 → (IntKind.i64.wrap (1 * 2 ^ (ji12).toNat)) = ji14:=z19 hji14
   have hji14u : (IntKind.i64.wrap (2 ^ min (ji12).toNat 64)) = ji14:=by have h_:=hji14_;rw [Int.one_mul] at h_;exact h_
   have hji14v : (ji12) ≤ 64 → (IntKind.i64.wrap (2 ^ (ji12).toNat)) = ji14:=fun hle_=>by have h_:=hji14z hle_;rw [Int.one_mul] at h_;exact h_
   have hji14y : (wrap64 (1 * 2 ^ min (ji12).toNat 64)) = ji14:=(zC _).symm.trans hji14_
   have hji14x : (ji12) ≤ 64 → (wrap64 (1 * 2 ^ (ji12).toNat)) = ji14:=fun h_=>(zC _).symm.trans (hji14z h_)
   have H':=z3.mk H
   clear H
   have p103 : 0 ≤ (x25_1 : Int):=of_decide_eq_true (by first|(with_reducible assumption)|assumption)
   have q103 : x25_1 < (l2.length : Int):=of_decide_eq_true (by first|(with_reducible assumption)|assumption)
   obtain ⟨ad103,e103,hx103_0,hx103_1⟩:=z29 HR2.out x25_1 p103 q103
   cases e103
   replace hx103_0:=(HB.out.cell (World.block_lt_of_cell? w _ hx103_0)).trans hx103_0
   replace hx103_1:=(HB.out.cell (World.block_lt_of_cell? w _ hx103_1)).trans hx103_1
   replace p103:=eq_true p103
   replace q103:=eq_true q103
   go_wp2_with (first|((with_reducible refine zA (N:=11) rfl ?_);refine zB ?hg (N:=11) ?hd (cs:=#[.int .u64 0,.int .u64 0]) (t:=51) ?hr ?_;(case hd=>rfl);(case hg=>rfl);(case hr=>first|(go_simp;done)|(go_simp;rfl));intro gb104 hg w15 hbox hb;have n0_:=z3.mk (Kd.zz (Kd.z2d (by (with_reducible repeat (first|apply Kd.zl|apply Kd.zm|apply Kd.zw));exact HO_9.out) gb104 (Nat.le_of_eq hg.symm)) hb);have n1_:=z3.mk (za (by repeat (first|(with_reducible first|exact HB.out|apply z2|apply z0|apply z1)|exact HB.out)) hb);have n2_:=z3.mk (hbox);have n3_:=z3.mk ((by rw [hg];exact (zc (by repeat (first|(with_reducible first|exact HB.out|apply z2|apply z0|apply z1)|exact HB.out))) : w.heap.size ≤ gb104));have n4_:=z3.mk ((by rw [hg];exact (zc (by repeat (first|(with_reducible first|exact HB.out|apply z2|apply z0|apply z1)|exact HB.out))) : w.heap.size ≤ gb104));clear HO_9;clear HB;have HO_9:=n0_;have HB:=n1_;have BK104:=n2_;have GW104:=n3_;have GE104:=n4_;clear n0_ n1_ n2_ n3_ n4_;clear hb hbox hg;have hcz16_0 : w15.cell? ⟨gb104,0,none⟩ = some (.int .u64 0):=(ze BK104.out 0).trans rfl;have hcz16_1 : w15.cell? ⟨gb104,1,none⟩ = some (.int .u64 0):=(ze BK104.out 1).trans rfl;have hfz16_0:=zd BK104.out 0;have hfz16_1:=zd BK104.out 1))
   go_loopg [9,33] k1 (fun kq v9 v33 w'=>∃ (x9_2 : List (S51)) (x33_2 : Int),v33 = .int .i64 x33_2 ∧ z3 (zv.l1 kq a0 a1 x9_2 l2 (l2.length : Int) x25_1 ji14 x33_2 ((zu l2 x25_1).f0) ((zu l2 x25_1).f1) = some (r1,r2)) ∧ z3 (kq ≤ k1) ∧ z3 (Kd.R k51 51 w' w.heap.size (fun k_=>k_ ≠ gb104) v9 x9_2) ∧ z3 (w'.heap[gb104]? = some (.cells #[.int .u64 ((zu l2 x25_1).f0),.int .u64 ((zu l2 x25_1).f1)] 51 (0,0))) ∧ z3 (Below w.heap.size w w'))
   case atStart=>exact ⟨(x9_1),(0),(by first|rfl|(simp;done)|(simp [*];done)),H',⟨Nat.le_refl _⟩,⟨by (with_reducible repeat (first|apply Kd.zl|apply Kd.zm|apply Kd.zw));exact Kd.z1f (Kd.z2j (p:=⟨gb104,1,none⟩) (Kd.z2j (p:=⟨gb104,0,none⟩) (Kd.z1f HO_9.out (fun k_ hk=>(⟨hk,hk.2⟩ : _ ∧ k_ ≠ gb104))) (fun _ hk=>hk.2) (.int .u64 ((zu l2 x25_1).f0))) (fun _ hk=>hk.2) (.int .u64 ((zu l2 x25_1).f1))) (fun _ hk=>hk.1.2)⟩,⟨by (with_reducible repeat (first|refine z5 ?_ _|refine z7 ?_|refine z4 ?_ _));refine zH (cs:=#[.int .u64 ((zu l2 x25_1).f0),.int .u64 0]) ?_ 1 _ rfl;(with_reducible repeat (first|refine z5 ?_ _|refine z7 ?_|refine z4 ?_ _));refine zH (cs:=#[.int .u64 0,.int .u64 0]) ?_ 0 _ rfl;(with_reducible repeat (first|refine z5 ?_ _|refine z7 ?_|refine z4 ?_ _));exact BK104.out⟩,⟨by repeat (first|(with_reducible first|exact HB.out|apply z2|apply z0|apply z1|refine z6 ?_ GE104.out)|exact HB.out)⟩⟩
   case round =>
    clear H'
    (try clear c1);(try clear p1);(try clear q1);(try clear hx1);(try clear c2);(try clear p2);(try clear c3);(try clear c5);(try clear c5b0);(try clear c5b1);(try clear c6);(try clear p6);(try clear c7);(try clear c9);(try clear c9b0);(try clear c10);(try clear c10b0);(try clear p10);(try clear q10);(try clear hx10);(try clear c11);(try clear c11b0);(try clear c13);(try clear c13b0);(try clear c13b1);(try clear hcz16_0);(try clear hcz16_1);(try clear hfz16_0);(try clear hfz16_1);(try clear hx103_0);(try clear hx103_1);(try clear p103);(try clear p2);(try clear q103)
    obtain ⟨x9_2,x33_2,rfl,HA,HK2,HO_9,BK104,HB⟩:=hrel
    cases gk with
    | zero=>exact absurd HA.out (by simp [zv.l1])
    | succ k2 =>
     have H:=HA.out
     clear HA
     simp only [zv.l1] at H
     by_cases c17 : x33_2 < ji14
     rotate_left
     · rw [if_neg c17] at H
       have c17b0 : decide (x33_2 < ji14) = false:=decide_eq_false c17
       clear c17
       have H':=z3.mk H
       clear H
       go_wp2
       go_roundg k2
       case measure=>have:=HK1.out;have:=HK2.out;omega
       case rel=>exact ⟨(x9_2),(wrap64 (x25_1 + 1)),(by first|rfl|(simp;done)|(simp [*];done)),H',⟨by have:=HK1.out;have:=HK2.out;omega⟩,⟨by (with_reducible repeat (first|apply Kd.zl|apply Kd.zm|apply Kd.zw));exact Kd.z1f HO_9.out (fun _ hk=>trivial)⟩,⟨by repeat (first|(with_reducible first|exact HB.out|apply z2|apply z0|apply z1|refine z6 ?_ GE104.out)|exact HB.out)⟩⟩
     rw [if_pos c17] at H
     have c17b0 : decide (x33_2 < ji14) = true:=decide_eq_true c17
     clear c17
     by_cases c18 : 0 ≤ a0
     rotate_left
     · rw [if_neg c18] at H
       exact absurd H (by simp)
     rw [if_pos c18] at H
     have c18b0:=eq_true c18
     have c18b1 : decide (0 ≤ a0) = true:=decide_eq_true c18
     clear c18
     obtain ⟨ji19,hji19⟩ : ∃ j_ : Int,(shl .i64 x33_2 a0) = j_:=⟨_,rfl⟩
     replace H : ((z1e.f ((zu l2 x25_1).f0) ((zu l2 x25_1).f1) (ji19)).bind fun bt105=>((z1h.f a0 bt105.1 bt105.2).bind fun bt107=>(if x9_2.length < 8796093022208 then (zv.l1 k2 a0 a1 (x9_2 ++ [(⟨bt107.1,bt107.2⟩ : S51)]) l2 (l2.length : Int) x25_1 ji14 (wrap64 (x33_2 + 1)) ((zu l2 x25_1).f0) ((zu l2 x25_1).f1)) else (none)))) = some (r1,r2):=by first|(rw [hji19] at H;exact H)|(simp only [hji19] at H ⊢;exact H)
     have hji19_ : (IntKind.i64.wrap (x33_2 * 2 ^ min a0.toNat 64)) = ji19:=hji19
     have hji19z : a0 ≤ 64 → (IntKind.i64.wrap (x33_2 * 2 ^ a0.toNat)) = ji19:=z19 hji19
     have hji19y : (wrap64 (x33_2 * 2 ^ min a0.toNat 64)) = ji19:=(zC _).symm.trans hji19_
     have hji19x : a0 ≤ 64 → (wrap64 (x33_2 * 2 ^ a0.toNat)) = ji19:=fun h_=>(zC _).symm.trans (hji19z h_)
     replace H:=Option.bind_eq_some_iff.mp H
     obtain ⟨⟨t105,t106⟩,A200,H⟩:=H
     replace H : ((z1h.f a0 t105 t106).bind fun bt107=>(if x9_2.length < 8796093022208 then (zv.l1 k2 a0 a1 (x9_2 ++ [(⟨bt107.1,bt107.2⟩ : S51)]) l2 (l2.length : Int) x25_1 ji14 (wrap64 (x33_2 + 1)) ((zu l2 x25_1).f0) ((zu l2 x25_1).f1)) else (none))) = some (r1,r2):=H
     have A20:=z3.mk A200
     clear A200
     replace H:=Option.bind_eq_some_iff.mp H
     obtain ⟨⟨t107,t108⟩,A210,H⟩:=H
     replace H : (if x9_2.length < 8796093022208 then (zv.l1 k2 a0 a1 (x9_2 ++ [(⟨t107,t108⟩ : S51)]) l2 (l2.length : Int) x25_1 ji14 (wrap64 (x33_2 + 1)) ((zu l2 x25_1).f0) ((zu l2 x25_1).f1)) else (none)) = some (r1,r2):=H
     have A21:=z3.mk A210
     clear A210
     by_cases c22 : x9_2.length < 8796093022208
     rotate_left
     · rw [if_neg c22] at H
       exact absurd H (by simp)
     rw [if_pos c22] at H
     have LMc22:=z3.mk c22
     clear c22
     obtain ⟨y109,hy109⟩ : ∃ y_ : List (S51),y_ = (x9_2 ++ [(⟨t107,t108⟩ : S51)]):=⟨_,rfl⟩
     replace H : (zv.l1 k2 a0 a1 y109 l2 (l2.length : Int) x25_1 ji14 (wrap64 (x33_2 + 1)) ((zu l2 x25_1).f0) ((zu l2 x25_1).f1)) = some (r1,r2):=by first|(rw [hy109];with_reducible exact H)|(have H2_:=(Option.bind_some _ _).symm.trans H;rw [hy109];with_reducible exact H2_)|(have H2_:=(Option.bind_some _ _).symm.trans H;with_reducible exact H2_)|with_reducible exact H|(rw [hy109];exact H)|exact H
     have Ny109:=z3.mk hy109
     clear hy109
     have H':=z3.mk H
     clear H
     try go_wp2
     have n0_:=z3.mk (Kd.zw HO_9.out)
     have n1_:=z3.mk (z7 BK104.out)
     have n2_:=z3.mk (z1 HB.out)
     clear HO_9
     clear BK104
     clear HB
     have HO_9:=n0_
     have BK104:=n1_
     have HB:=n2_
     clear n0_ n1_ n2_
     refine start_ (n:=11) (S:=fun w'=>w'.cell? ⟨gb104,0,none⟩ = some (.int .u64 ((zu l2 x25_1).f0)) ∧ w'.cell? ⟨gb104,1,none⟩ = some (.int .u64 ((zu l2 x25_1).f1))) (ds:=[]) #[false,false,false,false,false,false,false,false,false,false,false] (by kernel_rfl) rfl rfl ⟨(ze BK104.out 0).trans rfl,(ze BK104.out 1).trans rfl⟩ (fun hHeld=>?_);refine z1D zv.tab13 zv.bits13 (fun HT_ HW_=>?_)
     generalize wr.drew = w23 at HO_9 BK104 HB hHeld ⊢
     refine pure_ (i:=0) (N:=some 36) (v:=?_) (a':=?_) #[true,false,false,false,false,false,false,false,false,false,false] rfl rfl (zO HT_.out (by kernel_rfl)) (fun _ _ _ h=>h) (Or.inl ⟨by rfl,?_⟩) ?_ ?_
     rotate_left
     · intro w'
       go_simp
       with_reducible rfl
     rotate_left
     · simp only [Act.put,List.setIfInBounds_toArray,List.set_cons_zero,List.set_cons_succ,zC,zK]
       rfl
     refine pure_ (i:=1) (N:=some 37) (v:=?_) (a':=?_) #[true,true,false,false,false,false,false,false,false,false,false] rfl rfl (zO HT_.out (by kernel_rfl)) (fun _ _ _ h=>h) (Or.inl ⟨by rfl,?_⟩) ?_ ?_
     rotate_left
     · intro w'
       go_simp
       with_reducible rfl
     rotate_left
     · simp only [Act.put,List.setIfInBounds_toArray,List.set_cons_zero,List.set_cons_succ,zC,zK]
       rfl
     refine pure_ (i:=3) (N:=some 39) (v:=?_) (a':=?_) #[true,true,false,true,false,false,false,false,false,false,false] rfl rfl (zO HT_.out (by kernel_rfl)) (fun _ _ _ h=>h) (Or.inl ⟨by rfl,?_⟩) ?_ ?_
     rotate_left
     · intro w'
       go_simp
       with_reducible rfl
     rotate_left
     · simp only [Act.put,List.setIfInBounds_toArray,List.set_cons_zero,List.set_cons_succ,zC,zK]
       rfl
     refine pure_ (i:=4) (N:=some 40) (v:=?_) (a':=?_) #[true,true,false,true,true,false,false,false,false,false,false] rfl rfl (zO HT_.out (by kernel_rfl)) (fun _ _ _ h=>h) (Or.inl ⟨by rfl,?_⟩) ?_ ?_
     rotate_left
     · intro w'
       go_simp
       with_reducible rfl
     rotate_left
     · simp only [Act.put,List.setIfInBounds_toArray,List.set_cons_zero,List.set_cons_succ,zC,zK]
       rfl
     refine pure_ (i:=5) (N:=some 41) (v:=?_) (a':=?_) #[true,true,false,true,true,true,false,false,false,false,false] rfl rfl (zO HT_.out (by kernel_rfl)) (fun _ _ _ h=>h) (Or.inl ⟨by rfl,?_⟩) ?_ ?_
     rotate_left
     · intro w'
       go_simp
       with_reducible rfl
     rotate_left
     · simp only [Act.put,List.setIfInBounds_toArray,List.set_cons_zero,List.set_cons_succ,zC,zK]
       rfl
     refine take_ (i:=2) (N:=some 38) (v:=?_) (a':=?_) #[true,true,true,true,true,true,false,false,false,false,false] rfl rfl (z1n HT_.out HW_.out (by kernel_rfl)) (fun _ _ _ h=>h) (Or.inl ⟨by rfl,?_⟩) hHeld ?_ ?_
     rotate_left
     · rintro w' ⟨s0,s1⟩
       go_simp
       with_reducible rfl
     rotate_left
     · simp only [Act.put,List.setIfInBounds_toArray,List.set_cons_zero,List.set_cons_succ,zC,zK]
       rfl
     refine one_ (i:=6) (N:=some 42) #[true,true,true,true,true,true,true,false,false,false,false] rfl rfl (z1y HT_.out (by kernel_rfl)) (by decide) (fun K hK=>?_)
     refine goes_ Try.func77 (by kernel_rfl) rfl #[.agg #[.int .u64 ((zu l2 x25_1).f0),.int .u64 ((zu l2 x25_1).f1)],.int .i64 ji19] (by rfl) rfl rfl (by (try simp only [List.map_toArray,List.map_cons,List.map_nil]);first|done|(simp only [hji19];rfl)|rfl|(simp only [List.length_drop,List.length_take];rfl)) ?_
     with_reducible refine (z1e.calls ((zu l2 x25_1).f0) ((zu l2 x25_1).f1) ji19 t105 t106 _ A20.out).mono ?_
     rintro e w24 ⟨rfl,hb⟩
     refine ⟨_,rfl,?_⟩
     have n0_:=z3.mk (Kd.zz (by (with_reducible repeat (first|apply Kd.zl|apply Kd.zm|apply Kd.zw));exact HO_9.out) hb)
     have n1_:=z3.mk (zk (g:=gb104) (o:=.cells #[.int .u64 ((zu l2 x25_1).f0),.int .u64 ((zu l2 x25_1).f1)] 51 (0,0)) (by (with_reducible repeat (first|refine z5 ?_ _|refine z7 ?_|refine z4 ?_ _));exact BK104.out) hb)
     have n2_:=z3.mk (za (by repeat (first|(with_reducible first|exact HB.out|apply z2|apply z0|apply z1|refine z6 ?_ GE104.out)|exact HB.out)) hb)
     clear HO_9
     clear BK104
     clear HB
     have HO_9:=n0_
     have BK104:=n1_
     have HB:=n2_
     clear n0_ n1_ n2_
     (try clear hb)
     (try clear hb2)
     (try clear hk)
     (try clear hi)
     refine hK.out _ _ ⟨(ze BK104.out 0).trans rfl,(ze BK104.out 1).trans rfl⟩ (fun hHeld=>?_)
     clear hK K
     refine norm_ (a':=?_) ?_ ?_
     rotate_left
     · show Act.put _ (some 42) _ = _
       simp only [Act.put,List.setIfInBounds_toArray,List.set_cons_zero,List.set_cons_succ,zC,zK]
       rfl
     refine one_ (i:=7) (N:=some 43) #[true,true,true,true,true,true,true,true,false,false,false] rfl rfl (z1y HT_.out (by kernel_rfl)) (by decide) (fun K hK=>?_)
     refine goes_ Try.func76 (by kernel_rfl) rfl #[.int .i64 a0,.agg #[.int .u64 t105,.int .u64 t106]] (by rfl) rfl rfl (by (try simp only [List.map_toArray,List.map_cons,List.map_nil]);first|done|rfl|(simp only [List.length_drop,List.length_take];rfl)) ?_
     with_reducible refine (z1h.calls a0 t105 t106 t107 t108 _ A21.out).mono ?_
     rintro e w25 ⟨rfl,hb⟩
     refine ⟨_,rfl,?_⟩
     have n0_:=z3.mk (Kd.zz (by (with_reducible repeat (first|apply Kd.zl|apply Kd.zm|apply Kd.zw));exact HO_9.out) hb)
     have n1_:=z3.mk (zk (g:=gb104) (o:=.cells #[.int .u64 ((zu l2 x25_1).f0),.int .u64 ((zu l2 x25_1).f1)] 51 (0,0)) (by (with_reducible repeat (first|refine z5 ?_ _|refine z7 ?_|refine z4 ?_ _));exact BK104.out) hb)
     have n2_:=z3.mk (za (by repeat (first|(with_reducible first|exact HB.out|apply z2|apply z0|apply z1|refine z6 ?_ GE104.out)|exact HB.out)) hb)
     clear HO_9
     clear BK104
     clear HB
     have HO_9:=n0_
     have BK104:=n1_
     have HB:=n2_
     clear n0_ n1_ n2_
     (try clear hb)
     (try clear hb2)
     (try clear hk)
     (try clear hi)
     refine hK.out _ _ ⟨(ze BK104.out 0).trans rfl,(ze BK104.out 1).trans rfl⟩ (fun hHeld=>?_)
     clear hK K
     refine norm_ (a':=?_) ?_ ?_
     rotate_left
     · show Act.put _ (some 43) _ = _
       simp only [Act.put,List.setIfInBounds_toArray,List.set_cons_zero,List.set_cons_succ,zC,zK]
       rfl
     refine one_ (i:=8) (N:=some 44) #[true,true,true,true,true,true,true,true,true,false,false] rfl rfl (z1y HT_.out (by kernel_rfl)) (by decide) (fun K hK=>?_)
     refine value_ (w1:=?_) (v:=?_) (by rfl) rfl ?_ ?_
     rotate_left 2
     · go_simp
       constructor
       · rfl
       · rfl
     refine hK.out _ _ ⟨(ze (z4 BK104.out _) 0).trans rfl,(ze (z4 BK104.out _) 1).trans rfl⟩ (fun hHeld=>?_)
     clear hK K
     refine norm_ (a':=?_) ?_ ?_
     rotate_left
     · show Act.put _ (some 44) _ = _
       simp only [Act.put,List.setIfInBounds_toArray,List.set_cons_zero,List.set_cons_succ,zC,zK]
       rfl
     refine one_ (i:=9) (N:=some 45) #[true,true,true,true,true,true,true,true,true,true,false] rfl rfl (z1y HT_.out (by kernel_rfl)) (by decide) (fun K hK=>?_)
     refine Kd.z3L k51 (w0:=w) w.heap.size (by rfl) (.tmp 36) (.tmp 44) 37 51 (.agg #[(.int .u64 0),(.int .u64 0)]) 16 rfl Try.underlying37 info51 rfl (by decide) (by omega) u9 x9_2 (⟨t107,t108⟩ : S51) [.int .u64 t107,.int .u64 t108] (fun k_=>k_ ≠ gb104) (fun _=>False) rfl rfl ?aP (fun _ hk=>hk.elim) ?aF ?aO ?aB ?aS ?aL ?_
     (case aP=>exact z1g _ _ _ (⟨t107,t108⟩ : S51))
     (case aB=>exact (by repeat (first|(with_reducible first|exact HB.out|apply z2|apply z0|apply z1|refine z6 ?_ GE104.out)|exact HB.out)))
     (case aF=>exact (fun k_ hk=>Kd.freshB (g:=gb104) (o:=.cells #[.int .u64 ((zu l2 x25_1).f0),.int .u64 ((zu l2 x25_1).f1)] 51 (0,0)) (by (with_reducible repeat (first|refine z5 ?_ _|refine z7 ?_|refine z4 ?_ _));exact BK104.out) k_ hk))
     (case aO=>exact (by (with_reducible repeat (first|apply Kd.zl|apply Kd.zm|apply Kd.zw));exact HO_9.out))
     (case aS=>exact (zc (by repeat (first|(with_reducible first|exact HB.out|apply z2|apply z0|apply z1|refine z6 ?_ GE104.out)|exact HB.out))))
     (case aL=>have:=LMc22.out;omega)
     intro v110 w26 ho hb hg hat
     rw [← Ny109.out] at ho
     have n0_:=z3.mk (z1N (g:=gb104) (o:=.cells #[.int .u64 ((zu l2 x25_1).f0),.int .u64 ((zu l2 x25_1).f1)] 51 (0,0)) (by (with_reducible repeat (first|refine z5 ?_ _|refine z7 ?_|refine z4 ?_ _));exact BK104.out) hg (Kd.z3w HO_9.out (fun _ hk=>hk)))
     have n1_:=z3.mk (hb)
     have n2_:=z3.mk (ho)
     clear BK104
     clear HB
     clear HO_9
     have BK104:=n0_
     have HB:=n1_
     have HO111:=n2_
     clear n0_ n1_ n2_
     clear ho hb hg hat
     refine hK.out _ _ ⟨(ze BK104.out 0).trans rfl,(ze BK104.out 1).trans rfl⟩ (fun hHeld=>?_)
     clear hK K
     refine norm_ (a':=?_) ?_ ?_
     rotate_left
     · show Act.put _ (some 45) _ = _
       simp only [Act.put,List.setIfInBounds_toArray,List.set_cons_zero,List.set_cons_succ,zC,zK]
       rfl
     refine pure_ (i:=10) (N:=some 9) (v:=?_) (a':=?_) #[true,true,true,true,true,true,true,true,true,true,true] rfl rfl (zO HT_.out (by kernel_rfl)) (fun _ _ _ h=>h) (Or.inl ⟨by rfl,?_⟩) ?_ ?_
     rotate_left
     · intro w'
       go_simp
       with_reducible rfl
     rotate_left
     · simp only [Act.put,List.setIfInBounds_toArray,List.set_cons_zero,List.set_cons_succ,zC,zK]
       rfl
     refine done_ (z25 HT_.out (by kernel_rfl)) ?_
     try go_wp2
     go_roundg k2
     case measure=>have:=HK1.out;have:=HK2.out;omega
     case rel=>exact ⟨(y109),(wrap64 (x33_2 + 1)),(by first|rfl|(simp;done)|(simp [*];done)),H',⟨by have:=HK1.out;have:=HK2.out;omega⟩,⟨by (with_reducible repeat (first|apply Kd.zl|apply Kd.zm|apply Kd.zw));exact HO111.out⟩,⟨by (with_reducible repeat (first|refine z5 ?_ _|refine z7 ?_|refine z4 ?_ _));exact BK104.out⟩,⟨by repeat (first|(with_reducible first|exact HB.out|apply z2|apply z0|apply z1|refine z6 ?_ GE104.out)|exact HB.out)⟩⟩
end Go.Proofs.Ytngcaphdkgihmaa.P
/- Small elements gathered into great ones, and scattered: the program's way. Own text. -/
namespace Go.Proofs.Ytngcaphdkgihmaa.Sp
open Go.RowKit Go.Proofs.YtngcaphdkgihmaaW.PrintWords Go.Proofs.YtngcaphdkgihmaaW.PrintMore Go.Proofs.Ytngcaphdkgihmaa.P Go.Proofs.Ytngcaphdkgihmaa.Ar Go.Proofs.Ytngcaphdkgihmaa.Tw
set_option linter.unusedVariables false
set_option linter.unusedSimpArgs false
theorem z2F (L : Int) : ∀ (X : List E), Ev (fun k => zP.f k L (X.map toS)) (decide (AllS L X))
  | [] => by refine Ev.ret' ?_; symm; rw [decide_eq_true_eq]; intro x hx; cases hx
  | x :: xs => by
    show Ev (fun k => (zL.f k L (toS x).f0 (toS x).f1).bind fun b => if b = true then zP.all k L (xs.map toS) else some false) _
    refine Ev.bnd (z54 L x) ?_
    have hd : AllS L (x :: xs) ↔ OfS L x ∧ AllS L xs := List.forall_mem_cons
    by_cases c : OfS L x
    · refine Ev.pos (decide_eq_true c) ((z2F L xs).eqn ?_)
      rw [decide_eq_decide, hd]; exact ⟨fun h => ⟨c, h⟩, fun h => h.2⟩
    · refine Ev.neg (by simpa using c) (Ev.ret' ?_)
      symm; rw [decide_eq_false_iff_not, hd]; exact fun h => c h.1
/-- Two levels, one not above the other. -/
def LvTwo (F T : Int) : Prop := LvS F ∧ LvS T ∧ F ≤ T
instance (F T : Int) : Decidable (LvTwo F T) := by unfold LvTwo; infer_instance
theorem z2Y (F T : Int) : Ev (fun k => z13.f k F T) (if LvTwo F T then 0 else 1) := by
  unfold z13.f
  by_cases g : LvS F
  · obtain ⟨v, hv, hw⟩ := z5T g
    refine Ev.bnd hw (Ev.neg hv ?_)
    by_cases g2 : LvS T
    · obtain ⟨v2, hv2, hw2⟩ := z5T g2
      refine Ev.bnd hw2 (Ev.neg hv2 ?_)
      by_cases g3 : T < F
      · rw [if_neg (fun h : LvTwo F T => by have := h.2.2; omega)]
        exact Ev.pos g3 (Ev.ret _)
      · rw [if_pos (show LvTwo F T from ⟨g, g2, by omega⟩)]
        exact Ev.neg g3 (Ev.ret _)
    · rw [if_neg (fun h : LvTwo F T => g2 h.2.1)]
      exact Ev.bnd (z4W g2) (Ev.pos rfl (Ev.ret _))
  · rw [if_neg (fun h : LvTwo F T => g h.1)]
    exact Ev.bnd (z4W g) (Ev.pos rfl (Ev.ret _))
/-- So many elements of a list, from a place, side by side. -/
def part (X : List E) (b m g k : Nat) : E := of 7 (gv (fun j => val (X.getD (g * m + j) 0)) b k)
def full (X : List E) (b m G : Nat) : List E := (List.range G).map fun g => part X b m g m
theorem z1x (X : List E) (b m G : Nat) : (full X b m G).length = G := by unfold full; rw [List.length_map, List.length_range]
theorem z47 (X : List E) (b m G : Nat) : full X b m (G + 1) = full X b m G ++ [part X b m G m] := by unfold full; rw [List.range_succ, List.map_append]; rfl
theorem z2E {L : Nat} {X : List E} (h : AllS (L : Int) X) (i : Nat) : val (X.getD i 0) < 2 ^ 2 ^ L := by
  rw [List.getD_eq_getElem?_getD]
  cases e : X[i]? with
  | none => exact inL_zero L
  | some y =>
    have := (h y (List.mem_of_getElem? e)).2.2
    rwa [Int.toNat_natCast] at this
theorem add_side {a c s : Nat} (ha : a < 2 ^ s) (h : a + c * 2 ^ s < 2 ^ 128) : of 7 a + of 7 (c * 2 ^ s) = of 7 (a + c * 2 ^ s) := by
  have h1 : a < 2 ^ 128 := by omega
  have h2 : c * 2 ^ s < 2 ^ 128 := by omega
  apply z2w
  rw [z1t, z2i h1, z2i h2, z2i h]
  apply Nat.eq_of_testBit_eq
  intro i
  rw [Nat.testBit_xor, Nat.testBit_mul_two_pow, Nat.add_comm a, Nat.mul_comm c, Nat.testBit_two_pow_mul_add _ ha]
  by_cases d : i < s
  · rw [if_pos d]; simp [show ¬ s ≤ i by omega]
  · rw [if_neg d, Nat.testBit_lt_two_pow (Nat.lt_of_lt_of_le ha (Nat.pow_le_pow_right (by decide) (by omega)))]; simp [show s ≤ i by omega]
theorem set_snoc {α : Type} (A : List α) (y z : α) : (A ++ [y]).set A.length z = A ++ [z] := by
  rw [List.set_append_right _ _ (Nat.le_refl _), Nat.sub_self]; rfl
theorem z5w {α : Type} (A : List α) (y d : α) : (A ++ [y]).getD A.length d = y := by
  rw [List.getD_eq_getElem?_getD, List.getElem?_append_right (Nat.le_refl _), Nat.sub_self]; rfl
theorem z2r {l t : Nat} (hlt : l ≤ t) (ht : t ≤ 7) : 2 ^ l * 2 ^ (t - l) = 2 ^ t ∧ 2 ^ t ≤ 128 ∧ 0 < 2 ^ l ∧ 0 < 2 ^ (t - l) := by
  refine ⟨by rw [← Nat.pow_add]; congr 1; omega, Nat.pow_le_pow_right (n := 2) (by decide) ht, Nat.two_pow_pos _, Nat.two_pow_pos _⟩
/-- The step that adds an element to the last one. -/
theorem z3b {l m t : Nat} (hl : l ≤ 7) (hbm : 2 ^ l * m = 2 ^ t) (ht : 2 ^ t ≤ 128) (X : List E) (hX : X.length ≤ 1000000) (hA : AllS (l : Int) X) (A : List E) (g k i : Nat) (hk : k < m) (hi : i = g * m + k) (hiX : i < X.length) (hAl : A.length ≤ 1000000) (R : List S51 × Int)
    (h : Ev (fun q => zp.l0 q (l : Int) (m : Int) ((A ++ [part X (2 ^ l) m g (k + 1)]).map toS) (X.map toS) ((X.length : Nat) : Int) ((i + 1 : Nat) : Int)) R) (Y : List S51) (hY : Y = (A ++ [part X (2 ^ l) m g k]).map toS) :
    Ev (fun q => if 0 ≤ (wrap64 ((Y.length : Int) - 1)) then (if (wrap64 ((Y.length : Int) - 1)) < (Y.length : Int) then (if 0 ≤ (l : Int) then ((z1d.f (Sp.hi (X.getD i 0)) (lo (X.getD i 0)) (shl .i64 (Int.tmod (i : Int) (m : Int)) (l : Int))).bind fun bt => ((z1l.f ((zu Y (wrap64 ((Y.length : Int) - 1))).f0) ((zu Y (wrap64 ((Y.length : Int) - 1))).f1) bt.1 bt.2).bind fun bt2 => (zp.l0 q (l : Int) (m : Int) (Y.set ((wrap64 ((Y.length : Int) - 1)) : Int).toNat (⟨bt2.1, bt2.2⟩ : S51)) (X.map toS) ((X.length : Nat) : Int) (wrap64 ((i : Int) + 1))))) else (none)) else (none)) else (none)) R := by
  have hb : 0 < 2 ^ l := Nat.two_pow_pos l
  have hkb : k * 2 ^ l + 2 ^ l ≤ 2 ^ t := by
    have : 2 ^ l * (k + 1) ≤ 2 ^ l * m := Nat.mul_le_mul_left _ hk
    rw [Nat.mul_succ, Nat.mul_comm] at this; omega
  have hlen : Y.length = A.length + 1 := by rw [hY, List.length_map, List.length_append]; rfl
  have e1 : wrap64 ((Y.length : Int) - 1) = (A.length : Int) := by rw [hlen, z1J (by omega) (by omega)]; omega
  have e2 : Int.tmod (i : Int) (m : Int) = (k : Int) := by
    rw [← Int.ofNat_tmod, hi, Nat.mul_comm, Nat.mul_add_mod, Nat.mod_eq_of_lt hk]
  have e3 : shl .i64 (k : Int) (l : Int) = ((k * 2 ^ l : Nat) : Int) := shli k l (by omega) (by omega)
  have hv := z2E hA i
  have h128 : val (X.getD i 0) * 2 ^ (k * 2 ^ l) < 2 ^ 128 := by
    have h1 : val (X.getD i 0) * 2 ^ (k * 2 ^ l) < 2 ^ 2 ^ l * 2 ^ (k * 2 ^ l) := Nat.mul_lt_mul_of_pos_right hv (Nat.two_pow_pos _)
    rw [← Nat.pow_add] at h1
    exact Nat.lt_of_lt_of_le h1 (Nat.pow_le_pow_right (by decide) (by omega))
  have hsum : part X (2 ^ l) m g k + of 7 (val (X.getD i 0) * 2 ^ (k * 2 ^ l)) = part X (2 ^ l) m g (k + 1) := by
    have hg : ∀ j, val (X.getD (g * m + j) 0) < 2 ^ 2 ^ l := fun j => z2E hA _
    have hlt := z49 (f := fun j => val (X.getD (g * m + j) 0)) (b := 2 ^ l) k (fun j _ => hg j)
    have hlt2 := z49 (f := fun j => val (X.getD (g * m + j) 0)) (b := 2 ^ l) (k + 1) (fun j _ => hg j)
    unfold part
    show _ = of 7 (gv (fun j => val (X.getD (g * m + j) 0)) (2 ^ l) k + val (X.getD (g * m + k) 0) * 2 ^ (2 ^ l * k))
    rw [hi, Nat.mul_comm k]
    apply add_side hlt
    have h3 : 2 ^ (2 ^ l * (k + 1)) ≤ 2 ^ 128 := Nat.pow_le_pow_right (by decide) (by rw [Nat.mul_succ, Nat.mul_comm]; omega)
    exact Nat.lt_of_lt_of_le hlt2 h3
  simp only [e1, e2, e3, z1v hiX (show X.length ≤ 4611686018427387904 by omega)]
  refine Ev.pos (Int.natCast_nonneg _) (Ev.pos (by omega) (Ev.pos (Int.natCast_nonneg _) (Ev.bnd0 (up_eq _ (k * 2 ^ l) (by omega) h128) ?_)))
  have hrd : zu Y (A.length : Int) = toS (part X (2 ^ l) m g k) := by rw [hY, rdS, z5w]
  rw [hrd]
  refine Ev.bnd0 (Add_eq _ _) ?_
  rw [hsum, Int.toNat_natCast]
  have hset : Y.set A.length ⟨Sp.hi (part X (2 ^ l) m g (k + 1)), lo (part X (2 ^ l) m g (k + 1))⟩ = (A ++ [part X (2 ^ l) m g (k + 1)]).map toS := by
    rw [hY, List.map_append, List.map_append]
    have := set_snoc (A.map toS) (toS (part X (2 ^ l) m g k)) (toS (part X (2 ^ l) m g (k + 1)))
    rw [List.length_map] at this
    exact this
  rw [hset]
  exact h
theorem z5u {l m t : Nat} (hl : l ≤ 7) (hm : 0 < m) (hbm : 2 ^ l * m = 2 ^ t) (ht : 2 ^ t ≤ 128) (X : List E) (hX : X.length ≤ 1000000) (hA : AllS (l : Int) X) (g : Nat) (hg : g * m + m ≤ X.length) (R : List S51 × Int)
    (h : Ev (fun q => zp.l0 q (l : Int) (m : Int) ((full X (2 ^ l) m (g + 1)).map toS) (X.map toS) ((X.length : Nat) : Int) (((g + 1) * m : Nat) : Int)) R) :
    ∀ (d k : Nat), k + d = m → 1 ≤ k → Ev (fun q => zp.l0 q (l : Int) (m : Int) ((full X (2 ^ l) m g ++ [part X (2 ^ l) m g k]).map toS) (X.map toS) ((X.length : Nat) : Int) ((g * m + k : Nat) : Int)) R := by
  have hgl : g ≤ X.length := by
    have : g * 1 ≤ g * m := Nat.mul_le_mul_left _ hm
    omega
  intro d
  induction d with
  | zero =>
    intro k hk _
    have : k = m := by omega
    subst this
    rw [z47, Nat.succ_mul] at h
    exact h
  | succ d ih =>
    intro k hk h1
    have hi' : g * m + k < X.length := by omega
    have hlen : ((full X (2 ^ l) m g ++ [part X (2 ^ l) m g k]).map toS).length = g + 1 := by rw [List.length_map, List.length_append, z1x]; rfl
    refine Ev.step (fun q => by rw [zp.l0]) (Ev.pos (by omega) (Ev.pos (Int.natCast_nonneg _) (Ev.pos (by rw [List.length_map]; omega) (Ev.neg (by omega) (Ev.neg ?_ ?_)))))
    · rw [← Int.ofNat_tmod, Nat.mul_comm, Nat.mul_add_mod, Nat.mod_eq_of_lt (by omega)]; omega
    · simp only [rdS, z3D, z3E]
      exact z3b hl hbm ht X hX hA (full X (2 ^ l) m g) g k (g * m + k) (by omega) rfl hi' (by rw [z1x]; omega) R (ih (k + 1) (by omega) (by omega)) _ rfl
theorem z5v {l m t : Nat} (hl : l ≤ 7) (hm : 0 < m) (hbm : 2 ^ l * m = 2 ^ t) (ht : 2 ^ t ≤ 128) (X : List E) (hX : X.length ≤ 1000000) (hA : AllS (l : Int) X) (G : Nat) (hG : X.length = G * m) :
    ∀ (d g : Nat), g + d = G → Ev (fun q => zp.l0 q (l : Int) (m : Int) ((full X (2 ^ l) m g).map toS) (X.map toS) ((X.length : Nat) : Int) ((g * m : Nat) : Int)) ((full X (2 ^ l) m G).map toS, 0) := by
  intro d
  induction d with
  | zero =>
    intro g hg
    have : g = G := by omega
    subst this
    exact Ev.step (fun q => by rw [zp.l0]) (Ev.neg (by omega) (Ev.ret _))
  | succ d ih =>
    intro g hg
    have hgm : g * m + m ≤ X.length := by
      have : (g + 1) * m ≤ G * m := Nat.mul_le_mul_right _ (by omega)
      rw [Nat.succ_mul] at this; omega
    have hgl : g ≤ X.length := by
      have : g * 1 ≤ g * m := Nat.mul_le_mul_left _ hm
      omega
    have hin := z5u hl hm hbm ht X hX hA g hgm _ (ih (g + 1) (by omega)) (m - 1) 1 (by omega) (by omega)
    have hi' : g * m < X.length := by omega
    refine Ev.step (fun q => by rw [zp.l0]) (Ev.pos (by omega) (Ev.pos (Int.natCast_nonneg _) (Ev.pos (by rw [List.length_map]; omega) (Ev.neg (by omega) (Ev.pos ?_ (Ev.pos (by rw [List.length_map, z1x]; omega) (Ev.bnd0 rfl ?_)))))))
    · rw [← Int.ofNat_tmod, Nat.mul_mod_left]; rfl
    · simp only [rdS, z3D, z3E]
      refine z3b hl hbm ht X hX hA (full X (2 ^ l) m g) g 0 (g * m) hm rfl hi' (by rw [z1x]; omega) _ hin _ ?_
      rw [List.map_append]
      have e : part X (2 ^ l) m g 0 = 0 := z1W 7
      rw [e]
      congr 1
/-- What hinders gathering. -/
def gathErr (F T : Int) (X : List E) : Int := if LvTwo F T then (if X.length % 2 ^ (T.toNat - F.toNat) = 0 then (if AllS F X then 0 else 5) else 6) else 1
def gathS (F T : Int) (X : List E) : List E := full X (2 ^ F.toNat) (2 ^ (T.toNat - F.toNat)) (X.length / 2 ^ (T.toNat - F.toNat))
def gathO (F T : Int) (X : List E) : List E := if gathErr F T X = 0 then gathS F T X else []
theorem z5d (F T : Int) (X : List E) (hX : X.length ≤ 1000000) : Ev (fun q => zp.f q F T (X.map toS)) ((gathO F T X).map toS, gathErr F T X) := by
  unfold zp.f gathO
  refine Ev.bnd (z2Y F T) ?_
  by_cases c : LvTwo F T
  · have hc := c
    obtain ⟨⟨hF0, hF7⟩, ⟨hT0, hT7⟩, hle⟩ := hc
    obtain ⟨l, rfl⟩ := Int.eq_ofNat_of_zero_le hF0
    obtain ⟨t, rfl⟩ := Int.eq_ofNat_of_zero_le hT0
    obtain ⟨hbm, ht, hb, hm⟩ := z2r (l := l) (t := t) (by omega) (by omega)
    have hE : gathErr (l : Int) (t : Int) X = if X.length % 2 ^ (t - l) = 0 then (if AllS (l : Int) X then 0 else 5) else 6 := by unfold gathErr; rw [if_pos c, Int.toNat_natCast, Int.toNat_natCast]
    rw [if_pos c]
    have hm128 : 2 ^ (t - l) ≤ 128 := by
      have : 1 * 2 ^ (t - l) ≤ 2 ^ l * 2 ^ (t - l) := Nat.mul_le_mul_right _ hb
      omega
    have e1 : wrap64 ((t : Int) - (l : Int)) = ((t - l : Nat) : Int) := z5S (by omega) (by omega)
    simp only [e1, z3k (t - l) (by omega), List.length_map]
    refine Ev.pos trivial (Ev.pos (Int.natCast_nonneg _) (Ev.neg (by omega) ?_))
    by_cases c2 : X.length % 2 ^ (t - l) = 0
    · rw [if_pos c2] at hE
      refine Ev.pos (by rw [← Int.natCast_emod, c2]; rfl) (Ev.bnd (z2F (l : Int) X) ?_)
      by_cases c3 : AllS (l : Int) X
      · rw [if_pos c3] at hE
        rw [hE, if_pos rfl]
        refine Ev.pos (decide_eq_true c3) ?_
        have hG : X.length = X.length / 2 ^ (t - l) * 2 ^ (t - l) := by
          have := Nat.div_add_mod X.length (2 ^ (t - l))
          rw [c2, Nat.add_zero, Nat.mul_comm] at this; exact this.symm
        have := z5v (by omega) hm hbm ht X hX c3 _ hG _ 0 (Nat.zero_add _)
        rw [Nat.zero_mul] at this
        unfold gathS
        rw [Int.toNat_natCast, Int.toNat_natCast]
        exact this
      · rw [if_neg c3] at hE
        rw [hE, if_neg (by decide)]
        exact Ev.neg (by simpa using c3) (Ev.ret _)
    · rw [if_neg c2] at hE
      rw [hE, if_neg (by decide)]
      refine Ev.neg ?_ (Ev.ret _)
      rw [← Int.natCast_emod]; intro h; exact c2 (by omega)
  · have hE : gathErr F T X = 1 := by unfold gathErr; rw [if_neg c]
    have hO : (if gathErr F T X = 0 then gathS F T X else []) = [] := if_neg (by rw [hE]; decide)
    rw [hO, hE, if_neg c]
    exact Ev.neg (by decide) (Ev.ret _)
/-- One great element as small ones. -/
def bitsAt (x : E) (b k : Nat) : E := of 7 (val x / 2 ^ (b * k) % 2 ^ b)
def scat (b m : Nat) (x : E) : List E := (List.range m).map (bitsAt x b)
def scats (b m : Nat) (X : List E) : List E := X.flatMap (scat b m)
theorem z2t (b m : Nat) (X : List E) : (scats b m X).length = X.length * m := by
  unfold scats
  induction X with
  | nil => simp
  | cons x xs ih => rw [List.flatMap_cons, List.length_append, ih]; unfold scat; rw [List.length_map, List.length_range, List.length_cons, Nat.succ_mul, Nat.add_comm]
theorem z59 {l t : Nat} (hlt : l ≤ t) (ht7 : t ≤ 7) (x : E) (A : List E) (hA : A.length ≤ 1000000) (Z : List S51) (i : Nat) (R : List S51 × Int)
    (h : Ev (fun q => zv.l0 q (l : Int) (t : Int) ((A ++ scat (2 ^ l) (2 ^ (t - l)) x).map toS) Z (Z.length : Int) (wrap64 ((i : Int) + 1))) R) :
    ∀ (d k : Nat), k + d = 2 ^ (t - l) → Ev (fun q => zv.l1 q (l : Int) (t : Int) ((A ++ (List.range k).map (bitsAt x (2 ^ l))).map toS) Z (Z.length : Int) (i : Int) ((2 ^ (t - l) : Nat) : Int) (k : Int) (hi x) (lo x)) R := by
  obtain ⟨hbm, ht, hb, hm⟩ := z2r hlt ht7
  have hm128 : 2 ^ (t - l) ≤ 128 := by
    have : 1 * 2 ^ (t - l) ≤ 2 ^ l * 2 ^ (t - l) := Nat.mul_le_mul_right _ hb
    omega
  intro d
  induction d with
  | zero =>
    intro k hk
    have : k = 2 ^ (t - l) := by omega
    subst this
    refine Ev.step (fun q => by rw [zv.l1]) (Ev.neg (by omega) ?_)
    exact h
  | succ d ih =>
    intro k hk
    have hk' : k < 2 ^ (t - l) := by omega
    have hkb : k * 2 ^ l + 2 ^ l ≤ 2 ^ t := by
      have : 2 ^ l * (k + 1) ≤ 2 ^ l * 2 ^ (t - l) := Nat.mul_le_mul_left _ hk'
      rw [Nat.mul_succ, Nat.mul_comm] at this; omega
    have e3 : shl .i64 (k : Int) (l : Int) = ((k * 2 ^ l : Nat) : Int) := shli k l (by omega) (by omega)
    have hd : val x / 2 ^ (k * 2 ^ l) < 2 ^ 128 := Nat.lt_of_le_of_lt (Nat.div_le_self _ _) (z3l x)
    have hih := ih (k + 1) (by omega)
    have ha : A ++ (List.range (k + 1)).map (bitsAt x (2 ^ l)) = (A ++ (List.range k).map (bitsAt x (2 ^ l))) ++ [bitsAt x (2 ^ l) k] := by
      rw [List.range_succ, List.map_append, ← List.append_assoc]; rfl
    rw [ha, List.map_append (l₂ := [bitsAt x (2 ^ l) k])] at hih
    refine Ev.step (fun q => by rw [zv.l1]) (Ev.pos (by omega) (Ev.pos (Int.natCast_nonneg _) ?_))
    simp only [e3, z1v hk' (show 2 ^ (t - l) ≤ 4611686018427387904 by omega)]
    refine Ev.bnd0 (down_eq x (k * 2 ^ l) (by omega)) (Ev.bnd0 (cut_eq l (by omega) _) (Ev.pos ?_ ?_))
    · rw [List.length_map, List.length_append, List.length_map, List.length_range]; omega
    · rw [z2i hd, Nat.mul_comm k]
      exact hih
theorem z58 {l t : Nat} (hlt : l ≤ t) (ht7 : t ≤ 7) (X : List E) (hX : X.length ≤ 1000) : ∀ (d i : Nat), i + d = X.length → Ev (fun q => zv.l0 q (l : Int) (t : Int) ((scats (2 ^ l) (2 ^ (t - l)) (X.take i)).map toS) (X.map toS) (((X.map toS).length : Nat) : Int) (i : Int)) ((scats (2 ^ l) (2 ^ (t - l)) X).map toS, 0) := by
  obtain ⟨hbm, ht, hb, hm⟩ := z2r hlt ht7
  have hm128 : 2 ^ (t - l) ≤ 128 := by
    have : 1 * 2 ^ (t - l) ≤ 2 ^ l * 2 ^ (t - l) := Nat.mul_le_mul_right _ hb
    omega
  intro d
  induction d with
  | zero =>
    intro i hi
    refine Ev.step (fun q => by rw [zv.l0]) (Ev.neg (by rw [List.length_map]; omega) (Ev.ret' ?_))
    rw [List.take_of_length_le (by omega)]
  | succ d ih =>
    intro i hi
    have hi' : i < X.length := by omega
    have e1 : wrap64 ((t : Int) - (l : Int)) = ((t - l : Nat) : Int) := z5S (by omega) (by omega)
    refine Ev.step (fun q => by rw [zv.l0]) (Ev.pos (by rw [List.length_map]; omega) (Ev.pos (Int.natCast_nonneg _) (Ev.pos (by rw [List.length_map]; omega) ?_)))
    simp only [e1, z3k (t - l) (by omega), rdS, z3D, z3E]
    refine Ev.pos (Int.natCast_nonneg _) ?_
    have hAl : (scats (2 ^ l) (2 ^ (t - l)) (X.take i)).length ≤ 1000000 := by
      rw [z2t, List.length_take]
      have : min i X.length * 2 ^ (t - l) ≤ 1000 * 128 := Nat.mul_le_mul (by omega) hm128
      omega
    have := z59 hlt ht7 (X.getD i 0) (scats (2 ^ l) (2 ^ (t - l)) (X.take i)) hAl (X.map toS) i ((scats (2 ^ l) (2 ^ (t - l)) X).map toS, 0) ?_ (2 ^ (t - l)) 0 (Nat.zero_add _)
    · rw [List.range_zero, List.map_nil, List.append_nil] at this
      exact this
    · rw [z1v hi' (show X.length ≤ 4611686018427387904 by omega)]
      have hih := ih (i + 1) (by omega)
      have e : scats (2 ^ l) (2 ^ (t - l)) (X.take (i + 1)) = scats (2 ^ l) (2 ^ (t - l)) (X.take i) ++ scat (2 ^ l) (2 ^ (t - l)) (X.getD i 0) := by
        have hx : X.getD i 0 = X[i] := by rw [List.getD_eq_getElem?_getD, List.getElem?_eq_getElem hi']; rfl
        unfold scats
        rw [List.take_succ_eq_append_getElem hi', List.flatMap_append, hx]; simp
      rw [e] at hih
      exact hih
def scatErr (F T : Int) (X : List E) : Int := if LvTwo F T then (if AllS T X then 0 else 5) else 1
def scatO (F T : Int) (X : List E) : List E := if scatErr F T X = 0 then scats (2 ^ F.toNat) (2 ^ (T.toNat - F.toNat)) X else []
theorem Scatter_ev (F T : Int) (X : List E) (hX : X.length ≤ 1000) : Ev (fun q => zv.f q F T (X.map toS)) ((scatO F T X).map toS, scatErr F T X) := by
  unfold zv.f scatO
  refine Ev.bnd (z2Y F T) ?_
  by_cases c : LvTwo F T
  · have hc := c
    obtain ⟨⟨hF0, hF7⟩, ⟨hT0, hT7⟩, hle⟩ := hc
    obtain ⟨l, rfl⟩ := Int.eq_ofNat_of_zero_le hF0
    obtain ⟨t, rfl⟩ := Int.eq_ofNat_of_zero_le hT0
    have hE : scatErr (l : Int) (t : Int) X = if AllS (t : Int) X then 0 else 5 := by unfold scatErr; rw [if_pos c]
    rw [if_pos c]
    refine Ev.pos rfl (Ev.bnd (z2F (t : Int) X) ?_)
    by_cases c3 : AllS (t : Int) X
    · rw [if_pos c3] at hE
      rw [hE, if_pos rfl]
      refine Ev.pos (decide_eq_true c3) ?_
      rw [Int.toNat_natCast, Int.toNat_natCast]
      exact z58 (by omega) (by omega) X hX X.length 0 (by omega)
    · rw [if_neg c3] at hE
      rw [hE, if_neg (by decide)]
      exact Ev.neg (by simpa using c3) (Ev.ret _)
  · have hE : scatErr F T X = 1 := by unfold scatErr; rw [if_neg c]
    have hO : (if scatErr F T X = 0 then scats (2 ^ F.toNat) (2 ^ (T.toNat - F.toNat)) X else []) = [] := if_neg (by rw [hE]; decide)
    rw [hO, hE, if_neg c]
    exact Ev.neg (by decide) (Ev.ret _)
end Go.Proofs.Ytngcaphdkgihmaa.Sp
/- The document's product by shifts and masks is the tower's. Own text; nothing of the program in it. -/
namespace Go.Proofs.Ytngcaphdkgihmaa.Tw
set_option linter.unusedVariables false
set_option linter.unusedSimpArgs false
theorem z2B {n a b : Nat} (hb : b < Q n) : (a * Q n + b) / Q n = a := by rw [Nat.mul_comm, Nat.mul_add_div (z27 n), Nat.div_eq_of_lt hb, Nat.add_zero]
theorem z2C {n a b : Nat} (hb : b < Q n) : (a * Q n + b) % Q n = b := by rw [Nat.mul_comm, Nat.mul_add_mod, Nat.mod_eq_of_lt hb]
theorem z4B {n a b c d : Nat} (hb : b < Q n) (hd : d < Q n) : (a * Q n + b) &&& (c * Q n + d) = (a &&& c) * Q n + (b &&& d) := by
  have h1 : ((a * Q n + b) &&& (c * Q n + d)) / Q n = a &&& c := by
    have e1 := z2B (n := n) (a := a) hb
    have e2 := z2B (n := n) (a := c) hd
    unfold Q at *
    rw [Nat.and_div_two_pow, e1, e2]
  have h2 : ((a * Q n + b) &&& (c * Q n + d)) % Q n = b &&& d := by
    have e1 := z2C (n := n) (a := a) hb
    have e2 := z2C (n := n) (a := c) hd
    unfold Q at *
    rw [Nat.and_mod_two_pow, e1, e2]
  have := Nat.div_add_mod ((a * Q n + b) &&& (c * Q n + d)) (Q n)
  rw [h1, h2, Nat.mul_comm] at this
  exact this.symm
theorem z5I {n a b c d : Nat} (hb : b < Q n) (hd : d < Q n) : (a * Q n + b) ||| (c * Q n + d) = (a ||| c) * Q n + (b ||| d) := by
  have h1 : ((a * Q n + b) ||| (c * Q n + d)) / Q n = a ||| c := by
    have e1 := z2B (n := n) (a := a) hb
    have e2 := z2B (n := n) (a := c) hd
    unfold Q at *
    rw [Nat.or_div_two_pow, e1, e2]
  have h2 : ((a * Q n + b) ||| (c * Q n + d)) % Q n = b ||| d := by
    have e1 := z2C (n := n) (a := a) hb
    have e2 := z2C (n := n) (a := c) hd
    unfold Q at *
    rw [Nat.or_mod_two_pow, e1, e2]
  have := Nat.div_add_mod ((a * Q n + b) ||| (c * Q n + d)) (Q n)
  rw [h1, h2, Nat.mul_comm] at this
  exact this.symm
theorem or_lt {n x y : Nat} (hx : x < Q n) (hy : y < Q n) : x ||| y < Q n := Nat.or_lt_two_pow hx hy
/-- The lower halves of all blocks of 2^(j+1) bits in a word of 2^n. -/
def M (j : Nat) : Nat → Nat
  | 0 => 0
  | n + 1 => if n = j then Q j - 1 else if n < j then 0 else M j n * Q n + M j n
theorem M_base (j : Nat) : M j (j + 1) = Q j - 1 := by simp [M]
theorem z5g {j n : Nat} (h : j + 1 ≤ n) : M j (n + 1) = M j n * Q n + M j n := by
  rw [M, if_neg (by omega), if_neg (by omega)]
/-- What is left of a word without its highest block of 2^j bits. -/
def H (j n : Nat) : Nat := 2 ^ (2 ^ n - 2 ^ j)
theorem z4Y {j n : Nat} (h : j ≤ n) : H j n * Q j = Q n := by
  have := Nat.pow_le_pow_right (show 2 > 0 by decide) h
  unfold H Q; rw [← Nat.pow_add, Nat.sub_add_cancel this]
theorem H_pos (j n : Nat) : 0 < H j n := Nat.two_pow_pos _
theorem z5e {j n : Nat} (h : j ≤ n) : H j (n + 1) = H j n * Q n := by
  have := Nat.pow_le_pow_right (show 2 > 0 by decide) h
  unfold H Q; rw [← Nat.pow_add]; congr 1; rw [Nat.pow_succ]; omega
theorem H_self (j : Nat) : H j j = 1 := by unfold H; rw [Nat.sub_self, Nat.pow_zero]
theorem H_base (j : Nat) : H j (j + 1) = Q j := by rw [z5e (Nat.le_refl _), H_self, Nat.one_mul]
theorem H_le {j n : Nat} (h : j ≤ n) : H j n ≤ Q n := by rw [← z4Y h]; exact Nat.le_mul_of_pos_right _ (z27 j)
theorem lt_H_mul {j n x : Nat} (h : j ≤ n) (hx : x < H j n) : x * Q j < Q n := by
  rw [← z4Y h]; exact Nat.mul_lt_mul_of_pos_right hx (z27 j)
theorem M_lt {j : Nat} : ∀ d, M j (j + 1 + d) < H j (j + 1 + d)
  | 0 => by rw [Nat.add_zero, M_base, H_base]; have := z27 j; omega
  | d + 1 => by
    have ih := M_lt (j := j) d
    rw [← Nat.add_assoc, z5g (by omega), z5e (by omega)]
    have h2 : M j (j + 1 + d) < Q (j + 1 + d) := Nat.lt_of_lt_of_le ih (H_le (by omega))
    have h3 : M j (j + 1 + d) * Q (j + 1 + d) + Q (j + 1 + d) ≤ H j (j + 1 + d) * Q (j + 1 + d) := by
      have := Nat.mul_le_mul_right (Q (j + 1 + d)) ih
      rw [Nat.succ_mul] at this; exact this
    omega
theorem M_lt' {j n : Nat} (h : j + 1 ≤ n) : M j n < H j n := by
  obtain ⟨d, rfl⟩ := Nat.le.dest h; exact M_lt d
theorem M_lt_Q {j n : Nat} (h : j + 1 ≤ n) : M j n < Q n := Nat.lt_of_lt_of_le (M_lt' h) (H_le (by omega))
theorem z28 {x m b : Nat} (h : m < b) : x &&& m < b := Nat.lt_of_le_of_lt Nat.and_le_right h
/-- A word times the generator of the level j, block by block. -/
def tw (n : Nat) : Nat → Nat → Nat
  | 0, v => v
  | j + 1, v => (((v &&& M j n) ^^^ tw n j ((v / Q j) &&& M j n)) * Q j) % Q n ||| ((v / Q j) &&& M j n)
theorem z48 (j : Nat) : val (gen j) < Q j := z18 _
theorem z4Q {j g : Nat} (hg : g < Q j) : ∀ d u, u < H j (j + d) → val (of (j + d) g * of (j + d) u) < H j (j + d)
  | 0, u, hu => by
    rw [Nat.add_zero, H_self] at hu ⊢
    have : u = 0 := by omega
    rw [this, z1W, z2f, z1o]; decide
  | d + 1, u, hu => by
    rw [← Nat.add_assoc] at hu ⊢
    rw [z5e (Nat.le_add_right _ _)] at hu ⊢
    have hg' : g < Q (j + d) := Nat.lt_of_lt_of_le hg (z2G (Nat.le_add_right _ _))
    have e1 : of (j + d + 1) g = up (of (j + d) g) := z4b hg'
    rw [e1, z2R, z1s, z1V, z20, z1E, z1V, z20]
    have h1 := z4Q hg d (u / Q (j + d)) (Nat.div_lt_of_lt_mul (by rw [Nat.mul_comm]; exact hu))
    have h2 := z18 (of (j + d) g * of (j + d) (u % Q (j + d)))
    have h3 : val (of (j + d) g * of (j + d) (u / Q (j + d))) * Q (j + d) + Q (j + d) ≤ H j (j + d) * Q (j + d) := by
      have := Nat.mul_le_mul_right (Q (j + d)) h1
      rw [Nat.succ_mul] at this; exact this
    omega
theorem tw_split {j : Nat} (C : ∀ n, j ≤ n → ∀ v, v < Q n → tw n j v = val (of n (val (gen j)) * of n v)) (D : ∀ n, j ≤ n → ∀ h l, h < Q n → l < Q n → tw (n + 1) j (h * Q n + l) = tw n j h * Q n + tw n j l) :
    ∀ n, j + 1 ≤ n → ∀ h l, h < Q n → l < Q n → tw (n + 1) (j + 1) (h * Q n + l) = tw n (j + 1) h * Q n + tw n (j + 1) l ∧ tw n (j + 1) l < Q n := by
  intro n hn h l hh hl
  have hM := M_lt' hn
  have hMQ := M_lt_Q hn
  have hjn : j ≤ n := by omega
  have hQj := z27 j
  -- the higher parts
  have hdiv : (h * Q n + l) / Q j = (h / Q j) * Q n + ((h % Q j) * H j n + l / Q j) := by
    have e1 : h * Q n = (h * H j n) * Q j := by rw [← z4Y hjn, Nat.mul_assoc]
    rw [e1, Nat.mul_comm (h * H j n), Nat.mul_add_div hQj]
    have e2 := Nat.div_add_mod h (Q j)
    have e3 : h * H j n = (h / Q j) * Q n + (h % Q j) * H j n := by
      conv => lhs; rw [← e2]
      rw [Nat.add_mul, ← z4Y hjn]
      congr 1
      rw [Nat.mul_comm (Q j), Nat.mul_assoc, Nat.mul_comm (Q j)]
    rw [e3, Nat.add_assoc]
  have hlq : l / Q j < H j n := Nat.div_lt_of_lt_mul (by rw [Nat.mul_comm, z4Y hjn]; exact hl)
  have hl' : (h % Q j) * H j n + l / Q j < Q n := by
    have h1 : (h % Q j) * H j n + H j n ≤ Q j * H j n := by
      have := Nat.mul_le_mul_right (H j n) (Nat.mod_lt h hQj)
      rw [Nat.succ_mul] at this; exact this
    rw [Nat.mul_comm (Q j), z4Y hjn] at h1
    omega
  have hand : ((h % Q j) * H j n + l / Q j) &&& M j n = (l / Q j) &&& M j n := by
    have e1 : ∀ x, x &&& M j n = (x % H j n) &&& M j n := fun x => by
      have h3 : x &&& M j n < H j n := z28 hM
      have h4 : (x &&& M j n) % H j n = x &&& M j n := Nat.mod_eq_of_lt h3
      rw [← h4]; unfold H; rw [Nat.and_mod_two_pow]
      rw [show M j n % 2 ^ (2 ^ n - 2 ^ j) = M j n from Nat.mod_eq_of_lt hM]
    rw [e1, Nat.mul_comm, Nat.mul_add_mod, ← e1]
  have hhi : ((h * Q n + l) / Q j) &&& M j (n + 1) = ((h / Q j) &&& M j n) * Q n + ((l / Q j) &&& M j n) := by
    rw [z5g hn, hdiv, z4B hl' hMQ, hand]
  have hlo : (h * Q n + l) &&& M j (n + 1) = (h &&& M j n) * Q n + (l &&& M j n) := by rw [z5g hn, z4B hl hMQ]
  have b1 : (h / Q j) &&& M j n < Q n := z28 hMQ
  have b2 : (l / Q j) &&& M j n < Q n := z28 hMQ
  have b3 : l &&& M j n < H j n := z28 hM
  have b4 : (l / Q j) &&& M j n < H j n := z28 hM
  have b5 : tw n j ((l / Q j) &&& M j n) < H j n := by
    rw [C n hjn _ b2]
    obtain ⟨d, rfl⟩ := Nat.le.dest hjn
    exact z4Q (z48 j) d _ b4
  have b6 : (l &&& M j n) ^^^ tw n j ((l / Q j) &&& M j n) < H j n := Nat.xor_lt_two_pow b3 b5
  have b7 := lt_H_mul hjn b6
  have b8 : tw n j ((l / Q j) &&& M j n) < Q n := Nat.lt_of_lt_of_le b5 (H_le hjn)
  have b9 : l &&& M j n < Q n := z28 hMQ
  constructor
  · simp only [tw]
    rw [hhi, hlo, D n hjn _ _ b1 b2, z4X b9 b8, Nat.add_mul]
    have e5 : ∀ X Y : Nat, Y < Q n → (X * Q n * Q j + Y) % Q (n + 1) = ((X * Q j) % Q n) * Q n + Y := by
      intro X Y hY
      rw [show X * Q n * Q j = X * Q j * Q n by rw [Nat.mul_assoc, Nat.mul_comm (Q n), ← Nat.mul_assoc], z2k]
      rw [Nat.mul_comm (X * Q j), Nat.mod_mul, Nat.mul_add_mod, Nat.mod_eq_of_lt hY, Nat.mul_add_div (z27 n), Nat.div_eq_of_lt hY, Nat.add_zero, Nat.mul_comm (Q n), Nat.add_comm]
    rw [e5 _ _ b7, z5I b7 b2, Nat.mod_eq_of_lt b7]
  · simp only [tw]
    exact or_lt (Nat.mod_lt _ (z27 n)) b2
theorem z5N : ∀ j, (∀ n, j ≤ n → ∀ v, v < Q n → tw n j v = val (of n (val (gen j)) * of n v)) ∧ (∀ n, j ≤ n → ∀ h l, h < Q n → l < Q n → tw (n + 1) j (h * Q n + l) = tw n j h * Q n + tw n j l)
  | 0 => ⟨fun n _ v hv => by rw [z4F, z2x, of_one, one_mul, z1F _ _ hv]; rfl, fun n _ h l _ _ => rfl⟩
  | j + 1 => by
    obtain ⟨C, D⟩ := z5N j
    have D' := tw_split C D
    refine ⟨?_, fun n hn h l hh hl => (D' n hn h l hh hl).1⟩
    intro n hn
    obtain ⟨d, rfl⟩ := Nat.le.dest hn
    clear hn
    induction d with
    | zero =>
      intro v hv
      rw [Nat.add_zero] at hv ⊢
      have hQj := z27 j
      have hd : v / Q j < Q j := Nat.div_lt_of_lt_mul (by rw [← z2k]; exact hv)
      have hm : v % Q j < Q j := Nat.mod_lt _ hQj
      have hmask : ∀ x, x &&& M j (j + 1) = x % Q j := fun x => by rw [M_base]; unfold Q; rw [Nat.and_two_pow_sub_one_eq_mod]
      have e1 : tw (j + 1) j (v / Q j) = val (gen j * of j (v / Q j)) := by
        rw [C (j + 1) (by omega) _ (Nat.lt_of_lt_of_le hd (z5i j)), z3m (d := 1) (z48 j) hd, z1w]
      simp only [tw]
      rw [hmask, hmask, Nat.mod_eq_of_lt hd, e1]
      have hv2 := z18 (gen j * of j (v / Q j))
      have hX := z1X hm hv2
      rw [Nat.mod_eq_of_lt (show _ * Q j < Q (j + 1) by rw [z2k]; exact Nat.mul_lt_mul_of_pos_right hX hQj)]
      have hor : ∀ X, X * Q j ||| (v / Q j) = X * Q j + v / Q j := fun X => by
        have := z5I (n := j) (a := X) (b := 0) (c := 0) (d := v / Q j) hQj hd
        simpa using this
      rw [hor, z1w, z1s]
      congr 1
      · congr 1
        rw [z1K, z2m, z2n, one_mul, zero_mul, one_mul, add_zero, z1E, z1V, z20, z1t, z1F _ _ hm]
      · rw [z1L, z2m, z2n, one_mul, zero_mul, zero_add, z1E, z1V, z1F _ _ hd]
    | succ d ih =>
      intro v hv
      rw [← Nat.add_assoc] at hv ⊢
      have hvd := Nat.div_add_mod v (Q (j + 1 + d))
      rw [Nat.mul_comm] at hvd
      have h1 : v / Q (j + 1 + d) < Q (j + 1 + d) := Nat.div_lt_of_lt_mul (by rw [← z2k]; exact hv)
      have h2 : v % Q (j + 1 + d) < Q (j + 1 + d) := Nat.mod_lt _ (z27 _)
      have hg : val (gen (j + 1)) < Q (j + 1 + d) := Nat.lt_of_lt_of_le (z48 (j + 1)) (z2G (Nat.le_add_right _ _))
      have e1 : of (j + 1 + d + 1) (val (gen (j + 1))) = up (of (j + 1 + d) (val (gen (j + 1)))) := z4b hg
      rw [e1, z2R, z1s, z1V, z20, z1E, z1V, z20, ← ih _ h1, ← ih _ h2]
      conv => lhs; rw [← hvd]
      exact (D' (j + 1 + d) (by omega) _ _ h1 h2).1
theorem tw_eq {j n v : Nat} (h : j ≤ n) (hv : v < Q n) : tw n j v = val (of n (val (gen j)) * of n v) := (z5N j).1 n h v hv
/-- A bit of a level is a product of generators. -/
def gp (n : Nat) : Nat → Nat → T n
  | 0, _ => 1
  | m + 1, i => (if i.testBit m then of n (val (gen (m + 1))) else 1) * gp n m i
theorem gp_up {n : Nat} : ∀ m i, m ≤ n → gp (n + 1) m i = up (gp n m i)
  | 0, i, _ => rfl
  | m + 1, i, h => by
    show (if i.testBit m then of (n + 1) (val (gen (m + 1))) else 1) * gp (n + 1) m i = up ((if i.testBit m then of n (val (gen (m + 1))) else 1) * gp n m i)
    rw [up_mul, gp_up m i (by omega)]
    congr 1
    split
    · exact z4b (Nat.lt_of_lt_of_le (z48 (m + 1)) (z2G h))
    · rfl
theorem gp_mod {n : Nat} : ∀ m i k, m ≤ k → gp n m (i % 2 ^ k) = gp n m i
  | 0, i, k, _ => rfl
  | m + 1, i, k, h => by
    show (if (i % 2 ^ k).testBit m then _ else _) * gp n m (i % 2 ^ k) = (if i.testBit m then _ else _) * gp n m i
    rw [gp_mod m i k (by omega), Nat.testBit_mod_two_pow, decide_eq_true (by omega), Bool.true_and]
theorem gp_bit : ∀ n i, i < 2 ^ n → gp n n i = of n (2 ^ i)
  | 0, i, h => by
    have : i = 0 := by simpa using h
    rw [this]; rfl
  | n + 1, i, h => by
    show (if i.testBit n then of (n + 1) (val (gen (n + 1))) else 1) * gp (n + 1) n i = of (n + 1) (2 ^ i)
    rw [gp_up n i (Nat.le_refl _), ← gp_mod n i n (Nat.le_refl _), gp_bit n _ (Nat.mod_lt _ (Nat.two_pow_pos n))]
    rw [Nat.pow_succ] at h
    by_cases c : i < 2 ^ n
    · rw [Nat.testBit_lt_two_pow c, Nat.mod_eq_of_lt c]
      rw [z4b (show 2 ^ i < Q n from Nat.pow_lt_pow_right (by decide) c)]
      simp only [Bool.false_eq_true, if_false, one_mul]; rfl
    · have hi : i % 2 ^ n = i - 2 ^ n := by rw [Nat.mod_eq_sub_mod (by omega), Nat.mod_eq_of_lt (by omega)]
      have hb : i.testBit n = true := by
        have := Nat.testBit_two_pow_add_eq (i - 2 ^ n) n
        rw [show 2 ^ n + (i - 2 ^ n) = i by omega, Nat.testBit_lt_two_pow (show i - 2 ^ n < 2 ^ n by omega)] at this
        simpa using this
      rw [hb, if_pos rfl, hi, z1w]
      have e : 2 ^ i = 2 ^ (i - 2 ^ n) * Q n + 0 := by
        unfold Q; rw [← Nat.pow_add, Nat.add_zero]; congr 1; omega
      rw [e, z1E, z2B (z27 n), z2C (z27 n), z1W]
      apply ext
      · rw [z1K, z2m, z2n, z2D, z3F, one_mul, zero_mul, z2f, z2f, add_zero, add_zero]; rfl
      · rw [z1L, z2m, z2n, z2D, zero_mul, z2f, add_zero]; rfl
/-- An element is the sum of its bits. -/
theorem z4C {n : Nat} (b k : Nat) (hb : b < Q n) (hk : k < 2 ^ n) : of n (b % 2 ^ (k + 1)) = of n (b % 2 ^ k) + (if b.testBit k then of n (2 ^ k) else 0) := by
  have h2 : 2 ^ k < Q n := Nat.pow_lt_pow_right (by decide) hk
  have h1 : b % 2 ^ k < Q n := Nat.lt_trans (Nat.mod_lt _ (Nat.two_pow_pos k)) h2
  have e : b % 2 ^ (k + 1) = b % 2 ^ k ^^^ (if b.testBit k then 2 ^ k else 0) := by
    apply Nat.eq_of_testBit_eq
    intro i
    rw [Nat.testBit_xor, Nat.testBit_mod_two_pow, Nat.testBit_mod_two_pow]
    by_cases hi : i = k
    · subst hi
      cases hbi : b.testBit i <;> simp
    · by_cases hlt : i < k
      · have : decide (i < k + 1) = true := decide_eq_true (by omega)
        rw [this, decide_eq_true hlt]
        split
        · rw [Nat.testBit_two_pow_of_ne (by omega)]; simp
        · simp
      · rw [decide_eq_false (by omega), decide_eq_false hlt]
        split
        · rw [Nat.testBit_two_pow_of_ne (by omega)]; simp
        · simp
  rw [e]
  split
  · rw [z5H h1 h2]
  · rw [Nat.xor_zero, add_zero]
end Go.Proofs.Ytngcaphdkgihmaa.Tw
namespace Go.Proofs.Ytngcaphdkgihmaa.P
open Go.RowKit Go.Proofs.YtngcaphdkgihmaaW.PrintWords Go.Proofs.YtngcaphdkgihmaaW.PrintLast Go.Proofs.YtngcaphdkgihmaaW.PrintMore
attribute [local go_sem] zU zW z15 z16 zQ zR zV zX   -- for this text's walks alone
set_option linter.unusedVariables false
set_option linter.unusedSimpArgs false
def zi.j0 : Nat → Int → Bool → Option (Int × Int)
 | 0,_,_=>none
 | k + 1,x0,x8=>if x8 = true then (some (0,0)) else (if x0 > 63 then (if 0 ≤ (IntKind.u64.wrap (wrap64 (x0 - 64))) then (some (shl .u64 1 (IntKind.u64.wrap (wrap64 (x0 - 64))),0)) else (none)) else (if 0 ≤ (IntKind.u64.wrap (x0)) then (some (0,shl .u64 1 (IntKind.u64.wrap (x0)))) else (none)))
def zi.f (k : Nat) (a0 : Int) : Option (Int × Int):=if a0 < 0 then (zi.j0 k a0 true) else (zi.j0 k a0 (decide (a0 > 127)))
theorem zi.z12 : ∀ k,(∀ y0 y1,LeO (zi.j0 k y0 y1) (zi.j0 (k + 1) y0 y1))
 | 0=>fun _ _ r h=>by simp [zi.j0] at h
 | k + 1=>by
  have ih0:=zi.z12 k
  · intro y0 y1
    unfold zi.j0
    repeat' first
    | (with_reducible exact ih0 _ _)
    | (with_reducible exact LeO.refl _)
    | (with_reducible exact LeO.none _)
    | (with_reducible refine LeO.ite ?_ ?_)
    | (with_reducible refine LeO.bind ?_ (fun _=>?_))
    | exact ih0 _ _
    | exact LeO.none _
    | refine LeO.ite ?_ ?_
    | refine LeO.bind ?_ (fun _=>?_)
theorem zi.mono : ∀ a0 k,LeO (zi.f k a0) (zi.f (k + 1) a0):=by
 intro a0 k
 have ih0:=zi.z12 k
 unfold zi.f
 repeat' first
  | (with_reducible exact ih0 _ _)
  | (with_reducible exact LeO.refl _)
  | (with_reducible exact LeO.none _)
  | (with_reducible refine LeO.ite ?_ ?_)
  | (with_reducible refine LeO.bind ?_ (fun _=>?_))
  | exact ih0 _ _
  | exact LeO.none _
  | refine LeO.ite ?_ ?_
  | refine LeO.bind ?_ (fun _=>?_)
set_option maxHeartbeats 8000000 in
set_option maxRecDepth 100000 in
theorem zi.calls (k : Nat) (a0 : Int) (r1 : Int) (r2 : Int) (w : World) (h : zi.f k a0 = some (r1,r2)) :
 Calls Try.prog 75 #[.int .i64 a0] w fun e w'=>e = .returned (.agg #[.int .u64 r1,.int .u64 r2]) ∧ Below w.heap.size w w':=by
 have hu61:=Try.underlying61
 have HB:=z3.mk (Below.refl w.heap.size w)
 have H : (if a0 < 0 then (zi.j0 k a0 true) else (zi.j0 k a0 (decide (a0 > 127)))) = some (r1,r2):=h
 clear h
 have HC2:=z3.mk H
 clear H
 go_enter Try.func75,Try.ntmps75
 go_upto_region 1 with (first|((with_reducible refine zA (N:=2) rfl ?_);refine zB ?hg (N:=2) ?hd (cs:=#[.int .u64 0,.int .u64 0]) (t:=61) ?hr ?_;(case hd=>rfl);(case hg=>rfl);(case hr=>first|(go_simp;done)|(go_simp;rfl));intro gb101 hg w3 hbox hb;have n0_:=z3.mk (za (by repeat (first|(with_reducible first|exact HB.out|apply z2|apply z0|apply z1)|exact HB.out)) hb);have n1_:=z3.mk (hbox);have n2_:=z3.mk ((by rw [hg];exact (zc (by repeat (first|(with_reducible first|exact HB.out|apply z2|apply z0|apply z1)|exact HB.out))) : w.heap.size ≤ gb101));have n3_:=z3.mk ((by rw [hg];exact (zc (by repeat (first|(with_reducible first|exact HB.out|apply z2|apply z0|apply z1)|exact HB.out))) : w.heap.size ≤ gb101));clear HB;have HB:=n0_;have BK101:=n1_;have GW101:=n2_;have GE101:=n3_;clear n0_ n1_ n2_ n3_;clear hb hbox hg))
 (try simp only [Act.put,List.setIfInBounds_toArray,List.set_cons_zero,List.set_cons_succ])
 go_cut [8] (fun v8 wc=>∃ (kq : Nat) (x8_1 : Bool),v8 = .bool x8_1 ∧ z3 (zi.j0 kq a0 x8_1 = some (r1,r2)) ∧ z3 (kq ≤ k) ∧ z3 (wc.heap[gb101]? = some (.cells #[.int .u64 0,.int .u64 0] 61 (0,0))) ∧ z3 (Below w.heap.size w wc))
 case first =>
  have H:=HC2.out
  clear HC2
  by_cases c4 : a0 < 0
  rotate_left
  · rw [if_neg c4] at H
    have c4b0 : decide (a0 < 0) = false:=decide_eq_false c4
    clear c4
    (first|rw [c4b0]|(simp only [zC,zK];rw [c4b0])|skip)
    have H':=z3.mk H
    clear H
    go_wp2
    go_meet
    case rel=>exact ⟨_,(decide (a0 > 127)),(by first|rfl|(simp;done)|(simp [*];done)),H',⟨by first|omega|exact Nat.le_refl _⟩,⟨by (with_reducible repeat (first|refine z5 ?_ _|refine z7 ?_|refine z4 ?_ _));exact BK101.out⟩,⟨by repeat (first|(with_reducible first|exact HB.out|apply z2|apply z0|apply z1|refine z6 ?_ GE101.out)|exact HB.out)⟩⟩
  rw [if_pos c4] at H
  have c4b0 : decide (a0 < 0) = true:=decide_eq_true c4
  clear c4
  (first|rw [c4b0]|(simp only [zC,zK];rw [c4b0])|skip)
  have H':=z3.mk H
  clear H
  go_wp2
  go_meet
  case rel=>exact ⟨_,(true),(by first|rfl|(simp;done)|(simp [*];done)),H',⟨by first|omega|exact Nat.le_refl _⟩,⟨by (with_reducible repeat (first|refine z5 ?_ _|refine z7 ?_|refine z4 ?_ _));exact BK101.out⟩,⟨by repeat (first|(with_reducible first|exact HB.out|apply z2|apply z0|apply z1|refine z6 ?_ GE101.out)|exact HB.out)⟩⟩
 case rest =>
  clear HC2
  (try clear p2);(try clear c4);(try clear c4b0)
  obtain ⟨kq,x8_1,rfl,HA,HJ1,BK101,HB⟩:=hcut
  cases kq with
  | zero=>exact absurd HA.out (by simp [zi.j0])
  | succ kj1 =>
   have H:=HA.out
   clear HA
   simp only [zi.j0] at H
   by_cases c5 : x8_1 = true
   · subst c5
     have H1 : (some (0,0)) = some (r1,r2):=by rw [if_pos rfl] at H;exact H
     clear H
     have H:=H1
     clear H1
     simp only [Option.some.injEq,Prod.mk.injEq] at H
     obtain ⟨rfl,rfl⟩:=H
     have hcz6_0 : wc.cell? ⟨gb101,0,none⟩ = some (.int .u64 0):=(ze BK101.out 0).trans rfl
     have hcz6_1 : wc.cell? ⟨gb101,1,none⟩ = some (.int .u64 0):=(ze BK101.out 1).trans rfl
     have hfz6_0:=zd BK101.out 0
     have hfz6_1:=zd BK101.out 1
     go_wp2
     refine bodyPost_ret (results_cell_row rfl _ _ gb101 61 #[.int .u64 0,.int .u64 0] (0,0) _ rfl (by (with_reducible repeat (first|refine z5 ?_ _|refine z7 ?_|refine z4 ?_ _));refine zH (cs:=#[.int .u64 0,.int .u64 0]) ?_ 1 _ rfl;(with_reducible repeat (first|refine z5 ?_ _|refine z7 ?_|refine z4 ?_ _));refine zH (cs:=#[.int .u64 0,.int .u64 0]) ?_ 0 _ rfl;(with_reducible repeat (first|refine z5 ?_ _|refine z7 ?_|refine z4 ?_ _));exact BK101.out) Try.underlying61 rfl (by kernel_rfl)) rfl ?_
     exact ⟨by first|rfl|(simp [zf,zg] <;> rfl)|(simp [*,zf,zg] <;> rfl),by repeat (first|(with_reducible first|exact HB.out|apply z2|apply z0|apply z1|refine z6 ?_ GE101.out)|exact HB.out)⟩
   replace c5:=Bool.eq_false_iff.mpr c5
   subst c5
   have H1 : (if a0 > 63 then (if 0 ≤ (IntKind.u64.wrap (wrap64 (a0 - 64))) then (some (shl .u64 1 (IntKind.u64.wrap (wrap64 (a0 - 64))),0)) else (none)) else (if 0 ≤ (IntKind.u64.wrap (a0)) then (some (0,shl .u64 1 (IntKind.u64.wrap (a0)))) else (none))) = some (r1,r2):=by rw [if_neg (show ¬ (false = true) by decide)] at H;exact H
   clear H
   have H:=H1
   clear H1
   by_cases c7 : a0 > 63
   · rw [if_pos c7] at H
     have c7b0 : decide (63 < a0) = true:=decide_eq_true c7
     clear c7
     obtain ⟨ji8,hji8⟩ : ∃ j_ : Int,(IntKind.u64.wrap (wrap64 (a0 - 64))) = j_:=⟨_,rfl⟩
     replace H : (if 0 ≤ (ji8) then (some (shl .u64 1 (ji8),0)) else (none)) = some (r1,r2):=by first|(rw [hji8] at H;exact H)|(simp only [hji8] at H ⊢;exact H)
     by_cases c9 : 0 ≤ (ji8)
     rotate_left
     · rw [if_neg c9] at H
       exact absurd H (by simp)
     rw [if_pos c9] at H
     have c9b0:=eq_true c9
     have c9b1 : decide (0 ≤ (ji8)) = true:=decide_eq_true c9
     clear c9
     obtain ⟨ji10,hji10⟩ : ∃ j_ : Int,(shl .u64 1 (ji8)) = j_:=⟨_,rfl⟩
     replace H : (some (ji10,0)) = some (r1,r2):=by first|(rw [hji10] at H;exact H)|(simp only [hji10] at H ⊢;exact H)
     have hji10_ : (IntKind.u64.wrap (1 * 2 ^ min (ji8).toNat 64)) = ji10:=hji10
     have hji10z : (ji8) ≤ 64 → (IntKind.u64.wrap (1 * 2 ^ (ji8).toNat)) = ji10:=z19 hji10
     have hji10n0 : 0 ≤ ji10:=by rw [← hji10];exact Int.emod_nonneg _ (by decide)
     have hji10n1 : decide (0 ≤ ji10) = true:=decide_eq_true hji10n0
     replace hji10n0:=eq_true hji10n0
     have hji10u : (IntKind.u64.wrap (2 ^ min (ji8).toNat 64)) = ji10:=by have h_:=hji10_;rw [Int.one_mul] at h_;exact h_
     have hji10v : (ji8) ≤ 64 → (IntKind.u64.wrap (2 ^ (ji8).toNat)) = ji10:=fun hle_=>by have h_:=hji10z hle_;rw [Int.one_mul] at h_;exact h_
     simp only [Option.some.injEq,Prod.mk.injEq] at H
     obtain ⟨rfl,rfl⟩:=H
     have hcz11_0 : wc.cell? ⟨gb101,0,none⟩ = some (.int .u64 0):=(ze BK101.out 0).trans rfl
     have hcz11_1 : wc.cell? ⟨gb101,1,none⟩ = some (.int .u64 0):=(ze BK101.out 1).trans rfl
     have hfz11_0:=zd BK101.out 0
     have hfz11_1:=zd BK101.out 1
     go_wp2
     refine bodyPost_ret (results_cell_row rfl _ _ gb101 61 #[.int .u64 ji10,.int .u64 0] (0,0) _ rfl (by (with_reducible repeat (first|refine z5 ?_ _|refine z7 ?_|refine z4 ?_ _));refine zH (cs:=#[.int .u64 ji10,.int .u64 0]) ?_ 1 _ rfl;(with_reducible repeat (first|refine z5 ?_ _|refine z7 ?_|refine z4 ?_ _));refine zH (cs:=#[.int .u64 0,.int .u64 0]) ?_ 0 _ rfl;(with_reducible repeat (first|refine z5 ?_ _|refine z7 ?_|refine z4 ?_ _));exact BK101.out) Try.underlying61 rfl (by kernel_rfl)) rfl ?_
     exact ⟨by first|rfl|(simp [zf,zg] <;> rfl)|(simp only [← hji8,← hji10];first|rfl|(simp [zf,zg] <;> rfl))|(simp [*,zf,zg] <;> rfl),by repeat (first|(with_reducible first|exact HB.out|apply z2|apply z0|apply z1|refine z6 ?_ GE101.out)|exact HB.out)⟩
   rw [if_neg c7] at H
   have c7b0 : decide (63 < a0) = false:=decide_eq_false c7
   clear c7
   obtain ⟨ji12,hji12⟩ : ∃ j_ : Int,(IntKind.u64.wrap (a0)) = j_:=⟨_,rfl⟩
   replace H : (if 0 ≤ (ji12) then (some (0,shl .u64 1 (ji12))) else (none)) = some (r1,r2):=by first|(rw [hji12] at H;exact H)|(simp only [hji12] at H ⊢;exact H)
   by_cases c13 : 0 ≤ (ji12)
   rotate_left
   · rw [if_neg c13] at H
     exact absurd H (by simp)
   rw [if_pos c13] at H
   have c13b0:=eq_true c13
   have c13b1 : decide (0 ≤ (ji12)) = true:=decide_eq_true c13
   clear c13
   obtain ⟨ji14,hji14⟩ : ∃ j_ : Int,(shl .u64 1 (ji12)) = j_:=⟨_,rfl⟩
   replace H : (some (0,ji14)) = some (r1,r2):=by first|(rw [hji14] at H;exact H)|(simp only [hji14] at H ⊢;exact H)
   have hji14_ : (IntKind.u64.wrap (1 * 2 ^ min (ji12).toNat 64)) = ji14:=hji14
   have hji14z : (ji12) ≤ 64 → (IntKind.u64.wrap (1 * 2 ^ (ji12).toNat)) = ji14:=z19 hji14
   have hji14n0 : 0 ≤ ji14:=by rw [← hji14];exact Int.emod_nonneg _ (by decide)
   have hji14n1 : decide (0 ≤ ji14) = true:=decide_eq_true hji14n0
   replace hji14n0:=eq_true hji14n0
   have hji14u : (IntKind.u64.wrap (2 ^ min (ji12).toNat 64)) = ji14:=by have h_:=hji14_;rw [Int.one_mul] at h_;exact h_
   have hji14v : (ji12) ≤ 64 → (IntKind.u64.wrap (2 ^ (ji12).toNat)) = ji14:=fun hle_=>by have h_:=hji14z hle_;rw [Int.one_mul] at h_;exact h_
   simp only [Option.some.injEq,Prod.mk.injEq] at H
   obtain ⟨rfl,rfl⟩:=H
   have hcz15_0 : wc.cell? ⟨gb101,0,none⟩ = some (.int .u64 0):=(ze BK101.out 0).trans rfl
   have hcz15_1 : wc.cell? ⟨gb101,1,none⟩ = some (.int .u64 0):=(ze BK101.out 1).trans rfl
   have hfz15_0:=zd BK101.out 0
   have hfz15_1:=zd BK101.out 1
   go_wp2
   refine bodyPost_ret (results_cell_row rfl _ _ gb101 61 #[.int .u64 0,.int .u64 ji14] (0,0) _ rfl (by (with_reducible repeat (first|refine z5 ?_ _|refine z7 ?_|refine z4 ?_ _));refine zH (cs:=#[.int .u64 0,.int .u64 0]) ?_ 1 _ rfl;(with_reducible repeat (first|refine z5 ?_ _|refine z7 ?_|refine z4 ?_ _));refine zH (cs:=#[.int .u64 0,.int .u64 0]) ?_ 0 _ rfl;(with_reducible repeat (first|refine z5 ?_ _|refine z7 ?_|refine z4 ?_ _));exact BK101.out) Try.underlying61 rfl (by kernel_rfl)) rfl ?_
   exact ⟨by first|rfl|(simp [zf,zg] <;> rfl)|(simp only [← hji12,← hji14];first|rfl|(simp [zf,zg] <;> rfl))|(simp [*,zf,zg] <;> rfl),by repeat (first|(with_reducible first|exact HB.out|apply z2|apply z0|apply z1|refine z6 ?_ GE101.out)|exact HB.out)⟩
end Go.Proofs.Ytngcaphdkgihmaa.P
namespace Go.Proofs.Ytngcaphdkgihmaa.P
open Go.RowKit Go.Proofs.YtngcaphdkgihmaaW.PrintWords Go.Proofs.YtngcaphdkgihmaaW.PrintLast Go.Proofs.YtngcaphdkgihmaaW.PrintMore
attribute [local go_sem] zU zW z15 z16 zQ zR zV zX   -- for this text's walks alone
set_option linter.unusedVariables false
set_option linter.unusedSimpArgs false
def zt.f (k : Nat) (a0_0 : Int) (a0_1 : Int) (a1 : Int) : Option (Bool):=(zi.f k a1).bind fun bt102=>(some ((Go.bits .or .u64 (Go.bits .and .u64 a0_1 bt102.2) (Go.bits .and .u64 a0_0 bt102.1)) != 0))
theorem zt.mono : ∀ a0 a1 a2 k,LeO (zt.f k a0 a1 a2) (zt.f (k + 1) a0 a1 a2):=by
 intro a0 a1 a2 k
 unfold zt.f
 repeat' first
  | (with_reducible exact zi.mono _ _)
  | (with_reducible exact LeO.refl _)
  | (with_reducible exact LeO.none _)
  | (with_reducible refine LeO.ite ?_ ?_)
  | (with_reducible refine LeO.bind ?_ (fun _=>?_))
  | exact zi.mono _ _
  | exact LeO.none _
  | refine LeO.ite ?_ ?_
  | refine LeO.bind ?_ (fun _=>?_)
set_option maxHeartbeats 8000000 in
set_option maxRecDepth 100000 in
theorem zt.calls (k : Nat) (a0_0 : Int) (a0_1 : Int) (a1 : Int) (r : Bool) (w : World) (h : zt.f k a0_0 a0_1 a1 = some r) :
 Calls Try.prog 73 #[.agg #[.int .u64 a0_0,.int .u64 a0_1],.int .i64 a1] w fun e w'=>e = .returned (.bool r) ∧ Below w.heap.size w w':=by
 have hu61:=Try.underlying61
 have HB:=z3.mk (Below.refl w.heap.size w)
 have H : ((zi.f k a1).bind fun bt102=>(some ((Go.bits .or .u64 (Go.bits .and .u64 a0_1 bt102.2) (Go.bits .and .u64 a0_0 bt102.1)) != 0))) = some r:=h
 clear h
 replace H:=Option.bind_eq_some_iff.mp H
 obtain ⟨⟨t102,t103⟩,A30,H⟩:=H
 replace H : (some ((Go.bits .or .u64 (Go.bits .and .u64 a0_1 t103) (Go.bits .and .u64 a0_0 t102)) != 0)) = some r:=H
 have A3:=z3.mk A30
 clear A30
 obtain rfl:=Option.some.inj H
 go_enter Try.func73,Try.ntmps73
 go_wp2_with (first|((with_reducible refine zA (N:=2) rfl ?_);refine zB ?hg (N:=2) ?hd (cs:=#[.int .u64 a0_0,.int .u64 a0_1]) (t:=61) ?hr ?_;(case hd=>rfl);(case hg=>rfl);(case hr=>first|(go_simp;done)|(go_simp;rfl));intro gb101 hg w4 hbox hb;have n0_:=z3.mk (za (by repeat (first|(with_reducible first|exact HB.out|apply z2|apply z0|apply z1)|exact HB.out)) hb);have n1_:=z3.mk (hbox);have n2_:=z3.mk ((by rw [hg];exact (zc (by repeat (first|(with_reducible first|exact HB.out|apply z2|apply z0|apply z1)|exact HB.out))) : w.heap.size ≤ gb101));have n3_:=z3.mk ((by rw [hg];exact (zc (by repeat (first|(with_reducible first|exact HB.out|apply z2|apply z0|apply z1)|exact HB.out))) : w.heap.size ≤ gb101));clear HB;have HB:=n0_;have BK101:=n1_;have GW101:=n2_;have GE101:=n3_;clear n0_ n1_ n2_ n3_;clear hb hbox hg)|((with_reducible refine zq (f:=75) rfl ?_);refine goesL_ (some 7) rfl rfl Try.func75 (by kernel_rfl) rfl #[.int .i64 a1] rfl (by (try simp only [List.map_toArray,List.map_cons,List.map_nil]);first|done|rfl|(simp only [List.length_drop,List.length_take];rfl)) ?_;(with_reducible refine (zi.calls k a1 t102 t103 _ A3.out).mono ?_);rintro e w5 ⟨rfl,hb⟩;refine ⟨_,rfl,?_⟩;have n0_:=z3.mk (zk (g:=gb101) (o:=.cells #[.int .u64 a0_0,.int .u64 a0_1] 61 (0,0)) (by (with_reducible repeat (first|refine z5 ?_ _|refine z7 ?_|refine z4 ?_ _));exact BK101.out) hb);have n1_:=z3.mk (za (by repeat (first|(with_reducible first|exact HB.out|apply z2|apply z0|apply z1|refine z6 ?_ GE101.out)|exact HB.out)) hb);clear BK101;clear HB;have BK101:=n0_;have HB:=n1_;clear n0_ n1_;(try clear hb);(try clear hb2);(try clear hk);(try clear hi))|((with_reducible refine zA (N:=5) rfl ?_);refine zB ?hg (N:=5) ?hd (cs:=#[.int .u64 0,.int .u64 0]) (t:=61) ?hr ?_;(case hd=>rfl);(case hg=>rfl);(case hr=>first|(go_simp;done)|(go_simp;rfl));intro gb104 hg w6 hbox hb;have n0_:=z3.mk (zk (g:=gb101) (o:=.cells #[.int .u64 a0_0,.int .u64 a0_1] 61 (0,0)) (by (with_reducible repeat (first|refine z5 ?_ _|refine z7 ?_|refine z4 ?_ _));exact BK101.out) hb);have n1_:=z3.mk (za (by repeat (first|(with_reducible first|exact HB.out|apply z2|apply z0|apply z1|refine z6 ?_ GE101.out)|exact HB.out)) hb);have n2_:=z3.mk (hbox);have n3_:=z3.mk ((by rw [hg];exact (zc (by repeat (first|(with_reducible first|exact HB.out|apply z2|apply z0|apply z1|refine z6 ?_ GE101.out)|exact HB.out))) : w.heap.size ≤ gb104));have n4_:=z3.mk ((by rw [hg];exact (zc (by repeat (first|(with_reducible first|exact HB.out|apply z2|apply z0|apply z1|refine z6 ?_ GE101.out)|exact HB.out))) : w.heap.size ≤ gb104));have n5_:=z3.mk ((by rw [hg];exact Nat.ne_of_lt (zS (g:=gb101) (o:=.cells #[.int .u64 a0_0,.int .u64 a0_1] 61 (0,0)) (by (with_reducible repeat (first|refine z5 ?_ _|refine z7 ?_|refine z4 ?_ _));exact BK101.out)) : gb101 ≠ gb104));have n6_:=z3.mk ((by rw [hg];exact Nat.ne_of_gt (zS (g:=gb101) (o:=.cells #[.int .u64 a0_0,.int .u64 a0_1] 61 (0,0)) (by (with_reducible repeat (first|refine z5 ?_ _|refine z7 ?_|refine z4 ?_ _));exact BK101.out)) : gb104 ≠ gb101));clear BK101;clear HB;have BK101:=n0_;have HB:=n1_;have BK104:=n2_;have GW104:=n3_;have GE104:=n4_;have NB101_104:=n5_;have NB104_101:=n6_;clear n0_ n1_ n2_ n3_ n4_ n5_ n6_;clear hb hbox hg;have hnb7:=NB104_101.out;have hnc7:=NB101_104.out;have hcz8_0 : w6.cell? ⟨gb104,0,none⟩ = some (.int .u64 0):=(ze BK104.out 0).trans rfl;have hcz8_1 : w6.cell? ⟨gb104,1,none⟩ = some (.int .u64 0):=(ze BK104.out 1).trans rfl;have hfz8_0:=zd BK104.out 0;have hfz8_1:=zd BK104.out 1;have hcz9_0 : w6.cell? ⟨gb101,0,none⟩ = some (.int .u64 a0_0):=(ze BK101.out 0).trans rfl;have hcz9_1 : w6.cell? ⟨gb101,1,none⟩ = some (.int .u64 a0_1):=(ze BK101.out 1).trans rfl;have hfz9_0:=zd BK101.out 0;have hfz9_1:=zd BK101.out 1))
 go_ret
 exact ⟨by first|rfl|(simp [zf,zg] <;> rfl)|(simp [*,zf,zg] <;> rfl),by repeat (first|(with_reducible first|exact HB.out|apply z2|apply z0|apply z1|refine z6 ?_ GE101.out|refine z6 ?_ GE104.out)|exact HB.out)⟩
end Go.Proofs.Ytngcaphdkgihmaa.P
namespace Go.Proofs.Ytngcaphdkgihmaa.P
open Go.RowKit Go.Proofs.YtngcaphdkgihmaaW.PrintWords Go.Proofs.YtngcaphdkgihmaaW.PrintLast Go.Proofs.YtngcaphdkgihmaaW.PrintMore
attribute [local go_sem] zU zW z15 z16 zQ zR zV zX   -- for this text's walks alone
set_option linter.unusedVariables false
set_option linter.unusedSimpArgs false
def zT.f (a0 : Int) : Option (Int):=(some (([6148914691236517205,3689348814741910323,1085102592571150095,71777214294589695,281470681808895,4294967295] : List Int) : List Int)).bind fun y101=>(if 0 ≤ a0 then (if a0 < (y101.length : Int) then (some (rd y101 a0)) else (none)) else (none))
set_option maxHeartbeats 8000000 in
set_option maxRecDepth 100000 in
theorem zT.calls (a0 : Int) (r : Int) (w : World) (h : zT.f a0 = some r) :
 Calls Try.prog 108 #[.int .i64 a0] w fun e w'=>e = .returned (.int .u64 r) ∧ Below w.heap.size w w':=by
 have HB:=z3.mk (Below.refl w.heap.size w)
 have H : ((some (([6148914691236517205,3689348814741910323,1085102592571150095,71777214294589695,281470681808895,4294967295] : List Int) : List Int)).bind fun y101=>(if 0 ≤ a0 then (if a0 < (y101.length : Int) then (some (rd y101 a0)) else (none)) else (none))) = some r:=h
 clear h
 obtain ⟨y101,hy101⟩ : ∃ y_ : List Int,y_ = (([6148914691236517205,3689348814741910323,1085102592571150095,71777214294589695,281470681808895,4294967295] : List Int)):=⟨_,rfl⟩
 replace H : (if 0 ≤ a0 then (if a0 < (y101.length : Int) then (some (rd y101 a0)) else (none)) else (none)) = some r:=by first|(rw [hy101];with_reducible exact H)|(have H2_:=(Option.bind_some _ _).symm.trans H;rw [hy101];with_reducible exact H2_)|(have H2_:=(Option.bind_some _ _).symm.trans H;with_reducible exact H2_)|with_reducible exact H|(rw [hy101];exact H)|exact H
 have Ny101:=z3.mk hy101
 clear hy101
 by_cases c2 : 0 ≤ a0
 rotate_left
 · rw [if_neg c2] at H
   exact absurd H (by simp)
 rw [if_pos c2] at H
 have c2b0 : decide (0 ≤ a0) = true:=decide_eq_true c2
 clear c2
 by_cases c3 : a0 < (y101.length : Int)
 rotate_left
 · rw [if_neg c3] at H
   exact absurd H (by simp)
 rw [if_pos c3] at H
 have c3b0 : decide (a0 < (y101.length : Int)) = true:=decide_eq_true c3
 clear c3
 obtain rfl:=Option.some.inj H
 go_enter Try.func108,Try.ntmps108
 go_wp2_with (first|((with_reducible refine zA (N:=4) rfl ?_);refine Kd.z24 (Kd.int .u64) _ 49 ?hg (N:=4) ?hd (xs:=([6148914691236517205,3689348814741910323,1085102592571150095,71777214294589695,281470681808895,4294967295] : List Int)) (inner:=[.int .u64 6148914691236517205,.int .u64 3689348814741910323,.int .u64 1085102592571150095,.int .u64 71777214294589695,.int .u64 281470681808895,.int .u64 4294967295]) (ok:=fun _=>True) (okp:=fun _=>True) ?hr ?hp (fun _ hk=>hk) trivial (Below.refl _ _) (Nat.le_refl _) (by simp) ?_;(case hd=>rfl);(case hg=>rfl);(case hr=>first|(go_simp;done)|(go_simp;rfl));(case hp=>exact (Reps.one (show Kd.M (Kd.int .u64) _ _ _ 6148914691236517205 [.int .u64 6148914691236517205] from rfl) (Reps.one (show Kd.M (Kd.int .u64) _ _ _ 3689348814741910323 [.int .u64 3689348814741910323] from rfl) (Reps.one (show Kd.M (Kd.int .u64) _ _ _ 1085102592571150095 [.int .u64 1085102592571150095] from rfl) (Reps.one (show Kd.M (Kd.int .u64) _ _ _ 71777214294589695 [.int .u64 71777214294589695] from rfl) (Reps.one (show Kd.M (Kd.int .u64) _ _ _ 281470681808895 [.int .u64 281470681808895] from rfl) (Reps.one (show Kd.M (Kd.int .u64) _ _ _ 4294967295 [.int .u64 4294967295] from rfl) (Reps.none _ _))))))));intro v102 w4 ho5 hb hg_ hnew_;clear hg_ hnew_;(first|rw [← Ny101.out] at ho5|(simp only [Int.reduceToNat] at ho5;rw [← Ny101.out] at ho5));have n0_:=z3.mk (Kd.z17 ho5 (zc (by repeat (first|(with_reducible first|exact HB.out|apply z2|apply z0|apply z1)|exact HB.out))));have n1_:=z3.mk (za (by repeat (first|(with_reducible first|exact HB.out|apply z2|apply z0|apply z1)|exact HB.out)) hb);clear HB;have HO103:=n0_;have HB:=n1_;clear n0_ n1_;clear hb ho5;obtain ⟨Ao6,co6,eo6⟩:=Kd.z10 HO103.out;subst eo6;have p104 : 0 ≤ (a0 : Int):=of_decide_eq_true (by first|(with_reducible assumption)|assumption);have q104 : a0 < (y101.length : Int):=of_decide_eq_true (by first|(with_reducible assumption)|assumption);obtain ⟨ad104,e104,hx104_0⟩:=Kd.z1U (Kd.zN HO103.out).2.2 a0 p104 q104;cases e104;replace p104:=eq_true p104;replace q104:=eq_true q104))
 go_ret
 exact ⟨by first|rfl|(simp [zf,zg] <;> rfl)|(simp [*,zf,zg] <;> rfl),by repeat (first|(with_reducible first|exact HB.out|apply z2|apply z0|apply z1)|exact HB.out)⟩
end Go.Proofs.Ytngcaphdkgihmaa.P
namespace Go.Proofs.Ytngcaphdkgihmaa.P
open Go.RowKit Go.Proofs.YtngcaphdkgihmaaW.PrintWords Go.Proofs.YtngcaphdkgihmaaW.PrintLast Go.Proofs.YtngcaphdkgihmaaW.PrintMore
attribute [local go_sem] zU zW z15 z16 zQ zR zV zX   -- for this text's walks alone
set_option linter.unusedVariables false
set_option linter.unusedSimpArgs false
def zo.f : Nat → Int → Int → Option (Int)
 | 0,_,_=>none
 | k + 1,a0,a1=>if a0 < 0 then (some a1) else (if 0 ≤ (IntKind.u64.wrap (a0)) then ((zT.f a0).bind fun t101=>((zT.f a0).bind fun t102=>((zo.f k (wrap64 (a0 - 1)) (Go.bits .and .u64 (shr .u64 a1 (shl .u64 1 (IntKind.u64.wrap (a0)))) t101)).bind fun t103=>(some (Go.bits .or .u64 (shl .u64 (Go.bits .xor .u64 (Go.bits .and .u64 a1 t102) t103) (shl .u64 1 (IntKind.u64.wrap (a0)))) (Go.bits .and .u64 (shr .u64 a1 (shl .u64 1 (IntKind.u64.wrap (a0)))) t101)))))) else (none))
theorem zo.z12 : ∀ k,(∀ y0 y1,LeO (zo.f k y0 y1) (zo.f (k + 1) y0 y1))
 | 0=>fun _ _ r h=>by simp [zo.f] at h
 | k + 1=>by
  have ih0:=zo.z12 k
  · intro y0 y1
    unfold zo.f
    repeat' first
    | (with_reducible exact ih0 _ _)
    | (with_reducible exact LeO.refl _)
    | (with_reducible exact LeO.none _)
    | (with_reducible refine LeO.ite ?_ ?_)
    | (with_reducible refine LeO.bind ?_ (fun _=>?_))
    | exact ih0 _ _
    | exact LeO.none _
    | refine LeO.ite ?_ ?_
    | refine LeO.bind ?_ (fun _=>?_)
theorem zo.mono : ∀ a0 a1 k,LeO (zo.f k a0 a1) (zo.f (k + 1) a0 a1):=by
 intro a0 a1 k
 have ih0:=zo.z12 k
 exact ih0 a0 a1
set_option maxHeartbeats 8000000 in
set_option maxRecDepth 100000 in
theorem zo.calls (k : Nat) : ∀ (a0 : Int) (a1 : Int) (r : Int) (w : World) (h : zo.f k a0 a1 = some r),
 Calls Try.prog 103 #[.int .i64 a0,.int .u64 a1] w fun e w'=>e = .returned (.int .u64 r) ∧ Below w.heap.size w w':=by
 induction k using Nat.strongRecOn with
 | _ k ih =>
 intro a0 a1 r w h
 cases k with
 | zero=>exact absurd h (by simp [zo.f])
 | succ k =>
 simp only [zo.f] at h
 have HB:=z3.mk (Below.refl w.heap.size w)
 have H : (if a0 < 0 then (some a1) else (if 0 ≤ (IntKind.u64.wrap (a0)) then ((zT.f a0).bind fun t101=>((zT.f a0).bind fun t102=>((zo.f k (wrap64 (a0 - 1)) (Go.bits .and .u64 (shr .u64 a1 (shl .u64 1 (IntKind.u64.wrap (a0)))) t101)).bind fun t103=>(some (Go.bits .or .u64 (shl .u64 (Go.bits .xor .u64 (Go.bits .and .u64 a1 t102) t103) (shl .u64 1 (IntKind.u64.wrap (a0)))) (Go.bits .and .u64 (shr .u64 a1 (shl .u64 1 (IntKind.u64.wrap (a0)))) t101)))))) else (none))) = some r:=h
 clear h
 by_cases c3 : a0 < 0
 · rw [if_pos c3] at H
   have c3b0 : decide (a0 < 0) = true:=decide_eq_true c3
   clear c3
   obtain rfl:=Option.some.inj H
   go_enter Try.func103,Try.ntmps103
   go_wp2
   go_ret
   exact ⟨by first|rfl|(simp [zf,zg] <;> rfl)|(simp [*,zf,zg] <;> rfl),by repeat (first|(with_reducible first|exact HB.out|apply z2|apply z0|apply z1)|exact HB.out)⟩
 rw [if_neg c3] at H
 have c3b0 : decide (a0 < 0) = false:=decide_eq_false c3
 clear c3
 obtain ⟨ji4,hji4⟩ : ∃ j_ : Int,(IntKind.u64.wrap (a0)) = j_:=⟨_,rfl⟩
 replace H : (if 0 ≤ (ji4) then ((zT.f a0).bind fun t101=>((zT.f a0).bind fun t102=>((zo.f k (wrap64 (a0 - 1)) (Go.bits .and .u64 (shr .u64 a1 (shl .u64 1 (ji4))) t101)).bind fun t103=>(some (Go.bits .or .u64 (shl .u64 (Go.bits .xor .u64 (Go.bits .and .u64 a1 t102) t103) (shl .u64 1 (ji4))) (Go.bits .and .u64 (shr .u64 a1 (shl .u64 1 (ji4))) t101)))))) else (none)) = some r:=by first|(rw [hji4] at H;exact H)|(simp only [hji4] at H ⊢;exact H)
 by_cases c5 : 0 ≤ (ji4)
 rotate_left
 · rw [if_neg c5] at H
   exact absurd H (by simp)
 rw [if_pos c5] at H
 have c5b0:=eq_true c5
 have c5b1 : decide (0 ≤ (ji4)) = true:=decide_eq_true c5
 clear c5
 obtain ⟨ji6,hji6⟩ : ∃ j_ : Int,(shl .u64 1 (ji4)) = j_:=⟨_,rfl⟩
 replace H : ((zT.f a0).bind fun t101=>((zT.f a0).bind fun t102=>((zo.f k (wrap64 (a0 - 1)) (Go.bits .and .u64 (shr .u64 a1 (ji6)) t101)).bind fun t103=>(some (Go.bits .or .u64 (shl .u64 (Go.bits .xor .u64 (Go.bits .and .u64 a1 t102) t103) (ji6)) (Go.bits .and .u64 (shr .u64 a1 (ji6)) t101)))))) = some r:=by first|(rw [hji6] at H;exact H)|(simp only [hji6] at H ⊢;exact H)
 have hji6_ : (IntKind.u64.wrap (1 * 2 ^ min (ji4).toNat 64)) = ji6:=hji6
 have hji6z : (ji4) ≤ 64 → (IntKind.u64.wrap (1 * 2 ^ (ji4).toNat)) = ji6:=z19 hji6
 have hji6n0 : 0 ≤ ji6:=by rw [← hji6];exact Int.emod_nonneg _ (by decide)
 have hji6n1 : decide (0 ≤ ji6) = true:=decide_eq_true hji6n0
 replace hji6n0:=eq_true hji6n0
 have hji6u : (IntKind.u64.wrap (2 ^ min (ji4).toNat 64)) = ji6:=by have h_:=hji6_;rw [Int.one_mul] at h_;exact h_
 have hji6v : (ji4) ≤ 64 → (IntKind.u64.wrap (2 ^ (ji4).toNat)) = ji6:=fun hle_=>by have h_:=hji6z hle_;rw [Int.one_mul] at h_;exact h_
 obtain ⟨ji7,hji7⟩ : ∃ j_ : Int,(shr .u64 a1 (ji6)) = j_:=⟨_,rfl⟩
 replace H : ((zT.f a0).bind fun t101=>((zT.f a0).bind fun t102=>((zo.f k (wrap64 (a0 - 1)) (Go.bits .and .u64 (ji7) t101)).bind fun t103=>(some (Go.bits .or .u64 (shl .u64 (Go.bits .xor .u64 (Go.bits .and .u64 a1 t102) t103) (ji6)) (Go.bits .and .u64 (ji7) t101)))))) = some r:=by first|(rw [hji7] at H;exact H)|(simp only [hji7] at H ⊢;exact H)
 have hji7_ : (a1 / 2 ^ min (ji6).toNat 64) = ji7:=hji7
 have hji7z : (ji6) ≤ 64 → (a1 / 2 ^ (ji6).toNat) = ji7:=z1C hji7
 replace H:=Option.bind_eq_some_iff.mp H
 obtain ⟨t101,A80,H⟩:=H
 replace H : ((zT.f a0).bind fun t102=>((zo.f k (wrap64 (a0 - 1)) (Go.bits .and .u64 (ji7) t101)).bind fun t103=>(some (Go.bits .or .u64 (shl .u64 (Go.bits .xor .u64 (Go.bits .and .u64 a1 t102) t103) (ji6)) (Go.bits .and .u64 (ji7) t101))))) = some r:=H
 have A8:=z3.mk A80
 clear A80
 replace H:=Option.bind_eq_some_iff.mp H
 obtain ⟨t102,A90,H⟩:=H
 replace H : ((zo.f k (wrap64 (a0 - 1)) (Go.bits .and .u64 (ji7) t101)).bind fun t103=>(some (Go.bits .or .u64 (shl .u64 (Go.bits .xor .u64 (Go.bits .and .u64 a1 t102) t103) (ji6)) (Go.bits .and .u64 (ji7) t101)))) = some r:=H
 have A9:=z3.mk A90
 clear A90
 replace H:=Option.bind_eq_some_iff.mp H
 obtain ⟨t103,A100,H⟩:=H
 replace H : (some (Go.bits .or .u64 (shl .u64 (Go.bits .xor .u64 (Go.bits .and .u64 a1 t102) t103) (ji6)) (Go.bits .and .u64 (ji7) t101))) = some r:=H
 have A10:=z3.mk A100
 clear A100
 obtain ⟨ji11,hji11⟩ : ∃ j_ : Int,(shl .u64 (Go.bits .xor .u64 (Go.bits .and .u64 a1 t102) t103) (ji6)) = j_:=⟨_,rfl⟩
 replace H : (some (Go.bits .or .u64 (ji11) (Go.bits .and .u64 (ji7) t101))) = some r:=by first|(rw [hji11] at H;exact H)|(simp only [hji11] at H ⊢;exact H)
 (try rw [hji11] at A8)
 (try rw [hji11] at A9)
 (try rw [hji11] at A10)
 have hji11_ : (IntKind.u64.wrap ((Go.bits .xor .u64 (Go.bits .and .u64 a1 t102) t103) * 2 ^ min (ji6).toNat 64)) = ji11:=hji11
 have hji11z : (ji6) ≤ 64 → (IntKind.u64.wrap ((Go.bits .xor .u64 (Go.bits .and .u64 a1 t102) t103) * 2 ^ (ji6).toNat)) = ji11:=z19 hji11
 have hji11n0 : 0 ≤ ji11:=by rw [← hji11];exact Int.emod_nonneg _ (by decide)
 have hji11n1 : decide (0 ≤ ji11) = true:=decide_eq_true hji11n0
 replace hji11n0:=eq_true hji11n0
 obtain rfl:=Option.some.inj H
 go_enter Try.func103,Try.ntmps103
 go_wp2_with (first|((with_reducible refine zq (f:=108) rfl ?_);refine goesL_ (some 18) rfl rfl Try.func108 (by kernel_rfl) rfl #[.int .i64 a0] rfl (by (try simp only [List.map_toArray,List.map_cons,List.map_nil]);first|done|rfl|(simp only [List.length_drop,List.length_take];rfl)) ?_;(with_reducible refine (zT.calls a0 t101 _ A8.out).mono ?_);rintro e w12 ⟨rfl,hb⟩;refine ⟨_,rfl,?_⟩;have n0_:=z3.mk (za (by repeat (first|(with_reducible first|exact HB.out|apply z2|apply z0|apply z1)|exact HB.out)) hb);clear HB;have HB:=n0_;clear n0_;(try clear hb);(try clear hb2);(try clear hk);(try clear hi))|((with_reducible refine zq (f:=108) rfl ?_);refine goesL_ (some 22) rfl rfl Try.func108 (by kernel_rfl) rfl #[.int .i64 a0] rfl (by (try simp only [List.map_toArray,List.map_cons,List.map_nil]);first|done|rfl|(simp only [List.length_drop,List.length_take];rfl)) ?_;(with_reducible refine (zT.calls a0 t102 _ A9.out).mono ?_);rintro e w13 ⟨rfl,hb⟩;refine ⟨_,rfl,?_⟩;have n0_:=z3.mk (za (by repeat (first|(with_reducible first|exact HB.out|apply z2|apply z0|apply z1)|exact HB.out)) hb);clear HB;have HB:=n0_;clear n0_;(try clear hb);(try clear hb2);(try clear hk);(try clear hi))|((with_reducible refine zq (f:=103) rfl ?_);refine goesL_ (some 28) rfl rfl Try.func103 (by kernel_rfl) rfl #[.int .i64 (wrap64 (a0 - 1)),.int .u64 (Go.bits .and .u64 (ji7) t101)] rfl (by (try simp only [List.map_toArray,List.map_cons,List.map_nil]);first|done|(simp only [hji7];rfl)|rfl|(simp only [List.length_drop,List.length_take];rfl)) ?_;(with_reducible refine (ih k (by omega) (wrap64 (a0 - 1)) (Go.bits .and .u64 (ji7) t101) t103 _ A10.out).mono ?_);rintro e w14 ⟨rfl,hb⟩;refine ⟨_,rfl,?_⟩;have n0_:=z3.mk (za (by repeat (first|(with_reducible first|exact HB.out|apply z2|apply z0|apply z1)|exact HB.out)) hb);clear HB;have HB:=n0_;clear n0_;(try clear hb);(try clear hb2);(try clear hk);(try clear hi)))
 go_ret
 exact ⟨by first|rfl|(simp [zf,zg] <;> rfl)|(simp only [← hji4,← hji6,← hji7,← hji11];first|rfl|(simp [zf,zg] <;> rfl))|(simp [*,zf,zg] <;> rfl),by repeat (first|(with_reducible first|exact HB.out|apply z2|apply z0|apply z1)|exact HB.out)⟩
end Go.Proofs.Ytngcaphdkgihmaa.P
namespace Go.Proofs.Ytngcaphdkgihmaa.P
open Go.RowKit Go.Proofs.YtngcaphdkgihmaaW.PrintWords Go.Proofs.YtngcaphdkgihmaaW.PrintLast Go.Proofs.YtngcaphdkgihmaaW.PrintMore
attribute [local go_sem] zU zW z15 z16 zQ zR zV zX   -- for this text's walks alone
set_option linter.unusedVariables false
set_option linter.unusedSimpArgs false
def zx.f (k : Nat) (a0 : Int) (a1_0 : Int) (a1_1 : Int) : Option (Int × Int):=if a0 < 6 then ((zo.f k a0 a1_0).bind fun t103=>((zo.f k a0 a1_1).bind fun t104=>(some (t103,t104)))) else ((zo.f k 5 a1_0).bind fun t105=>(some (Go.bits .xor .u64 a1_1 t105,a1_0)))
theorem zx.mono : ∀ a0 a1 a2 k,LeO (zx.f k a0 a1 a2) (zx.f (k + 1) a0 a1 a2):=by
 intro a0 a1 a2 k
 unfold zx.f
 repeat' first
  | (with_reducible exact zo.mono _ _ _)
  | (with_reducible exact LeO.refl _)
  | (with_reducible exact LeO.none _)
  | (with_reducible refine LeO.ite ?_ ?_)
  | (with_reducible refine LeO.bind ?_ (fun _=>?_))
  | exact zo.mono _ _ _
  | exact LeO.none _
  | refine LeO.ite ?_ ?_
  | refine LeO.bind ?_ (fun _=>?_)
def zx.T2 : Bool × List (List Nat × List Nat):=(true,[([],[]),([],[]),([1],[1]),([0,2],[0,2]),([],[]),([],[]),([5],[5]),([4,6,3],[4,6]),([3,7],[3,7]),([8,7,0,1,2,3,4,5,6,7,8],[8])])
def zx.B2 : List Nat:=[0,0,2,7,0,0,32,127,255,511]
theorem zx.tab2 : rtab .any (opsOf Try.f95 2) = zx.T2:=by kernel_rfl
theorem zx.bits2 : waitsOk zx.T2.2 zx.B2 = true:=by kernel_rfl
def zx.T3 : Bool × List (List Nat × List Nat):=(true,[([],[]),([0],[0]),([],[]),([2],[2]),([3],[3]),([1,4],[1,4]),([],[]),([6],[6]),([5,7],[5,7]),([8,4,0,1,2,3,4,5,6,7,8],[8])])
def zx.B3 : List Nat:=[0,1,0,4,12,31,0,64,255,511]
theorem zx.tab3 : rtab .any (opsOf Try.f95 3) = zx.T3:=by kernel_rfl
theorem zx.bits3 : waitsOk zx.T3.2 zx.B3 = true:=by kernel_rfl
set_option maxHeartbeats 8000000 in
set_option maxRecDepth 100000 in
theorem zx.calls (k : Nat) (a0 : Int) (a1_0 : Int) (a1_1 : Int) (r1 : Int) (r2 : Int) (w : World) (h : zx.f k a0 a1_0 a1_1 = some (r1,r2)) :
 Calls Try.prog 95 #[.int .i64 a0,.agg #[.int .u64 a1_0,.int .u64 a1_1]] w fun e w'=>e = .returned (.agg #[.int .u64 r1,.int .u64 r2]) ∧ Below w.heap.size w w':=by
 have hu61:=Try.underlying61
 have HB:=z3.mk (Below.refl w.heap.size w)
 have H : (if a0 < 6 then ((zo.f k a0 a1_0).bind fun t103=>((zo.f k a0 a1_1).bind fun t104=>(some (t103,t104)))) else ((zo.f k 5 a1_0).bind fun t105=>(some (Go.bits .xor .u64 a1_1 t105,a1_0)))) = some (r1,r2):=h
 clear h
 by_cases c3 : a0 < 6
 rotate_left
 · rw [if_neg c3] at H
   have c3b0 : decide (a0 < 6) = false:=decide_eq_false c3
   clear c3
   replace H:=Option.bind_eq_some_iff.mp H
   obtain ⟨t105,A130,H⟩:=H
   replace H : (some (Go.bits .xor .u64 a1_1 t105,a1_0)) = some (r1,r2):=H
   have A13:=z3.mk A130
   clear A130
   simp only [Option.some.injEq,Prod.mk.injEq] at H
   obtain ⟨rfl,rfl⟩:=H
   go_enter Try.func95,Try.ntmps95
   try go_wp2_with (first|((with_reducible refine zA (N:=3) rfl ?_);refine zB ?hg (N:=3) ?hd (cs:=#[.int .u64 a1_0,.int .u64 a1_1]) (t:=61) ?hr ?_;(case hd=>rfl);(case hg=>rfl);(case hr=>first|(go_simp;done)|(go_simp;rfl));intro gb101 hg w14 hbox hb;have n0_:=z3.mk (za (by repeat (first|(with_reducible first|exact HB.out|apply z2|apply z0|apply z1)|exact HB.out)) hb);have n1_:=z3.mk (hbox);have n2_:=z3.mk ((by rw [hg];exact (zc (by repeat (first|(with_reducible first|exact HB.out|apply z2|apply z0|apply z1)|exact HB.out))) : w.heap.size ≤ gb101));have n3_:=z3.mk ((by rw [hg];exact (zc (by repeat (first|(with_reducible first|exact HB.out|apply z2|apply z0|apply z1)|exact HB.out))) : w.heap.size ≤ gb101));clear HB;have HB:=n0_;have BK101:=n1_;have GW101:=n2_;have GE101:=n3_;clear n0_ n1_ n2_ n3_;clear hb hbox hg)|((with_reducible refine zA (N:=4) rfl ?_);refine zB ?hg (N:=4) ?hd (cs:=#[.int .u64 0,.int .u64 0]) (t:=61) ?hr ?_;(case hd=>rfl);(case hg=>rfl);(case hr=>first|(go_simp;done)|(go_simp;rfl));intro gb102 hg w15 hbox hb;have n0_:=z3.mk (zk (g:=gb101) (o:=.cells #[.int .u64 a1_0,.int .u64 a1_1] 61 (0,0)) (by (with_reducible repeat (first|refine z5 ?_ _|refine z7 ?_|refine z4 ?_ _));exact BK101.out) hb);have n1_:=z3.mk (za (by repeat (first|(with_reducible first|exact HB.out|apply z2|apply z0|apply z1|refine z6 ?_ GE101.out)|exact HB.out)) hb);have n2_:=z3.mk (hbox);have n3_:=z3.mk ((by rw [hg];exact (zc (by repeat (first|(with_reducible first|exact HB.out|apply z2|apply z0|apply z1|refine z6 ?_ GE101.out)|exact HB.out))) : w.heap.size ≤ gb102));have n4_:=z3.mk ((by rw [hg];exact (zc (by repeat (first|(with_reducible first|exact HB.out|apply z2|apply z0|apply z1|refine z6 ?_ GE101.out)|exact HB.out))) : w.heap.size ≤ gb102));have n5_:=z3.mk ((by rw [hg];exact Nat.ne_of_lt (zS (g:=gb101) (o:=.cells #[.int .u64 a1_0,.int .u64 a1_1] 61 (0,0)) (by (with_reducible repeat (first|refine z5 ?_ _|refine z7 ?_|refine z4 ?_ _));exact BK101.out)) : gb101 ≠ gb102));have n6_:=z3.mk ((by rw [hg];exact Nat.ne_of_gt (zS (g:=gb101) (o:=.cells #[.int .u64 a1_0,.int .u64 a1_1] 61 (0,0)) (by (with_reducible repeat (first|refine z5 ?_ _|refine z7 ?_|refine z4 ?_ _));exact BK101.out)) : gb102 ≠ gb101));clear BK101;clear HB;have BK101:=n0_;have HB:=n1_;have BK102:=n2_;have GW102:=n3_;have GE102:=n4_;have NB101_102:=n5_;have NB102_101:=n6_;clear n0_ n1_ n2_ n3_ n4_ n5_ n6_;clear hb hbox hg))
   have n0_:=z3.mk (z7 BK101.out)
   have n1_:=z3.mk (z7 BK102.out)
   have n2_:=z3.mk (z1 HB.out)
   clear BK101
   clear BK102
   clear HB
   have BK101:=n0_
   have BK102:=n1_
   have HB:=n2_
   clear n0_ n1_ n2_
   refine start_ (n:=10) (S:=fun w'=>w'.cell? ⟨gb101,0,none⟩ = some (.int .u64 a1_0) ∧ w'.cell? ⟨gb101,1,none⟩ = some (.int .u64 a1_1)) (ds:=[]) #[false,false,false,false,false,false,false,false,false,false] (by kernel_rfl) rfl rfl ⟨(ze BK101.out 0).trans rfl,(ze BK101.out 1).trans rfl⟩ (fun hHeld=>?_);refine z1D zx.tab3 zx.bits3 (fun HT_ HW_=>?_)
   generalize w15.drew = w16 at BK101 BK102 HB hHeld ⊢
   refine pure_ (i:=0) (N:=some 16) (v:=?_) (a':=?_) #[true,false,false,false,false,false,false,false,false,false] rfl rfl (zO HT_.out (by kernel_rfl)) (fun _ _ _ h=>h) (Or.inl ⟨by rfl,?_⟩) ?_ ?_
   rotate_left
   · intro w'
     go_simp
     with_reducible rfl
   rotate_left
   · simp only [Act.put,List.setIfInBounds_toArray,List.set_cons_zero,List.set_cons_succ,zC,zK]
     rfl
   refine pure_ (i:=2) (N:=some 18) (v:=?_) (a':=?_) #[true,false,true,false,false,false,false,false,false,false] rfl rfl (zO HT_.out (by kernel_rfl)) (fun _ _ _ h=>h) (Or.inl ⟨by rfl,?_⟩) ?_ ?_
   rotate_left
   · intro w'
     go_simp
     with_reducible rfl
   rotate_left
   · simp only [Act.put,List.setIfInBounds_toArray,List.set_cons_zero,List.set_cons_succ,zC,zK]
     rfl
   refine pure_ (i:=6) (N:=some 22) (v:=?_) (a':=?_) #[true,false,true,false,false,false,true,false,false,false] rfl rfl (zO HT_.out (by kernel_rfl)) (fun _ _ _ h=>h) (Or.inl ⟨by rfl,?_⟩) ?_ ?_
   rotate_left
   · intro w'
     go_simp
     with_reducible rfl
   rotate_left
   · simp only [Act.put,List.setIfInBounds_toArray,List.set_cons_zero,List.set_cons_succ,zC,zK]
     rfl
   refine take_ (i:=1) (N:=some 17) (v:=?_) (a':=?_) #[true,true,true,false,false,false,true,false,false,false] rfl rfl (z1n HT_.out HW_.out (by kernel_rfl)) (fun _ _ _ h=>h) (Or.inl ⟨by rfl,?_⟩) hHeld ?_ ?_
   rotate_left
   · rintro w' ⟨s0,s1⟩
     go_simp
     with_reducible rfl
   rotate_left
   · simp only [Act.put,List.setIfInBounds_toArray,List.set_cons_zero,List.set_cons_succ,zC,zK]
     rfl
   refine take_ (i:=3) (N:=some 19) (v:=?_) (a':=?_) #[true,true,true,true,false,false,true,false,false,false] rfl rfl (z1n HT_.out HW_.out (by kernel_rfl)) (fun _ _ _ h=>h) (Or.inl ⟨by rfl,?_⟩) hHeld ?_ ?_
   rotate_left
   · rintro w' ⟨s0,s1⟩
     go_simp
     with_reducible rfl
   rotate_left
   · simp only [Act.put,List.setIfInBounds_toArray,List.set_cons_zero,List.set_cons_succ,zC,zK]
     rfl
   refine take_ (i:=7) (N:=some 23) (v:=?_) (a':=?_) #[true,true,true,true,false,false,true,true,false,false] rfl rfl (z1n HT_.out HW_.out (by kernel_rfl)) (fun _ _ _ h=>h) (Or.inl ⟨by rfl,?_⟩) hHeld ?_ ?_
   rotate_left
   · rintro w' ⟨s0,s1⟩
     go_simp
     with_reducible rfl
   rotate_left
   · simp only [Act.put,List.setIfInBounds_toArray,List.set_cons_zero,List.set_cons_succ,zC,zK]
     rfl
   refine one_ (i:=4) (N:=some 20) #[true,true,true,true,true,false,true,true,false,false] rfl rfl (z1y HT_.out (by kernel_rfl)) (by decide) (fun K hK=>?_)
   refine goes_ Try.func103 (by kernel_rfl) rfl #[.int .i64 5,.int .u64 a1_0] (by rfl) rfl rfl (by (try simp only [List.map_toArray,List.map_cons,List.map_nil]);first|done|rfl|(simp only [List.length_drop,List.length_take];rfl)) ?_
   with_reducible refine (zo.calls k 5 a1_0 t105 _ A13.out).mono ?_
   rintro e w17 ⟨rfl,hb⟩
   refine ⟨_,rfl,?_⟩
   have n0_:=z3.mk (zk (g:=gb101) (o:=.cells #[.int .u64 a1_0,.int .u64 a1_1] 61 (0,0)) (by (with_reducible repeat (first|refine z5 ?_ _|refine z7 ?_|refine z4 ?_ _));exact BK101.out) hb)
   have n1_:=z3.mk (zk (g:=gb102) (o:=.cells #[.int .u64 0,.int .u64 0] 61 (0,0)) (by (with_reducible repeat (first|refine z5 ?_ _|refine z7 ?_|refine z4 ?_ _));exact BK102.out) hb)
   have n2_:=z3.mk (za (by repeat (first|(with_reducible first|exact HB.out|apply z2|apply z0|apply z1|refine z6 ?_ GE101.out|refine z6 ?_ GE102.out)|exact HB.out)) hb)
   clear BK101
   clear BK102
   clear HB
   have BK101:=n0_
   have BK102:=n1_
   have HB:=n2_
   clear n0_ n1_ n2_
   (try clear hb)
   (try clear hb2)
   (try clear hk)
   (try clear hi)
   refine hK.out _ _ ⟨(ze BK101.out 0).trans rfl,(ze BK101.out 1).trans rfl⟩ (fun hHeld=>?_)
   clear hK K
   refine norm_ (a':=?_) ?_ ?_
   rotate_left
   · show Act.put _ (some 20) _ = _
     simp only [Act.put,List.setIfInBounds_toArray,List.set_cons_zero,List.set_cons_succ,zC,zK]
     rfl
   refine pure_ (i:=5) (N:=some 21) (v:=?_) (a':=?_) #[true,true,true,true,true,true,true,true,false,false] rfl rfl (zO HT_.out (by kernel_rfl)) (fun _ _ _ h=>h) (Or.inl ⟨by rfl,?_⟩) ?_ ?_
   rotate_left
   · intro w'
     go_simp
     with_reducible rfl
   rotate_left
   · simp only [Act.put,List.setIfInBounds_toArray,List.set_cons_zero,List.set_cons_succ,zC,zK]
     rfl
   refine pure_ (i:=8) (N:=some 24) (v:=?_) (a':=?_) #[true,true,true,true,true,true,true,true,true,false] rfl rfl (zO HT_.out (by kernel_rfl)) (fun _ _ _ h=>h) (Or.inl ⟨by rfl,?_⟩) ?_ ?_
   rotate_left
   · intro w'
     go_simp
     with_reducible rfl
   rotate_left
   · simp only [Act.put,List.setIfInBounds_toArray,List.set_cons_zero,List.set_cons_succ,zC,zK]
     rfl
   refine one_ (i:=9) (N:=none) #[true,true,true,true,true,true,true,true,true,true] rfl rfl (z1y HT_.out (by kernel_rfl)) (by decide) (fun K hK=>?_)
   have hs18 : w17.cell? ⟨gb102,0,none⟩ = some (.int .u64 0):=(ze BK102.out 0).trans rfl
   have hfs18:=zd BK102.out 0
   have hns18_0:=NB101_102.out
   have hms18_0:=NB102_101.out
   have hs19 : w17.cell? ⟨gb102,1,none⟩ = some (.int .u64 0):=(ze BK102.out 1).trans rfl
   have hfs19:=zd BK102.out 1
   have hns19_0:=NB101_102.out
   have hms19_0:=NB102_101.out
   refine skip_ (w1:=?_) (by rfl) rfl ?_ ?_
   rotate_left
   · go_simp
     rfl
   refine hK.out _ _ ⟨((z1i (p:=⟨gb102,_,none⟩) NB101_102.out _).trans (((z1i (p:=⟨gb102,_,none⟩) NB101_102.out _).trans (hHeld.1)))),((z1i (p:=⟨gb102,_,none⟩) NB101_102.out _).trans (((z1i (p:=⟨gb102,_,none⟩) NB101_102.out _).trans (hHeld.2))))⟩ (fun hHeld=>?_)
   clear hK K
   refine done_ (z25 HT_.out (by kernel_rfl)) ?_
   try go_wp2
   refine bodyPost_ret (results_cell_row rfl _ _ gb102 61 #[.int .u64 (Go.bits .xor .u64 a1_1 t105),.int .u64 a1_0] (0,0) _ rfl (by (with_reducible repeat (first|refine z5 ?_ _|refine z7 ?_|refine z4 ?_ _));refine zH (cs:=#[.int .u64 (Go.bits .xor .u64 a1_1 t105),.int .u64 0]) ?_ 1 _ rfl;(with_reducible repeat (first|refine z5 ?_ _|refine z7 ?_|refine z4 ?_ _));refine zH (cs:=#[.int .u64 0,.int .u64 0]) ?_ 0 _ rfl;(with_reducible repeat (first|refine z5 ?_ _|refine z7 ?_|refine z4 ?_ _));exact BK102.out) Try.underlying61 rfl (by kernel_rfl)) rfl ?_
   exact ⟨by first|rfl|(simp [zf,zg] <;> rfl)|(simp [*,zf,zg] <;> rfl),by repeat (first|(with_reducible first|exact HB.out|apply z2|apply z0|apply z1|refine z6 ?_ GE101.out|refine z6 ?_ GE102.out)|exact HB.out)⟩
 rw [if_pos c3] at H
 have c3b0 : decide (a0 < 6) = true:=decide_eq_true c3
 clear c3
 replace H:=Option.bind_eq_some_iff.mp H
 obtain ⟨t103,A40,H⟩:=H
 replace H : ((zo.f k a0 a1_1).bind fun t104=>(some (t103,t104))) = some (r1,r2):=H
 have A4:=z3.mk A40
 clear A40
 replace H:=Option.bind_eq_some_iff.mp H
 obtain ⟨t104,A50,H⟩:=H
 replace H : (some (t103,t104)) = some (r1,r2):=H
 have A5:=z3.mk A50
 clear A50
 simp only [Option.some.injEq,Prod.mk.injEq] at H
 obtain ⟨rfl,rfl⟩:=H
 go_enter Try.func95,Try.ntmps95
 try go_wp2_with (first|((with_reducible refine zA (N:=3) rfl ?_);refine zB ?hg (N:=3) ?hd (cs:=#[.int .u64 a1_0,.int .u64 a1_1]) (t:=61) ?hr ?_;(case hd=>rfl);(case hg=>rfl);(case hr=>first|(go_simp;done)|(go_simp;rfl));intro gb101 hg w6 hbox hb;have n0_:=z3.mk (za (by repeat (first|(with_reducible first|exact HB.out|apply z2|apply z0|apply z1)|exact HB.out)) hb);have n1_:=z3.mk (hbox);have n2_:=z3.mk ((by rw [hg];exact (zc (by repeat (first|(with_reducible first|exact HB.out|apply z2|apply z0|apply z1)|exact HB.out))) : w.heap.size ≤ gb101));have n3_:=z3.mk ((by rw [hg];exact (zc (by repeat (first|(with_reducible first|exact HB.out|apply z2|apply z0|apply z1)|exact HB.out))) : w.heap.size ≤ gb101));clear HB;have HB:=n0_;have BK101:=n1_;have GW101:=n2_;have GE101:=n3_;clear n0_ n1_ n2_ n3_;clear hb hbox hg)|((with_reducible refine zA (N:=4) rfl ?_);refine zB ?hg (N:=4) ?hd (cs:=#[.int .u64 0,.int .u64 0]) (t:=61) ?hr ?_;(case hd=>rfl);(case hg=>rfl);(case hr=>first|(go_simp;done)|(go_simp;rfl));intro gb102 hg w7 hbox hb;have n0_:=z3.mk (zk (g:=gb101) (o:=.cells #[.int .u64 a1_0,.int .u64 a1_1] 61 (0,0)) (by (with_reducible repeat (first|refine z5 ?_ _|refine z7 ?_|refine z4 ?_ _));exact BK101.out) hb);have n1_:=z3.mk (za (by repeat (first|(with_reducible first|exact HB.out|apply z2|apply z0|apply z1|refine z6 ?_ GE101.out)|exact HB.out)) hb);have n2_:=z3.mk (hbox);have n3_:=z3.mk ((by rw [hg];exact (zc (by repeat (first|(with_reducible first|exact HB.out|apply z2|apply z0|apply z1|refine z6 ?_ GE101.out)|exact HB.out))) : w.heap.size ≤ gb102));have n4_:=z3.mk ((by rw [hg];exact (zc (by repeat (first|(with_reducible first|exact HB.out|apply z2|apply z0|apply z1|refine z6 ?_ GE101.out)|exact HB.out))) : w.heap.size ≤ gb102));have n5_:=z3.mk ((by rw [hg];exact Nat.ne_of_lt (zS (g:=gb101) (o:=.cells #[.int .u64 a1_0,.int .u64 a1_1] 61 (0,0)) (by (with_reducible repeat (first|refine z5 ?_ _|refine z7 ?_|refine z4 ?_ _));exact BK101.out)) : gb101 ≠ gb102));have n6_:=z3.mk ((by rw [hg];exact Nat.ne_of_gt (zS (g:=gb101) (o:=.cells #[.int .u64 a1_0,.int .u64 a1_1] 61 (0,0)) (by (with_reducible repeat (first|refine z5 ?_ _|refine z7 ?_|refine z4 ?_ _));exact BK101.out)) : gb102 ≠ gb101));clear BK101;clear HB;have BK101:=n0_;have HB:=n1_;have BK102:=n2_;have GW102:=n3_;have GE102:=n4_;have NB101_102:=n5_;have NB102_101:=n6_;clear n0_ n1_ n2_ n3_ n4_ n5_ n6_;clear hb hbox hg))
 have n0_:=z3.mk (z7 BK101.out)
 have n1_:=z3.mk (z7 BK102.out)
 have n2_:=z3.mk (z1 HB.out)
 clear BK101
 clear BK102
 clear HB
 have BK101:=n0_
 have BK102:=n1_
 have HB:=n2_
 clear n0_ n1_ n2_
 refine start_ (n:=10) (S:=fun w'=>w'.cell? ⟨gb101,0,none⟩ = some (.int .u64 a1_0) ∧ w'.cell? ⟨gb101,1,none⟩ = some (.int .u64 a1_1)) (ds:=[]) #[false,false,false,false,false,false,false,false,false,false] (by kernel_rfl) rfl rfl ⟨(ze BK101.out 0).trans rfl,(ze BK101.out 1).trans rfl⟩ (fun hHeld=>?_);refine z1D zx.tab2 zx.bits2 (fun HT_ HW_=>?_)
 generalize w7.drew = w8 at BK101 BK102 HB hHeld ⊢
 refine pure_ (i:=0) (N:=some 7) (v:=?_) (a':=?_) #[true,false,false,false,false,false,false,false,false,false] rfl rfl (zO HT_.out (by kernel_rfl)) (fun _ _ _ h=>h) (Or.inl ⟨by rfl,?_⟩) ?_ ?_
 rotate_left
 · intro w'
   go_simp
   with_reducible rfl
 rotate_left
 · simp only [Act.put,List.setIfInBounds_toArray,List.set_cons_zero,List.set_cons_succ,zC,zK]
   rfl
 refine pure_ (i:=1) (N:=some 8) (v:=?_) (a':=?_) #[true,true,false,false,false,false,false,false,false,false] rfl rfl (zO HT_.out (by kernel_rfl)) (fun _ _ _ h=>h) (Or.inl ⟨by rfl,?_⟩) ?_ ?_
 rotate_left
 · intro w'
   go_simp
   with_reducible rfl
 rotate_left
 · simp only [Act.put,List.setIfInBounds_toArray,List.set_cons_zero,List.set_cons_succ,zC,zK]
   rfl
 refine pure_ (i:=4) (N:=some 11) (v:=?_) (a':=?_) #[true,true,false,false,true,false,false,false,false,false] rfl rfl (zO HT_.out (by kernel_rfl)) (fun _ _ _ h=>h) (Or.inl ⟨by rfl,?_⟩) ?_ ?_
 rotate_left
 · intro w'
   go_simp
   with_reducible rfl
 rotate_left
 · simp only [Act.put,List.setIfInBounds_toArray,List.set_cons_zero,List.set_cons_succ,zC,zK]
   rfl
 refine pure_ (i:=5) (N:=some 12) (v:=?_) (a':=?_) #[true,true,false,false,true,true,false,false,false,false] rfl rfl (zO HT_.out (by kernel_rfl)) (fun _ _ _ h=>h) (Or.inl ⟨by rfl,?_⟩) ?_ ?_
 rotate_left
 · intro w'
   go_simp
   with_reducible rfl
 rotate_left
 · simp only [Act.put,List.setIfInBounds_toArray,List.set_cons_zero,List.set_cons_succ,zC,zK]
   rfl
 refine take_ (i:=2) (N:=some 9) (v:=?_) (a':=?_) #[true,true,true,false,true,true,false,false,false,false] rfl rfl (z1n HT_.out HW_.out (by kernel_rfl)) (fun _ _ _ h=>h) (Or.inl ⟨by rfl,?_⟩) hHeld ?_ ?_
 rotate_left
 · rintro w' ⟨s0,s1⟩
   go_simp
   with_reducible rfl
 rotate_left
 · simp only [Act.put,List.setIfInBounds_toArray,List.set_cons_zero,List.set_cons_succ,zC,zK]
   rfl
 refine take_ (i:=6) (N:=some 13) (v:=?_) (a':=?_) #[true,true,true,false,true,true,true,false,false,false] rfl rfl (z1n HT_.out HW_.out (by kernel_rfl)) (fun _ _ _ h=>h) (Or.inl ⟨by rfl,?_⟩) hHeld ?_ ?_
 rotate_left
 · rintro w' ⟨s0,s1⟩
   go_simp
   with_reducible rfl
 rotate_left
 · simp only [Act.put,List.setIfInBounds_toArray,List.set_cons_zero,List.set_cons_succ,zC,zK]
   rfl
 refine one_ (i:=3) (N:=some 10) #[true,true,true,true,true,true,true,false,false,false] rfl rfl (z1y HT_.out (by kernel_rfl)) (by decide) (fun K hK=>?_)
 refine goes_ Try.func103 (by kernel_rfl) rfl #[.int .i64 a0,.int .u64 a1_0] (by rfl) rfl rfl (by (try simp only [List.map_toArray,List.map_cons,List.map_nil]);first|done|rfl|(simp only [List.length_drop,List.length_take];rfl)) ?_
 with_reducible refine (zo.calls k a0 a1_0 t103 _ A4.out).mono ?_
 rintro e w9 ⟨rfl,hb⟩
 refine ⟨_,rfl,?_⟩
 have n0_:=z3.mk (zk (g:=gb101) (o:=.cells #[.int .u64 a1_0,.int .u64 a1_1] 61 (0,0)) (by (with_reducible repeat (first|refine z5 ?_ _|refine z7 ?_|refine z4 ?_ _));exact BK101.out) hb)
 have n1_:=z3.mk (zk (g:=gb102) (o:=.cells #[.int .u64 0,.int .u64 0] 61 (0,0)) (by (with_reducible repeat (first|refine z5 ?_ _|refine z7 ?_|refine z4 ?_ _));exact BK102.out) hb)
 have n2_:=z3.mk (za (by repeat (first|(with_reducible first|exact HB.out|apply z2|apply z0|apply z1|refine z6 ?_ GE101.out|refine z6 ?_ GE102.out)|exact HB.out)) hb)
 clear BK101
 clear BK102
 clear HB
 have BK101:=n0_
 have BK102:=n1_
 have HB:=n2_
 clear n0_ n1_ n2_
 (try clear hb)
 (try clear hb2)
 (try clear hk)
 (try clear hi)
 refine hK.out _ _ ⟨(ze BK101.out 0).trans rfl,(ze BK101.out 1).trans rfl⟩ (fun hHeld=>?_)
 clear hK K
 refine norm_ (a':=?_) ?_ ?_
 rotate_left
 · show Act.put _ (some 10) _ = _
   simp only [Act.put,List.setIfInBounds_toArray,List.set_cons_zero,List.set_cons_succ,zC,zK]
   rfl
 refine one_ (i:=7) (N:=some 14) #[true,true,true,true,true,true,true,true,false,false] rfl rfl (z1y HT_.out (by kernel_rfl)) (by decide) (fun K hK=>?_)
 refine goes_ Try.func103 (by kernel_rfl) rfl #[.int .i64 a0,.int .u64 a1_1] (by rfl) rfl rfl (by (try simp only [List.map_toArray,List.map_cons,List.map_nil]);first|done|rfl|(simp only [List.length_drop,List.length_take];rfl)) ?_
 with_reducible refine (zo.calls k a0 a1_1 t104 _ A5.out).mono ?_
 rintro e w10 ⟨rfl,hb⟩
 refine ⟨_,rfl,?_⟩
 have n0_:=z3.mk (zk (g:=gb101) (o:=.cells #[.int .u64 a1_0,.int .u64 a1_1] 61 (0,0)) (by (with_reducible repeat (first|refine z5 ?_ _|refine z7 ?_|refine z4 ?_ _));exact BK101.out) hb)
 have n1_:=z3.mk (zk (g:=gb102) (o:=.cells #[.int .u64 0,.int .u64 0] 61 (0,0)) (by (with_reducible repeat (first|refine z5 ?_ _|refine z7 ?_|refine z4 ?_ _));exact BK102.out) hb)
 have n2_:=z3.mk (za (by repeat (first|(with_reducible first|exact HB.out|apply z2|apply z0|apply z1|refine z6 ?_ GE101.out|refine z6 ?_ GE102.out)|exact HB.out)) hb)
 clear BK101
 clear BK102
 clear HB
 have BK101:=n0_
 have BK102:=n1_
 have HB:=n2_
 clear n0_ n1_ n2_
 (try clear hb)
 (try clear hb2)
 (try clear hk)
 (try clear hi)
 refine hK.out _ _ ⟨(ze BK101.out 0).trans rfl,(ze BK101.out 1).trans rfl⟩ (fun hHeld=>?_)
 clear hK K
 refine norm_ (a':=?_) ?_ ?_
 rotate_left
 · show Act.put _ (some 14) _ = _
   simp only [Act.put,List.setIfInBounds_toArray,List.set_cons_zero,List.set_cons_succ,zC,zK]
   rfl
 refine pure_ (i:=8) (N:=some 15) (v:=?_) (a':=?_) #[true,true,true,true,true,true,true,true,true,false] rfl rfl (zO HT_.out (by kernel_rfl)) (fun _ _ _ h=>h) (Or.inl ⟨by rfl,?_⟩) ?_ ?_
 rotate_left
 · intro w'
   go_simp
   with_reducible rfl
 rotate_left
 · simp only [Act.put,List.setIfInBounds_toArray,List.set_cons_zero,List.set_cons_succ,zC,zK]
   rfl
 refine one_ (i:=9) (N:=none) #[true,true,true,true,true,true,true,true,true,true] rfl rfl (z1y HT_.out (by kernel_rfl)) (by decide) (fun K hK=>?_)
 have hs11 : w10.cell? ⟨gb102,0,none⟩ = some (.int .u64 0):=(ze BK102.out 0).trans rfl
 have hfs11:=zd BK102.out 0
 have hns11_0:=NB101_102.out
 have hms11_0:=NB102_101.out
 have hs12 : w10.cell? ⟨gb102,1,none⟩ = some (.int .u64 0):=(ze BK102.out 1).trans rfl
 have hfs12:=zd BK102.out 1
 have hns12_0:=NB101_102.out
 have hms12_0:=NB102_101.out
 refine skip_ (w1:=?_) (by rfl) rfl ?_ ?_
 rotate_left
 · go_simp
   rfl
 refine hK.out _ _ ⟨((z1i (p:=⟨gb102,_,none⟩) NB101_102.out _).trans (((z1i (p:=⟨gb102,_,none⟩) NB101_102.out _).trans (hHeld.1)))),((z1i (p:=⟨gb102,_,none⟩) NB101_102.out _).trans (((z1i (p:=⟨gb102,_,none⟩) NB101_102.out _).trans (hHeld.2))))⟩ (fun hHeld=>?_)
 clear hK K
 refine done_ (z25 HT_.out (by kernel_rfl)) ?_
 try go_wp2
 refine bodyPost_ret (results_cell_row rfl _ _ gb102 61 #[.int .u64 t103,.int .u64 t104] (0,0) _ rfl (by (with_reducible repeat (first|refine z5 ?_ _|refine z7 ?_|refine z4 ?_ _));refine zH (cs:=#[.int .u64 t103,.int .u64 0]) ?_ 1 _ rfl;(with_reducible repeat (first|refine z5 ?_ _|refine z7 ?_|refine z4 ?_ _));refine zH (cs:=#[.int .u64 0,.int .u64 0]) ?_ 0 _ rfl;(with_reducible repeat (first|refine z5 ?_ _|refine z7 ?_|refine z4 ?_ _));exact BK102.out) Try.underlying61 rfl (by kernel_rfl)) rfl ?_
 exact ⟨by first|rfl|(simp [zf,zg] <;> rfl)|(simp [*,zf,zg] <;> rfl),by repeat (first|(with_reducible first|exact HB.out|apply z2|apply z0|apply z1|refine z6 ?_ GE101.out|refine z6 ?_ GE102.out)|exact HB.out)⟩
end Go.Proofs.Ytngcaphdkgihmaa.P

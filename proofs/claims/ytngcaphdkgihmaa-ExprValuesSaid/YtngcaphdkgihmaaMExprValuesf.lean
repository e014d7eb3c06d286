/- Own text: merged by wip/tools/pack.py out of what the law ExprValues reaches. -/
import Derived.Test.YtngcaphdkgihmaaMExprValuesb
import Derived.Test.YtngcaphdkgihmaaMExprValuese
namespace Go.Proofs.Ytngcaphdkgihmaa.P
open Go.RowKit Go.Proofs.YtngcaphdkgihmaaW.PrintWords Go.Proofs.YtngcaphdkgihmaaW.PrintLast Go.Proofs.YtngcaphdkgihmaaW.PrintMore
attribute [local go_sem] z14 z16 z1b z1c z10 z11 z15 z17   -- for this text's walks alone
set_option linter.unusedVariables false
set_option linter.unusedSimpArgs false
def zy.f (k : Nat) (a0 : Int) (a1_0 : Int) (a1_1 : Int) : Option (Int × Int):=if a0 < 6 then ((zr.f k a0 a1_0).bind fun t103=>((zr.f k a0 a1_1).bind fun t104=>(some (t103,t104)))) else ((zr.f k 5 a1_0).bind fun t105=>(some (Go.bits .xor .u64 a1_1 t105,a1_0)))
theorem zy.mono : ∀ a0 a1 a2 k,LeO (zy.f k a0 a1 a2) (zy.f (k + 1) a0 a1 a2):=by
 intro a0 a1 a2 k
 unfold zy.f
 repeat' first
  | (with_reducible exact zr.mono _ _ _)
  | (with_reducible exact LeO.refl _)
  | (with_reducible exact LeO.none _)
  | (with_reducible refine LeO.ite ?_ ?_)
  | (with_reducible refine LeO.bind ?_ (fun _=>?_))
  | exact zr.mono _ _ _
  | exact LeO.none _
  | refine LeO.ite ?_ ?_
  | refine LeO.bind ?_ (fun _=>?_)
def zy.T2 : Bool × List (List Nat × List Nat):=(true,[([],[]),([],[]),([1],[1]),([0,2],[0,2]),([],[]),([],[]),([5],[5]),([4,6,3],[4,6]),([3,7],[3,7]),([8,7,0,1,2,3,4,5,6,7,8],[8])])
def zy.B2 : List Nat:=[0,0,2,7,0,0,32,127,255,511]
theorem zy.tab2 : rtab .any (opsOf Try.f95 2) = zy.T2:=by kernel_rfl
theorem zy.bits2 : waitsOk zy.T2.2 zy.B2 = true:=by kernel_rfl
def zy.T3 : Bool × List (List Nat × List Nat):=(true,[([],[]),([0],[0]),([],[]),([2],[2]),([3],[3]),([1,4],[1,4]),([],[]),([6],[6]),([5,7],[5,7]),([8,4,0,1,2,3,4,5,6,7,8],[8])])
def zy.B3 : List Nat:=[0,1,0,4,12,31,0,64,255,511]
theorem zy.tab3 : rtab .any (opsOf Try.f95 3) = zy.T3:=by kernel_rfl
theorem zy.bits3 : waitsOk zy.T3.2 zy.B3 = true:=by kernel_rfl
set_option maxHeartbeats 8000000 in
set_option maxRecDepth 100000 in
theorem zy.calls (k : Nat) (a0 : Int) (a1_0 : Int) (a1_1 : Int) (r1 : Int) (r2 : Int) (w : World) (h : zy.f k a0 a1_0 a1_1 = some (r1,r2)) :
 Calls Try.prog 95 #[.int .i64 a0,.agg #[.int .u64 a1_0,.int .u64 a1_1]] w fun e w'=>e = .returned (.agg #[.int .u64 r1,.int .u64 r2]) ∧ Below w.heap.size w w':=by
 have hu61:=Try.underlying61
 have HB:=z7.mk (Below.refl w.heap.size w)
 have H : (if a0 < 6 then ((zr.f k a0 a1_0).bind fun t103=>((zr.f k a0 a1_1).bind fun t104=>(some (t103,t104)))) else ((zr.f k 5 a1_0).bind fun t105=>(some (Go.bits .xor .u64 a1_1 t105,a1_0)))) = some (r1,r2):=h
 clear h
 by_cases c3 : a0 < 6
 rotate_left
 · rw [if_neg c3] at H
   have c3b0 : decide (a0 < 6) = false:=decide_eq_false c3
   clear c3
   replace H:=Option.bind_eq_some_iff.mp H
   obtain ⟨t105,A130,H⟩:=H
   replace H : (some (Go.bits .xor .u64 a1_1 t105,a1_0)) = some (r1,r2):=H
   have A13:=z7.mk A130
   clear A130
   simp only [Option.some.injEq,Prod.mk.injEq] at H
   obtain ⟨rfl,rfl⟩:=H
   go_enter Try.func95,Try.ntmps95
   try go_wp2_with (first|((with_reducible refine zM (N:=3) rfl ?_);refine zI ?hg (N:=3) ?hd (cs:=#[.int .u64 a1_0,.int .u64 a1_1]) (t:=61) ?hr ?_;(case hd=>rfl);(case hg=>rfl);(case hr=>first|(go_simp;done)|(go_simp;rfl));intro gb101 hg w14 hbox hb;have n0_:=z7.mk (zi (by repeat (first|(with_reducible first|exact HB.out|apply z4|apply z0|apply z3)|exact HB.out)) hb);have n1_:=z7.mk (hbox);have n2_:=z7.mk ((by rw [hg];exact (zf (by repeat (first|(with_reducible first|exact HB.out|apply z4|apply z0|apply z3)|exact HB.out))) : w.heap.size ≤ gb101));have n3_:=z7.mk ((by rw [hg];exact (zf (by repeat (first|(with_reducible first|exact HB.out|apply z4|apply z0|apply z3)|exact HB.out))) : w.heap.size ≤ gb101));clear HB;have HB:=n0_;have BK101:=n1_;have GW101:=n2_;have GE101:=n3_;clear n0_ n1_ n2_ n3_;clear hb hbox hg)|((with_reducible refine zM (N:=4) rfl ?_);refine zI ?hg (N:=4) ?hd (cs:=#[.int .u64 0,.int .u64 0]) (t:=61) ?hr ?_;(case hd=>rfl);(case hg=>rfl);(case hr=>first|(go_simp;done)|(go_simp;rfl));intro gb102 hg w15 hbox hb;have n0_:=z7.mk (zj (g:=gb101) (o:=.cells #[.int .u64 a1_0,.int .u64 a1_1] 61 (0,0)) (by (with_reducible repeat (first|refine z2 ?_ _|refine z5 ?_|refine z1 ?_ _));exact BK101.out) hb);have n1_:=z7.mk (zi (by repeat (first|(with_reducible first|exact HB.out|apply z4|apply z0|apply z3|refine z8 ?_ GE101.out)|exact HB.out)) hb);have n2_:=z7.mk (hbox);have n3_:=z7.mk ((by rw [hg];exact (zf (by repeat (first|(with_reducible first|exact HB.out|apply z4|apply z0|apply z3|refine z8 ?_ GE101.out)|exact HB.out))) : w.heap.size ≤ gb102));have n4_:=z7.mk ((by rw [hg];exact (zf (by repeat (first|(with_reducible first|exact HB.out|apply z4|apply z0|apply z3|refine z8 ?_ GE101.out)|exact HB.out))) : w.heap.size ≤ gb102));have n5_:=z7.mk ((by rw [hg];exact Nat.ne_of_lt (zP (g:=gb101) (o:=.cells #[.int .u64 a1_0,.int .u64 a1_1] 61 (0,0)) (by (with_reducible repeat (first|refine z2 ?_ _|refine z5 ?_|refine z1 ?_ _));exact BK101.out)) : gb101 ≠ gb102));have n6_:=z7.mk ((by rw [hg];exact Nat.ne_of_gt (zP (g:=gb101) (o:=.cells #[.int .u64 a1_0,.int .u64 a1_1] 61 (0,0)) (by (with_reducible repeat (first|refine z2 ?_ _|refine z5 ?_|refine z1 ?_ _));exact BK101.out)) : gb102 ≠ gb101));clear BK101;clear HB;have BK101:=n0_;have HB:=n1_;have BK102:=n2_;have GW102:=n3_;have GE102:=n4_;have NB101_102:=n5_;have NB102_101:=n6_;clear n0_ n1_ n2_ n3_ n4_ n5_ n6_;clear hb hbox hg))
   have n0_:=z7.mk (z5 BK101.out)
   have n1_:=z7.mk (z5 BK102.out)
   have n2_:=z7.mk (z3 HB.out)
   clear BK101
   clear BK102
   clear HB
   have BK101:=n0_
   have BK102:=n1_
   have HB:=n2_
   clear n0_ n1_ n2_
   refine start_ (n:=10) (S:=fun w'=>w'.cell? ⟨gb101,0,none⟩ = some (.int .u64 a1_0) ∧ w'.cell? ⟨gb101,1,none⟩ = some (.int .u64 a1_1)) (ds:=[]) #[false,false,false,false,false,false,false,false,false,false] (by kernel_rfl) rfl rfl ⟨(zb BK101.out 0).trans rfl,(zb BK101.out 1).trans rfl⟩ (fun hHeld=>?_);refine z1x zy.tab3 zy.bits3 (fun HT_ HW_=>?_)
   generalize w15.drew = w16 at BK101 BK102 HB hHeld ⊢
   refine pure_ (i:=0) (N:=some 16) (v:=?_) (a':=?_) #[true,false,false,false,false,false,false,false,false,false] rfl rfl (zK HT_.out (by kernel_rfl)) (fun _ _ _ h=>h) (Or.inl ⟨by rfl,?_⟩) ?_ ?_
   rotate_left
   · intro w'
     go_simp
     with_reducible rfl
   rotate_left
   · simp only [Act.put,List.setIfInBounds_toArray,List.set_cons_zero,List.set_cons_succ,zD,zF]
     rfl
   refine pure_ (i:=2) (N:=some 18) (v:=?_) (a':=?_) #[true,false,true,false,false,false,false,false,false,false] rfl rfl (zK HT_.out (by kernel_rfl)) (fun _ _ _ h=>h) (Or.inl ⟨by rfl,?_⟩) ?_ ?_
   rotate_left
   · intro w'
     go_simp
     with_reducible rfl
   rotate_left
   · simp only [Act.put,List.setIfInBounds_toArray,List.set_cons_zero,List.set_cons_succ,zD,zF]
     rfl
   refine pure_ (i:=6) (N:=some 22) (v:=?_) (a':=?_) #[true,false,true,false,false,false,true,false,false,false] rfl rfl (zK HT_.out (by kernel_rfl)) (fun _ _ _ h=>h) (Or.inl ⟨by rfl,?_⟩) ?_ ?_
   rotate_left
   · intro w'
     go_simp
     with_reducible rfl
   rotate_left
   · simp only [Act.put,List.setIfInBounds_toArray,List.set_cons_zero,List.set_cons_succ,zD,zF]
     rfl
   refine take_ (i:=1) (N:=some 17) (v:=?_) (a':=?_) #[true,true,true,false,false,false,true,false,false,false] rfl rfl (z19 HT_.out HW_.out (by kernel_rfl)) (fun _ _ _ h=>h) (Or.inl ⟨by rfl,?_⟩) hHeld ?_ ?_
   rotate_left
   · rintro w' ⟨s0,s1⟩
     go_simp
     with_reducible rfl
   rotate_left
   · simp only [Act.put,List.setIfInBounds_toArray,List.set_cons_zero,List.set_cons_succ,zD,zF]
     rfl
   refine take_ (i:=3) (N:=some 19) (v:=?_) (a':=?_) #[true,true,true,true,false,false,true,false,false,false] rfl rfl (z19 HT_.out HW_.out (by kernel_rfl)) (fun _ _ _ h=>h) (Or.inl ⟨by rfl,?_⟩) hHeld ?_ ?_
   rotate_left
   · rintro w' ⟨s0,s1⟩
     go_simp
     with_reducible rfl
   rotate_left
   · simp only [Act.put,List.setIfInBounds_toArray,List.set_cons_zero,List.set_cons_succ,zD,zF]
     rfl
   refine take_ (i:=7) (N:=some 23) (v:=?_) (a':=?_) #[true,true,true,true,false,false,true,true,false,false] rfl rfl (z19 HT_.out HW_.out (by kernel_rfl)) (fun _ _ _ h=>h) (Or.inl ⟨by rfl,?_⟩) hHeld ?_ ?_
   rotate_left
   · rintro w' ⟨s0,s1⟩
     go_simp
     with_reducible rfl
   rotate_left
   · simp only [Act.put,List.setIfInBounds_toArray,List.set_cons_zero,List.set_cons_succ,zD,zF]
     rfl
   refine one_ (i:=4) (N:=some 20) #[true,true,true,true,true,false,true,true,false,false] rfl rfl (z1D HT_.out (by kernel_rfl)) (by decide) (fun K hK=>?_)
   refine goes_ Try.func103 (by kernel_rfl) rfl #[.int .i64 5,.int .u64 a1_0] (by rfl) rfl rfl (by (try simp only [List.map_toArray,List.map_cons,List.map_nil]);first|done|rfl|(simp only [List.length_drop,List.length_take];rfl)) ?_
   with_reducible refine (zr.calls k 5 a1_0 t105 _ A13.out).mono ?_
   rintro e w17 ⟨rfl,hb⟩
   refine ⟨_,rfl,?_⟩
   have n0_:=z7.mk (zj (g:=gb101) (o:=.cells #[.int .u64 a1_0,.int .u64 a1_1] 61 (0,0)) (by (with_reducible repeat (first|refine z2 ?_ _|refine z5 ?_|refine z1 ?_ _));exact BK101.out) hb)
   have n1_:=z7.mk (zj (g:=gb102) (o:=.cells #[.int .u64 0,.int .u64 0] 61 (0,0)) (by (with_reducible repeat (first|refine z2 ?_ _|refine z5 ?_|refine z1 ?_ _));exact BK102.out) hb)
   have n2_:=z7.mk (zi (by repeat (first|(with_reducible first|exact HB.out|apply z4|apply z0|apply z3|refine z8 ?_ GE101.out|refine z8 ?_ GE102.out)|exact HB.out)) hb)
   clear BK101
   clear BK102
   clear HB
   have BK101:=n0_
   have BK102:=n1_
   have HB:=n2_
   clear n0_ n1_ n2_
   (try clear hb)
   (try clear hb2)
   (try clear hk)
   (try clear hi)
   refine hK.out _ _ ⟨(zb BK101.out 0).trans rfl,(zb BK101.out 1).trans rfl⟩ (fun hHeld=>?_)
   clear hK K
   refine norm_ (a':=?_) ?_ ?_
   rotate_left
   · show Act.put _ (some 20) _ = _
     simp only [Act.put,List.setIfInBounds_toArray,List.set_cons_zero,List.set_cons_succ,zD,zF]
     rfl
   refine pure_ (i:=5) (N:=some 21) (v:=?_) (a':=?_) #[true,true,true,true,true,true,true,true,false,false] rfl rfl (zK HT_.out (by kernel_rfl)) (fun _ _ _ h=>h) (Or.inl ⟨by rfl,?_⟩) ?_ ?_
   rotate_left
   · intro w'
     go_simp
     with_reducible rfl
   rotate_left
   · simp only [Act.put,List.setIfInBounds_toArray,List.set_cons_zero,List.set_cons_succ,zD,zF]
     rfl
   refine pure_ (i:=8) (N:=some 24) (v:=?_) (a':=?_) #[true,true,true,true,true,true,true,true,true,false] rfl rfl (zK HT_.out (by kernel_rfl)) (fun _ _ _ h=>h) (Or.inl ⟨by rfl,?_⟩) ?_ ?_
   rotate_left
   · intro w'
     go_simp
     with_reducible rfl
   rotate_left
   · simp only [Act.put,List.setIfInBounds_toArray,List.set_cons_zero,List.set_cons_succ,zD,zF]
     rfl
   refine one_ (i:=9) (N:=none) #[true,true,true,true,true,true,true,true,true,true] rfl rfl (z1D HT_.out (by kernel_rfl)) (by decide) (fun K hK=>?_)
   have hs18 : w17.cell? ⟨gb102,0,none⟩ = some (.int .u64 0):=(zb BK102.out 0).trans rfl
   have hfs18:=z9 BK102.out 0
   have hns18_0:=NB101_102.out
   have hms18_0:=NB102_101.out
   have hs19 : w17.cell? ⟨gb102,1,none⟩ = some (.int .u64 0):=(zb BK102.out 1).trans rfl
   have hfs19:=z9 BK102.out 1
   have hns19_0:=NB101_102.out
   have hms19_0:=NB102_101.out
   refine skip_ (w1:=?_) (by rfl) rfl ?_ ?_
   rotate_left
   · go_simp
     rfl
   refine hK.out _ _ ⟨((zn (p:=⟨gb102,_,none⟩) NB101_102.out _).trans (((zn (p:=⟨gb102,_,none⟩) NB101_102.out _).trans (hHeld.1)))),((zn (p:=⟨gb102,_,none⟩) NB101_102.out _).trans (((zn (p:=⟨gb102,_,none⟩) NB101_102.out _).trans (hHeld.2))))⟩ (fun hHeld=>?_)
   clear hK K
   refine done_ (z1R HT_.out (by kernel_rfl)) ?_
   try go_wp2
   refine bodyPost_ret (results_cell_row rfl _ _ gb102 61 #[.int .u64 (Go.bits .xor .u64 a1_1 t105),.int .u64 a1_0] (0,0) _ rfl (by (with_reducible repeat (first|refine z2 ?_ _|refine z5 ?_|refine z1 ?_ _));refine zq (cs:=#[.int .u64 (Go.bits .xor .u64 a1_1 t105),.int .u64 0]) ?_ 1 _ rfl;(with_reducible repeat (first|refine z2 ?_ _|refine z5 ?_|refine z1 ?_ _));refine zq (cs:=#[.int .u64 0,.int .u64 0]) ?_ 0 _ rfl;(with_reducible repeat (first|refine z2 ?_ _|refine z5 ?_|refine z1 ?_ _));exact BK102.out) Try.underlying61 rfl (by kernel_rfl)) rfl ?_
   exact ⟨by first|rfl|(simp [zl,zm] <;> rfl)|(simp [*,zl,zm] <;> rfl),by repeat (first|(with_reducible first|exact HB.out|apply z4|apply z0|apply z3|refine z8 ?_ GE101.out|refine z8 ?_ GE102.out)|exact HB.out)⟩
 rw [if_pos c3] at H
 have c3b0 : decide (a0 < 6) = true:=decide_eq_true c3
 clear c3
 replace H:=Option.bind_eq_some_iff.mp H
 obtain ⟨t103,A40,H⟩:=H
 replace H : ((zr.f k a0 a1_1).bind fun t104=>(some (t103,t104))) = some (r1,r2):=H
 have A4:=z7.mk A40
 clear A40
 replace H:=Option.bind_eq_some_iff.mp H
 obtain ⟨t104,A50,H⟩:=H
 replace H : (some (t103,t104)) = some (r1,r2):=H
 have A5:=z7.mk A50
 clear A50
 simp only [Option.some.injEq,Prod.mk.injEq] at H
 obtain ⟨rfl,rfl⟩:=H
 go_enter Try.func95,Try.ntmps95
 try go_wp2_with (first|((with_reducible refine zM (N:=3) rfl ?_);refine zI ?hg (N:=3) ?hd (cs:=#[.int .u64 a1_0,.int .u64 a1_1]) (t:=61) ?hr ?_;(case hd=>rfl);(case hg=>rfl);(case hr=>first|(go_simp;done)|(go_simp;rfl));intro gb101 hg w6 hbox hb;have n0_:=z7.mk (zi (by repeat (first|(with_reducible first|exact HB.out|apply z4|apply z0|apply z3)|exact HB.out)) hb);have n1_:=z7.mk (hbox);have n2_:=z7.mk ((by rw [hg];exact (zf (by repeat (first|(with_reducible first|exact HB.out|apply z4|apply z0|apply z3)|exact HB.out))) : w.heap.size ≤ gb101));have n3_:=z7.mk ((by rw [hg];exact (zf (by repeat (first|(with_reducible first|exact HB.out|apply z4|apply z0|apply z3)|exact HB.out))) : w.heap.size ≤ gb101));clear HB;have HB:=n0_;have BK101:=n1_;have GW101:=n2_;have GE101:=n3_;clear n0_ n1_ n2_ n3_;clear hb hbox hg)|((with_reducible refine zM (N:=4) rfl ?_);refine zI ?hg (N:=4) ?hd (cs:=#[.int .u64 0,.int .u64 0]) (t:=61) ?hr ?_;(case hd=>rfl);(case hg=>rfl);(case hr=>first|(go_simp;done)|(go_simp;rfl));intro gb102 hg w7 hbox hb;have n0_:=z7.mk (zj (g:=gb101) (o:=.cells #[.int .u64 a1_0,.int .u64 a1_1] 61 (0,0)) (by (with_reducible repeat (first|refine z2 ?_ _|refine z5 ?_|refine z1 ?_ _));exact BK101.out) hb);have n1_:=z7.mk (zi (by repeat (first|(with_reducible first|exact HB.out|apply z4|apply z0|apply z3|refine z8 ?_ GE101.out)|exact HB.out)) hb);have n2_:=z7.mk (hbox);have n3_:=z7.mk ((by rw [hg];exact (zf (by repeat (first|(with_reducible first|exact HB.out|apply z4|apply z0|apply z3|refine z8 ?_ GE101.out)|exact HB.out))) : w.heap.size ≤ gb102));have n4_:=z7.mk ((by rw [hg];exact (zf (by repeat (first|(with_reducible first|exact HB.out|apply z4|apply z0|apply z3|refine z8 ?_ GE101.out)|exact HB.out))) : w.heap.size ≤ gb102));have n5_:=z7.mk ((by rw [hg];exact Nat.ne_of_lt (zP (g:=gb101) (o:=.cells #[.int .u64 a1_0,.int .u64 a1_1] 61 (0,0)) (by (with_reducible repeat (first|refine z2 ?_ _|refine z5 ?_|refine z1 ?_ _));exact BK101.out)) : gb101 ≠ gb102));have n6_:=z7.mk ((by rw [hg];exact Nat.ne_of_gt (zP (g:=gb101) (o:=.cells #[.int .u64 a1_0,.int .u64 a1_1] 61 (0,0)) (by (with_reducible repeat (first|refine z2 ?_ _|refine z5 ?_|refine z1 ?_ _));exact BK101.out)) : gb102 ≠ gb101));clear BK101;clear HB;have BK101:=n0_;have HB:=n1_;have BK102:=n2_;have GW102:=n3_;have GE102:=n4_;have NB101_102:=n5_;have NB102_101:=n6_;clear n0_ n1_ n2_ n3_ n4_ n5_ n6_;clear hb hbox hg))
 have n0_:=z7.mk (z5 BK101.out)
 have n1_:=z7.mk (z5 BK102.out)
 have n2_:=z7.mk (z3 HB.out)
 clear BK101
 clear BK102
 clear HB
 have BK101:=n0_
 have BK102:=n1_
 have HB:=n2_
 clear n0_ n1_ n2_
 refine start_ (n:=10) (S:=fun w'=>w'.cell? ⟨gb101,0,none⟩ = some (.int .u64 a1_0) ∧ w'.cell? ⟨gb101,1,none⟩ = some (.int .u64 a1_1)) (ds:=[]) #[false,false,false,false,false,false,false,false,false,false] (by kernel_rfl) rfl rfl ⟨(zb BK101.out 0).trans rfl,(zb BK101.out 1).trans rfl⟩ (fun hHeld=>?_);refine z1x zy.tab2 zy.bits2 (fun HT_ HW_=>?_)
 generalize w7.drew = w8 at BK101 BK102 HB hHeld ⊢
 refine pure_ (i:=0) (N:=some 7) (v:=?_) (a':=?_) #[true,false,false,false,false,false,false,false,false,false] rfl rfl (zK HT_.out (by kernel_rfl)) (fun _ _ _ h=>h) (Or.inl ⟨by rfl,?_⟩) ?_ ?_
 rotate_left
 · intro w'
   go_simp
   with_reducible rfl
 rotate_left
 · simp only [Act.put,List.setIfInBounds_toArray,List.set_cons_zero,List.set_cons_succ,zD,zF]
   rfl
 refine pure_ (i:=1) (N:=some 8) (v:=?_) (a':=?_) #[true,true,false,false,false,false,false,false,false,false] rfl rfl (zK HT_.out (by kernel_rfl)) (fun _ _ _ h=>h) (Or.inl ⟨by rfl,?_⟩) ?_ ?_
 rotate_left
 · intro w'
   go_simp
   with_reducible rfl
 rotate_left
 · simp only [Act.put,List.setIfInBounds_toArray,List.set_cons_zero,List.set_cons_succ,zD,zF]
   rfl
 refine pure_ (i:=4) (N:=some 11) (v:=?_) (a':=?_) #[true,true,false,false,true,false,false,false,false,false] rfl rfl (zK HT_.out (by kernel_rfl)) (fun _ _ _ h=>h) (Or.inl ⟨by rfl,?_⟩) ?_ ?_
 rotate_left
 · intro w'
   go_simp
   with_reducible rfl
 rotate_left
 · simp only [Act.put,List.setIfInBounds_toArray,List.set_cons_zero,List.set_cons_succ,zD,zF]
   rfl
 refine pure_ (i:=5) (N:=some 12) (v:=?_) (a':=?_) #[true,true,false,false,true,true,false,false,false,false] rfl rfl (zK HT_.out (by kernel_rfl)) (fun _ _ _ h=>h) (Or.inl ⟨by rfl,?_⟩) ?_ ?_
 rotate_left
 · intro w'
   go_simp
   with_reducible rfl
 rotate_left
 · simp only [Act.put,List.setIfInBounds_toArray,List.set_cons_zero,List.set_cons_succ,zD,zF]
   rfl
 refine take_ (i:=2) (N:=some 9) (v:=?_) (a':=?_) #[true,true,true,false,true,true,false,false,false,false] rfl rfl (z19 HT_.out HW_.out (by kernel_rfl)) (fun _ _ _ h=>h) (Or.inl ⟨by rfl,?_⟩) hHeld ?_ ?_
 rotate_left
 · rintro w' ⟨s0,s1⟩
   go_simp
   with_reducible rfl
 rotate_left
 · simp only [Act.put,List.setIfInBounds_toArray,List.set_cons_zero,List.set_cons_succ,zD,zF]
   rfl
 refine take_ (i:=6) (N:=some 13) (v:=?_) (a':=?_) #[true,true,true,false,true,true,true,false,false,false] rfl rfl (z19 HT_.out HW_.out (by kernel_rfl)) (fun _ _ _ h=>h) (Or.inl ⟨by rfl,?_⟩) hHeld ?_ ?_
 rotate_left
 · rintro w' ⟨s0,s1⟩
   go_simp
   with_reducible rfl
 rotate_left
 · simp only [Act.put,List.setIfInBounds_toArray,List.set_cons_zero,List.set_cons_succ,zD,zF]
   rfl
 refine one_ (i:=3) (N:=some 10) #[true,true,true,true,true,true,true,false,false,false] rfl rfl (z1D HT_.out (by kernel_rfl)) (by decide) (fun K hK=>?_)
 refine goes_ Try.func103 (by kernel_rfl) rfl #[.int .i64 a0,.int .u64 a1_0] (by rfl) rfl rfl (by (try simp only [List.map_toArray,List.map_cons,List.map_nil]);first|done|rfl|(simp only [List.length_drop,List.length_take];rfl)) ?_
 with_reducible refine (zr.calls k a0 a1_0 t103 _ A4.out).mono ?_
 rintro e w9 ⟨rfl,hb⟩
 refine ⟨_,rfl,?_⟩
 have n0_:=z7.mk (zj (g:=gb101) (o:=.cells #[.int .u64 a1_0,.int .u64 a1_1] 61 (0,0)) (by (with_reducible repeat (first|refine z2 ?_ _|refine z5 ?_|refine z1 ?_ _));exact BK101.out) hb)
 have n1_:=z7.mk (zj (g:=gb102) (o:=.cells #[.int .u64 0,.int .u64 0] 61 (0,0)) (by (with_reducible repeat (first|refine z2 ?_ _|refine z5 ?_|refine z1 ?_ _));exact BK102.out) hb)
 have n2_:=z7.mk (zi (by repeat (first|(with_reducible first|exact HB.out|apply z4|apply z0|apply z3|refine z8 ?_ GE101.out|refine z8 ?_ GE102.out)|exact HB.out)) hb)
 clear BK101
 clear BK102
 clear HB
 have BK101:=n0_
 have BK102:=n1_
 have HB:=n2_
 clear n0_ n1_ n2_
 (try clear hb)
 (try clear hb2)
 (try clear hk)
 (try clear hi)
 refine hK.out _ _ ⟨(zb BK101.out 0).trans rfl,(zb BK101.out 1).trans rfl⟩ (fun hHeld=>?_)
 clear hK K
 refine norm_ (a':=?_) ?_ ?_
 rotate_left
 · show Act.put _ (some 10) _ = _
   simp only [Act.put,List.setIfInBounds_toArray,List.set_cons_zero,List.set_cons_succ,zD,zF]
   rfl
 refine one_ (i:=7) (N:=some 14) #[true,true,true,true,true,true,true,true,false,false] rfl rfl (z1D HT_.out (by kernel_rfl)) (by decide) (fun K hK=>?_)
 refine goes_ Try.func103 (by kernel_rfl) rfl #[.int .i64 a0,.int .u64 a1_1] (by rfl) rfl rfl (by (try simp only [List.map_toArray,List.map_cons,List.map_nil]);first|done|rfl|(simp only [List.length_drop,List.length_take];rfl)) ?_
 with_reducible refine (zr.calls k a0 a1_1 t104 _ A5.out).mono ?_
 rintro e w10 ⟨rfl,hb⟩
 refine ⟨_,rfl,?_⟩
 have n0_:=z7.mk (zj (g:=gb101) (o:=.cells #[.int .u64 a1_0,.int .u64 a1_1] 61 (0,0)) (by (with_reducible repeat (first|refine z2 ?_ _|refine z5 ?_|refine z1 ?_ _));exact BK101.out) hb)
 have n1_:=z7.mk (zj (g:=gb102) (o:=.cells #[.int .u64 0,.int .u64 0] 61 (0,0)) (by (with_reducible repeat (first|refine z2 ?_ _|refine z5 ?_|refine z1 ?_ _));exact BK102.out) hb)
 have n2_:=z7.mk (zi (by repeat (first|(with_reducible first|exact HB.out|apply z4|apply z0|apply z3|refine z8 ?_ GE101.out|refine z8 ?_ GE102.out)|exact HB.out)) hb)
 clear BK101
 clear BK102
 clear HB
 have BK101:=n0_
 have BK102:=n1_
 have HB:=n2_
 clear n0_ n1_ n2_
 (try clear hb)
 (try clear hb2)
 (try clear hk)
 (try clear hi)
 refine hK.out _ _ ⟨(zb BK101.out 0).trans rfl,(zb BK101.out 1).trans rfl⟩ (fun hHeld=>?_)
 clear hK K
 refine norm_ (a':=?_) ?_ ?_
 rotate_left
 · show Act.put _ (some 14) _ = _
   simp only [Act.put,List.setIfInBounds_toArray,List.set_cons_zero,List.set_cons_succ,zD,zF]
   rfl
 refine pure_ (i:=8) (N:=some 15) (v:=?_) (a':=?_) #[true,true,true,true,true,true,true,true,true,false] rfl rfl (zK HT_.out (by kernel_rfl)) (fun _ _ _ h=>h) (Or.inl ⟨by rfl,?_⟩) ?_ ?_
 rotate_left
 · intro w'
   go_simp
   with_reducible rfl
 rotate_left
 · simp only [Act.put,List.setIfInBounds_toArray,List.set_cons_zero,List.set_cons_succ,zD,zF]
   rfl
 refine one_ (i:=9) (N:=none) #[true,true,true,true,true,true,true,true,true,true] rfl rfl (z1D HT_.out (by kernel_rfl)) (by decide) (fun K hK=>?_)
 have hs11 : w10.cell? ⟨gb102,0,none⟩ = some (.int .u64 0):=(zb BK102.out 0).trans rfl
 have hfs11:=z9 BK102.out 0
 have hns11_0:=NB101_102.out
 have hms11_0:=NB102_101.out
 have hs12 : w10.cell? ⟨gb102,1,none⟩ = some (.int .u64 0):=(zb BK102.out 1).trans rfl
 have hfs12:=z9 BK102.out 1
 have hns12_0:=NB101_102.out
 have hms12_0:=NB102_101.out
 refine skip_ (w1:=?_) (by rfl) rfl ?_ ?_
 rotate_left
 · go_simp
   rfl
 refine hK.out _ _ ⟨((zn (p:=⟨gb102,_,none⟩) NB101_102.out _).trans (((zn (p:=⟨gb102,_,none⟩) NB101_102.out _).trans (hHeld.1)))),((zn (p:=⟨gb102,_,none⟩) NB101_102.out _).trans (((zn (p:=⟨gb102,_,none⟩) NB101_102.out _).trans (hHeld.2))))⟩ (fun hHeld=>?_)
 clear hK K
 refine done_ (z1R HT_.out (by kernel_rfl)) ?_
 try go_wp2
 refine bodyPost_ret (results_cell_row rfl _ _ gb102 61 #[.int .u64 t103,.int .u64 t104] (0,0) _ rfl (by (with_reducible repeat (first|refine z2 ?_ _|refine z5 ?_|refine z1 ?_ _));refine zq (cs:=#[.int .u64 t103,.int .u64 0]) ?_ 1 _ rfl;(with_reducible repeat (first|refine z2 ?_ _|refine z5 ?_|refine z1 ?_ _));refine zq (cs:=#[.int .u64 0,.int .u64 0]) ?_ 0 _ rfl;(with_reducible repeat (first|refine z2 ?_ _|refine z5 ?_|refine z1 ?_ _));exact BK102.out) Try.underlying61 rfl (by kernel_rfl)) rfl ?_
 exact ⟨by first|rfl|(simp [zl,zm] <;> rfl)|(simp [*,zl,zm] <;> rfl),by repeat (first|(with_reducible first|exact HB.out|apply z4|apply z0|apply z3|refine z8 ?_ GE101.out|refine z8 ?_ GE102.out)|exact HB.out)⟩
end Go.Proofs.Ytngcaphdkgihmaa.P
namespace Go.Proofs.Ytngcaphdkgihmaa.P
open Go.RowKit Go.Proofs.YtngcaphdkgihmaaW.PrintWords Go.Proofs.YtngcaphdkgihmaaW.PrintLast Go.Proofs.YtngcaphdkgihmaaW.PrintMore
attribute [local go_sem] z14 z16 z1b z1c z10 z11 z15 z17   -- for this text's walks alone
set_option linter.unusedVariables false
set_option linter.unusedSimpArgs false
mutual
def zk.l0 : Nat → Int → Int → Int → Int → Int → Int → Int → Option (Int × Int)
 | 0,_,_,_,_,_,_,_=>none
 | k + 1,x6,x102000,x102001,x103000,x103001,x105000,x105001=>if x6 < 128 then ((z12.f k x103000 x103001 x6).bind fun t105=>(if t105 = true then (zk.l1 k x6 0 x102000 x102001 x103000 x103001 x105000 x105001 x102000 x102001) else (zk.l0 k (wrap64 (x6 + 1)) x102000 x102001 x103000 x103001 x105000 x105001))) else (some (x105000,x105001))
def zk.l1 : Nat → Int → Int → Int → Int → Int → Int → Int → Int → Int → Int → Option (Int × Int)
 | 0,_,_,_,_,_,_,_,_,_,_=>none
 | k + 1,x6,x8,x102000,x102001,x103000,x103001,x105000,x105001,x107000,x107001=>if x8 < 7 then (if 0 ≤ (IntKind.u64.wrap (x8)) then (if (Go.bits .and .i64 (shr .i64 x6 (IntKind.u64.wrap (x8))) 1) = 1 then ((zy.f k x8 x107000 x107001).bind fun bt107=>(zk.l1 k x6 (wrap64 (x8 + 1)) x102000 x102001 x103000 x103001 x105000 x105001 bt107.1 bt107.2)) else (zk.l1 k x6 (wrap64 (x8 + 1)) x102000 x102001 x103000 x103001 x105000 x105001 x107000 x107001)) else (none)) else ((z1m.f x105000 x105001 x107000 x107001).bind fun bt109=>(zk.l0 k (wrap64 (x6 + 1)) x102000 x102001 x103000 x103001 bt109.1 bt109.2))
end
def zk.f (k : Nat) (a0_0 : Int) (a0_1 : Int) (a1_0 : Int) (a1_1 : Int) : Option (Int × Int):=zk.l0 k 0 a0_0 a0_1 a1_0 a1_1 0 0
theorem zk.z18 : ∀ k,(∀ y0 y1 y2 y3 y4 y5 y6,LeO (zk.l0 k y0 y1 y2 y3 y4 y5 y6) (zk.l0 (k + 1) y0 y1 y2 y3 y4 y5 y6)) ∧ (∀ y0 y1 y2 y3 y4 y5 y6 y7 y8 y9,LeO (zk.l1 k y0 y1 y2 y3 y4 y5 y6 y7 y8 y9) (zk.l1 (k + 1) y0 y1 y2 y3 y4 y5 y6 y7 y8 y9))
 | 0=>⟨fun _ _ _ _ _ _ _ r h=>by simp [zk.l0] at h,fun _ _ _ _ _ _ _ _ _ _ r h=>by simp [zk.l1] at h⟩
 | k + 1=>by
  obtain ⟨ih0,ih1⟩:=zk.z18 k
  refine ⟨?_,?_⟩
  · intro y0 y1 y2 y3 y4 y5 y6
    unfold zk.l0
    repeat' first
    | (with_reducible exact ih0 _ _ _ _ _ _ _)
    | (with_reducible exact ih1 _ _ _ _ _ _ _ _ _ _)
    | (with_reducible exact z12.mono _ _ _ _)
    | (with_reducible exact zy.mono _ _ _ _)
    | (with_reducible exact LeO.refl _)
    | (with_reducible exact LeO.none _)
    | (with_reducible refine LeO.ite ?_ ?_)
    | (with_reducible refine LeO.bind ?_ (fun _=>?_))
    | exact ih0 _ _ _ _ _ _ _
    | exact ih1 _ _ _ _ _ _ _ _ _ _
    | exact z12.mono _ _ _ _
    | exact zy.mono _ _ _ _
    | exact LeO.none _
    | refine LeO.ite ?_ ?_
    | refine LeO.bind ?_ (fun _=>?_)
  · intro y0 y1 y2 y3 y4 y5 y6 y7 y8 y9
    unfold zk.l1
    repeat' first
    | (with_reducible exact ih0 _ _ _ _ _ _ _)
    | (with_reducible exact ih1 _ _ _ _ _ _ _ _ _ _)
    | (with_reducible exact z12.mono _ _ _ _)
    | (with_reducible exact zy.mono _ _ _ _)
    | (with_reducible exact LeO.refl _)
    | (with_reducible exact LeO.none _)
    | (with_reducible refine LeO.ite ?_ ?_)
    | (with_reducible refine LeO.bind ?_ (fun _=>?_))
    | exact ih0 _ _ _ _ _ _ _
    | exact ih1 _ _ _ _ _ _ _ _ _ _
    | exact z12.mono _ _ _ _
    | exact zy.mono _ _ _ _
    | exact LeO.none _
    | refine LeO.ite ?_ ?_
    | refine LeO.bind ?_ (fun _=>?_)
theorem zk.mono : ∀ a0 a1 a2 a3 k,LeO (zk.f k a0 a1 a2 a3) (zk.f (k + 1) a0 a1 a2 a3):=by
 intro a0 a1 a2 a3 k
 obtain ⟨ih0,ih1⟩:=zk.z18 k
 unfold zk.f
 repeat' first
  | (with_reducible exact ih0 _ _ _ _ _ _ _)
  | (with_reducible exact ih1 _ _ _ _ _ _ _ _ _ _)
  | (with_reducible exact z12.mono _ _ _ _)
  | (with_reducible exact zy.mono _ _ _ _)
  | (with_reducible exact LeO.refl _)
  | (with_reducible exact LeO.none _)
  | (with_reducible refine LeO.ite ?_ ?_)
  | (with_reducible refine LeO.bind ?_ (fun _=>?_))
  | exact ih0 _ _ _ _ _ _ _
  | exact ih1 _ _ _ _ _ _ _ _ _ _
  | exact z12.mono _ _ _ _
  | exact zy.mono _ _ _ _
  | exact LeO.none _
  | refine LeO.ite ?_ ?_
  | refine LeO.bind ?_ (fun _=>?_)
set_option maxHeartbeats 8000000 in
set_option maxRecDepth 100000 in
theorem zk.calls (k : Nat) (a0_0 : Int) (a0_1 : Int) (a1_0 : Int) (a1_1 : Int) (r1 : Int) (r2 : Int) (w : World) (h : zk.f k a0_0 a0_1 a1_0 a1_1 = some (r1,r2)) :
 Calls Try.prog 79 #[.agg #[.int .u64 a0_0,.int .u64 a0_1],.agg #[.int .u64 a1_0,.int .u64 a1_1]] w fun e w'=>e = .returned (.agg #[.int .u64 r1,.int .u64 r2]) ∧ Below w.heap.size w w':=by
 have hu61:=Try.underlying61
 have HB:=z7.mk (Below.refl w.heap.size w)
 have H : (zk.l0 k 0 a0_0 a0_1 a1_0 a1_1 0 0) = some (r1,r2):=h
 clear h
 have H':=z7.mk H
 clear H
 go_enter Try.func79,Try.ntmps79
 go_wp2_with (first|((with_reducible refine zM (N:=2) rfl ?_);refine zI ?hg (N:=2) ?hd (cs:=#[.int .u64 a0_0,.int .u64 a0_1]) (t:=61) ?hr ?_;(case hd=>rfl);(case hg=>rfl);(case hr=>first|(go_simp;done)|(go_simp;rfl));intro gb101 hg w3 hbox hb;have n0_:=z7.mk (zi (by repeat (first|(with_reducible first|exact HB.out|apply z4|apply z0|apply z3)|exact HB.out)) hb);have n1_:=z7.mk (hbox);have n2_:=z7.mk ((by rw [hg];exact (zf (by repeat (first|(with_reducible first|exact HB.out|apply z4|apply z0|apply z3)|exact HB.out))) : w.heap.size ≤ gb101));have n3_:=z7.mk ((by rw [hg];exact (zf (by repeat (first|(with_reducible first|exact HB.out|apply z4|apply z0|apply z3)|exact HB.out))) : w.heap.size ≤ gb101));clear HB;have HB:=n0_;have BK101:=n1_;have GW101:=n2_;have GE101:=n3_;clear n0_ n1_ n2_ n3_;clear hb hbox hg)|((with_reducible refine zM (N:=3) rfl ?_);refine zI ?hg (N:=3) ?hd (cs:=#[.int .u64 a1_0,.int .u64 a1_1]) (t:=61) ?hr ?_;(case hd=>rfl);(case hg=>rfl);(case hr=>first|(go_simp;done)|(go_simp;rfl));intro gb102 hg w4 hbox hb;have n0_:=z7.mk (zj (g:=gb101) (o:=.cells #[.int .u64 a0_0,.int .u64 a0_1] 61 (0,0)) (by (with_reducible repeat (first|refine z2 ?_ _|refine z5 ?_|refine z1 ?_ _));exact BK101.out) hb);have n1_:=z7.mk (zi (by repeat (first|(with_reducible first|exact HB.out|apply z4|apply z0|apply z3|refine z8 ?_ GE101.out)|exact HB.out)) hb);have n2_:=z7.mk (hbox);have n3_:=z7.mk ((by rw [hg];exact (zf (by repeat (first|(with_reducible first|exact HB.out|apply z4|apply z0|apply z3|refine z8 ?_ GE101.out)|exact HB.out))) : w.heap.size ≤ gb102));have n4_:=z7.mk ((by rw [hg];exact (zf (by repeat (first|(with_reducible first|exact HB.out|apply z4|apply z0|apply z3|refine z8 ?_ GE101.out)|exact HB.out))) : w.heap.size ≤ gb102));have n5_:=z7.mk ((by rw [hg];exact Nat.ne_of_lt (zP (g:=gb101) (o:=.cells #[.int .u64 a0_0,.int .u64 a0_1] 61 (0,0)) (by (with_reducible repeat (first|refine z2 ?_ _|refine z5 ?_|refine z1 ?_ _));exact BK101.out)) : gb101 ≠ gb102));have n6_:=z7.mk ((by rw [hg];exact Nat.ne_of_gt (zP (g:=gb101) (o:=.cells #[.int .u64 a0_0,.int .u64 a0_1] 61 (0,0)) (by (with_reducible repeat (first|refine z2 ?_ _|refine z5 ?_|refine z1 ?_ _));exact BK101.out)) : gb102 ≠ gb101));clear BK101;clear HB;have BK101:=n0_;have HB:=n1_;have BK102:=n2_;have GW102:=n3_;have GE102:=n4_;have NB101_102:=n5_;have NB102_101:=n6_;clear n0_ n1_ n2_ n3_ n4_ n5_ n6_;clear hb hbox hg)|((with_reducible refine zM (N:=4) rfl ?_);refine zI ?hg (N:=4) ?hd (cs:=#[.int .u64 0,.int .u64 0]) (t:=61) ?hr ?_;(case hd=>rfl);(case hg=>rfl);(case hr=>first|(go_simp;done)|(go_simp;rfl));intro gb103 hg w5 hbox hb;have n0_:=z7.mk (zj (g:=gb101) (o:=.cells #[.int .u64 a0_0,.int .u64 a0_1] 61 (0,0)) (by (with_reducible repeat (first|refine z2 ?_ _|refine z5 ?_|refine z1 ?_ _));exact BK101.out) hb);have n1_:=z7.mk (zj (g:=gb102) (o:=.cells #[.int .u64 a1_0,.int .u64 a1_1] 61 (0,0)) (by (with_reducible repeat (first|refine z2 ?_ _|refine z5 ?_|refine z1 ?_ _));exact BK102.out) hb);have n2_:=z7.mk (zi (by repeat (first|(with_reducible first|exact HB.out|apply z4|apply z0|apply z3|refine z8 ?_ GE101.out|refine z8 ?_ GE102.out)|exact HB.out)) hb);have n3_:=z7.mk (hbox);have n4_:=z7.mk ((by rw [hg];exact (zf (by repeat (first|(with_reducible first|exact HB.out|apply z4|apply z0|apply z3|refine z8 ?_ GE101.out|refine z8 ?_ GE102.out)|exact HB.out))) : w.heap.size ≤ gb103));have n5_:=z7.mk ((by rw [hg];exact (zf (by repeat (first|(with_reducible first|exact HB.out|apply z4|apply z0|apply z3|refine z8 ?_ GE101.out|refine z8 ?_ GE102.out)|exact HB.out))) : w.heap.size ≤ gb103));have n6_:=z7.mk ((by rw [hg];exact Nat.ne_of_lt (zP (g:=gb101) (o:=.cells #[.int .u64 a0_0,.int .u64 a0_1] 61 (0,0)) (by (with_reducible repeat (first|refine z2 ?_ _|refine z5 ?_|refine z1 ?_ _));exact BK101.out)) : gb101 ≠ gb103));have n7_:=z7.mk ((by rw [hg];exact Nat.ne_of_gt (zP (g:=gb101) (o:=.cells #[.int .u64 a0_0,.int .u64 a0_1] 61 (0,0)) (by (with_reducible repeat (first|refine z2 ?_ _|refine z5 ?_|refine z1 ?_ _));exact BK101.out)) : gb103 ≠ gb101));have n8_:=z7.mk ((by rw [hg];exact Nat.ne_of_lt (zP (g:=gb102) (o:=.cells #[.int .u64 a1_0,.int .u64 a1_1] 61 (0,0)) (by (with_reducible repeat (first|refine z2 ?_ _|refine z5 ?_|refine z1 ?_ _));exact BK102.out)) : gb102 ≠ gb103));have n9_:=z7.mk ((by rw [hg];exact Nat.ne_of_gt (zP (g:=gb102) (o:=.cells #[.int .u64 a1_0,.int .u64 a1_1] 61 (0,0)) (by (with_reducible repeat (first|refine z2 ?_ _|refine z5 ?_|refine z1 ?_ _));exact BK102.out)) : gb103 ≠ gb102));clear BK101;clear BK102;clear HB;have BK101:=n0_;have BK102:=n1_;have HB:=n2_;have BK103:=n3_;have GW103:=n4_;have GE103:=n5_;have NB101_103:=n6_;have NB103_101:=n7_;have NB102_103:=n8_;have NB103_102:=n9_;clear n0_ n1_ n2_ n3_ n4_ n5_ n6_ n7_ n8_ n9_;clear hb hbox hg)|((with_reducible refine zM (N:=5) rfl ?_);refine zI ?hg (N:=5) ?hd (cs:=#[.int .u64 0,.int .u64 0]) (t:=61) ?hr ?_;(case hd=>rfl);(case hg=>rfl);(case hr=>first|(go_simp;done)|(go_simp;rfl));intro gb104 hg w6 hbox hb;have n0_:=z7.mk (zj (g:=gb101) (o:=.cells #[.int .u64 a0_0,.int .u64 a0_1] 61 (0,0)) (by (with_reducible repeat (first|refine z2 ?_ _|refine z5 ?_|refine z1 ?_ _));exact BK101.out) hb);have n1_:=z7.mk (zj (g:=gb102) (o:=.cells #[.int .u64 a1_0,.int .u64 a1_1] 61 (0,0)) (by (with_reducible repeat (first|refine z2 ?_ _|refine z5 ?_|refine z1 ?_ _));exact BK102.out) hb);have n2_:=z7.mk (zj (g:=gb103) (o:=.cells #[.int .u64 0,.int .u64 0] 61 (0,0)) (by (with_reducible repeat (first|refine z2 ?_ _|refine z5 ?_|refine z1 ?_ _));exact BK103.out) hb);have n3_:=z7.mk (zi (by repeat (first|(with_reducible first|exact HB.out|apply z4|apply z0|apply z3|refine z8 ?_ GE101.out|refine z8 ?_ GE102.out|refine z8 ?_ GE103.out)|exact HB.out)) hb);have n4_:=z7.mk (hbox);have n5_:=z7.mk ((by rw [hg];exact (zf (by repeat (first|(with_reducible first|exact HB.out|apply z4|apply z0|apply z3|refine z8 ?_ GE101.out|refine z8 ?_ GE102.out|refine z8 ?_ GE103.out)|exact HB.out))) : w.heap.size ≤ gb104));have n6_:=z7.mk ((by rw [hg];exact (zf (by repeat (first|(with_reducible first|exact HB.out|apply z4|apply z0|apply z3|refine z8 ?_ GE101.out|refine z8 ?_ GE102.out|refine z8 ?_ GE103.out)|exact HB.out))) : w.heap.size ≤ gb104));have n7_:=z7.mk ((by rw [hg];exact Nat.ne_of_lt (zP (g:=gb101) (o:=.cells #[.int .u64 a0_0,.int .u64 a0_1] 61 (0,0)) (by (with_reducible repeat (first|refine z2 ?_ _|refine z5 ?_|refine z1 ?_ _));exact BK101.out)) : gb101 ≠ gb104));have n8_:=z7.mk ((by rw [hg];exact Nat.ne_of_gt (zP (g:=gb101) (o:=.cells #[.int .u64 a0_0,.int .u64 a0_1] 61 (0,0)) (by (with_reducible repeat (first|refine z2 ?_ _|refine z5 ?_|refine z1 ?_ _));exact BK101.out)) : gb104 ≠ gb101));have n9_:=z7.mk ((by rw [hg];exact Nat.ne_of_lt (zP (g:=gb102) (o:=.cells #[.int .u64 a1_0,.int .u64 a1_1] 61 (0,0)) (by (with_reducible repeat (first|refine z2 ?_ _|refine z5 ?_|refine z1 ?_ _));exact BK102.out)) : gb102 ≠ gb104));have n10_:=z7.mk ((by rw [hg];exact Nat.ne_of_gt (zP (g:=gb102) (o:=.cells #[.int .u64 a1_0,.int .u64 a1_1] 61 (0,0)) (by (with_reducible repeat (first|refine z2 ?_ _|refine z5 ?_|refine z1 ?_ _));exact BK102.out)) : gb104 ≠ gb102));have n11_:=z7.mk ((by rw [hg];exact Nat.ne_of_lt (zP (g:=gb103) (o:=.cells #[.int .u64 0,.int .u64 0] 61 (0,0)) (by (with_reducible repeat (first|refine z2 ?_ _|refine z5 ?_|refine z1 ?_ _));exact BK103.out)) : gb103 ≠ gb104));have n12_:=z7.mk ((by rw [hg];exact Nat.ne_of_gt (zP (g:=gb103) (o:=.cells #[.int .u64 0,.int .u64 0] 61 (0,0)) (by (with_reducible repeat (first|refine z2 ?_ _|refine z5 ?_|refine z1 ?_ _));exact BK103.out)) : gb104 ≠ gb103));clear BK101;clear BK102;clear BK103;clear HB;have BK101:=n0_;have BK102:=n1_;have BK103:=n2_;have HB:=n3_;have BK104:=n4_;have GW104:=n5_;have GE104:=n6_;have NB101_104:=n7_;have NB104_101:=n8_;have NB102_104:=n9_;have NB104_102:=n10_;have NB103_104:=n11_;have NB104_103:=n12_;clear n0_ n1_ n2_ n3_ n4_ n5_ n6_ n7_ n8_ n9_ n10_ n11_ n12_;clear hb hbox hg))
 go_loopg [6] k (fun kq v6 w'=>∃ (x6_1 : Int) (x105000_1 : Int) (x105001_1 : Int),v6 = .int .i64 x6_1 ∧ z7 (zk.l0 kq x6_1 a0_0 a0_1 a1_0 a1_1 x105000_1 x105001_1 = some (r1,r2)) ∧ z7 (kq ≤ k) ∧ z7 (w'.heap[gb101]? = some (.cells #[.int .u64 a0_0,.int .u64 a0_1] 61 (0,0))) ∧ z7 (w'.heap[gb102]? = some (.cells #[.int .u64 a1_0,.int .u64 a1_1] 61 (0,0))) ∧ z7 (w'.heap[gb103]? = some (.cells #[.int .u64 0,.int .u64 0] 61 (0,0))) ∧ z7 (w'.heap[gb104]? = some (.cells #[.int .u64 x105000_1,.int .u64 x105001_1] 61 (0,0))) ∧ z7 (Below w.heap.size w w'))
 case atStart=>exact ⟨(0),(0),(0),(by first|rfl|(simp;done)|(simp [*];done)),H',⟨Nat.le_refl _⟩,⟨by (with_reducible repeat (first|refine z2 ?_ _|refine z5 ?_|refine z1 ?_ _));exact BK101.out⟩,⟨by (with_reducible repeat (first|refine z2 ?_ _|refine z5 ?_|refine z1 ?_ _));exact BK102.out⟩,⟨by (with_reducible repeat (first|refine z2 ?_ _|refine z5 ?_|refine z1 ?_ _));exact BK103.out⟩,⟨by (with_reducible repeat (first|refine z2 ?_ _|refine z5 ?_|refine z1 ?_ _));exact BK104.out⟩,⟨by repeat (first|(with_reducible first|exact HB.out|apply z4|apply z0|apply z3|refine z8 ?_ GE101.out|refine z8 ?_ GE102.out|refine z8 ?_ GE103.out|refine z8 ?_ GE104.out)|exact HB.out)⟩⟩
 case round =>
  clear H'
  (try clear p2)
  obtain ⟨x6_1,x105000_1,x105001_1,rfl,HA,HK1,BK101,BK102,BK103,BK104,HB⟩:=hrel
  cases gk with
  | zero=>exact absurd HA.out (by simp [zk.l0])
  | succ k1 =>
   have H:=HA.out
   clear HA
   simp only [zk.l0] at H
   by_cases c7 : x6_1 < 128
   rotate_left
   · rw [if_neg c7] at H
     have c7b0 : decide (x6_1 < 128) = false:=decide_eq_false c7
     clear c7
     simp only [Option.some.injEq,Prod.mk.injEq] at H
     obtain ⟨rfl,rfl⟩:=H
     have hnb54:=NB104_101.out
     have hnc54:=NB101_104.out
     have hnb55:=NB104_102.out
     have hnc55:=NB102_104.out
     have hnb56:=NB104_103.out
     have hnc56:=NB103_104.out
     have hcz57_0 : wr.cell? ⟨gb104,0,none⟩ = some (.int .u64 x105000_1):=(zb BK104.out 0).trans rfl
     have hcz57_1 : wr.cell? ⟨gb104,1,none⟩ = some (.int .u64 x105001_1):=(zb BK104.out 1).trans rfl
     have hfz57_0:=z9 BK104.out 0
     have hfz57_1:=z9 BK104.out 1
     have hnb58:=NB103_101.out
     have hnc58:=NB101_103.out
     have hnb59:=NB103_102.out
     have hnc59:=NB102_103.out
     have hcz60_0 : wr.cell? ⟨gb103,0,none⟩ = some (.int .u64 0):=(zb BK103.out 0).trans rfl
     have hcz60_1 : wr.cell? ⟨gb103,1,none⟩ = some (.int .u64 0):=(zb BK103.out 1).trans rfl
     have hfz60_0:=z9 BK103.out 0
     have hfz60_1:=z9 BK103.out 1
     go_wp2
     refine bodyPost_ret (results_cell_row rfl _ _ gb103 61 #[.int .u64 x105000_1,.int .u64 x105001_1] (0,0) _ rfl (by (with_reducible repeat (first|refine z2 ?_ _|refine z5 ?_|refine z1 ?_ _));refine zq (cs:=#[.int .u64 x105000_1,.int .u64 0]) ?_ 1 _ rfl;(with_reducible repeat (first|refine z2 ?_ _|refine z5 ?_|refine z1 ?_ _));refine zq (cs:=#[.int .u64 0,.int .u64 0]) ?_ 0 _ rfl;(with_reducible repeat (first|refine z2 ?_ _|refine z5 ?_|refine z1 ?_ _));exact BK103.out) Try.underlying61 rfl (by kernel_rfl)) rfl ?_
     exact ⟨by first|rfl|(simp [zl,zm] <;> rfl)|(simp [*,zl,zm] <;> rfl),by repeat (first|(with_reducible first|exact HB.out|apply z4|apply z0|apply z3|refine z8 ?_ GE101.out|refine z8 ?_ GE102.out|refine z8 ?_ GE103.out|refine z8 ?_ GE104.out)|exact HB.out)⟩
   rw [if_pos c7] at H
   have c7b0 : decide (x6_1 < 128) = true:=decide_eq_true c7
   clear c7
   replace H:=Option.bind_eq_some_iff.mp H
   obtain ⟨t105,A80,H⟩:=H
   replace H : (if t105 = true then (zk.l1 k1 x6_1 0 a0_0 a0_1 a1_0 a1_1 x105000_1 x105001_1 a0_0 a0_1) else (zk.l0 k1 (wrap64 (x6_1 + 1)) a0_0 a0_1 a1_0 a1_1 x105000_1 x105001_1)) = some (r1,r2):=H
   have A8:=z7.mk A80
   clear A80
   by_cases c9 : t105 = true
   rotate_left
   · replace c9:=Bool.eq_false_iff.mpr c9
     subst c9
     have H1 : (zk.l0 k1 (wrap64 (x6_1 + 1)) a0_0 a0_1 a1_0 a1_1 x105000_1 x105001_1) = some (r1,r2):=by rw [if_neg (show ¬ (false = true) by decide)] at H;exact H
     clear H
     have H:=H1
     clear H1
     have H':=z7.mk H
     clear H
     have hnb49:=NB102_101.out
     have hnc49:=NB101_102.out
     have hnb50:=NB102_103.out
     have hnc50:=NB103_102.out
     have hnb51:=NB102_104.out
     have hnc51:=NB104_102.out
     have hcz52_0 : wr.cell? ⟨gb102,0,none⟩ = some (.int .u64 a1_0):=(zb BK102.out 0).trans rfl
     have hcz52_1 : wr.cell? ⟨gb102,1,none⟩ = some (.int .u64 a1_1):=(zb BK102.out 1).trans rfl
     have hfz52_0:=z9 BK102.out 0
     have hfz52_1:=z9 BK102.out 1
     go_wp2_with (first|((with_reducible refine zG (f:=73) rfl ?_);refine goesL_ (some 15) rfl rfl Try.func73 (by kernel_rfl) rfl #[.agg #[.int .u64 a1_0,.int .u64 a1_1],.int .i64 x6_1] rfl (by (try simp only [List.map_toArray,List.map_cons,List.map_nil]);first|done|rfl|(simp only [List.length_drop,List.length_take];rfl)) ?_;(with_reducible refine (z12.calls k1 a1_0 a1_1 x6_1 false _ A8.out).mono ?_);rintro e w53 ⟨rfl,hb⟩;refine ⟨_,rfl,?_⟩;have n0_:=z7.mk (zj (g:=gb101) (o:=.cells #[.int .u64 a0_0,.int .u64 a0_1] 61 (0,0)) (by (with_reducible repeat (first|refine z2 ?_ _|refine z5 ?_|refine z1 ?_ _));exact BK101.out) hb);have n1_:=z7.mk (zj (g:=gb102) (o:=.cells #[.int .u64 a1_0,.int .u64 a1_1] 61 (0,0)) (by (with_reducible repeat (first|refine z2 ?_ _|refine z5 ?_|refine z1 ?_ _));exact BK102.out) hb);have n2_:=z7.mk (zj (g:=gb103) (o:=.cells #[.int .u64 0,.int .u64 0] 61 (0,0)) (by (with_reducible repeat (first|refine z2 ?_ _|refine z5 ?_|refine z1 ?_ _));exact BK103.out) hb);have n3_:=z7.mk (zj (g:=gb104) (o:=.cells #[.int .u64 x105000_1,.int .u64 x105001_1] 61 (0,0)) (by (with_reducible repeat (first|refine z2 ?_ _|refine z5 ?_|refine z1 ?_ _));exact BK104.out) hb);have n4_:=z7.mk (zi (by repeat (first|(with_reducible first|exact HB.out|apply z4|apply z0|apply z3|refine z8 ?_ GE101.out|refine z8 ?_ GE102.out|refine z8 ?_ GE103.out|refine z8 ?_ GE104.out)|exact HB.out)) hb);clear BK101;clear BK102;clear BK103;clear BK104;clear HB;have BK101:=n0_;have BK102:=n1_;have BK103:=n2_;have BK104:=n3_;have HB:=n4_;clear n0_ n1_ n2_ n3_ n4_;(try clear hb);(try clear hb2);(try clear hk);(try clear hi)))
     go_roundg k1
     case measure=>have:=HK1.out;omega
     case rel=>exact ⟨(wrap64 (x6_1 + 1)),(x105000_1),(x105001_1),(by first|rfl|(simp;done)|(simp [*];done)),H',⟨by have:=HK1.out;omega⟩,⟨by (with_reducible repeat (first|refine z2 ?_ _|refine z5 ?_|refine z1 ?_ _));exact BK101.out⟩,⟨by (with_reducible repeat (first|refine z2 ?_ _|refine z5 ?_|refine z1 ?_ _));exact BK102.out⟩,⟨by (with_reducible repeat (first|refine z2 ?_ _|refine z5 ?_|refine z1 ?_ _));exact BK103.out⟩,⟨by (with_reducible repeat (first|refine z2 ?_ _|refine z5 ?_|refine z1 ?_ _));exact BK104.out⟩,⟨by repeat (first|(with_reducible first|exact HB.out|apply z4|apply z0|apply z3|refine z8 ?_ GE101.out|refine z8 ?_ GE102.out|refine z8 ?_ GE103.out|refine z8 ?_ GE104.out)|exact HB.out)⟩⟩
   subst c9
   have H1 : (zk.l1 k1 x6_1 0 a0_0 a0_1 a1_0 a1_1 x105000_1 x105001_1 a0_0 a0_1) = some (r1,r2):=by rw [if_pos rfl] at H;exact H
   clear H
   have H:=H1
   clear H1
   have H':=z7.mk H
   clear H
   have hnb10:=NB102_101.out
   have hnc10:=NB101_102.out
   have hnb11:=NB102_103.out
   have hnc11:=NB103_102.out
   have hnb12:=NB102_104.out
   have hnc12:=NB104_102.out
   have hcz13_0 : wr.cell? ⟨gb102,0,none⟩ = some (.int .u64 a1_0):=(zb BK102.out 0).trans rfl
   have hcz13_1 : wr.cell? ⟨gb102,1,none⟩ = some (.int .u64 a1_1):=(zb BK102.out 1).trans rfl
   have hfz13_0:=z9 BK102.out 0
   have hfz13_1:=z9 BK102.out 1
   go_wp2_with (first|((with_reducible refine zG (f:=73) rfl ?_);refine goesL_ (some 15) rfl rfl Try.func73 (by kernel_rfl) rfl #[.agg #[.int .u64 a1_0,.int .u64 a1_1],.int .i64 x6_1] rfl (by (try simp only [List.map_toArray,List.map_cons,List.map_nil]);first|done|rfl|(simp only [List.length_drop,List.length_take];rfl)) ?_;(with_reducible refine (z12.calls k1 a1_0 a1_1 x6_1 true _ A8.out).mono ?_);rintro e w14 ⟨rfl,hb⟩;refine ⟨_,rfl,?_⟩;have n0_:=z7.mk (zj (g:=gb101) (o:=.cells #[.int .u64 a0_0,.int .u64 a0_1] 61 (0,0)) (by (with_reducible repeat (first|refine z2 ?_ _|refine z5 ?_|refine z1 ?_ _));exact BK101.out) hb);have n1_:=z7.mk (zj (g:=gb102) (o:=.cells #[.int .u64 a1_0,.int .u64 a1_1] 61 (0,0)) (by (with_reducible repeat (first|refine z2 ?_ _|refine z5 ?_|refine z1 ?_ _));exact BK102.out) hb);have n2_:=z7.mk (zj (g:=gb103) (o:=.cells #[.int .u64 0,.int .u64 0] 61 (0,0)) (by (with_reducible repeat (first|refine z2 ?_ _|refine z5 ?_|refine z1 ?_ _));exact BK103.out) hb);have n3_:=z7.mk (zj (g:=gb104) (o:=.cells #[.int .u64 x105000_1,.int .u64 x105001_1] 61 (0,0)) (by (with_reducible repeat (first|refine z2 ?_ _|refine z5 ?_|refine z1 ?_ _));exact BK104.out) hb);have n4_:=z7.mk (zi (by repeat (first|(with_reducible first|exact HB.out|apply z4|apply z0|apply z3|refine z8 ?_ GE101.out|refine z8 ?_ GE102.out|refine z8 ?_ GE103.out|refine z8 ?_ GE104.out)|exact HB.out)) hb);clear BK101;clear BK102;clear BK103;clear BK104;clear HB;have BK101:=n0_;have BK102:=n1_;have BK103:=n2_;have BK104:=n3_;have HB:=n4_;clear n0_ n1_ n2_ n3_ n4_;(try clear hb);(try clear hb2);(try clear hk);(try clear hi);have hnb15:=NB101_103.out;have hnc15:=NB103_101.out;have hnb16:=NB101_104.out;have hnc16:=NB104_101.out;have hcz17_0 : w14.cell? ⟨gb101,0,none⟩ = some (.int .u64 a0_0):=(zb BK101.out 0).trans rfl;have hcz17_1 : w14.cell? ⟨gb101,1,none⟩ = some (.int .u64 a0_1):=(zb BK101.out 1).trans rfl;have hfz17_0:=z9 BK101.out 0;have hfz17_1:=z9 BK101.out 1)|((with_reducible refine zM (N:=7) rfl ?_);refine zI ?hg (N:=7) ?hd (cs:=#[.int .u64 0,.int .u64 0]) (t:=61) ?hr ?_;(case hd=>rfl);(case hg=>rfl);(case hr=>first|(go_simp;done)|(go_simp;rfl));intro gb106 hg w18 hbox hb;have n0_:=z7.mk (zj (g:=gb101) (o:=.cells #[.int .u64 a0_0,.int .u64 a0_1] 61 (0,0)) (by (with_reducible repeat (first|refine z2 ?_ _|refine z5 ?_|refine z1 ?_ _));exact BK101.out) hb);have n1_:=z7.mk (zj (g:=gb102) (o:=.cells #[.int .u64 a1_0,.int .u64 a1_1] 61 (0,0)) (by (with_reducible repeat (first|refine z2 ?_ _|refine z5 ?_|refine z1 ?_ _));exact BK102.out) hb);have n2_:=z7.mk (zj (g:=gb103) (o:=.cells #[.int .u64 0,.int .u64 0] 61 (0,0)) (by (with_reducible repeat (first|refine z2 ?_ _|refine z5 ?_|refine z1 ?_ _));exact BK103.out) hb);have n3_:=z7.mk (zj (g:=gb104) (o:=.cells #[.int .u64 x105000_1,.int .u64 x105001_1] 61 (0,0)) (by (with_reducible repeat (first|refine z2 ?_ _|refine z5 ?_|refine z1 ?_ _));exact BK104.out) hb);have n4_:=z7.mk (zi (by repeat (first|(with_reducible first|exact HB.out|apply z4|apply z0|apply z3|refine z8 ?_ GE101.out|refine z8 ?_ GE102.out|refine z8 ?_ GE103.out|refine z8 ?_ GE104.out)|exact HB.out)) hb);have n5_:=z7.mk (hbox);have n6_:=z7.mk ((by rw [hg];exact (zf (by repeat (first|(with_reducible first|exact HB.out|apply z4|apply z0|apply z3|refine z8 ?_ GE101.out|refine z8 ?_ GE102.out|refine z8 ?_ GE103.out|refine z8 ?_ GE104.out)|exact HB.out))) : w.heap.size ≤ gb106));have n7_:=z7.mk ((by rw [hg];exact (zf (by repeat (first|(with_reducible first|exact HB.out|apply z4|apply z0|apply z3|refine z8 ?_ GE101.out|refine z8 ?_ GE102.out|refine z8 ?_ GE103.out|refine z8 ?_ GE104.out)|exact HB.out))) : w.heap.size ≤ gb106));have n8_:=z7.mk ((by rw [hg];exact Nat.ne_of_lt (zP (g:=gb101) (o:=.cells #[.int .u64 a0_0,.int .u64 a0_1] 61 (0,0)) (by (with_reducible repeat (first|refine z2 ?_ _|refine z5 ?_|refine z1 ?_ _));exact BK101.out)) : gb101 ≠ gb106));have n9_:=z7.mk ((by rw [hg];exact Nat.ne_of_gt (zP (g:=gb101) (o:=.cells #[.int .u64 a0_0,.int .u64 a0_1] 61 (0,0)) (by (with_reducible repeat (first|refine z2 ?_ _|refine z5 ?_|refine z1 ?_ _));exact BK101.out)) : gb106 ≠ gb101));have n10_:=z7.mk ((by rw [hg];exact Nat.ne_of_lt (zP (g:=gb102) (o:=.cells #[.int .u64 a1_0,.int .u64 a1_1] 61 (0,0)) (by (with_reducible repeat (first|refine z2 ?_ _|refine z5 ?_|refine z1 ?_ _));exact BK102.out)) : gb102 ≠ gb106));have n11_:=z7.mk ((by rw [hg];exact Nat.ne_of_gt (zP (g:=gb102) (o:=.cells #[.int .u64 a1_0,.int .u64 a1_1] 61 (0,0)) (by (with_reducible repeat (first|refine z2 ?_ _|refine z5 ?_|refine z1 ?_ _));exact BK102.out)) : gb106 ≠ gb102));have n12_:=z7.mk ((by rw [hg];exact Nat.ne_of_lt (zP (g:=gb103) (o:=.cells #[.int .u64 0,.int .u64 0] 61 (0,0)) (by (with_reducible repeat (first|refine z2 ?_ _|refine z5 ?_|refine z1 ?_ _));exact BK103.out)) : gb103 ≠ gb106));have n13_:=z7.mk ((by rw [hg];exact Nat.ne_of_gt (zP (g:=gb103) (o:=.cells #[.int .u64 0,.int .u64 0] 61 (0,0)) (by (with_reducible repeat (first|refine z2 ?_ _|refine z5 ?_|refine z1 ?_ _));exact BK103.out)) : gb106 ≠ gb103));have n14_:=z7.mk ((by rw [hg];exact Nat.ne_of_lt (zP (g:=gb104) (o:=.cells #[.int .u64 x105000_1,.int .u64 x105001_1] 61 (0,0)) (by (with_reducible repeat (first|refine z2 ?_ _|refine z5 ?_|refine z1 ?_ _));exact BK104.out)) : gb104 ≠ gb106));have n15_:=z7.mk ((by rw [hg];exact Nat.ne_of_gt (zP (g:=gb104) (o:=.cells #[.int .u64 x105000_1,.int .u64 x105001_1] 61 (0,0)) (by (with_reducible repeat (first|refine z2 ?_ _|refine z5 ?_|refine z1 ?_ _));exact BK104.out)) : gb106 ≠ gb104));clear BK101;clear BK102;clear BK103;clear BK104;clear HB;have BK101:=n0_;have BK102:=n1_;have BK103:=n2_;have BK104:=n3_;have HB:=n4_;have BK106:=n5_;have GW106:=n6_;have GE106:=n7_;have NB101_106:=n8_;have NB106_101:=n9_;have NB102_106:=n10_;have NB106_102:=n11_;have NB103_106:=n12_;have NB106_103:=n13_;have NB104_106:=n14_;have NB106_104:=n15_;clear n0_ n1_ n2_ n3_ n4_ n5_ n6_ n7_ n8_ n9_ n10_ n11_ n12_ n13_ n14_ n15_;clear hb hbox hg;have hnb19:=NB106_101.out;have hnc19:=NB101_106.out;have hnb20:=NB106_102.out;have hnc20:=NB102_106.out;have hnb21:=NB106_103.out;have hnc21:=NB103_106.out;have hnb22:=NB106_104.out;have hnc22:=NB104_106.out;have hcz23_0 : w18.cell? ⟨gb106,0,none⟩ = some (.int .u64 0):=(zb BK106.out 0).trans rfl;have hcz23_1 : w18.cell? ⟨gb106,1,none⟩ = some (.int .u64 0):=(zb BK106.out 1).trans rfl;have hfz23_0:=z9 BK106.out 0;have hfz23_1:=z9 BK106.out 1))
   go_loopg [8] k1 (fun kq v8 w'=>∃ (x8_2 : Int) (x107000_2 : Int) (x107001_2 : Int),v8 = .int .i64 x8_2 ∧ z7 (zk.l1 kq x6_1 x8_2 a0_0 a0_1 a1_0 a1_1 x105000_1 x105001_1 x107000_2 x107001_2 = some (r1,r2)) ∧ z7 (kq ≤ k1) ∧ z7 (w'.heap[gb101]? = some (.cells #[.int .u64 a0_0,.int .u64 a0_1] 61 (0,0))) ∧ z7 (w'.heap[gb102]? = some (.cells #[.int .u64 a1_0,.int .u64 a1_1] 61 (0,0))) ∧ z7 (w'.heap[gb103]? = some (.cells #[.int .u64 0,.int .u64 0] 61 (0,0))) ∧ z7 (w'.heap[gb104]? = some (.cells #[.int .u64 x105000_1,.int .u64 x105001_1] 61 (0,0))) ∧ z7 (w'.heap[gb106]? = some (.cells #[.int .u64 x107000_2,.int .u64 x107001_2] 61 (0,0))) ∧ z7 (Below w.heap.size w w'))
   case atStart=>exact ⟨(0),(a0_0),(a0_1),(by first|rfl|(simp;done)|(simp [*];done)),H',⟨Nat.le_refl _⟩,⟨by (with_reducible repeat (first|refine z2 ?_ _|refine z5 ?_|refine z1 ?_ _));refine zs ?_ NB101_106.out _;(with_reducible repeat (first|refine z2 ?_ _|refine z5 ?_|refine z1 ?_ _));refine zs ?_ NB101_106.out _;(with_reducible repeat (first|refine z2 ?_ _|refine z5 ?_|refine z1 ?_ _));exact BK101.out⟩,⟨by (with_reducible repeat (first|refine z2 ?_ _|refine z5 ?_|refine z1 ?_ _));refine zs ?_ NB102_106.out _;(with_reducible repeat (first|refine z2 ?_ _|refine z5 ?_|refine z1 ?_ _));refine zs ?_ NB102_106.out _;(with_reducible repeat (first|refine z2 ?_ _|refine z5 ?_|refine z1 ?_ _));exact BK102.out⟩,⟨by (with_reducible repeat (first|refine z2 ?_ _|refine z5 ?_|refine z1 ?_ _));refine zs ?_ NB103_106.out _;(with_reducible repeat (first|refine z2 ?_ _|refine z5 ?_|refine z1 ?_ _));refine zs ?_ NB103_106.out _;(with_reducible repeat (first|refine z2 ?_ _|refine z5 ?_|refine z1 ?_ _));exact BK103.out⟩,⟨by (with_reducible repeat (first|refine z2 ?_ _|refine z5 ?_|refine z1 ?_ _));refine zs ?_ NB104_106.out _;(with_reducible repeat (first|refine z2 ?_ _|refine z5 ?_|refine z1 ?_ _));refine zs ?_ NB104_106.out _;(with_reducible repeat (first|refine z2 ?_ _|refine z5 ?_|refine z1 ?_ _));exact BK104.out⟩,⟨by (with_reducible repeat (first|refine z2 ?_ _|refine z5 ?_|refine z1 ?_ _));refine zq (cs:=#[.int .u64 a0_0,.int .u64 0]) ?_ 1 _ rfl;(with_reducible repeat (first|refine z2 ?_ _|refine z5 ?_|refine z1 ?_ _));refine zq (cs:=#[.int .u64 0,.int .u64 0]) ?_ 0 _ rfl;(with_reducible repeat (first|refine z2 ?_ _|refine z5 ?_|refine z1 ?_ _));exact BK106.out⟩,⟨by repeat (first|(with_reducible first|exact HB.out|apply z4|apply z0|apply z3|refine z8 ?_ GE101.out|refine z8 ?_ GE102.out|refine z8 ?_ GE103.out|refine z8 ?_ GE104.out|refine z8 ?_ GE106.out)|exact HB.out)⟩⟩
   case round =>
    clear H'
    (try clear c1);(try clear c2);(try clear p2);(try clear p6);(try clear c7);(try clear c7b0);(try clear c9);(try clear c10);(try clear c11);(try clear c12);(try clear c15);(try clear c16);(try clear c19);(try clear c20);(try clear c21);(try clear c22);(try clear hcz13_0);(try clear hcz13_1);(try clear hcz17_0);(try clear hcz17_1);(try clear hcz23_0);(try clear hcz23_1);(try clear hfz13_0);(try clear hfz13_1);(try clear hfz17_0);(try clear hfz17_1);(try clear hfz23_0);(try clear hfz23_1);(try clear p2)
    obtain ⟨x8_2,x107000_2,x107001_2,rfl,HA,HK2,BK101,BK102,BK103,BK104,BK106,HB⟩:=hrel
    cases gk with
    | zero=>exact absurd HA.out (by simp [zk.l1])
    | succ k2 =>
     have H:=HA.out
     clear HA
     simp only [zk.l1] at H
     by_cases c24 : x8_2 < 7
     rotate_left
     · rw [if_neg c24] at H
       have c24b0 : decide (x8_2 < 7) = false:=decide_eq_false c24
       clear c24
       replace H:=Option.bind_eq_some_iff.mp H
       obtain ⟨⟨t109,t110⟩,A370,H⟩:=H
       replace H : (zk.l0 k2 (wrap64 (x6_1 + 1)) a0_0 a0_1 a1_0 a1_1 t109 t110) = some (r1,r2):=H
       have A37:=z7.mk A370
       clear A370
       have H':=z7.mk H
       clear H
       have hnb38:=NB104_101.out
       have hnc38:=NB101_104.out
       have hnb39:=NB104_102.out
       have hnc39:=NB102_104.out
       have hnb40:=NB104_103.out
       have hnc40:=NB103_104.out
       have hnb41:=NB104_106.out
       have hnc41:=NB106_104.out
       have hcz42_0 : wr.cell? ⟨gb104,0,none⟩ = some (.int .u64 x105000_1):=(zb BK104.out 0).trans rfl
       have hcz42_1 : wr.cell? ⟨gb104,1,none⟩ = some (.int .u64 x105001_1):=(zb BK104.out 1).trans rfl
       have hfz42_0:=z9 BK104.out 0
       have hfz42_1:=z9 BK104.out 1
       have hnb43:=NB106_101.out
       have hnc43:=NB101_106.out
       have hnb44:=NB106_102.out
       have hnc44:=NB102_106.out
       have hnb45:=NB106_103.out
       have hnc45:=NB103_106.out
       have hcz46_0 : wr.cell? ⟨gb106,0,none⟩ = some (.int .u64 x107000_2):=(zb BK106.out 0).trans rfl
       have hcz46_1 : wr.cell? ⟨gb106,1,none⟩ = some (.int .u64 x107001_2):=(zb BK106.out 1).trans rfl
       have hfz46_0:=z9 BK106.out 0
       have hfz46_1:=z9 BK106.out 1
       go_wp2_with (first|((with_reducible refine zG (f:=74) rfl ?_);refine goesL_ (some 33) rfl rfl Try.func74 (by kernel_rfl) rfl #[.agg #[.int .u64 x105000_1,.int .u64 x105001_1],.agg #[.int .u64 x107000_2,.int .u64 x107001_2]] rfl (by (try simp only [List.map_toArray,List.map_cons,List.map_nil]);first|done|rfl|(simp only [List.length_drop,List.length_take];rfl)) ?_;(with_reducible refine (z1m.calls x105000_1 x105001_1 x107000_2 x107001_2 t109 t110 _ A37.out).mono ?_);rintro e w47 ⟨rfl,hb⟩;refine ⟨_,rfl,?_⟩;have n0_:=z7.mk (zj (g:=gb101) (o:=.cells #[.int .u64 a0_0,.int .u64 a0_1] 61 (0,0)) (by (with_reducible repeat (first|refine z2 ?_ _|refine z5 ?_|refine z1 ?_ _));exact BK101.out) hb);have n1_:=z7.mk (zj (g:=gb102) (o:=.cells #[.int .u64 a1_0,.int .u64 a1_1] 61 (0,0)) (by (with_reducible repeat (first|refine z2 ?_ _|refine z5 ?_|refine z1 ?_ _));exact BK102.out) hb);have n2_:=z7.mk (zj (g:=gb103) (o:=.cells #[.int .u64 0,.int .u64 0] 61 (0,0)) (by (with_reducible repeat (first|refine z2 ?_ _|refine z5 ?_|refine z1 ?_ _));exact BK103.out) hb);have n3_:=z7.mk (zj (g:=gb104) (o:=.cells #[.int .u64 x105000_1,.int .u64 x105001_1] 61 (0,0)) (by (with_reducible repeat (first|refine z2 ?_ _|refine z5 ?_|refine z1 ?_ _));exact BK104.out) hb);have n4_:=z7.mk (zj (g:=gb106) (o:=.cells #[.int .u64 x107000_2,.int .u64 x107001_2] 61 (0,0)) (by (with_reducible repeat (first|refine z2 ?_ _|refine z5 ?_|refine z1 ?_ _));exact BK106.out) hb);have n5_:=z7.mk (zi (by repeat (first|(with_reducible first|exact HB.out|apply z4|apply z0|apply z3|refine z8 ?_ GE101.out|refine z8 ?_ GE102.out|refine z8 ?_ GE103.out|refine z8 ?_ GE104.out|refine z8 ?_ GE106.out)|exact HB.out)) hb);clear BK101;clear BK102;clear BK103;clear BK104;clear BK106;clear HB;have BK101:=n0_;have BK102:=n1_;have BK103:=n2_;have BK104:=n3_;have BK106:=n4_;have HB:=n5_;clear n0_ n1_ n2_ n3_ n4_ n5_;(try clear hb);(try clear hb2);(try clear hk);(try clear hi);have hcz48_0 : w47.cell? ⟨gb104,0,none⟩ = some (.int .u64 x105000_1):=(zb BK104.out 0).trans rfl;have hcz48_1 : w47.cell? ⟨gb104,1,none⟩ = some (.int .u64 x105001_1):=(zb BK104.out 1).trans rfl;have hfz48_0:=z9 BK104.out 0;have hfz48_1:=z9 BK104.out 1))
       go_roundg k2
       case measure=>have:=HK1.out;have:=HK2.out;omega
       case rel=>exact ⟨(wrap64 (x6_1 + 1)),(t109),(t110),(by first|rfl|(simp;done)|(simp [*];done)),H',⟨by have:=HK1.out;have:=HK2.out;omega⟩,⟨by (with_reducible repeat (first|refine z2 ?_ _|refine z5 ?_|refine z1 ?_ _));refine zs ?_ NB101_104.out _;(with_reducible repeat (first|refine z2 ?_ _|refine z5 ?_|refine z1 ?_ _));refine zs ?_ NB101_104.out _;(with_reducible repeat (first|refine z2 ?_ _|refine z5 ?_|refine z1 ?_ _));exact BK101.out⟩,⟨by (with_reducible repeat (first|refine z2 ?_ _|refine z5 ?_|refine z1 ?_ _));refine zs ?_ NB102_104.out _;(with_reducible repeat (first|refine z2 ?_ _|refine z5 ?_|refine z1 ?_ _));refine zs ?_ NB102_104.out _;(with_reducible repeat (first|refine z2 ?_ _|refine z5 ?_|refine z1 ?_ _));exact BK102.out⟩,⟨by (with_reducible repeat (first|refine z2 ?_ _|refine z5 ?_|refine z1 ?_ _));refine zs ?_ NB103_104.out _;(with_reducible repeat (first|refine z2 ?_ _|refine z5 ?_|refine z1 ?_ _));refine zs ?_ NB103_104.out _;(with_reducible repeat (first|refine z2 ?_ _|refine z5 ?_|refine z1 ?_ _));exact BK103.out⟩,⟨by (with_reducible repeat (first|refine z2 ?_ _|refine z5 ?_|refine z1 ?_ _));refine zq (cs:=#[.int .u64 t109,.int .u64 x105001_1]) ?_ 1 _ rfl;(with_reducible repeat (first|refine z2 ?_ _|refine z5 ?_|refine z1 ?_ _));refine zq (cs:=#[.int .u64 x105000_1,.int .u64 x105001_1]) ?_ 0 _ rfl;(with_reducible repeat (first|refine z2 ?_ _|refine z5 ?_|refine z1 ?_ _));exact BK104.out⟩,⟨by repeat (first|(with_reducible first|exact HB.out|apply z4|apply z0|apply z3|refine z8 ?_ GE101.out|refine z8 ?_ GE102.out|refine z8 ?_ GE103.out|refine z8 ?_ GE104.out|refine z8 ?_ GE106.out)|exact HB.out)⟩⟩
     rw [if_pos c24] at H
     have c24b0 : decide (x8_2 < 7) = true:=decide_eq_true c24
     clear c24
     obtain ⟨ji25,hji25⟩ : ∃ j_ : Int,(IntKind.u64.wrap (x8_2)) = j_:=⟨_,rfl⟩
     replace H : (if 0 ≤ (ji25) then (if (Go.bits .and .i64 (shr .i64 x6_1 (ji25)) 1) = 1 then ((zy.f k2 x8_2 x107000_2 x107001_2).bind fun bt107=>(zk.l1 k2 x6_1 (wrap64 (x8_2 + 1)) a0_0 a0_1 a1_0 a1_1 x105000_1 x105001_1 bt107.1 bt107.2)) else (zk.l1 k2 x6_1 (wrap64 (x8_2 + 1)) a0_0 a0_1 a1_0 a1_1 x105000_1 x105001_1 x107000_2 x107001_2)) else (none)) = some (r1,r2):=by first|(rw [hji25] at H;exact H)|(simp only [hji25] at H ⊢;exact H)
     by_cases c26 : 0 ≤ (ji25)
     rotate_left
     · rw [if_neg c26] at H
       exact absurd H (by simp)
     rw [if_pos c26] at H
     have c26b0:=eq_true c26
     have c26b1 : decide (0 ≤ (ji25)) = true:=decide_eq_true c26
     clear c26
     obtain ⟨ji27,hji27⟩ : ∃ j_ : Int,(shr .i64 x6_1 (ji25)) = j_:=⟨_,rfl⟩
     replace H : (if (Go.bits .and .i64 (ji27) 1) = 1 then ((zy.f k2 x8_2 x107000_2 x107001_2).bind fun bt107=>(zk.l1 k2 x6_1 (wrap64 (x8_2 + 1)) a0_0 a0_1 a1_0 a1_1 x105000_1 x105001_1 bt107.1 bt107.2)) else (zk.l1 k2 x6_1 (wrap64 (x8_2 + 1)) a0_0 a0_1 a1_0 a1_1 x105000_1 x105001_1 x107000_2 x107001_2)) = some (r1,r2):=by first|(rw [hji27] at H;exact H)|(simp only [hji27] at H ⊢;exact H)
     have hji27_ : (x6_1 / 2 ^ min (ji25).toNat 64) = ji27:=hji27
     have hji27z : (ji25) ≤ 64 → (x6_1 / 2 ^ (ji25).toNat) = ji27:=z25 hji27
     by_cases c28 : (Go.bits .and .i64 (ji27) 1) = 1
     rotate_left
     · rw [if_neg c28] at H
       have c28b0 : ((Go.bits .and .i64 (ji27) 1) == 1) = false:=beq_eq_false_iff_ne.mpr c28
       have c28b1 : ((Go.bits .and .i64 (ji27) 1) != 1) = true:=bne_iff_ne.mpr c28
       have H':=z7.mk H
       clear H
       go_wp2
       go_roundg k2
       case measure=>have:=HK1.out;have:=HK2.out;omega
       case rel=>exact ⟨(wrap64 (x8_2 + 1)),(x107000_2),(x107001_2),(by first|rfl|(simp;done)|(simp [*];done)),H',⟨by have:=HK1.out;have:=HK2.out;omega⟩,⟨by (with_reducible repeat (first|refine z2 ?_ _|refine z5 ?_|refine z1 ?_ _));exact BK101.out⟩,⟨by (with_reducible repeat (first|refine z2 ?_ _|refine z5 ?_|refine z1 ?_ _));exact BK102.out⟩,⟨by (with_reducible repeat (first|refine z2 ?_ _|refine z5 ?_|refine z1 ?_ _));exact BK103.out⟩,⟨by (with_reducible repeat (first|refine z2 ?_ _|refine z5 ?_|refine z1 ?_ _));exact BK104.out⟩,⟨by (with_reducible repeat (first|refine z2 ?_ _|refine z5 ?_|refine z1 ?_ _));exact BK106.out⟩,⟨by repeat (first|(with_reducible first|exact HB.out|apply z4|apply z0|apply z3|refine z8 ?_ GE101.out|refine z8 ?_ GE102.out|refine z8 ?_ GE103.out|refine z8 ?_ GE104.out|refine z8 ?_ GE106.out)|exact HB.out)⟩⟩
     rw [if_pos c28] at H
     have c28b0 : ((Go.bits .and .i64 (ji27) 1) == 1) = true:=beq_iff_eq.mpr c28
     have c28b1 : ((Go.bits .and .i64 (ji27) 1) != 1) = false:=bne_eq_false_iff_eq.mpr c28
     clear c28
     replace H:=Option.bind_eq_some_iff.mp H
     obtain ⟨⟨t107,t108⟩,A290,H⟩:=H
     replace H : (zk.l1 k2 x6_1 (wrap64 (x8_2 + 1)) a0_0 a0_1 a1_0 a1_1 x105000_1 x105001_1 t107 t108) = some (r1,r2):=H
     have A29:=z7.mk A290
     clear A290
     have H':=z7.mk H
     clear H
     have hnb30:=NB106_101.out
     have hnc30:=NB101_106.out
     have hnb31:=NB106_102.out
     have hnc31:=NB102_106.out
     have hnb32:=NB106_103.out
     have hnc32:=NB103_106.out
     have hnb33:=NB106_104.out
     have hnc33:=NB104_106.out
     have hcz34_0 : wr.cell? ⟨gb106,0,none⟩ = some (.int .u64 x107000_2):=(zb BK106.out 0).trans rfl
     have hcz34_1 : wr.cell? ⟨gb106,1,none⟩ = some (.int .u64 x107001_2):=(zb BK106.out 1).trans rfl
     have hfz34_0:=z9 BK106.out 0
     have hfz34_1:=z9 BK106.out 1
     go_wp2_with (first|((with_reducible refine zG (f:=95) rfl ?_);refine goesL_ (some 30) rfl rfl Try.func95 (by kernel_rfl) rfl #[.int .i64 x8_2,.agg #[.int .u64 x107000_2,.int .u64 x107001_2]] rfl (by (try simp only [List.map_toArray,List.map_cons,List.map_nil]);first|done|rfl|(simp only [List.length_drop,List.length_take];rfl)) ?_;(with_reducible refine (zy.calls k2 x8_2 x107000_2 x107001_2 t107 t108 _ A29.out).mono ?_);rintro e w35 ⟨rfl,hb⟩;refine ⟨_,rfl,?_⟩;have n0_:=z7.mk (zj (g:=gb101) (o:=.cells #[.int .u64 a0_0,.int .u64 a0_1] 61 (0,0)) (by (with_reducible repeat (first|refine z2 ?_ _|refine z5 ?_|refine z1 ?_ _));exact BK101.out) hb);have n1_:=z7.mk (zj (g:=gb102) (o:=.cells #[.int .u64 a1_0,.int .u64 a1_1] 61 (0,0)) (by (with_reducible repeat (first|refine z2 ?_ _|refine z5 ?_|refine z1 ?_ _));exact BK102.out) hb);have n2_:=z7.mk (zj (g:=gb103) (o:=.cells #[.int .u64 0,.int .u64 0] 61 (0,0)) (by (with_reducible repeat (first|refine z2 ?_ _|refine z5 ?_|refine z1 ?_ _));exact BK103.out) hb);have n3_:=z7.mk (zj (g:=gb104) (o:=.cells #[.int .u64 x105000_1,.int .u64 x105001_1] 61 (0,0)) (by (with_reducible repeat (first|refine z2 ?_ _|refine z5 ?_|refine z1 ?_ _));exact BK104.out) hb);have n4_:=z7.mk (zj (g:=gb106) (o:=.cells #[.int .u64 x107000_2,.int .u64 x107001_2] 61 (0,0)) (by (with_reducible repeat (first|refine z2 ?_ _|refine z5 ?_|refine z1 ?_ _));exact BK106.out) hb);have n5_:=z7.mk (zi (by repeat (first|(with_reducible first|exact HB.out|apply z4|apply z0|apply z3|refine z8 ?_ GE101.out|refine z8 ?_ GE102.out|refine z8 ?_ GE103.out|refine z8 ?_ GE104.out|refine z8 ?_ GE106.out)|exact HB.out)) hb);clear BK101;clear BK102;clear BK103;clear BK104;clear BK106;clear HB;have BK101:=n0_;have BK102:=n1_;have BK103:=n2_;have BK104:=n3_;have BK106:=n4_;have HB:=n5_;clear n0_ n1_ n2_ n3_ n4_ n5_;(try clear hb);(try clear hb2);(try clear hk);(try clear hi);have hcz36_0 : w35.cell? ⟨gb106,0,none⟩ = some (.int .u64 x107000_2):=(zb BK106.out 0).trans rfl;have hcz36_1 : w35.cell? ⟨gb106,1,none⟩ = some (.int .u64 x107001_2):=(zb BK106.out 1).trans rfl;have hfz36_0:=z9 BK106.out 0;have hfz36_1:=z9 BK106.out 1))
     go_roundg k2
     case measure=>have:=HK1.out;have:=HK2.out;omega
     case rel=>exact ⟨(wrap64 (x8_2 + 1)),(t107),(t108),(by first|rfl|(simp;done)|(simp [*];done)),H',⟨by have:=HK1.out;have:=HK2.out;omega⟩,⟨by (with_reducible repeat (first|refine z2 ?_ _|refine z5 ?_|refine z1 ?_ _));refine zs ?_ NB101_106.out _;(with_reducible repeat (first|refine z2 ?_ _|refine z5 ?_|refine z1 ?_ _));refine zs ?_ NB101_106.out _;(with_reducible repeat (first|refine z2 ?_ _|refine z5 ?_|refine z1 ?_ _));exact BK101.out⟩,⟨by (with_reducible repeat (first|refine z2 ?_ _|refine z5 ?_|refine z1 ?_ _));refine zs ?_ NB102_106.out _;(with_reducible repeat (first|refine z2 ?_ _|refine z5 ?_|refine z1 ?_ _));refine zs ?_ NB102_106.out _;(with_reducible repeat (first|refine z2 ?_ _|refine z5 ?_|refine z1 ?_ _));exact BK102.out⟩,⟨by (with_reducible repeat (first|refine z2 ?_ _|refine z5 ?_|refine z1 ?_ _));refine zs ?_ NB103_106.out _;(with_reducible repeat (first|refine z2 ?_ _|refine z5 ?_|refine z1 ?_ _));refine zs ?_ NB103_106.out _;(with_reducible repeat (first|refine z2 ?_ _|refine z5 ?_|refine z1 ?_ _));exact BK103.out⟩,⟨by (with_reducible repeat (first|refine z2 ?_ _|refine z5 ?_|refine z1 ?_ _));refine zs ?_ NB104_106.out _;(with_reducible repeat (first|refine z2 ?_ _|refine z5 ?_|refine z1 ?_ _));refine zs ?_ NB104_106.out _;(with_reducible repeat (first|refine z2 ?_ _|refine z5 ?_|refine z1 ?_ _));exact BK104.out⟩,⟨by (with_reducible repeat (first|refine z2 ?_ _|refine z5 ?_|refine z1 ?_ _));refine zq (cs:=#[.int .u64 t107,.int .u64 x107001_2]) ?_ 1 _ rfl;(with_reducible repeat (first|refine z2 ?_ _|refine z5 ?_|refine z1 ?_ _));refine zq (cs:=#[.int .u64 x107000_2,.int .u64 x107001_2]) ?_ 0 _ rfl;(with_reducible repeat (first|refine z2 ?_ _|refine z5 ?_|refine z1 ?_ _));exact BK106.out⟩,⟨by repeat (first|(with_reducible first|exact HB.out|apply z4|apply z0|apply z3|refine z8 ?_ GE101.out|refine z8 ?_ GE102.out|refine z8 ?_ GE103.out|refine z8 ?_ GE104.out|refine z8 ?_ GE106.out)|exact HB.out)⟩⟩
end Go.Proofs.Ytngcaphdkgihmaa.P

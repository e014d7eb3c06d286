/- Own text: merged by wip/tools/pack.py out of what the law PackvReckons reaches. -/
import Derived.Deep.Slices
import Derived.OpenShut
import Derived.ProofKit
import Derived.Test.YtkhmpaooinpfoaaMPackvReckonsa
import Derived.Test.YtkhmpaooinpfoaaMPackvReckonsb
import Derived.Test.YtkhmpaooinpfoaaMPackvReckonsc
import Derived.Test.YtkhmpaooinpfoaaMPackvReckonsd
namespace Go.Proofs.Ytkhmpaooinpfoaa.P
open Go.RowKit Go.Proofs.YtkhmpaooinpfoaaW.PrintWords Go.Proofs.YtkhmpaooinpfoaaW.PrintLast Go.Proofs.YtkhmpaooinpfoaaW.PrintMore
attribute [local go_sem] z12 z14 z1b z1c zW zX z13 z15   -- for this text's walks alone
set_option linter.unusedVariables false
set_option linter.unusedSimpArgs false
def zx.f (k : Nat) (a0 : Int) (a1_0 : Int) (a1_1 : Int) : Option (Int × Int):=if a0 < 6 then ((zp.f k a0 a1_0).bind fun t103=>((zp.f k a0 a1_1).bind fun t104=>(some (t103,t104)))) else ((zp.f k 5 a1_0).bind fun t105=>(some (Go.bits .xor .u64 a1_1 t105,a1_0)))
theorem zx.mono : ∀ a0 a1 a2 k,LeO (zx.f k a0 a1 a2) (zx.f (k + 1) a0 a1 a2):=by
 intro a0 a1 a2 k
 unfold zx.f
 repeat' first
  | (with_reducible exact zp.mono _ _ _)
  | (with_reducible exact LeO.refl _)
  | (with_reducible exact LeO.none _)
  | (with_reducible refine LeO.ite ?_ ?_)
  | (with_reducible refine LeO.bind ?_ (fun _=>?_))
  | exact zp.mono _ _ _
  | exact LeO.none _
  | refine LeO.ite ?_ ?_
  | refine LeO.bind ?_ (fun _=>?_)
def zx.T2 : Bool × List (List Nat × List Nat):=(true,[([],[]),([],[]),([1],[1]),([0,2],[0,2]),([],[]),([],[]),([5],[5]),([4,6,3],[4,6]),([3,7],[3,7]),([8,7,0,1,2,3,4,5,6,7,8],[8])])
def zx.B2 : List Nat:=[0,0,2,7,0,0,32,127,255,511]
theorem zx.tab2 : rtab .any (opsOf Try.f110 2) = zx.T2:=by kernel_rfl
theorem zx.bits2 : waitsOk zx.T2.2 zx.B2 = true:=by kernel_rfl
def zx.T3 : Bool × List (List Nat × List Nat):=(true,[([],[]),([0],[0]),([],[]),([2],[2]),([3],[3]),([1,4],[1,4]),([],[]),([6],[6]),([5,7],[5,7]),([8,4,0,1,2,3,4,5,6,7,8],[8])])
def zx.B3 : List Nat:=[0,1,0,4,12,31,0,64,255,511]
theorem zx.tab3 : rtab .any (opsOf Try.f110 3) = zx.T3:=by kernel_rfl
theorem zx.bits3 : waitsOk zx.T3.2 zx.B3 = true:=by kernel_rfl
set_option maxHeartbeats 8000000 in
set_option maxRecDepth 100000 in
theorem zx.calls (k : Nat) (a0 : Int) (a1_0 : Int) (a1_1 : Int) (r1 : Int) (r2 : Int) (w : World) (h : zx.f k a0 a1_0 a1_1 = some (r1,r2)) :
 Calls Try.prog 110 #[.int .i64 a0,.agg #[.int .u64 a1_0,.int .u64 a1_1]] w fun e w'=>e = .returned (.agg #[.int .u64 r1,.int .u64 r2]) ∧ Below w.heap.size w w':=by
 have hu40:=Try.underlying40
 have HB:=z1.mk (Below.refl w.heap.size w)
 have H : (if a0 < 6 then ((zp.f k a0 a1_0).bind fun t103=>((zp.f k a0 a1_1).bind fun t104=>(some (t103,t104)))) else ((zp.f k 5 a1_0).bind fun t105=>(some (Go.bits .xor .u64 a1_1 t105,a1_0)))) = some (r1,r2):=h
 clear h
 by_cases c3 : a0 < 6
 rotate_left
 · rw [if_neg c3] at H
   have c3b0 : decide (a0 < 6) = false:=decide_eq_false c3
   clear c3
   replace H:=Option.bind_eq_some_iff.mp H
   obtain ⟨t105,A130,H⟩:=H
   replace H : (some (Go.bits .xor .u64 a1_1 t105,a1_0)) = some (r1,r2):=H
   have A13:=z1.mk A130
   clear A130
   simp only [Option.some.injEq,Prod.mk.injEq] at H
   obtain ⟨rfl,rfl⟩:=H
   go_enter Try.func110,Try.ntmps110
   try go_wp2_with (first|((with_reducible refine zF (N:=3) rfl ?_);refine zG ?hg (N:=3) ?hd (cs:=#[.int .u64 a1_0,.int .u64 a1_1]) (t:=40) ?hr ?_;(case hd=>rfl);(case hg=>rfl);(case hr=>first|(go_simp;done)|(go_simp;rfl));intro gb101 hg w14 hbox hb;have n0_:=z1.mk (z4 zz28 hb);have n1_:=z1.mk (hbox);have n2_:=z1.mk ((by rw [hg];exact (z5 zz28) : w.heap.size ≤ gb101));have n3_:=z1.mk ((by rw [hg];exact (z5 zz28) : w.heap.size ≤ gb101));clear HB;have HB:=n0_;have BK101:=n1_;have GW101:=n2_;have GE101:=n3_;clear n0_ n1_ n2_ n3_;clear hb hbox hg)|((with_reducible refine zF (N:=4) rfl ?_);refine zG ?hg (N:=4) ?hd (cs:=#[.int .u64 0,.int .u64 0]) (t:=40) ?hr ?_;(case hd=>rfl);(case hg=>rfl);(case hr=>first|(go_simp;done)|(go_simp;rfl));intro gb102 hg w15 hbox hb;have n0_:=z1.mk (zg (g:=gb101) (o:=.cells #[.int .u64 a1_0,.int .u64 a1_1] 40 (0,0)) zz29 hb);have n1_:=z1.mk (z4 zz25 hb);have n2_:=z1.mk (hbox);have n3_:=z1.mk ((by rw [hg];exact (z5 zz25) : w.heap.size ≤ gb102));have n4_:=z1.mk ((by rw [hg];exact (z5 zz25) : w.heap.size ≤ gb102));have n5_:=z1.mk ((by rw [hg];exact Nat.ne_of_lt (zU (g:=gb101) (o:=.cells #[.int .u64 a1_0,.int .u64 a1_1] 40 (0,0)) zz29) : gb101 ≠ gb102));have n6_:=z1.mk ((by rw [hg];exact Nat.ne_of_gt (zU (g:=gb101) (o:=.cells #[.int .u64 a1_0,.int .u64 a1_1] 40 (0,0)) zz29) : gb102 ≠ gb101));clear BK101;clear HB;have BK101:=n0_;have HB:=n1_;have BK102:=n2_;have GW102:=n3_;have GE102:=n4_;have NB101_102:=n5_;have NB102_101:=n6_;clear n0_ n1_ n2_ n3_ n4_ n5_ n6_;clear hb hbox hg))
   have n0_:=z1.mk (zf BK101.out)
   have n1_:=z1.mk (zf BK102.out)
   have n2_:=z1.mk (z6 HB.out)
   clear BK101
   clear BK102
   clear HB
   have BK101:=n0_
   have BK102:=n1_
   have HB:=n2_
   clear n0_ n1_ n2_
   refine start_ (n:=10) (S:=fun w'=>w'.cell? ⟨gb101,0,none⟩ = some (.int .u64 a1_0) ∧ w'.cell? ⟨gb101,1,none⟩ = some (.int .u64 a1_1)) (ds:=[]) #[false,false,false,false,false,false,false,false,false,false] zz78 rfl rfl ⟨(zc BK101.out 0).trans rfl,(zc BK101.out 1).trans rfl⟩ (fun hHeld=>?_);refine z22 zx.tab3 zx.bits3 (fun HT_ HW_=>?_)
   generalize w15.drew = w16 at BK101 BK102 HB hHeld ⊢
   refine pure_ (i:=0) (N:=some 16) (v:=?_) (a':=?_) #[true,false,false,false,false,false,false,false,false,false] rfl rfl (z1e HT_.out zz78) (fun _ _ _ h=>h) (Or.inl ⟨by rfl,?_⟩) ?_ ?_
   rotate_left
   · intro w'
     go_simp
     with_reducible rfl
   rotate_left
   · simp only [Act.put,List.setIfInBounds_toArray,List.set_cons_zero,List.set_cons_succ,zS,zZ]
     rfl
   refine pure_ (i:=2) (N:=some 18) (v:=?_) (a':=?_) #[true,false,true,false,false,false,false,false,false,false] rfl rfl (z1e HT_.out zz78) (fun _ _ _ h=>h) (Or.inl ⟨by rfl,?_⟩) ?_ ?_
   rotate_left
   · intro w'
     go_simp
     with_reducible rfl
   rotate_left
   · simp only [Act.put,List.setIfInBounds_toArray,List.set_cons_zero,List.set_cons_succ,zS,zZ]
     rfl
   refine pure_ (i:=6) (N:=some 22) (v:=?_) (a':=?_) #[true,false,true,false,false,false,true,false,false,false] rfl rfl (z1e HT_.out zz78) (fun _ _ _ h=>h) (Or.inl ⟨by rfl,?_⟩) ?_ ?_
   rotate_left
   · intro w'
     go_simp
     with_reducible rfl
   rotate_left
   · simp only [Act.put,List.setIfInBounds_toArray,List.set_cons_zero,List.set_cons_succ,zS,zZ]
     rfl
   refine take_ (i:=1) (N:=some 17) (v:=?_) (a':=?_) #[true,true,true,false,false,false,true,false,false,false] rfl rfl (z1I HT_.out HW_.out zz78) (fun _ _ _ h=>h) (Or.inl ⟨by rfl,?_⟩) hHeld ?_ ?_
   rotate_left
   · rintro w' ⟨s0,s1⟩
     go_simp
     with_reducible rfl
   rotate_left
   · simp only [Act.put,List.setIfInBounds_toArray,List.set_cons_zero,List.set_cons_succ,zS,zZ]
     rfl
   refine take_ (i:=3) (N:=some 19) (v:=?_) (a':=?_) #[true,true,true,true,false,false,true,false,false,false] rfl rfl (z1I HT_.out HW_.out zz78) (fun _ _ _ h=>h) (Or.inl ⟨by rfl,?_⟩) hHeld ?_ ?_
   rotate_left
   · rintro w' ⟨s0,s1⟩
     go_simp
     with_reducible rfl
   rotate_left
   · simp only [Act.put,List.setIfInBounds_toArray,List.set_cons_zero,List.set_cons_succ,zS,zZ]
     rfl
   refine take_ (i:=7) (N:=some 23) (v:=?_) (a':=?_) #[true,true,true,true,false,false,true,true,false,false] rfl rfl (z1I HT_.out HW_.out zz78) (fun _ _ _ h=>h) (Or.inl ⟨by rfl,?_⟩) hHeld ?_ ?_
   rotate_left
   · rintro w' ⟨s0,s1⟩
     go_simp
     with_reducible rfl
   rotate_left
   · simp only [Act.put,List.setIfInBounds_toArray,List.set_cons_zero,List.set_cons_succ,zS,zZ]
     rfl
   refine one_ (i:=4) (N:=some 20) #[true,true,true,true,true,false,true,true,false,false] rfl rfl (z1J HT_.out zz78) zz79 (fun K hK=>?_)
   refine goes_ Try.func137 zz78 rfl #[.int .i64 5,.int .u64 a1_0] zz82 rfl rfl zz27 ?_
   with_reducible refine (zp.calls k 5 a1_0 t105 _ A13.out).mono ?_
   rintro e w17 ⟨rfl,hb⟩
   refine ⟨_,rfl,?_⟩
   have n0_:=z1.mk (zg (g:=gb101) (o:=.cells #[.int .u64 a1_0,.int .u64 a1_1] 40 (0,0)) zz29 hb)
   have n1_:=z1.mk (zg (g:=gb102) (o:=.cells #[.int .u64 0,.int .u64 0] 40 (0,0)) zz30 hb)
   have n2_:=z1.mk (z4 zz22 hb)
   clear BK101
   clear BK102
   clear HB
   have BK101:=n0_
   have BK102:=n1_
   have HB:=n2_
   clear n0_ n1_ n2_
   (try clear hb)
   (try clear hb2)
   (try clear hk)
   (try clear hi)
   refine hK.out _ _ ⟨(zc BK101.out 0).trans rfl,(zc BK101.out 1).trans rfl⟩ (fun hHeld=>?_)
   clear hK K
   refine norm_ (a':=?_) ?_ ?_
   rotate_left
   · show Act.put _ (some 20) _ = _
     simp only [Act.put,List.setIfInBounds_toArray,List.set_cons_zero,List.set_cons_succ,zS,zZ]
     rfl
   refine pure_ (i:=5) (N:=some 21) (v:=?_) (a':=?_) #[true,true,true,true,true,true,true,true,false,false] rfl rfl (z1e HT_.out zz78) (fun _ _ _ h=>h) (Or.inl ⟨by rfl,?_⟩) ?_ ?_
   rotate_left
   · intro w'
     go_simp
     with_reducible rfl
   rotate_left
   · simp only [Act.put,List.setIfInBounds_toArray,List.set_cons_zero,List.set_cons_succ,zS,zZ]
     rfl
   refine pure_ (i:=8) (N:=some 24) (v:=?_) (a':=?_) #[true,true,true,true,true,true,true,true,true,false] rfl rfl (z1e HT_.out zz78) (fun _ _ _ h=>h) (Or.inl ⟨by rfl,?_⟩) ?_ ?_
   rotate_left
   · intro w'
     go_simp
     with_reducible rfl
   rotate_left
   · simp only [Act.put,List.setIfInBounds_toArray,List.set_cons_zero,List.set_cons_succ,zS,zZ]
     rfl
   refine one_ (i:=9) (N:=none) #[true,true,true,true,true,true,true,true,true,true] rfl rfl (z1J HT_.out zz78) zz79 (fun K hK=>?_)
   have hs18 : w17.cell? ⟨gb102,0,none⟩ = some (.int .u64 0):=(zc BK102.out 0).trans rfl
   have hfs18:=z8 BK102.out 0
   have hns18_0:=NB101_102.out
   have hms18_0:=NB102_101.out
   have hs19 : w17.cell? ⟨gb102,1,none⟩ = some (.int .u64 0):=(zc BK102.out 1).trans rfl
   have hfs19:=z8 BK102.out 1
   have hns19_0:=NB101_102.out
   have hms19_0:=NB102_101.out
   refine skip_ (w1:=?_) zz82 rfl ?_ ?_
   rotate_left
   · go_simp
     rfl
   refine hK.out _ _ ⟨((z1z (p:=⟨gb102,_,none⟩) NB101_102.out _).trans (((z1z (p:=⟨gb102,_,none⟩) NB101_102.out _).trans (hHeld.1)))),((z1z (p:=⟨gb102,_,none⟩) NB101_102.out _).trans (((z1z (p:=⟨gb102,_,none⟩) NB101_102.out _).trans (hHeld.2))))⟩ (fun hHeld=>?_)
   clear hK K
   refine done_ (z2q HT_.out zz78) ?_
   try go_wp2
   refine bodyPost_ret (results_cell_row rfl _ _ gb102 40 #[.int .u64 (Go.bits .xor .u64 a1_1 t105),.int .u64 a1_0] (0,0) _ rfl (by (with_reducible repeat (first|refine zb ?_ _|refine zf ?_|refine za ?_ _));refine z1m (cs:=#[.int .u64 (Go.bits .xor .u64 a1_1 t105),.int .u64 0]) ?_ 1 _ rfl;(with_reducible repeat (first|refine zb ?_ _|refine zf ?_|refine za ?_ _));refine z1m (cs:=#[.int .u64 0,.int .u64 0]) ?_ 0 _ rfl;(with_reducible repeat (first|refine zb ?_ _|refine zf ?_|refine za ?_ _));exact BK102.out) Try.underlying40 rfl zz78) rfl ?_
   exact ⟨by first|rfl|(simp [zi,zj] <;> rfl)|(simp [*,zi,zj] <;> rfl),by repeat (first|(with_reducible first|exact HB.out|apply z7|apply z2|apply z6|refine zd ?_ GE101.out|refine zd ?_ GE102.out)|exact HB.out)⟩
 rw [if_pos c3] at H
 have c3b0 : decide (a0 < 6) = true:=decide_eq_true c3
 clear c3
 replace H:=Option.bind_eq_some_iff.mp H
 obtain ⟨t103,A40,H⟩:=H
 replace H : ((zp.f k a0 a1_1).bind fun t104=>(some (t103,t104))) = some (r1,r2):=H
 have A4:=z1.mk A40
 clear A40
 replace H:=Option.bind_eq_some_iff.mp H
 obtain ⟨t104,A50,H⟩:=H
 replace H : (some (t103,t104)) = some (r1,r2):=H
 have A5:=z1.mk A50
 clear A50
 simp only [Option.some.injEq,Prod.mk.injEq] at H
 obtain ⟨rfl,rfl⟩:=H
 go_enter Try.func110,Try.ntmps110
 try go_wp2_with (first|((with_reducible refine zF (N:=3) rfl ?_);refine zG ?hg (N:=3) ?hd (cs:=#[.int .u64 a1_0,.int .u64 a1_1]) (t:=40) ?hr ?_;(case hd=>rfl);(case hg=>rfl);(case hr=>first|(go_simp;done)|(go_simp;rfl));intro gb101 hg w6 hbox hb;have n0_:=z1.mk (z4 zz28 hb);have n1_:=z1.mk (hbox);have n2_:=z1.mk ((by rw [hg];exact (z5 zz28) : w.heap.size ≤ gb101));have n3_:=z1.mk ((by rw [hg];exact (z5 zz28) : w.heap.size ≤ gb101));clear HB;have HB:=n0_;have BK101:=n1_;have GW101:=n2_;have GE101:=n3_;clear n0_ n1_ n2_ n3_;clear hb hbox hg)|((with_reducible refine zF (N:=4) rfl ?_);refine zG ?hg (N:=4) ?hd (cs:=#[.int .u64 0,.int .u64 0]) (t:=40) ?hr ?_;(case hd=>rfl);(case hg=>rfl);(case hr=>first|(go_simp;done)|(go_simp;rfl));intro gb102 hg w7 hbox hb;have n0_:=z1.mk (zg (g:=gb101) (o:=.cells #[.int .u64 a1_0,.int .u64 a1_1] 40 (0,0)) zz29 hb);have n1_:=z1.mk (z4 zz25 hb);have n2_:=z1.mk (hbox);have n3_:=z1.mk ((by rw [hg];exact (z5 zz25) : w.heap.size ≤ gb102));have n4_:=z1.mk ((by rw [hg];exact (z5 zz25) : w.heap.size ≤ gb102));have n5_:=z1.mk ((by rw [hg];exact Nat.ne_of_lt (zU (g:=gb101) (o:=.cells #[.int .u64 a1_0,.int .u64 a1_1] 40 (0,0)) zz29) : gb101 ≠ gb102));have n6_:=z1.mk ((by rw [hg];exact Nat.ne_of_gt (zU (g:=gb101) (o:=.cells #[.int .u64 a1_0,.int .u64 a1_1] 40 (0,0)) zz29) : gb102 ≠ gb101));clear BK101;clear HB;have BK101:=n0_;have HB:=n1_;have BK102:=n2_;have GW102:=n3_;have GE102:=n4_;have NB101_102:=n5_;have NB102_101:=n6_;clear n0_ n1_ n2_ n3_ n4_ n5_ n6_;clear hb hbox hg))
 have n0_:=z1.mk (zf BK101.out)
 have n1_:=z1.mk (zf BK102.out)
 have n2_:=z1.mk (z6 HB.out)
 clear BK101
 clear BK102
 clear HB
 have BK101:=n0_
 have BK102:=n1_
 have HB:=n2_
 clear n0_ n1_ n2_
 refine start_ (n:=10) (S:=fun w'=>w'.cell? ⟨gb101,0,none⟩ = some (.int .u64 a1_0) ∧ w'.cell? ⟨gb101,1,none⟩ = some (.int .u64 a1_1)) (ds:=[]) #[false,false,false,false,false,false,false,false,false,false] zz78 rfl rfl ⟨(zc BK101.out 0).trans rfl,(zc BK101.out 1).trans rfl⟩ (fun hHeld=>?_);refine z22 zx.tab2 zx.bits2 (fun HT_ HW_=>?_)
 generalize w7.drew = w8 at BK101 BK102 HB hHeld ⊢
 refine pure_ (i:=0) (N:=some 7) (v:=?_) (a':=?_) #[true,false,false,false,false,false,false,false,false,false] rfl rfl (z1e HT_.out zz78) (fun _ _ _ h=>h) (Or.inl ⟨by rfl,?_⟩) ?_ ?_
 rotate_left
 · intro w'
   go_simp
   with_reducible rfl
 rotate_left
 · simp only [Act.put,List.setIfInBounds_toArray,List.set_cons_zero,List.set_cons_succ,zS,zZ]
   rfl
 refine pure_ (i:=1) (N:=some 8) (v:=?_) (a':=?_) #[true,true,false,false,false,false,false,false,false,false] rfl rfl (z1e HT_.out zz78) (fun _ _ _ h=>h) (Or.inl ⟨by rfl,?_⟩) ?_ ?_
 rotate_left
 · intro w'
   go_simp
   with_reducible rfl
 rotate_left
 · simp only [Act.put,List.setIfInBounds_toArray,List.set_cons_zero,List.set_cons_succ,zS,zZ]
   rfl
 refine pure_ (i:=4) (N:=some 11) (v:=?_) (a':=?_) #[true,true,false,false,true,false,false,false,false,false] rfl rfl (z1e HT_.out zz78) (fun _ _ _ h=>h) (Or.inl ⟨by rfl,?_⟩) ?_ ?_
 rotate_left
 · intro w'
   go_simp
   with_reducible rfl
 rotate_left
 · simp only [Act.put,List.setIfInBounds_toArray,List.set_cons_zero,List.set_cons_succ,zS,zZ]
   rfl
 refine pure_ (i:=5) (N:=some 12) (v:=?_) (a':=?_) #[true,true,false,false,true,true,false,false,false,false] rfl rfl (z1e HT_.out zz78) (fun _ _ _ h=>h) (Or.inl ⟨by rfl,?_⟩) ?_ ?_
 rotate_left
 · intro w'
   go_simp
   with_reducible rfl
 rotate_left
 · simp only [Act.put,List.setIfInBounds_toArray,List.set_cons_zero,List.set_cons_succ,zS,zZ]
   rfl
 refine take_ (i:=2) (N:=some 9) (v:=?_) (a':=?_) #[true,true,true,false,true,true,false,false,false,false] rfl rfl (z1I HT_.out HW_.out zz78) (fun _ _ _ h=>h) (Or.inl ⟨by rfl,?_⟩) hHeld ?_ ?_
 rotate_left
 · rintro w' ⟨s0,s1⟩
   go_simp
   with_reducible rfl
 rotate_left
 · simp only [Act.put,List.setIfInBounds_toArray,List.set_cons_zero,List.set_cons_succ,zS,zZ]
   rfl
 refine take_ (i:=6) (N:=some 13) (v:=?_) (a':=?_) #[true,true,true,false,true,true,true,false,false,false] rfl rfl (z1I HT_.out HW_.out zz78) (fun _ _ _ h=>h) (Or.inl ⟨by rfl,?_⟩) hHeld ?_ ?_
 rotate_left
 · rintro w' ⟨s0,s1⟩
   go_simp
   with_reducible rfl
 rotate_left
 · simp only [Act.put,List.setIfInBounds_toArray,List.set_cons_zero,List.set_cons_succ,zS,zZ]
   rfl
 refine one_ (i:=3) (N:=some 10) #[true,true,true,true,true,true,true,false,false,false] rfl rfl (z1J HT_.out zz78) zz79 (fun K hK=>?_)
 refine goes_ Try.func137 zz78 rfl #[.int .i64 a0,.int .u64 a1_0] zz82 rfl rfl zz27 ?_
 with_reducible refine (zp.calls k a0 a1_0 t103 _ A4.out).mono ?_
 rintro e w9 ⟨rfl,hb⟩
 refine ⟨_,rfl,?_⟩
 have n0_:=z1.mk (zg (g:=gb101) (o:=.cells #[.int .u64 a1_0,.int .u64 a1_1] 40 (0,0)) zz29 hb)
 have n1_:=z1.mk (zg (g:=gb102) (o:=.cells #[.int .u64 0,.int .u64 0] 40 (0,0)) zz30 hb)
 have n2_:=z1.mk (z4 zz22 hb)
 clear BK101
 clear BK102
 clear HB
 have BK101:=n0_
 have BK102:=n1_
 have HB:=n2_
 clear n0_ n1_ n2_
 (try clear hb)
 (try clear hb2)
 (try clear hk)
 (try clear hi)
 refine hK.out _ _ ⟨(zc BK101.out 0).trans rfl,(zc BK101.out 1).trans rfl⟩ (fun hHeld=>?_)
 clear hK K
 refine norm_ (a':=?_) ?_ ?_
 rotate_left
 · show Act.put _ (some 10) _ = _
   simp only [Act.put,List.setIfInBounds_toArray,List.set_cons_zero,List.set_cons_succ,zS,zZ]
   rfl
 refine one_ (i:=7) (N:=some 14) #[true,true,true,true,true,true,true,true,false,false] rfl rfl (z1J HT_.out zz78) zz79 (fun K hK=>?_)
 refine goes_ Try.func137 zz78 rfl #[.int .i64 a0,.int .u64 a1_1] zz82 rfl rfl zz27 ?_
 with_reducible refine (zp.calls k a0 a1_1 t104 _ A5.out).mono ?_
 rintro e w10 ⟨rfl,hb⟩
 refine ⟨_,rfl,?_⟩
 have n0_:=z1.mk (zg (g:=gb101) (o:=.cells #[.int .u64 a1_0,.int .u64 a1_1] 40 (0,0)) zz29 hb)
 have n1_:=z1.mk (zg (g:=gb102) (o:=.cells #[.int .u64 0,.int .u64 0] 40 (0,0)) zz30 hb)
 have n2_:=z1.mk (z4 zz22 hb)
 clear BK101
 clear BK102
 clear HB
 have BK101:=n0_
 have BK102:=n1_
 have HB:=n2_
 clear n0_ n1_ n2_
 (try clear hb)
 (try clear hb2)
 (try clear hk)
 (try clear hi)
 refine hK.out _ _ ⟨(zc BK101.out 0).trans rfl,(zc BK101.out 1).trans rfl⟩ (fun hHeld=>?_)
 clear hK K
 refine norm_ (a':=?_) ?_ ?_
 rotate_left
 · show Act.put _ (some 14) _ = _
   simp only [Act.put,List.setIfInBounds_toArray,List.set_cons_zero,List.set_cons_succ,zS,zZ]
   rfl
 refine pure_ (i:=8) (N:=some 15) (v:=?_) (a':=?_) #[true,true,true,true,true,true,true,true,true,false] rfl rfl (z1e HT_.out zz78) (fun _ _ _ h=>h) (Or.inl ⟨by rfl,?_⟩) ?_ ?_
 rotate_left
 · intro w'
   go_simp
   with_reducible rfl
 rotate_left
 · simp only [Act.put,List.setIfInBounds_toArray,List.set_cons_zero,List.set_cons_succ,zS,zZ]
   rfl
 refine one_ (i:=9) (N:=none) #[true,true,true,true,true,true,true,true,true,true] rfl rfl (z1J HT_.out zz78) zz79 (fun K hK=>?_)
 have hs11 : w10.cell? ⟨gb102,0,none⟩ = some (.int .u64 0):=(zc BK102.out 0).trans rfl
 have hfs11:=z8 BK102.out 0
 have hns11_0:=NB101_102.out
 have hms11_0:=NB102_101.out
 have hs12 : w10.cell? ⟨gb102,1,none⟩ = some (.int .u64 0):=(zc BK102.out 1).trans rfl
 have hfs12:=z8 BK102.out 1
 have hns12_0:=NB101_102.out
 have hms12_0:=NB102_101.out
 refine skip_ (w1:=?_) zz82 rfl ?_ ?_
 rotate_left
 · go_simp
   rfl
 refine hK.out _ _ ⟨((z1z (p:=⟨gb102,_,none⟩) NB101_102.out _).trans (((z1z (p:=⟨gb102,_,none⟩) NB101_102.out _).trans (hHeld.1)))),((z1z (p:=⟨gb102,_,none⟩) NB101_102.out _).trans (((z1z (p:=⟨gb102,_,none⟩) NB101_102.out _).trans (hHeld.2))))⟩ (fun hHeld=>?_)
 clear hK K
 refine done_ (z2q HT_.out zz78) ?_
 try go_wp2
 refine bodyPost_ret (results_cell_row rfl _ _ gb102 40 #[.int .u64 t103,.int .u64 t104] (0,0) _ rfl (by (with_reducible repeat (first|refine zb ?_ _|refine zf ?_|refine za ?_ _));refine z1m (cs:=#[.int .u64 t103,.int .u64 0]) ?_ 1 _ rfl;(with_reducible repeat (first|refine zb ?_ _|refine zf ?_|refine za ?_ _));refine z1m (cs:=#[.int .u64 0,.int .u64 0]) ?_ 0 _ rfl;(with_reducible repeat (first|refine zb ?_ _|refine zf ?_|refine za ?_ _));exact BK102.out) Try.underlying40 rfl zz78) rfl ?_
 exact ⟨by first|rfl|(simp [zi,zj] <;> rfl)|(simp [*,zi,zj] <;> rfl),by repeat (first|(with_reducible first|exact HB.out|apply z7|apply z2|apply z6|refine zd ?_ GE101.out|refine zd ?_ GE102.out)|exact HB.out)⟩
end Go.Proofs.Ytkhmpaooinpfoaa.P
namespace Go.Proofs.Ytkhmpaooinpfoaa.P
open Go.RowKit Go.Proofs.YtkhmpaooinpfoaaW.PrintWords Go.Proofs.YtkhmpaooinpfoaaW.PrintLast Go.Proofs.YtkhmpaooinpfoaaW.PrintMore
attribute [local go_sem] z12 z14 z1b z1c zW zX z13 z15   -- for this text's walks alone
set_option linter.unusedVariables false
set_option linter.unusedSimpArgs false
mutual
def ze.l0 : Nat → Int → Int → Int → Int → Int → Int → Int → Option (Int × Int)
 | 0,_,_,_,_,_,_,_=>none
 | k + 1,x6,x102000,x102001,x103000,x103001,x105000,x105001=>if x6 < 128 then ((zR.f k x103000 x103001 x6).bind fun t105=>(if t105 = true then (ze.l1 k x6 0 x102000 x102001 x103000 x103001 x105000 x105001 x102000 x102001) else (ze.l0 k (wrap64 (x6 + 1)) x102000 x102001 x103000 x103001 x105000 x105001))) else (some (x105000,x105001))
def ze.l1 : Nat → Int → Int → Int → Int → Int → Int → Int → Int → Int → Int → Option (Int × Int)
 | 0,_,_,_,_,_,_,_,_,_,_=>none
 | k + 1,x6,x8,x102000,x102001,x103000,x103001,x105000,x105001,x107000,x107001=>if x8 < 7 then (if 0 ≤ (IntKind.u64.wrap (x8)) then (if (Go.bits .and .i64 (shr .i64 x6 (IntKind.u64.wrap (x8))) 1) = 1 then ((zx.f k x8 x107000 x107001).bind fun bt107=>(ze.l1 k x6 (wrap64 (x8 + 1)) x102000 x102001 x103000 x103001 x105000 x105001 bt107.1 bt107.2)) else (ze.l1 k x6 (wrap64 (x8 + 1)) x102000 x102001 x103000 x103001 x105000 x105001 x107000 x107001)) else (none)) else ((z1B.f x105000 x105001 x107000 x107001).bind fun bt109=>(ze.l0 k (wrap64 (x6 + 1)) x102000 x102001 x103000 x103001 bt109.1 bt109.2))
end
def ze.f (k : Nat) (a0_0 : Int) (a0_1 : Int) (a1_0 : Int) (a1_1 : Int) : Option (Int × Int):=ze.l0 k 0 a0_0 a0_1 a1_0 a1_1 0 0
theorem ze.z17 : ∀ k,(∀ y0 y1 y2 y3 y4 y5 y6,LeO (ze.l0 k y0 y1 y2 y3 y4 y5 y6) (ze.l0 (k + 1) y0 y1 y2 y3 y4 y5 y6)) ∧ (∀ y0 y1 y2 y3 y4 y5 y6 y7 y8 y9,LeO (ze.l1 k y0 y1 y2 y3 y4 y5 y6 y7 y8 y9) (ze.l1 (k + 1) y0 y1 y2 y3 y4 y5 y6 y7 y8 y9))
 | 0=>⟨fun _ _ _ _ _ _ _ r h=>by simp [ze.l0] at h,fun _ _ _ _ _ _ _ _ _ _ r h=>by simp [ze.l1] at h⟩
 | k + 1=>by
  obtain ⟨ih0,ih1⟩:=ze.z17 k
  refine ⟨?_,?_⟩
  · intro y0 y1 y2 y3 y4 y5 y6
    unfold ze.l0
    repeat' first
    | (with_reducible exact ih0 _ _ _ _ _ _ _)
    | (with_reducible exact ih1 _ _ _ _ _ _ _ _ _ _)
    | (with_reducible exact zR.mono _ _ _ _)
    | (with_reducible exact zx.mono _ _ _ _)
    | (with_reducible exact LeO.refl _)
    | (with_reducible exact LeO.none _)
    | (with_reducible refine LeO.ite ?_ ?_)
    | (with_reducible refine LeO.bind ?_ (fun _=>?_))
    | exact ih0 _ _ _ _ _ _ _
    | exact ih1 _ _ _ _ _ _ _ _ _ _
    | exact zR.mono _ _ _ _
    | exact zx.mono _ _ _ _
    | exact LeO.none _
    | refine LeO.ite ?_ ?_
    | refine LeO.bind ?_ (fun _=>?_)
  · intro y0 y1 y2 y3 y4 y5 y6 y7 y8 y9
    unfold ze.l1
    repeat' first
    | (with_reducible exact ih0 _ _ _ _ _ _ _)
    | (with_reducible exact ih1 _ _ _ _ _ _ _ _ _ _)
    | (with_reducible exact zR.mono _ _ _ _)
    | (with_reducible exact zx.mono _ _ _ _)
    | (with_reducible exact LeO.refl _)
    | (with_reducible exact LeO.none _)
    | (with_reducible refine LeO.ite ?_ ?_)
    | (with_reducible refine LeO.bind ?_ (fun _=>?_))
    | exact ih0 _ _ _ _ _ _ _
    | exact ih1 _ _ _ _ _ _ _ _ _ _
    | exact zR.mono _ _ _ _
    | exact zx.mono _ _ _ _
    | exact LeO.none _
    | refine LeO.ite ?_ ?_
    | refine LeO.bind ?_ (fun _=>?_)
theorem ze.mono : ∀ a0 a1 a2 a3 k,LeO (ze.f k a0 a1 a2 a3) (ze.f (k + 1) a0 a1 a2 a3):=by
 intro a0 a1 a2 a3 k
 obtain ⟨ih0,ih1⟩:=ze.z17 k
 unfold ze.f
 repeat' first
  | (with_reducible exact ih0 _ _ _ _ _ _ _)
  | (with_reducible exact ih1 _ _ _ _ _ _ _ _ _ _)
  | (with_reducible exact zR.mono _ _ _ _)
  | (with_reducible exact zx.mono _ _ _ _)
  | (with_reducible exact LeO.refl _)
  | (with_reducible exact LeO.none _)
  | (with_reducible refine LeO.ite ?_ ?_)
  | (with_reducible refine LeO.bind ?_ (fun _=>?_))
  | exact ih0 _ _ _ _ _ _ _
  | exact ih1 _ _ _ _ _ _ _ _ _ _
  | exact zR.mono _ _ _ _
  | exact zx.mono _ _ _ _
  | exact LeO.none _
  | refine LeO.ite ?_ ?_
  | refine LeO.bind ?_ (fun _=>?_)
set_option maxHeartbeats 8000000 in
set_option maxRecDepth 100000 in
theorem ze.calls (k : Nat) (a0_0 : Int) (a0_1 : Int) (a1_0 : Int) (a1_1 : Int) (r1 : Int) (r2 : Int) (w : World) (h : ze.f k a0_0 a0_1 a1_0 a1_1 = some (r1,r2)) :
 Calls Try.prog 71 #[.agg #[.int .u64 a0_0,.int .u64 a0_1],.agg #[.int .u64 a1_0,.int .u64 a1_1]] w fun e w'=>e = .returned (.agg #[.int .u64 r1,.int .u64 r2]) ∧ Below w.heap.size w w':=by
 have hu40:=Try.underlying40
 have HB:=z1.mk (Below.refl w.heap.size w)
 have H : (ze.l0 k 0 a0_0 a0_1 a1_0 a1_1 0 0) = some (r1,r2):=h
 clear h
 have H':=z1.mk H
 clear H
 go_enter Try.func71,Try.ntmps71
 go_wp2_with (first|((with_reducible refine zF (N:=2) rfl ?_);refine zG ?hg (N:=2) ?hd (cs:=#[.int .u64 a0_0,.int .u64 a0_1]) (t:=40) ?hr ?_;(case hd=>rfl);(case hg=>rfl);(case hr=>first|(go_simp;done)|(go_simp;rfl));intro gb101 hg w3 hbox hb;have n0_:=z1.mk (z4 zz28 hb);have n1_:=z1.mk (hbox);have n2_:=z1.mk ((by rw [hg];exact (z5 zz28) : w.heap.size ≤ gb101));have n3_:=z1.mk ((by rw [hg];exact (z5 zz28) : w.heap.size ≤ gb101));clear HB;have HB:=n0_;have BK101:=n1_;have GW101:=n2_;have GE101:=n3_;clear n0_ n1_ n2_ n3_;clear hb hbox hg)|((with_reducible refine zF (N:=3) rfl ?_);refine zG ?hg (N:=3) ?hd (cs:=#[.int .u64 a1_0,.int .u64 a1_1]) (t:=40) ?hr ?_;(case hd=>rfl);(case hg=>rfl);(case hr=>first|(go_simp;done)|(go_simp;rfl));intro gb102 hg w4 hbox hb;have n0_:=z1.mk (zg (g:=gb101) (o:=.cells #[.int .u64 a0_0,.int .u64 a0_1] 40 (0,0)) zz29 hb);have n1_:=z1.mk (z4 zz25 hb);have n2_:=z1.mk (hbox);have n3_:=z1.mk ((by rw [hg];exact (z5 zz25) : w.heap.size ≤ gb102));have n4_:=z1.mk ((by rw [hg];exact (z5 zz25) : w.heap.size ≤ gb102));have n5_:=z1.mk ((by rw [hg];exact Nat.ne_of_lt (zU (g:=gb101) (o:=.cells #[.int .u64 a0_0,.int .u64 a0_1] 40 (0,0)) zz29) : gb101 ≠ gb102));have n6_:=z1.mk ((by rw [hg];exact Nat.ne_of_gt (zU (g:=gb101) (o:=.cells #[.int .u64 a0_0,.int .u64 a0_1] 40 (0,0)) zz29) : gb102 ≠ gb101));clear BK101;clear HB;have BK101:=n0_;have HB:=n1_;have BK102:=n2_;have GW102:=n3_;have GE102:=n4_;have NB101_102:=n5_;have NB102_101:=n6_;clear n0_ n1_ n2_ n3_ n4_ n5_ n6_;clear hb hbox hg)|((with_reducible refine zF (N:=4) rfl ?_);refine zG ?hg (N:=4) ?hd (cs:=#[.int .u64 0,.int .u64 0]) (t:=40) ?hr ?_;(case hd=>rfl);(case hg=>rfl);(case hr=>first|(go_simp;done)|(go_simp;rfl));intro gb103 hg w5 hbox hb;have n0_:=z1.mk (zg (g:=gb101) (o:=.cells #[.int .u64 a0_0,.int .u64 a0_1] 40 (0,0)) zz29 hb);have n1_:=z1.mk (zg (g:=gb102) (o:=.cells #[.int .u64 a1_0,.int .u64 a1_1] 40 (0,0)) zz30 hb);have n2_:=z1.mk (z4 zz22 hb);have n3_:=z1.mk (hbox);have n4_:=z1.mk ((by rw [hg];exact (z5 zz22) : w.heap.size ≤ gb103));have n5_:=z1.mk ((by rw [hg];exact (z5 zz22) : w.heap.size ≤ gb103));have n6_:=z1.mk ((by rw [hg];exact Nat.ne_of_lt (zU (g:=gb101) (o:=.cells #[.int .u64 a0_0,.int .u64 a0_1] 40 (0,0)) zz29) : gb101 ≠ gb103));have n7_:=z1.mk ((by rw [hg];exact Nat.ne_of_gt (zU (g:=gb101) (o:=.cells #[.int .u64 a0_0,.int .u64 a0_1] 40 (0,0)) zz29) : gb103 ≠ gb101));have n8_:=z1.mk ((by rw [hg];exact Nat.ne_of_lt (zU (g:=gb102) (o:=.cells #[.int .u64 a1_0,.int .u64 a1_1] 40 (0,0)) zz30) : gb102 ≠ gb103));have n9_:=z1.mk ((by rw [hg];exact Nat.ne_of_gt (zU (g:=gb102) (o:=.cells #[.int .u64 a1_0,.int .u64 a1_1] 40 (0,0)) zz30) : gb103 ≠ gb102));clear BK101;clear BK102;clear HB;have BK101:=n0_;have BK102:=n1_;have HB:=n2_;have BK103:=n3_;have GW103:=n4_;have GE103:=n5_;have NB101_103:=n6_;have NB103_101:=n7_;have NB102_103:=n8_;have NB103_102:=n9_;clear n0_ n1_ n2_ n3_ n4_ n5_ n6_ n7_ n8_ n9_;clear hb hbox hg)|((with_reducible refine zF (N:=5) rfl ?_);refine zG ?hg (N:=5) ?hd (cs:=#[.int .u64 0,.int .u64 0]) (t:=40) ?hr ?_;(case hd=>rfl);(case hg=>rfl);(case hr=>first|(go_simp;done)|(go_simp;rfl));intro gb104 hg w6 hbox hb;have n0_:=z1.mk (zg (g:=gb101) (o:=.cells #[.int .u64 a0_0,.int .u64 a0_1] 40 (0,0)) zz29 hb);have n1_:=z1.mk (zg (g:=gb102) (o:=.cells #[.int .u64 a1_0,.int .u64 a1_1] 40 (0,0)) zz30 hb);have n2_:=z1.mk (zg (g:=gb103) (o:=.cells #[.int .u64 0,.int .u64 0] 40 (0,0)) zz31 hb);have n3_:=z1.mk (z4 zz19 hb);have n4_:=z1.mk (hbox);have n5_:=z1.mk ((by rw [hg];exact (z5 zz19) : w.heap.size ≤ gb104));have n6_:=z1.mk ((by rw [hg];exact (z5 zz19) : w.heap.size ≤ gb104));have n7_:=z1.mk ((by rw [hg];exact Nat.ne_of_lt (zU (g:=gb101) (o:=.cells #[.int .u64 a0_0,.int .u64 a0_1] 40 (0,0)) zz29) : gb101 ≠ gb104));have n8_:=z1.mk ((by rw [hg];exact Nat.ne_of_gt (zU (g:=gb101) (o:=.cells #[.int .u64 a0_0,.int .u64 a0_1] 40 (0,0)) zz29) : gb104 ≠ gb101));have n9_:=z1.mk ((by rw [hg];exact Nat.ne_of_lt (zU (g:=gb102) (o:=.cells #[.int .u64 a1_0,.int .u64 a1_1] 40 (0,0)) zz30) : gb102 ≠ gb104));have n10_:=z1.mk ((by rw [hg];exact Nat.ne_of_gt (zU (g:=gb102) (o:=.cells #[.int .u64 a1_0,.int .u64 a1_1] 40 (0,0)) zz30) : gb104 ≠ gb102));have n11_:=z1.mk ((by rw [hg];exact Nat.ne_of_lt (zU (g:=gb103) (o:=.cells #[.int .u64 0,.int .u64 0] 40 (0,0)) zz31) : gb103 ≠ gb104));have n12_:=z1.mk ((by rw [hg];exact Nat.ne_of_gt (zU (g:=gb103) (o:=.cells #[.int .u64 0,.int .u64 0] 40 (0,0)) zz31) : gb104 ≠ gb103));clear BK101;clear BK102;clear BK103;clear HB;have BK101:=n0_;have BK102:=n1_;have BK103:=n2_;have HB:=n3_;have BK104:=n4_;have GW104:=n5_;have GE104:=n6_;have NB101_104:=n7_;have NB104_101:=n8_;have NB102_104:=n9_;have NB104_102:=n10_;have NB103_104:=n11_;have NB104_103:=n12_;clear n0_ n1_ n2_ n3_ n4_ n5_ n6_ n7_ n8_ n9_ n10_ n11_ n12_;clear hb hbox hg))
 go_loopg [6] k (fun kq v6 w'=>∃ (x6_1 : Int) (x105000_1 : Int) (x105001_1 : Int),v6 = .int .i64 x6_1 ∧ z1 (ze.l0 kq x6_1 a0_0 a0_1 a1_0 a1_1 x105000_1 x105001_1 = some (r1,r2)) ∧ z1 (kq ≤ k) ∧ z1 (w'.heap[gb101]? = some (.cells #[.int .u64 a0_0,.int .u64 a0_1] 40 (0,0))) ∧ z1 (w'.heap[gb102]? = some (.cells #[.int .u64 a1_0,.int .u64 a1_1] 40 (0,0))) ∧ z1 (w'.heap[gb103]? = some (.cells #[.int .u64 0,.int .u64 0] 40 (0,0))) ∧ z1 (w'.heap[gb104]? = some (.cells #[.int .u64 x105000_1,.int .u64 x105001_1] 40 (0,0))) ∧ z1 (Below w.heap.size w w'))
 case atStart=>exact ⟨(0),(0),(0),zz75,H',⟨Nat.le_refl _⟩,⟨by (with_reducible repeat (first|refine zb ?_ _|refine zf ?_|refine za ?_ _));exact BK101.out⟩,⟨by (with_reducible repeat (first|refine zb ?_ _|refine zf ?_|refine za ?_ _));exact BK102.out⟩,⟨by (with_reducible repeat (first|refine zb ?_ _|refine zf ?_|refine za ?_ _));exact BK103.out⟩,⟨by (with_reducible repeat (first|refine zb ?_ _|refine zf ?_|refine za ?_ _));exact BK104.out⟩,⟨by repeat (first|(with_reducible first|exact HB.out|apply z7|apply z2|apply z6|refine zd ?_ GE101.out|refine zd ?_ GE102.out|refine zd ?_ GE103.out|refine zd ?_ GE104.out)|exact HB.out)⟩⟩
 case round =>
  clear H'
  (try clear p2)
  obtain ⟨x6_1,x105000_1,x105001_1,rfl,HA,HK1,BK101,BK102,BK103,BK104,HB⟩:=hrel
  cases gk with
  | zero=>exact absurd HA.out (by simp [ze.l0])
  | succ k1 =>
   have H:=HA.out
   clear HA
   simp only [ze.l0] at H
   by_cases c7 : x6_1 < 128
   rotate_left
   · rw [if_neg c7] at H
     have c7b0 : decide (x6_1 < 128) = false:=decide_eq_false c7
     clear c7
     simp only [Option.some.injEq,Prod.mk.injEq] at H
     obtain ⟨rfl,rfl⟩:=H
     have hnb54:=NB104_101.out
     have hnc54:=NB101_104.out
     have hnb55:=NB104_102.out
     have hnc55:=NB102_104.out
     have hnb56:=NB104_103.out
     have hnc56:=NB103_104.out
     have hcz57_0 : wr.cell? ⟨gb104,0,none⟩ = some (.int .u64 x105000_1):=(zc BK104.out 0).trans rfl
     have hcz57_1 : wr.cell? ⟨gb104,1,none⟩ = some (.int .u64 x105001_1):=(zc BK104.out 1).trans rfl
     have hfz57_0:=z8 BK104.out 0
     have hfz57_1:=z8 BK104.out 1
     have hnb58:=NB103_101.out
     have hnc58:=NB101_103.out
     have hnb59:=NB103_102.out
     have hnc59:=NB102_103.out
     have hcz60_0 : wr.cell? ⟨gb103,0,none⟩ = some (.int .u64 0):=(zc BK103.out 0).trans rfl
     have hcz60_1 : wr.cell? ⟨gb103,1,none⟩ = some (.int .u64 0):=(zc BK103.out 1).trans rfl
     have hfz60_0:=z8 BK103.out 0
     have hfz60_1:=z8 BK103.out 1
     go_wp2
     refine bodyPost_ret (results_cell_row rfl _ _ gb103 40 #[.int .u64 x105000_1,.int .u64 x105001_1] (0,0) _ rfl (by (with_reducible repeat (first|refine zb ?_ _|refine zf ?_|refine za ?_ _));refine z1m (cs:=#[.int .u64 x105000_1,.int .u64 0]) ?_ 1 _ rfl;(with_reducible repeat (first|refine zb ?_ _|refine zf ?_|refine za ?_ _));refine z1m (cs:=#[.int .u64 0,.int .u64 0]) ?_ 0 _ rfl;(with_reducible repeat (first|refine zb ?_ _|refine zf ?_|refine za ?_ _));exact BK103.out) Try.underlying40 rfl zz78) rfl ?_
     exact ⟨by first|rfl|(simp [zi,zj] <;> rfl)|(simp [*,zi,zj] <;> rfl),by repeat (first|(with_reducible first|exact HB.out|apply z7|apply z2|apply z6|refine zd ?_ GE101.out|refine zd ?_ GE102.out|refine zd ?_ GE103.out|refine zd ?_ GE104.out)|exact HB.out)⟩
   rw [if_pos c7] at H
   have c7b0 : decide (x6_1 < 128) = true:=decide_eq_true c7
   clear c7
   replace H:=Option.bind_eq_some_iff.mp H
   obtain ⟨t105,A80,H⟩:=H
   replace H : (if t105 = true then (ze.l1 k1 x6_1 0 a0_0 a0_1 a1_0 a1_1 x105000_1 x105001_1 a0_0 a0_1) else (ze.l0 k1 (wrap64 (x6_1 + 1)) a0_0 a0_1 a1_0 a1_1 x105000_1 x105001_1)) = some (r1,r2):=H
   have A8:=z1.mk A80
   clear A80
   by_cases c9 : t105 = true
   rotate_left
   · replace c9:=Bool.eq_false_iff.mpr c9
     subst c9
     have H1 : (ze.l0 k1 (wrap64 (x6_1 + 1)) a0_0 a0_1 a1_0 a1_1 x105000_1 x105001_1) = some (r1,r2):=by rw [if_neg (show ¬ (false = true) by decide)] at H;exact H
     clear H
     have H:=H1
     clear H1
     have H':=z1.mk H
     clear H
     have hnb49:=NB102_101.out
     have hnc49:=NB101_102.out
     have hnb50:=NB102_103.out
     have hnc50:=NB103_102.out
     have hnb51:=NB102_104.out
     have hnc51:=NB104_102.out
     have hcz52_0 : wr.cell? ⟨gb102,0,none⟩ = some (.int .u64 a1_0):=(zc BK102.out 0).trans rfl
     have hcz52_1 : wr.cell? ⟨gb102,1,none⟩ = some (.int .u64 a1_1):=(zc BK102.out 1).trans rfl
     have hfz52_0:=z8 BK102.out 0
     have hfz52_1:=z8 BK102.out 1
     go_wp2_with (first|((with_reducible refine zl (f:=104) rfl ?_);refine goesL_ (some 15) rfl rfl Try.func104 zz78 rfl #[.agg #[.int .u64 a1_0,.int .u64 a1_1],.int .i64 x6_1] rfl zz27 ?_;(with_reducible refine (zR.calls k1 a1_0 a1_1 x6_1 false _ A8.out).mono ?_);rintro e w53 ⟨rfl,hb⟩;refine ⟨_,rfl,?_⟩;have n0_:=z1.mk (zg (g:=gb101) (o:=.cells #[.int .u64 a0_0,.int .u64 a0_1] 40 (0,0)) zz29 hb);have n1_:=z1.mk (zg (g:=gb102) (o:=.cells #[.int .u64 a1_0,.int .u64 a1_1] 40 (0,0)) zz30 hb);have n2_:=z1.mk (zg (g:=gb103) (o:=.cells #[.int .u64 0,.int .u64 0] 40 (0,0)) zz31 hb);have n3_:=z1.mk (zg (g:=gb104) (o:=.cells #[.int .u64 x105000_1,.int .u64 x105001_1] 40 (0,0)) zz32 hb);have n4_:=z1.mk (z4 zz17 hb);clear BK101;clear BK102;clear BK103;clear BK104;clear HB;have BK101:=n0_;have BK102:=n1_;have BK103:=n2_;have BK104:=n3_;have HB:=n4_;clear n0_ n1_ n2_ n3_ n4_;(try clear hb);(try clear hb2);(try clear hk);(try clear hi)))
     go_roundg k1
     case measure=>have:=HK1.out;omega
     case rel=>exact ⟨(wrap64 (x6_1 + 1)),(x105000_1),(x105001_1),zz75,H',⟨by have:=HK1.out;omega⟩,⟨by (with_reducible repeat (first|refine zb ?_ _|refine zf ?_|refine za ?_ _));exact BK101.out⟩,⟨by (with_reducible repeat (first|refine zb ?_ _|refine zf ?_|refine za ?_ _));exact BK102.out⟩,⟨by (with_reducible repeat (first|refine zb ?_ _|refine zf ?_|refine za ?_ _));exact BK103.out⟩,⟨by (with_reducible repeat (first|refine zb ?_ _|refine zf ?_|refine za ?_ _));exact BK104.out⟩,⟨by repeat (first|(with_reducible first|exact HB.out|apply z7|apply z2|apply z6|refine zd ?_ GE101.out|refine zd ?_ GE102.out|refine zd ?_ GE103.out|refine zd ?_ GE104.out)|exact HB.out)⟩⟩
   subst c9
   have H1 : (ze.l1 k1 x6_1 0 a0_0 a0_1 a1_0 a1_1 x105000_1 x105001_1 a0_0 a0_1) = some (r1,r2):=by rw [if_pos rfl] at H;exact H
   clear H
   have H:=H1
   clear H1
   have H':=z1.mk H
   clear H
   have hnb10:=NB102_101.out
   have hnc10:=NB101_102.out
   have hnb11:=NB102_103.out
   have hnc11:=NB103_102.out
   have hnb12:=NB102_104.out
   have hnc12:=NB104_102.out
   have hcz13_0 : wr.cell? ⟨gb102,0,none⟩ = some (.int .u64 a1_0):=(zc BK102.out 0).trans rfl
   have hcz13_1 : wr.cell? ⟨gb102,1,none⟩ = some (.int .u64 a1_1):=(zc BK102.out 1).trans rfl
   have hfz13_0:=z8 BK102.out 0
   have hfz13_1:=z8 BK102.out 1
   go_wp2_with (first|((with_reducible refine zl (f:=104) rfl ?_);refine goesL_ (some 15) rfl rfl Try.func104 zz78 rfl #[.agg #[.int .u64 a1_0,.int .u64 a1_1],.int .i64 x6_1] rfl zz27 ?_;(with_reducible refine (zR.calls k1 a1_0 a1_1 x6_1 true _ A8.out).mono ?_);rintro e w14 ⟨rfl,hb⟩;refine ⟨_,rfl,?_⟩;have n0_:=z1.mk (zg (g:=gb101) (o:=.cells #[.int .u64 a0_0,.int .u64 a0_1] 40 (0,0)) zz29 hb);have n1_:=z1.mk (zg (g:=gb102) (o:=.cells #[.int .u64 a1_0,.int .u64 a1_1] 40 (0,0)) zz30 hb);have n2_:=z1.mk (zg (g:=gb103) (o:=.cells #[.int .u64 0,.int .u64 0] 40 (0,0)) zz31 hb);have n3_:=z1.mk (zg (g:=gb104) (o:=.cells #[.int .u64 x105000_1,.int .u64 x105001_1] 40 (0,0)) zz32 hb);have n4_:=z1.mk (z4 zz17 hb);clear BK101;clear BK102;clear BK103;clear BK104;clear HB;have BK101:=n0_;have BK102:=n1_;have BK103:=n2_;have BK104:=n3_;have HB:=n4_;clear n0_ n1_ n2_ n3_ n4_;(try clear hb);(try clear hb2);(try clear hk);(try clear hi);have hnb15:=NB101_103.out;have hnc15:=NB103_101.out;have hnb16:=NB101_104.out;have hnc16:=NB104_101.out;have hcz17_0 : w14.cell? ⟨gb101,0,none⟩ = some (.int .u64 a0_0):=(zc BK101.out 0).trans rfl;have hcz17_1 : w14.cell? ⟨gb101,1,none⟩ = some (.int .u64 a0_1):=(zc BK101.out 1).trans rfl;have hfz17_0:=z8 BK101.out 0;have hfz17_1:=z8 BK101.out 1)|((with_reducible refine zF (N:=7) rfl ?_);refine zG ?hg (N:=7) ?hd (cs:=#[.int .u64 0,.int .u64 0]) (t:=40) ?hr ?_;(case hd=>rfl);(case hg=>rfl);(case hr=>first|(go_simp;done)|(go_simp;rfl));intro gb106 hg w18 hbox hb;have n0_:=z1.mk (zg (g:=gb101) (o:=.cells #[.int .u64 a0_0,.int .u64 a0_1] 40 (0,0)) zz29 hb);have n1_:=z1.mk (zg (g:=gb102) (o:=.cells #[.int .u64 a1_0,.int .u64 a1_1] 40 (0,0)) zz30 hb);have n2_:=z1.mk (zg (g:=gb103) (o:=.cells #[.int .u64 0,.int .u64 0] 40 (0,0)) zz31 hb);have n3_:=z1.mk (zg (g:=gb104) (o:=.cells #[.int .u64 x105000_1,.int .u64 x105001_1] 40 (0,0)) zz32 hb);have n4_:=z1.mk (z4 zz17 hb);have n5_:=z1.mk (hbox);have n6_:=z1.mk ((by rw [hg];exact (z5 zz17) : w.heap.size ≤ gb106));have n7_:=z1.mk ((by rw [hg];exact (z5 zz17) : w.heap.size ≤ gb106));have n8_:=z1.mk ((by rw [hg];exact Nat.ne_of_lt (zU (g:=gb101) (o:=.cells #[.int .u64 a0_0,.int .u64 a0_1] 40 (0,0)) zz29) : gb101 ≠ gb106));have n9_:=z1.mk ((by rw [hg];exact Nat.ne_of_gt (zU (g:=gb101) (o:=.cells #[.int .u64 a0_0,.int .u64 a0_1] 40 (0,0)) zz29) : gb106 ≠ gb101));have n10_:=z1.mk ((by rw [hg];exact Nat.ne_of_lt (zU (g:=gb102) (o:=.cells #[.int .u64 a1_0,.int .u64 a1_1] 40 (0,0)) zz30) : gb102 ≠ gb106));have n11_:=z1.mk ((by rw [hg];exact Nat.ne_of_gt (zU (g:=gb102) (o:=.cells #[.int .u64 a1_0,.int .u64 a1_1] 40 (0,0)) zz30) : gb106 ≠ gb102));have n12_:=z1.mk ((by rw [hg];exact Nat.ne_of_lt (zU (g:=gb103) (o:=.cells #[.int .u64 0,.int .u64 0] 40 (0,0)) zz31) : gb103 ≠ gb106));have n13_:=z1.mk ((by rw [hg];exact Nat.ne_of_gt (zU (g:=gb103) (o:=.cells #[.int .u64 0,.int .u64 0] 40 (0,0)) zz31) : gb106 ≠ gb103));have n14_:=z1.mk ((by rw [hg];exact Nat.ne_of_lt (zU (g:=gb104) (o:=.cells #[.int .u64 x105000_1,.int .u64 x105001_1] 40 (0,0)) zz32) : gb104 ≠ gb106));have n15_:=z1.mk ((by rw [hg];exact Nat.ne_of_gt (zU (g:=gb104) (o:=.cells #[.int .u64 x105000_1,.int .u64 x105001_1] 40 (0,0)) zz32) : gb106 ≠ gb104));clear BK101;clear BK102;clear BK103;clear BK104;clear HB;have BK101:=n0_;have BK102:=n1_;have BK103:=n2_;have BK104:=n3_;have HB:=n4_;have BK106:=n5_;have GW106:=n6_;have GE106:=n7_;have NB101_106:=n8_;have NB106_101:=n9_;have NB102_106:=n10_;have NB106_102:=n11_;have NB103_106:=n12_;have NB106_103:=n13_;have NB104_106:=n14_;have NB106_104:=n15_;clear n0_ n1_ n2_ n3_ n4_ n5_ n6_ n7_ n8_ n9_ n10_ n11_ n12_ n13_ n14_ n15_;clear hb hbox hg;have hnb19:=NB106_101.out;have hnc19:=NB101_106.out;have hnb20:=NB106_102.out;have hnc20:=NB102_106.out;have hnb21:=NB106_103.out;have hnc21:=NB103_106.out;have hnb22:=NB106_104.out;have hnc22:=NB104_106.out;have hcz23_0 : w18.cell? ⟨gb106,0,none⟩ = some (.int .u64 0):=(zc BK106.out 0).trans rfl;have hcz23_1 : w18.cell? ⟨gb106,1,none⟩ = some (.int .u64 0):=(zc BK106.out 1).trans rfl;have hfz23_0:=z8 BK106.out 0;have hfz23_1:=z8 BK106.out 1))
   go_loopg [8] k1 (fun kq v8 w'=>∃ (x8_2 : Int) (x107000_2 : Int) (x107001_2 : Int),v8 = .int .i64 x8_2 ∧ z1 (ze.l1 kq x6_1 x8_2 a0_0 a0_1 a1_0 a1_1 x105000_1 x105001_1 x107000_2 x107001_2 = some (r1,r2)) ∧ z1 (kq ≤ k1) ∧ z1 (w'.heap[gb101]? = some (.cells #[.int .u64 a0_0,.int .u64 a0_1] 40 (0,0))) ∧ z1 (w'.heap[gb102]? = some (.cells #[.int .u64 a1_0,.int .u64 a1_1] 40 (0,0))) ∧ z1 (w'.heap[gb103]? = some (.cells #[.int .u64 0,.int .u64 0] 40 (0,0))) ∧ z1 (w'.heap[gb104]? = some (.cells #[.int .u64 x105000_1,.int .u64 x105001_1] 40 (0,0))) ∧ z1 (w'.heap[gb106]? = some (.cells #[.int .u64 x107000_2,.int .u64 x107001_2] 40 (0,0))) ∧ z1 (Below w.heap.size w w'))
   case atStart=>exact ⟨(0),(a0_0),(a0_1),zz75,H',⟨Nat.le_refl _⟩,⟨by (with_reducible repeat (first|refine zb ?_ _|refine zf ?_|refine za ?_ _));refine z1a ?_ NB101_106.out _;(with_reducible repeat (first|refine zb ?_ _|refine zf ?_|refine za ?_ _));refine z1a ?_ NB101_106.out _;(with_reducible repeat (first|refine zb ?_ _|refine zf ?_|refine za ?_ _));exact BK101.out⟩,⟨by (with_reducible repeat (first|refine zb ?_ _|refine zf ?_|refine za ?_ _));refine z1a ?_ NB102_106.out _;(with_reducible repeat (first|refine zb ?_ _|refine zf ?_|refine za ?_ _));refine z1a ?_ NB102_106.out _;(with_reducible repeat (first|refine zb ?_ _|refine zf ?_|refine za ?_ _));exact BK102.out⟩,⟨by (with_reducible repeat (first|refine zb ?_ _|refine zf ?_|refine za ?_ _));refine z1a ?_ NB103_106.out _;(with_reducible repeat (first|refine zb ?_ _|refine zf ?_|refine za ?_ _));refine z1a ?_ NB103_106.out _;(with_reducible repeat (first|refine zb ?_ _|refine zf ?_|refine za ?_ _));exact BK103.out⟩,⟨by (with_reducible repeat (first|refine zb ?_ _|refine zf ?_|refine za ?_ _));refine z1a ?_ NB104_106.out _;(with_reducible repeat (first|refine zb ?_ _|refine zf ?_|refine za ?_ _));refine z1a ?_ NB104_106.out _;(with_reducible repeat (first|refine zb ?_ _|refine zf ?_|refine za ?_ _));exact BK104.out⟩,⟨by (with_reducible repeat (first|refine zb ?_ _|refine zf ?_|refine za ?_ _));refine z1m (cs:=#[.int .u64 a0_0,.int .u64 0]) ?_ 1 _ rfl;(with_reducible repeat (first|refine zb ?_ _|refine zf ?_|refine za ?_ _));refine z1m (cs:=#[.int .u64 0,.int .u64 0]) ?_ 0 _ rfl;(with_reducible repeat (first|refine zb ?_ _|refine zf ?_|refine za ?_ _));exact BK106.out⟩,⟨by repeat (first|(with_reducible first|exact HB.out|apply z7|apply z2|apply z6|refine zd ?_ GE101.out|refine zd ?_ GE102.out|refine zd ?_ GE103.out|refine zd ?_ GE104.out|refine zd ?_ GE106.out)|exact HB.out)⟩⟩
   case round =>
    clear H'
    (try clear c1);(try clear c2);(try clear p2);(try clear p6);(try clear c7);(try clear c7b0);(try clear c9);(try clear c10);(try clear c11);(try clear c12);(try clear c15);(try clear c16);(try clear c19);(try clear c20);(try clear c21);(try clear c22);(try clear hcz13_0);(try clear hcz13_1);(try clear hcz17_0);(try clear hcz17_1);(try clear hcz23_0);(try clear hcz23_1);(try clear hfz13_0);(try clear hfz13_1);(try clear hfz17_0);(try clear hfz17_1);(try clear hfz23_0);(try clear hfz23_1);(try clear p2)
    obtain ⟨x8_2,x107000_2,x107001_2,rfl,HA,HK2,BK101,BK102,BK103,BK104,BK106,HB⟩:=hrel
    cases gk with
    | zero=>exact absurd HA.out (by simp [ze.l1])
    | succ k2 =>
     have H:=HA.out
     clear HA
     simp only [ze.l1] at H
     by_cases c24 : x8_2 < 7
     rotate_left
     · rw [if_neg c24] at H
       have c24b0 : decide (x8_2 < 7) = false:=decide_eq_false c24
       clear c24
       replace H:=Option.bind_eq_some_iff.mp H
       obtain ⟨⟨t109,t110⟩,A370,H⟩:=H
       replace H : (ze.l0 k2 (wrap64 (x6_1 + 1)) a0_0 a0_1 a1_0 a1_1 t109 t110) = some (r1,r2):=H
       have A37:=z1.mk A370
       clear A370
       have H':=z1.mk H
       clear H
       have hnb38:=NB104_101.out
       have hnc38:=NB101_104.out
       have hnb39:=NB104_102.out
       have hnc39:=NB102_104.out
       have hnb40:=NB104_103.out
       have hnc40:=NB103_104.out
       have hnb41:=NB104_106.out
       have hnc41:=NB106_104.out
       have hcz42_0 : wr.cell? ⟨gb104,0,none⟩ = some (.int .u64 x105000_1):=(zc BK104.out 0).trans rfl
       have hcz42_1 : wr.cell? ⟨gb104,1,none⟩ = some (.int .u64 x105001_1):=(zc BK104.out 1).trans rfl
       have hfz42_0:=z8 BK104.out 0
       have hfz42_1:=z8 BK104.out 1
       have hnb43:=NB106_101.out
       have hnc43:=NB101_106.out
       have hnb44:=NB106_102.out
       have hnc44:=NB102_106.out
       have hnb45:=NB106_103.out
       have hnc45:=NB103_106.out
       have hcz46_0 : wr.cell? ⟨gb106,0,none⟩ = some (.int .u64 x107000_2):=(zc BK106.out 0).trans rfl
       have hcz46_1 : wr.cell? ⟨gb106,1,none⟩ = some (.int .u64 x107001_2):=(zc BK106.out 1).trans rfl
       have hfz46_0:=z8 BK106.out 0
       have hfz46_1:=z8 BK106.out 1
       go_wp2_with (first|((with_reducible refine zl (f:=69) rfl ?_);refine goesL_ (some 33) rfl rfl Try.func69 zz78 rfl #[.agg #[.int .u64 x105000_1,.int .u64 x105001_1],.agg #[.int .u64 x107000_2,.int .u64 x107001_2]] rfl zz27 ?_;(with_reducible refine (z1B.calls x105000_1 x105001_1 x107000_2 x107001_2 t109 t110 _ A37.out).mono ?_);rintro e w47 ⟨rfl,hb⟩;refine ⟨_,rfl,?_⟩;have n0_:=z1.mk (zg (g:=gb101) (o:=.cells #[.int .u64 a0_0,.int .u64 a0_1] 40 (0,0)) zz29 hb);have n1_:=z1.mk (zg (g:=gb102) (o:=.cells #[.int .u64 a1_0,.int .u64 a1_1] 40 (0,0)) zz30 hb);have n2_:=z1.mk (zg (g:=gb103) (o:=.cells #[.int .u64 0,.int .u64 0] 40 (0,0)) zz31 hb);have n3_:=z1.mk (zg (g:=gb104) (o:=.cells #[.int .u64 x105000_1,.int .u64 x105001_1] 40 (0,0)) zz32 hb);have n4_:=z1.mk (zg (g:=gb106) (o:=.cells #[.int .u64 x107000_2,.int .u64 x107001_2] 40 (0,0)) zz36 hb);have n5_:=z1.mk (z4 zz14 hb);clear BK101;clear BK102;clear BK103;clear BK104;clear BK106;clear HB;have BK101:=n0_;have BK102:=n1_;have BK103:=n2_;have BK104:=n3_;have BK106:=n4_;have HB:=n5_;clear n0_ n1_ n2_ n3_ n4_ n5_;(try clear hb);(try clear hb2);(try clear hk);(try clear hi);have hcz48_0 : w47.cell? ⟨gb104,0,none⟩ = some (.int .u64 x105000_1):=(zc BK104.out 0).trans rfl;have hcz48_1 : w47.cell? ⟨gb104,1,none⟩ = some (.int .u64 x105001_1):=(zc BK104.out 1).trans rfl;have hfz48_0:=z8 BK104.out 0;have hfz48_1:=z8 BK104.out 1))
       go_roundg k2
       case measure=>have:=HK1.out;have:=HK2.out;omega
       case rel=>exact ⟨(wrap64 (x6_1 + 1)),(t109),(t110),zz75,H',⟨by have:=HK1.out;have:=HK2.out;omega⟩,⟨by (with_reducible repeat (first|refine zb ?_ _|refine zf ?_|refine za ?_ _));refine z1a ?_ NB101_104.out _;(with_reducible repeat (first|refine zb ?_ _|refine zf ?_|refine za ?_ _));refine z1a ?_ NB101_104.out _;(with_reducible repeat (first|refine zb ?_ _|refine zf ?_|refine za ?_ _));exact BK101.out⟩,⟨by (with_reducible repeat (first|refine zb ?_ _|refine zf ?_|refine za ?_ _));refine z1a ?_ NB102_104.out _;(with_reducible repeat (first|refine zb ?_ _|refine zf ?_|refine za ?_ _));refine z1a ?_ NB102_104.out _;(with_reducible repeat (first|refine zb ?_ _|refine zf ?_|refine za ?_ _));exact BK102.out⟩,⟨by (with_reducible repeat (first|refine zb ?_ _|refine zf ?_|refine za ?_ _));refine z1a ?_ NB103_104.out _;(with_reducible repeat (first|refine zb ?_ _|refine zf ?_|refine za ?_ _));refine z1a ?_ NB103_104.out _;(with_reducible repeat (first|refine zb ?_ _|refine zf ?_|refine za ?_ _));exact BK103.out⟩,⟨by (with_reducible repeat (first|refine zb ?_ _|refine zf ?_|refine za ?_ _));refine z1m (cs:=#[.int .u64 t109,.int .u64 x105001_1]) ?_ 1 _ rfl;(with_reducible repeat (first|refine zb ?_ _|refine zf ?_|refine za ?_ _));refine z1m (cs:=#[.int .u64 x105000_1,.int .u64 x105001_1]) ?_ 0 _ rfl;(with_reducible repeat (first|refine zb ?_ _|refine zf ?_|refine za ?_ _));exact BK104.out⟩,⟨by repeat (first|(with_reducible first|exact HB.out|apply z7|apply z2|apply z6|refine zd ?_ GE101.out|refine zd ?_ GE102.out|refine zd ?_ GE103.out|refine zd ?_ GE104.out|refine zd ?_ GE106.out)|exact HB.out)⟩⟩
     rw [if_pos c24] at H
     have c24b0 : decide (x8_2 < 7) = true:=decide_eq_true c24
     clear c24
     obtain ⟨ji25,hji25⟩ : ∃ j_ : Int,(IntKind.u64.wrap (x8_2)) = j_:=⟨_,rfl⟩
     replace H : (if 0 ≤ (ji25) then (if (Go.bits .and .i64 (shr .i64 x6_1 (ji25)) 1) = 1 then ((zx.f k2 x8_2 x107000_2 x107001_2).bind fun bt107=>(ze.l1 k2 x6_1 (wrap64 (x8_2 + 1)) a0_0 a0_1 a1_0 a1_1 x105000_1 x105001_1 bt107.1 bt107.2)) else (ze.l1 k2 x6_1 (wrap64 (x8_2 + 1)) a0_0 a0_1 a1_0 a1_1 x105000_1 x105001_1 x107000_2 x107001_2)) else (none)) = some (r1,r2):=by first|(rw [hji25] at H;exact H)|(simp only [hji25] at H ⊢;exact H)
     by_cases c26 : 0 ≤ (ji25)
     rotate_left
     · rw [if_neg c26] at H
       exact absurd H zz81
     rw [if_pos c26] at H
     have c26b0:=eq_true c26
     have c26b1 : decide (0 ≤ (ji25)) = true:=decide_eq_true c26
     clear c26
     obtain ⟨ji27,hji27⟩ : ∃ j_ : Int,(shr .i64 x6_1 (ji25)) = j_:=⟨_,rfl⟩
     replace H : (if (Go.bits .and .i64 (ji27) 1) = 1 then ((zx.f k2 x8_2 x107000_2 x107001_2).bind fun bt107=>(ze.l1 k2 x6_1 (wrap64 (x8_2 + 1)) a0_0 a0_1 a1_0 a1_1 x105000_1 x105001_1 bt107.1 bt107.2)) else (ze.l1 k2 x6_1 (wrap64 (x8_2 + 1)) a0_0 a0_1 a1_0 a1_1 x105000_1 x105001_1 x107000_2 x107001_2)) = some (r1,r2):=by first|(rw [hji27] at H;exact H)|(simp only [hji27] at H ⊢;exact H)
     have hji27_ : (x6_1 / 2 ^ min (ji25).toNat 64) = ji27:=hji27
     have hji27z : (ji25) ≤ 64 → (x6_1 / 2 ^ (ji25).toNat) = ji27:=z2M hji27
     by_cases c28 : (Go.bits .and .i64 (ji27) 1) = 1
     rotate_left
     · rw [if_neg c28] at H
       have c28b0 : ((Go.bits .and .i64 (ji27) 1) == 1) = false:=beq_eq_false_iff_ne.mpr c28
       have c28b1 : ((Go.bits .and .i64 (ji27) 1) != 1) = true:=bne_iff_ne.mpr c28
       have H':=z1.mk H
       clear H
       go_wp2
       go_roundg k2
       case measure=>have:=HK1.out;have:=HK2.out;omega
       case rel=>exact ⟨(wrap64 (x8_2 + 1)),(x107000_2),(x107001_2),zz75,H',⟨by have:=HK1.out;have:=HK2.out;omega⟩,⟨by (with_reducible repeat (first|refine zb ?_ _|refine zf ?_|refine za ?_ _));exact BK101.out⟩,⟨by (with_reducible repeat (first|refine zb ?_ _|refine zf ?_|refine za ?_ _));exact BK102.out⟩,⟨by (with_reducible repeat (first|refine zb ?_ _|refine zf ?_|refine za ?_ _));exact BK103.out⟩,⟨by (with_reducible repeat (first|refine zb ?_ _|refine zf ?_|refine za ?_ _));exact BK104.out⟩,⟨by (with_reducible repeat (first|refine zb ?_ _|refine zf ?_|refine za ?_ _));exact BK106.out⟩,⟨by repeat (first|(with_reducible first|exact HB.out|apply z7|apply z2|apply z6|refine zd ?_ GE101.out|refine zd ?_ GE102.out|refine zd ?_ GE103.out|refine zd ?_ GE104.out|refine zd ?_ GE106.out)|exact HB.out)⟩⟩
     rw [if_pos c28] at H
     have c28b0 : ((Go.bits .and .i64 (ji27) 1) == 1) = true:=beq_iff_eq.mpr c28
     have c28b1 : ((Go.bits .and .i64 (ji27) 1) != 1) = false:=bne_eq_false_iff_eq.mpr c28
     clear c28
     replace H:=Option.bind_eq_some_iff.mp H
     obtain ⟨⟨t107,t108⟩,A290,H⟩:=H
     replace H : (ze.l1 k2 x6_1 (wrap64 (x8_2 + 1)) a0_0 a0_1 a1_0 a1_1 x105000_1 x105001_1 t107 t108) = some (r1,r2):=H
     have A29:=z1.mk A290
     clear A290
     have H':=z1.mk H
     clear H
     have hnb30:=NB106_101.out
     have hnc30:=NB101_106.out
     have hnb31:=NB106_102.out
     have hnc31:=NB102_106.out
     have hnb32:=NB106_103.out
     have hnc32:=NB103_106.out
     have hnb33:=NB106_104.out
     have hnc33:=NB104_106.out
     have hcz34_0 : wr.cell? ⟨gb106,0,none⟩ = some (.int .u64 x107000_2):=(zc BK106.out 0).trans rfl
     have hcz34_1 : wr.cell? ⟨gb106,1,none⟩ = some (.int .u64 x107001_2):=(zc BK106.out 1).trans rfl
     have hfz34_0:=z8 BK106.out 0
     have hfz34_1:=z8 BK106.out 1
     go_wp2_with (first|((with_reducible refine zl (f:=110) rfl ?_);refine goesL_ (some 30) rfl rfl Try.func110 zz78 rfl #[.int .i64 x8_2,.agg #[.int .u64 x107000_2,.int .u64 x107001_2]] rfl zz27 ?_;(with_reducible refine (zx.calls k2 x8_2 x107000_2 x107001_2 t107 t108 _ A29.out).mono ?_);rintro e w35 ⟨rfl,hb⟩;refine ⟨_,rfl,?_⟩;have n0_:=z1.mk (zg (g:=gb101) (o:=.cells #[.int .u64 a0_0,.int .u64 a0_1] 40 (0,0)) zz29 hb);have n1_:=z1.mk (zg (g:=gb102) (o:=.cells #[.int .u64 a1_0,.int .u64 a1_1] 40 (0,0)) zz30 hb);have n2_:=z1.mk (zg (g:=gb103) (o:=.cells #[.int .u64 0,.int .u64 0] 40 (0,0)) zz31 hb);have n3_:=z1.mk (zg (g:=gb104) (o:=.cells #[.int .u64 x105000_1,.int .u64 x105001_1] 40 (0,0)) zz32 hb);have n4_:=z1.mk (zg (g:=gb106) (o:=.cells #[.int .u64 x107000_2,.int .u64 x107001_2] 40 (0,0)) zz36 hb);have n5_:=z1.mk (z4 zz14 hb);clear BK101;clear BK102;clear BK103;clear BK104;clear BK106;clear HB;have BK101:=n0_;have BK102:=n1_;have BK103:=n2_;have BK104:=n3_;have BK106:=n4_;have HB:=n5_;clear n0_ n1_ n2_ n3_ n4_ n5_;(try clear hb);(try clear hb2);(try clear hk);(try clear hi);have hcz36_0 : w35.cell? ⟨gb106,0,none⟩ = some (.int .u64 x107000_2):=(zc BK106.out 0).trans rfl;have hcz36_1 : w35.cell? ⟨gb106,1,none⟩ = some (.int .u64 x107001_2):=(zc BK106.out 1).trans rfl;have hfz36_0:=z8 BK106.out 0;have hfz36_1:=z8 BK106.out 1))
     go_roundg k2
     case measure=>have:=HK1.out;have:=HK2.out;omega
     case rel=>exact ⟨(wrap64 (x8_2 + 1)),(t107),(t108),zz75,H',⟨by have:=HK1.out;have:=HK2.out;omega⟩,⟨by (with_reducible repeat (first|refine zb ?_ _|refine zf ?_|refine za ?_ _));refine z1a ?_ NB101_106.out _;(with_reducible repeat (first|refine zb ?_ _|refine zf ?_|refine za ?_ _));refine z1a ?_ NB101_106.out _;(with_reducible repeat (first|refine zb ?_ _|refine zf ?_|refine za ?_ _));exact BK101.out⟩,⟨by (with_reducible repeat (first|refine zb ?_ _|refine zf ?_|refine za ?_ _));refine z1a ?_ NB102_106.out _;(with_reducible repeat (first|refine zb ?_ _|refine zf ?_|refine za ?_ _));refine z1a ?_ NB102_106.out _;(with_reducible repeat (first|refine zb ?_ _|refine zf ?_|refine za ?_ _));exact BK102.out⟩,⟨by (with_reducible repeat (first|refine zb ?_ _|refine zf ?_|refine za ?_ _));refine z1a ?_ NB103_106.out _;(with_reducible repeat (first|refine zb ?_ _|refine zf ?_|refine za ?_ _));refine z1a ?_ NB103_106.out _;(with_reducible repeat (first|refine zb ?_ _|refine zf ?_|refine za ?_ _));exact BK103.out⟩,⟨by (with_reducible repeat (first|refine zb ?_ _|refine zf ?_|refine za ?_ _));refine z1a ?_ NB104_106.out _;(with_reducible repeat (first|refine zb ?_ _|refine zf ?_|refine za ?_ _));refine z1a ?_ NB104_106.out _;(with_reducible repeat (first|refine zb ?_ _|refine zf ?_|refine za ?_ _));exact BK104.out⟩,⟨by (with_reducible repeat (first|refine zb ?_ _|refine zf ?_|refine za ?_ _));refine z1m (cs:=#[.int .u64 t107,.int .u64 x107001_2]) ?_ 1 _ rfl;(with_reducible repeat (first|refine zb ?_ _|refine zf ?_|refine za ?_ _));refine z1m (cs:=#[.int .u64 x107000_2,.int .u64 x107001_2]) ?_ 0 _ rfl;(with_reducible repeat (first|refine zb ?_ _|refine zf ?_|refine za ?_ _));exact BK106.out⟩,⟨by repeat (first|(with_reducible first|exact HB.out|apply z7|apply z2|apply z6|refine zd ?_ GE101.out|refine zd ?_ GE102.out|refine zd ?_ GE103.out|refine zd ?_ GE104.out|refine zd ?_ GE106.out)|exact HB.out)⟩⟩
end Go.Proofs.Ytkhmpaooinpfoaa.P
namespace Go.Proofs.Ytkhmpaooinpfoaa.P
open Go.RowKit Go.Proofs.YtkhmpaooinpfoaaW.PrintWords Go.Proofs.YtkhmpaooinpfoaaW.PrintLast Go.Proofs.YtkhmpaooinpfoaaW.PrintMore
attribute [local go_sem] z12 z14 z1b z1c zW zX z13 z15   -- for this text's walks alone
set_option linter.unusedVariables false
set_option linter.unusedSimpArgs false
attribute [local go_sem high] eqA40
mutual
def z9.l0 : Nat → Int → List (S40) → List (S40) → List (S40) → Int → Int → Int → Option ((List (S40)))
 | 0,_,_,_,_,_,_,_=>none
 | k + 1,x0,x1,x2,x8,x9,x102000,x102001=>if x9 < (x1.length : Int) then (z9.l1 k x0 x1 x2 x8 x9 0 x102000 x102001) else (some x8)
def z9.l1 : Nat → Int → List (S40) → List (S40) → List (S40) → Int → Int → Int → Int → Option ((List (S40)))
 | 0,_,_,_,_,_,_,_,_=>none
 | k + 1,x0,x1,x2,x8,x9,x10,x102000,x102001=>if x10 < (x2.length : Int) then (if 0 ≤ x9 then (if x9 < (x1.length : Int) then (if 0 ≤ x10 then ((ze.f k ((zT x1 x9).f0) ((zT x1 x9).f1) ((zT x2 x10).f0) ((zT x2 x10).f1)).bind fun bt107=>(if (!(bt107.1 == x102000) || (!(bt107.2 == x102001))) = true then ((zt.f k x9).bind fun bt110=>((zt.f k x10).bind fun bt112=>((ze.f k bt110.1 bt110.2 bt112.1 bt112.2).bind fun bt114=>((zm.f k x0 bt114.1 bt114.2 bt107.1 bt107.2).bind fun t116=>((zk.f k x8 t116).bind fun t119=>(z9.l1 k x0 x1 x2 t119 x9 (wrap64 (x10 + 1)) x102000 x102001)))))) else (z9.l1 k x0 x1 x2 x8 x9 (wrap64 (x10 + 1)) x102000 x102001))) else (none)) else (none)) else (none)) else (z9.l0 k x0 x1 x2 x8 (wrap64 (x9 + 1)) x102000 x102001)
end
def z9.f (k : Nat) (a0 : Int) (l1 : List (S40)) (l2 : List (S40)) : Option ((List (S40))):=(zm.f k a0 0 0 0 0).bind fun t102=>(z9.l0 k a0 l1 l2 t102 0 0 0)
theorem z9.z17 : ∀ k,(∀ y0 y1 y2 y3 y4 y5 y6,LeO (z9.l0 k y0 y1 y2 y3 y4 y5 y6) (z9.l0 (k + 1) y0 y1 y2 y3 y4 y5 y6)) ∧ (∀ y0 y1 y2 y3 y4 y5 y6 y7,LeO (z9.l1 k y0 y1 y2 y3 y4 y5 y6 y7) (z9.l1 (k + 1) y0 y1 y2 y3 y4 y5 y6 y7))
 | 0=>⟨fun _ _ _ _ _ _ _ r h=>by simp [z9.l0] at h,fun _ _ _ _ _ _ _ _ r h=>by simp [z9.l1] at h⟩
 | k + 1=>by
  obtain ⟨ih0,ih1⟩:=z9.z17 k
  refine ⟨?_,?_⟩
  · intro y0 y1 y2 y3 y4 y5 y6
    unfold z9.l0
    repeat' first
    | (with_reducible exact ih0 _ _ _ _ _ _ _)
    | (with_reducible exact ih1 _ _ _ _ _ _ _ _)
    | (with_reducible exact zt.mono _ _)
    | (with_reducible exact ze.mono _ _ _ _ _)
    | (with_reducible exact zk.mono _ _ _)
    | (with_reducible exact zm.mono _ _ _ _ _ _)
    | (with_reducible exact LeO.refl _)
    | (with_reducible exact LeO.none _)
    | (with_reducible refine LeO.ite ?_ ?_)
    | (with_reducible refine LeO.bind ?_ (fun _=>?_))
    | exact ih0 _ _ _ _ _ _ _
    | exact ih1 _ _ _ _ _ _ _ _
    | exact zt.mono _ _
    | exact ze.mono _ _ _ _ _
    | exact zk.mono _ _ _
    | exact zm.mono _ _ _ _ _ _
    | exact LeO.none _
    | refine LeO.ite ?_ ?_
    | refine LeO.bind ?_ (fun _=>?_)
  · intro y0 y1 y2 y3 y4 y5 y6 y7
    unfold z9.l1
    repeat' first
    | (with_reducible exact ih0 _ _ _ _ _ _ _)
    | (with_reducible exact ih1 _ _ _ _ _ _ _ _)
    | (with_reducible exact zt.mono _ _)
    | (with_reducible exact ze.mono _ _ _ _ _)
    | (with_reducible exact zk.mono _ _ _)
    | (with_reducible exact zm.mono _ _ _ _ _ _)
    | (with_reducible exact LeO.refl _)
    | (with_reducible exact LeO.none _)
    | (with_reducible refine LeO.ite ?_ ?_)
    | (with_reducible refine LeO.bind ?_ (fun _=>?_))
    | exact ih0 _ _ _ _ _ _ _
    | exact ih1 _ _ _ _ _ _ _ _
    | exact zt.mono _ _
    | exact ze.mono _ _ _ _ _
    | exact zk.mono _ _ _
    | exact zm.mono _ _ _ _ _ _
    | exact LeO.none _
    | refine LeO.ite ?_ ?_
    | refine LeO.bind ?_ (fun _=>?_)
theorem z9.mono : ∀ a0 a1 a2 k,LeO (z9.f k a0 a1 a2) (z9.f (k + 1) a0 a1 a2):=by
 intro a0 a1 a2 k
 obtain ⟨ih0,ih1⟩:=z9.z17 k
 unfold z9.f
 repeat' first
  | (with_reducible exact ih0 _ _ _ _ _ _ _)
  | (with_reducible exact ih1 _ _ _ _ _ _ _ _)
  | (with_reducible exact zt.mono _ _)
  | (with_reducible exact ze.mono _ _ _ _ _)
  | (with_reducible exact zk.mono _ _ _)
  | (with_reducible exact zm.mono _ _ _ _ _ _)
  | (with_reducible exact LeO.refl _)
  | (with_reducible exact LeO.none _)
  | (with_reducible refine LeO.ite ?_ ?_)
  | (with_reducible refine LeO.bind ?_ (fun _=>?_))
  | exact ih0 _ _ _ _ _ _ _
  | exact ih1 _ _ _ _ _ _ _ _
  | exact zt.mono _ _
  | exact ze.mono _ _ _ _ _
  | exact zk.mono _ _ _
  | exact zm.mono _ _ _ _ _ _
  | exact LeO.none _
  | refine LeO.ite ?_ ?_
  | refine LeO.bind ?_ (fun _=>?_)
def z9.T9 : Bool × List (List Nat × List Nat):=(true,[([],[]),([],[]),([0,1],[0,1]),([2],[2]),([],[]),([],[]),([4,5],[4,5]),([6],[6]),([3,7],[3,7]),([],[]),([9,8,8,0,1,2,3,4,5,6,7,8,9],[8,9])])
def z9.B9 : List Nat:=[0,0,3,7,0,0,48,112,255,0,1023]
theorem z9.tab9 : rtab .any (opsOf Try.f46 9) = z9.T9:=by kernel_rfl
theorem z9.bits9 : waitsOk z9.T9.2 z9.B9 = true:=by kernel_rfl
def z9.T11 : Bool × List (List Nat × List Nat):=(true,[([],[]),([],[]),([],[]),([2],[2]),([],[]),([4,3],[4]),([3,5,5],[3,5]),([],[]),([1,6,7,6],[1,6,7]),([0,8,8],[0,8]),([9,9,0,1,2,3,4,5,6,7,8,9],[0,9])])
def z9.B11 : List Nat:=[0,0,0,4,0,28,60,0,254,511,1023]
theorem z9.tab11 : rtab .any (opsOf Try.f46 11) = z9.T11:=by kernel_rfl
theorem z9.bits11 : waitsOk z9.T11.2 z9.B11 = true:=by kernel_rfl
set_option maxHeartbeats 8000000 in
set_option maxRecDepth 100000 in
theorem z9.calls (k : Nat) (a0 : Int) (A1 : Option Addr) (c1 : Nat) (l1 : List (S40)) (A2 : Option Addr) (c2 : Nat) (l2 : List (S40)) (r : List (S40)) (w : World) (hr1 : Kd.C k40 w A1 l1.length l1) (hc1 : l1.length ≤ c1) (hr2 : Kd.C k40 w A2 l2.length l2) (hc2 : l2.length ≤ c2) (h : z9.f k a0 l1 l2 = some r) :
 Calls Try.prog 46 #[.int .i64 a0,.slice A1 l1.length c1,.slice A2 l2.length c2] w fun e w'=>∃ v0_ : Value,e = .returned (v0_) ∧ Kd.R k40 40 w' w.heap.size (fun _=>True) v0_ r ∧ Below w.heap.size w w':=by
 have hu40:=Try.underlying40
 have HR1:=z1.mk hr1
 have HC1:=z1.mk hc1
 clear hr1 hc1
 have HR2:=z1.mk hr2
 have HC2:=z1.mk hc2
 clear hr2 hc2
 have HB:=z1.mk (Below.refl w.heap.size w)
 have H : ((zm.f k a0 0 0 0 0).bind fun t102=>(z9.l0 k a0 l1 l2 t102 0 0 0)) = some r:=h
 clear h
 replace H:=Option.bind_eq_some_iff.mp H
 obtain ⟨t102,A40,H⟩:=H
 replace H : (z9.l0 k a0 l1 l2 t102 0 0 0) = some r:=H
 have A4:=z1.mk A40
 clear A40
 have H':=z1.mk H
 clear H
 go_enter Try.func46,Try.ntmps46
 go_wp2_with (first|((with_reducible refine zF (N:=7) rfl ?_);refine zG ?hg (N:=7) ?hd (cs:=#[.int .u64 0,.int .u64 0]) (t:=40) ?hr ?_;(case hd=>rfl);(case hg=>rfl);(case hr=>first|(go_simp;done)|(go_simp;rfl));intro gb101 hg w5 hbox hb;have n0_:=z1.mk (z4 zz28 hb);have n1_:=z1.mk (hbox);have n2_:=z1.mk ((by rw [hg];exact (z5 zz28) : w.heap.size ≤ gb101));have n3_:=z1.mk ((by rw [hg];exact (z5 zz28) : w.heap.size ≤ gb101));clear HB;have HB:=n0_;have BK101:=n1_;have GW101:=n2_;have GE101:=n3_;clear n0_ n1_ n2_ n3_;clear hb hbox hg;have hcz6_0 : w5.cell? ⟨gb101,0,none⟩ = some (.int .u64 0):=(zc BK101.out 0).trans rfl;have hcz6_1 : w5.cell? ⟨gb101,1,none⟩ = some (.int .u64 0):=(zc BK101.out 1).trans rfl;have hfz6_0:=z8 BK101.out 0;have hfz6_1:=z8 BK101.out 1)|((with_reducible refine zl (f:=97) rfl ?_);refine goesL_ (some 15) rfl rfl Try.func97 zz78 rfl #[.int .i64 a0,.agg #[.int .u64 0,.int .u64 0],.agg #[.int .u64 0,.int .u64 0]] rfl zz27 ?_;(with_reducible refine (zm.calls k a0 0 0 0 0 t102 _ A4.out).mono ?_);rintro e w7 ⟨v103,rfl,ho0,hb⟩;refine ⟨_,rfl,?_⟩;have n0_:=z1.mk (Kd.z1l (Kd.z3h ho0 (g:=gb101) (o:=.cells #[.int .u64 0,.int .u64 0] 40 (0,0)) zz29) (z5 zz25));have n1_:=z1.mk (zg (g:=gb101) (o:=.cells #[.int .u64 0,.int .u64 0] 40 (0,0)) zz29 hb);have n2_:=z1.mk (z4 zz25 hb);clear BK101;clear HB;have HO104:=n0_;have BK101:=n1_;have HB:=n2_;clear n0_ n1_ n2_;(try clear hb);(try clear hb2);(try clear hk);(try clear hi);(try clear ho0)))
 go_loopg [8,9] k (fun kq v8 v9 w'=>∃ (x8_1 : List (S40)) (x9_1 : Int),v9 = .int .i64 x9_1 ∧ z1 (z9.l0 kq a0 l1 l2 x8_1 x9_1 0 0 = some r) ∧ z1 (kq ≤ k) ∧ z1 (Kd.R k40 40 w' w.heap.size (fun k_=>k_ ≠ gb101) v8 x8_1) ∧ z1 (w'.heap[gb101]? = some (.cells #[.int .u64 0,.int .u64 0] 40 (0,0))) ∧ z1 (Below w.heap.size w w'))
 case atStart=>exact ⟨(t102),(0),zz75,H',⟨Nat.le_refl _⟩,⟨by (with_reducible repeat (first|apply Kd.zC|apply Kd.zD|apply Kd.zO));exact Kd.z16 HO104.out (fun _ hk=>hk.2)⟩,⟨by (with_reducible repeat (first|refine zb ?_ _|refine zf ?_|refine za ?_ _));exact BK101.out⟩,⟨by repeat (first|(with_reducible first|exact HB.out|apply z7|apply z2|apply z6|refine zd ?_ GE101.out)|exact HB.out)⟩⟩
 case round =>
  clear H'
  (try clear c1);(try clear c2);(try clear p2);(try clear c4);(try clear hcz6_0);(try clear hcz6_1);(try clear hfz6_0);(try clear hfz6_1)
  obtain ⟨x8_1,x9_1,rfl,HA,HK1,HO_8,BK101,HB⟩:=hrel
  cases gk with
  | zero=>exact absurd HA.out (by simp [z9.l0])
  | succ k1 =>
   have H:=HA.out
   clear HA
   simp only [z9.l0] at H
   by_cases c8 : x9_1 < (l1.length : Int)
   rotate_left
   · rw [if_neg c8] at H
     have c8b0 : decide (x9_1 < (l1.length : Int)) = false:=decide_eq_false c8
     clear c8
     obtain rfl:=Option.some.inj H
     go_wp2
     go_ret
     exact ⟨_,by first|rfl|(simp [zi,zj] <;> rfl)|(simp [*,zi,zj] <;> rfl),by (with_reducible repeat (first|apply Kd.zC|apply Kd.zD|apply Kd.zO));exact Kd.z16 HO_8.out (fun _ hk=>trivial),by repeat (first|(with_reducible first|exact HB.out|apply z7|apply z2|apply z6|refine zd ?_ GE101.out)|exact HB.out)⟩
   rw [if_pos c8] at H
   have c8b0 : decide (x9_1 < (l1.length : Int)) = true:=decide_eq_true c8
   clear c8
   have H':=z1.mk H
   clear H
   go_wp2
   go_loopg [8,10] k1 (fun kq v8 v10 w'=>∃ (x8_2 : List (S40)) (x10_2 : Int),v10 = .int .i64 x10_2 ∧ z1 (z9.l1 kq a0 l1 l2 x8_2 x9_1 x10_2 0 0 = some r) ∧ z1 (kq ≤ k1) ∧ z1 (Kd.R k40 40 w' w.heap.size (fun k_=>k_ ≠ gb101) v8 x8_2) ∧ z1 (w'.heap[gb101]? = some (.cells #[.int .u64 0,.int .u64 0] 40 (0,0))) ∧ z1 (Below w.heap.size w w'))
   case atStart=>exact ⟨(x8_1),(0),zz75,H',⟨Nat.le_refl _⟩,⟨by (with_reducible repeat (first|apply Kd.zC|apply Kd.zD|apply Kd.zO));exact HO_8.out⟩,⟨by (with_reducible repeat (first|refine zb ?_ _|refine zf ?_|refine za ?_ _));exact BK101.out⟩,⟨by repeat (first|(with_reducible first|exact HB.out|apply z7|apply z2|apply z6|refine zd ?_ GE101.out)|exact HB.out)⟩⟩
   case round =>
    clear H'
    (try clear c1);(try clear c2);(try clear p2);(try clear c4);(try clear c8);(try clear c8b0);(try clear hcz6_0);(try clear hcz6_1);(try clear hfz6_0);(try clear hfz6_1);(try clear p2)
    obtain ⟨x8_2,x10_2,rfl,HA,HK2,HO_8,BK101,HB⟩:=hrel
    cases gk with
    | zero=>exact absurd HA.out (by simp [z9.l1])
    | succ k2 =>
     have H:=HA.out
     clear HA
     simp only [z9.l1] at H
     by_cases c9 : x10_2 < (l2.length : Int)
     rotate_left
     · rw [if_neg c9] at H
       have c9b0 : decide (x10_2 < (l2.length : Int)) = false:=decide_eq_false c9
       clear c9
       have H':=z1.mk H
       clear H
       go_wp2
       go_roundg k2
       case measure=>have:=HK1.out;have:=HK2.out;omega
       case rel=>exact ⟨(x8_2),(wrap64 (x9_1 + 1)),zz75,H',⟨by have:=HK1.out;have:=HK2.out;omega⟩,⟨by (with_reducible repeat (first|apply Kd.zC|apply Kd.zD|apply Kd.zO));exact HO_8.out⟩,⟨by (with_reducible repeat (first|refine zb ?_ _|refine zf ?_|refine za ?_ _));exact BK101.out⟩,⟨by repeat (first|(with_reducible first|exact HB.out|apply z7|apply z2|apply z6|refine zd ?_ GE101.out)|exact HB.out)⟩⟩
     rw [if_pos c9] at H
     have c9b0 : decide (x10_2 < (l2.length : Int)) = true:=decide_eq_true c9
     clear c9
     by_cases c10 : 0 ≤ x9_1
     rotate_left
     · rw [if_neg c10] at H
       exact absurd H zz81
     rw [if_pos c10] at H
     have c10b0 : decide (0 ≤ x9_1) = true:=decide_eq_true c10
     clear c10
     by_cases c11 : x9_1 < (l1.length : Int)
     rotate_left
     · rw [if_neg c11] at H
       exact absurd H zz81
     rw [if_pos c11] at H
     have c11b0 : decide (x9_1 < (l1.length : Int)) = true:=decide_eq_true c11
     clear c11
     by_cases c12 : 0 ≤ x10_2
     rotate_left
     · rw [if_neg c12] at H
       exact absurd H zz81
     rw [if_pos c12] at H
     have c12b0 : decide (0 ≤ x10_2) = true:=decide_eq_true c12
     clear c12
     replace H:=Option.bind_eq_some_iff.mp H
     obtain ⟨⟨t107,t108⟩,A130,H⟩:=H
     replace H : (if (!(t107 == 0) || (!(t108 == 0))) = true then ((zt.f k2 x9_1).bind fun bt110=>((zt.f k2 x10_2).bind fun bt112=>((ze.f k2 bt110.1 bt110.2 bt112.1 bt112.2).bind fun bt114=>((zm.f k2 a0 bt114.1 bt114.2 t107 t108).bind fun t116=>((zk.f k2 x8_2 t116).bind fun t119=>(z9.l1 k2 a0 l1 l2 t119 x9_1 (wrap64 (x10_2 + 1)) 0 0)))))) else (z9.l1 k2 a0 l1 l2 x8_2 x9_1 (wrap64 (x10_2 + 1)) 0 0)) = some r:=H
     have A13:=z1.mk A130
     clear A130
     by_cases c14 : (!(t107 == 0) || (!(t108 == 0))) = true
     rotate_left
     · rw [if_neg c14] at H
       have c14b0 : (!(t107 == 0) || (!(t108 == 0))) = false:=by simpa using c14
       clear c14
       have H':=z1.mk H
       clear H
       try go_wp2
       have n0_:=z1.mk (Kd.zO HO_8.out)
       have n1_:=z1.mk (zf BK101.out)
       have n2_:=z1.mk (z6 HB.out)
       clear HO_8
       clear BK101
       clear HB
       have HO_8:=n0_
       have BK101:=n1_
       have HB:=n2_
       clear n0_ n1_ n2_
       have p105 : 0 ≤ (x9_1 : Int):=of_decide_eq_true zz74
       have q105 : x9_1 < (l1.length : Int):=of_decide_eq_true zz74
       obtain ⟨ad105,e105,hx105_0,hx105_1⟩:=z31 HR1.out x9_1 p105 q105
       have hw105_1:=hx105_1
       have hw105_0:=hx105_0
       cases e105
       replace hx105_0:=(HB.out.cell (World.block_lt_of_cell? w _ hx105_0)).trans hx105_0
       replace hx105_1:=(HB.out.cell (World.block_lt_of_cell? w _ hx105_1)).trans hx105_1
       replace p105:=eq_true p105
       replace q105:=eq_true q105
       have p106 : 0 ≤ (x10_2 : Int):=of_decide_eq_true zz74
       have q106 : x10_2 < (l2.length : Int):=of_decide_eq_true zz74
       obtain ⟨ad106,e106,hx106_0,hx106_1⟩:=z31 HR2.out x10_2 p106 q106
       have hw106_1:=hx106_1
       have hw106_0:=hx106_0
       cases e106
       replace hx106_0:=(HB.out.cell (World.block_lt_of_cell? w _ hx106_0)).trans hx106_0
       replace hx106_1:=(HB.out.cell (World.block_lt_of_cell? w _ hx106_1)).trans hx106_1
       replace p106:=eq_true p106
       replace q106:=eq_true q106
       refine start_ (n:=11) (S:=fun w'=>w'.cell? (ad105.add ((x9_1).toNat * 2)) = some (.int .u64 ((zT l1 x9_1).f0)) ∧ w'.cell? ⟨(ad105.add ((x9_1).toNat * 2)).block,(ad105.add ((x9_1).toNat * 2)).off + 1,none⟩ = some (.int .u64 ((zT l1 x9_1).f1)) ∧ w'.cell? (ad106.add ((x10_2).toNat * 2)) = some (.int .u64 ((zT l2 x10_2).f0)) ∧ w'.cell? ⟨(ad106.add ((x10_2).toNat * 2)).block,(ad106.add ((x10_2).toNat * 2)).off + 1,none⟩ = some (.int .u64 ((zT l2 x10_2).f1))) (ds:=[]) #[false,false,false,false,false,false,false,false,false,false,false] zz78 rfl rfl ⟨((HB.out.cell (World.block_lt_of_cell? w _ hw105_0)).trans hw105_0),((HB.out.cell (World.block_lt_of_cell? w _ hw105_1)).trans hw105_1),((HB.out.cell (World.block_lt_of_cell? w _ hw106_0)).trans hw106_0),((HB.out.cell (World.block_lt_of_cell? w _ hw106_1)).trans hw106_1)⟩ (fun hHeld=>?_);refine z22 z9.tab9 z9.bits9 (fun HT_ HW_=>?_)
       generalize wr.drew = w38 at HO_8 BK101 HB hx105_0 hx105_1 hx106_0 hx106_1 hHeld ⊢
       refine pure_ (i:=0) (N:=some 28) (v:=?_) (a':=?_) #[true,false,false,false,false,false,false,false,false,false,false] rfl rfl (z1e HT_.out zz78) (fun _ _ _ h=>h) (Or.inl ⟨by rfl,?_⟩) ?_ ?_
       rotate_left
       · intro w'
         go_simp
         with_reducible rfl
       rotate_left
       · simp only [Act.put,List.setIfInBounds_toArray,List.set_cons_zero,List.set_cons_succ,zS,zZ]
         rfl
       refine pure_ (i:=1) (N:=some 29) (v:=?_) (a':=?_) #[true,true,false,false,false,false,false,false,false,false,false] rfl rfl (z1e HT_.out zz78) (fun _ _ _ h=>h) (Or.inl ⟨by rfl,?_⟩) ?_ ?_
       rotate_left
       · intro w'
         go_simp
         with_reducible rfl
       rotate_left
       · simp only [Act.put,List.setIfInBounds_toArray,List.set_cons_zero,List.set_cons_succ,zS,zZ]
         rfl
       refine pure_ (i:=2) (N:=some 30) (v:=?_) (a':=?_) #[true,true,true,false,false,false,false,false,false,false,false] rfl rfl (z1e HT_.out zz78) (fun _ _ _ h=>h) (Or.inl ⟨by rfl,?_⟩) ?_ ?_
       rotate_left
       · intro w'
         go_simp
         with_reducible rfl
       rotate_left
       · simp only [Act.put,List.setIfInBounds_toArray,List.set_cons_zero,List.set_cons_succ,zS,zZ]
         rfl
       refine pure_ (i:=4) (N:=some 32) (v:=?_) (a':=?_) #[true,true,true,false,true,false,false,false,false,false,false] rfl rfl (z1e HT_.out zz78) (fun _ _ _ h=>h) (Or.inl ⟨by rfl,?_⟩) ?_ ?_
       rotate_left
       · intro w'
         go_simp
         with_reducible rfl
       rotate_left
       · simp only [Act.put,List.setIfInBounds_toArray,List.set_cons_zero,List.set_cons_succ,zS,zZ]
         rfl
       refine pure_ (i:=5) (N:=some 33) (v:=?_) (a':=?_) #[true,true,true,false,true,true,false,false,false,false,false] rfl rfl (z1e HT_.out zz78) (fun _ _ _ h=>h) (Or.inl ⟨by rfl,?_⟩) ?_ ?_
       rotate_left
       · intro w'
         go_simp
         with_reducible rfl
       rotate_left
       · simp only [Act.put,List.setIfInBounds_toArray,List.set_cons_zero,List.set_cons_succ,zS,zZ]
         rfl
       refine pure_ (i:=6) (N:=some 34) (v:=?_) (a':=?_) #[true,true,true,false,true,true,true,false,false,false,false] rfl rfl (z1e HT_.out zz78) (fun _ _ _ h=>h) (Or.inl ⟨by rfl,?_⟩) ?_ ?_
       rotate_left
       · intro w'
         go_simp
         with_reducible rfl
       rotate_left
       · simp only [Act.put,List.setIfInBounds_toArray,List.set_cons_zero,List.set_cons_succ,zS,zZ]
         rfl
       refine take_ (i:=3) (N:=some 31) (v:=?_) (a':=?_) #[true,true,true,true,true,true,true,false,false,false,false] rfl rfl (z1I HT_.out HW_.out zz78) (fun _ _ _ h=>h) (Or.inl ⟨by rfl,?_⟩) hHeld ?_ ?_
       rotate_left
       · rintro w' ⟨s0,s1,s2,s3⟩
         go_simp
         with_reducible rfl
       rotate_left
       · simp only [Act.put,List.setIfInBounds_toArray,List.set_cons_zero,List.set_cons_succ,zS,zZ]
         rfl
       refine take_ (i:=7) (N:=some 35) (v:=?_) (a':=?_) #[true,true,true,true,true,true,true,true,false,false,false] rfl rfl (z1I HT_.out HW_.out zz78) (fun _ _ _ h=>h) (Or.inl ⟨by rfl,?_⟩) hHeld ?_ ?_
       rotate_left
       · rintro w' ⟨s0,s1,s2,s3⟩
         go_simp
         with_reducible rfl
       rotate_left
       · simp only [Act.put,List.setIfInBounds_toArray,List.set_cons_zero,List.set_cons_succ,zS,zZ]
         rfl
       refine join_ (σ:=Nat) 1 #[true,true,true,true,true,true,true,true,true,true,false] (fun s_=>[(36,.agg #[.int .u64 t107,.int .u64 t108]),(11,.pointer (some ⟨s_,0,none⟩))]) (fun s_ w'=>(w'.cell? (ad105.add ((x9_1).toNat * 2)) = some (.int .u64 ((zT l1 x9_1).f0)) ∧ w'.cell? ⟨(ad105.add ((x9_1).toNat * 2)).block,(ad105.add ((x9_1).toNat * 2)).off + 1,none⟩ = some (.int .u64 ((zT l1 x9_1).f1)) ∧ w'.cell? (ad106.add ((x10_2).toNat * 2)) = some (.int .u64 ((zT l2 x10_2).f0)) ∧ w'.cell? ⟨(ad106.add ((x10_2).toNat * 2)).block,(ad106.add ((x10_2).toNat * 2)).off + 1,none⟩ = some (.int .u64 ((zT l2 x10_2).f1))) ∧ (Kd.R k40 40 w' w.heap.size (fun k_=>k_ ≠ gb101 ∧ k_ ≠ s_) u8 x8_2) ∧ (w'.heap[gb101]? = some (.cells #[.int .u64 0,.int .u64 0] 40 (0,0))) ∧ (w'.heap[s_]? = some (.cells #[.int .u64 0,.int .u64 0] 40 (0,0))) ∧ (w.heap.size ≤ s_) ∧ (w.heap.size ≤ s_) ∧ (gb101 ≠ s_) ∧ (s_ ≠ gb101) ∧ (Below w.heap.size w w')) ?_ ?_
       rotate_left
       · intro hCont
         refine two_ (i:=8) (j:=9) (Ni:=some 36) (Nj:=some 11) #[true,true,true,true,true,true,true,true,true,false,false] #[true,true,true,true,true,true,true,true,false,true,false] rfl rfl rfl rfl (two_of HT_.out zz78) zz79 zz79 (fun K hK=>?_) (fun K hK=>?_)
         · skip
           refine goes_ Try.func71 zz78 rfl #[.agg #[.int .u64 ((zT l1 x9_1).f0),.int .u64 ((zT l1 x9_1).f1)],.agg #[.int .u64 ((zT l2 x10_2).f0),.int .u64 ((zT l2 x10_2).f1)]] zz82 rfl rfl zz27 ?_
           with_reducible refine (ze.calls k2 ((zT l1 x9_1).f0) ((zT l1 x9_1).f1) ((zT l2 x10_2).f0) ((zT l2 x10_2).f1) t107 t108 _ A13.out).mono ?_
           rintro e w39 ⟨rfl,hb⟩
           refine ⟨_,rfl,?_⟩
           have n0_:=z1.mk (Kd.zJ zz59 hb)
           have n1_:=z1.mk (zg (g:=gb101) (o:=.cells #[.int .u64 0,.int .u64 0] 40 (0,0)) zz29 hb)
           have n2_:=z1.mk (z4 zz25 hb)
           clear HO_8
           clear BK101
           clear HB
           have HO_8:=n0_
           have BK101:=n1_
           have HB:=n2_
           clear n0_ n1_ n2_
           (try clear hb)
           (try clear hb2)
           (try clear hk)
           (try clear hi)
           refine hK.out _ _ ⟨((HB.out.cell (World.block_lt_of_cell? w _ hw105_0)).trans hw105_0),((HB.out.cell (World.block_lt_of_cell? w _ hw105_1)).trans hw105_1),((HB.out.cell (World.block_lt_of_cell? w _ hw106_0)).trans hw106_0),((HB.out.cell (World.block_lt_of_cell? w _ hw106_1)).trans hw106_1)⟩ (fun hHeld=>?_)
           clear hK K
           refine norm_ (a':=?_) ?_ ?_
           rotate_left
           · show Act.put _ (some 36) _ = _
             simp only [Act.put,List.setIfInBounds_toArray,List.set_cons_zero,List.set_cons_succ,zS,zZ]
             rfl
           refine one_ (i:=9) (N:=some 11) #[true,true,true,true,true,true,true,true,true,true,false] rfl rfl (z1J HT_.out zz78) zz79 (fun K hK=>?_)
           refine z3V ?hg (N:=11) ?hd (cs:=#[.int .u64 0,.int .u64 0]) (t:=40) ?hr ?_;(case hd=>rfl);(case hg=>rfl);(case hr=>first|(go_simp;done)|(go_simp;rfl))
           intro gb109 hg w40 hbox hb
           have n0_:=z1.mk (Kd.zJ (Kd.z1U zz59 gb109 (Nat.le_of_eq hg.symm)) hb)
           have n1_:=z1.mk (zg (g:=gb101) (o:=.cells #[.int .u64 0,.int .u64 0] 40 (0,0)) zz29 hb)
           have n2_:=z1.mk (z4 zz25 hb)
           have n3_:=z1.mk (hbox)
           have n4_:=z1.mk ((by rw [hg];exact (z5 zz25) : w.heap.size ≤ gb109))
           have n5_:=z1.mk ((by rw [hg];exact (z5 zz25) : w.heap.size ≤ gb109))
           have n6_:=z1.mk ((by rw [hg];exact Nat.ne_of_lt (zU (g:=gb101) (o:=.cells #[.int .u64 0,.int .u64 0] 40 (0,0)) zz29) : gb101 ≠ gb109))
           have n7_:=z1.mk ((by rw [hg];exact Nat.ne_of_gt (zU (g:=gb101) (o:=.cells #[.int .u64 0,.int .u64 0] 40 (0,0)) zz29) : gb109 ≠ gb101))
           clear HO_8
           clear BK101
           clear HB
           have HO_8:=n0_
           have BK101:=n1_
           have HB:=n2_
           have BK109:=n3_
           have GW109:=n4_
           have GE109:=n5_
           have NB101_109:=n6_
           have NB109_101:=n7_
           clear n0_ n1_ n2_ n3_ n4_ n5_ n6_ n7_
           clear hb hbox hg
           refine hK.out _ _ ⟨((HB.out.cell (World.block_lt_of_cell? w _ hw105_0)).trans hw105_0),((HB.out.cell (World.block_lt_of_cell? w _ hw105_1)).trans hw105_1),((HB.out.cell (World.block_lt_of_cell? w _ hw106_0)).trans hw106_0),((HB.out.cell (World.block_lt_of_cell? w _ hw106_1)).trans hw106_1)⟩ (fun hHeld=>?_)
           clear hK K
           refine norm_ (a':=?_) ?_ ?_
           rotate_left
           · show Act.put _ (some 11) _ = _
             simp only [Act.put,List.setIfInBounds_toArray,List.set_cons_zero,List.set_cons_succ,zS,zZ]
             rfl
           exact norm_ zz63 (hCont (gb109) _ ⟨hHeld,zz59,zz29,zz35,GW109.out,GE109.out,NB101_109.out,NB109_101.out,zz24⟩)
         · skip
           refine z3V ?hg (N:=11) ?hd (cs:=#[.int .u64 0,.int .u64 0]) (t:=40) ?hr ?_;(case hd=>rfl);(case hg=>rfl);(case hr=>first|(go_simp;done)|(go_simp;rfl))
           intro gb109 hg w39 hbox hb
           have n0_:=z1.mk (Kd.zJ (Kd.z1U zz59 gb109 (Nat.le_of_eq hg.symm)) hb)
           have n1_:=z1.mk (zg (g:=gb101) (o:=.cells #[.int .u64 0,.int .u64 0] 40 (0,0)) zz29 hb)
           have n2_:=z1.mk (z4 zz25 hb)
           have n3_:=z1.mk (hbox)
           have n4_:=z1.mk ((by rw [hg];exact (z5 zz25) : w.heap.size ≤ gb109))
           have n5_:=z1.mk ((by rw [hg];exact (z5 zz25) : w.heap.size ≤ gb109))
           have n6_:=z1.mk ((by rw [hg];exact Nat.ne_of_lt (zU (g:=gb101) (o:=.cells #[.int .u64 0,.int .u64 0] 40 (0,0)) zz29) : gb101 ≠ gb109))
           have n7_:=z1.mk ((by rw [hg];exact Nat.ne_of_gt (zU (g:=gb101) (o:=.cells #[.int .u64 0,.int .u64 0] 40 (0,0)) zz29) : gb109 ≠ gb101))
           clear HO_8
           clear BK101
           clear HB
           have HO_8:=n0_
           have BK101:=n1_
           have HB:=n2_
           have BK109:=n3_
           have GW109:=n4_
           have GE109:=n5_
           have NB101_109:=n6_
           have NB109_101:=n7_
           clear n0_ n1_ n2_ n3_ n4_ n5_ n6_ n7_
           clear hb hbox hg
           refine hK.out _ _ ⟨((HB.out.cell (World.block_lt_of_cell? w _ hw105_0)).trans hw105_0),((HB.out.cell (World.block_lt_of_cell? w _ hw105_1)).trans hw105_1),((HB.out.cell (World.block_lt_of_cell? w _ hw106_0)).trans hw106_0),((HB.out.cell (World.block_lt_of_cell? w _ hw106_1)).trans hw106_1)⟩ (fun hHeld=>?_)
           clear hK K
           refine norm_ (a':=?_) ?_ ?_
           rotate_left
           · show Act.put _ (some 11) _ = _
             simp only [Act.put,List.setIfInBounds_toArray,List.set_cons_zero,List.set_cons_succ,zS,zZ]
             rfl
           refine one_ (i:=8) (N:=some 36) #[true,true,true,true,true,true,true,true,true,true,false] rfl rfl (z1J HT_.out zz78) zz79 (fun K hK=>?_)
           refine goes_ Try.func71 zz78 rfl #[.agg #[.int .u64 ((zT l1 x9_1).f0),.int .u64 ((zT l1 x9_1).f1)],.agg #[.int .u64 ((zT l2 x10_2).f0),.int .u64 ((zT l2 x10_2).f1)]] zz82 rfl rfl zz27 ?_
           with_reducible refine (ze.calls k2 ((zT l1 x9_1).f0) ((zT l1 x9_1).f1) ((zT l2 x10_2).f0) ((zT l2 x10_2).f1) t107 t108 _ A13.out).mono ?_
           rintro e w40 ⟨rfl,hb⟩
           refine ⟨_,rfl,?_⟩
           have n0_:=z1.mk (Kd.zJ zz59 hb)
           have n1_:=z1.mk (zg (g:=gb101) (o:=.cells #[.int .u64 0,.int .u64 0] 40 (0,0)) zz29 hb)
           have n2_:=z1.mk (zg (g:=gb109) (o:=.cells #[.int .u64 0,.int .u64 0] 40 (0,0)) zz35 hb)
           have n3_:=z1.mk (z4 zz24 hb)
           clear HO_8
           clear BK101
           clear BK109
           clear HB
           have HO_8:=n0_
           have BK101:=n1_
           have BK109:=n2_
           have HB:=n3_
           clear n0_ n1_ n2_ n3_
           (try clear hb)
           (try clear hb2)
           (try clear hk)
           (try clear hi)
           refine hK.out _ _ ⟨((HB.out.cell (World.block_lt_of_cell? w _ hw105_0)).trans hw105_0),((HB.out.cell (World.block_lt_of_cell? w _ hw105_1)).trans hw105_1),((HB.out.cell (World.block_lt_of_cell? w _ hw106_0)).trans hw106_0),((HB.out.cell (World.block_lt_of_cell? w _ hw106_1)).trans hw106_1)⟩ (fun hHeld=>?_)
           clear hK K
           refine norm_ (a':=?_) ?_ ?_
           rotate_left
           · show Act.put _ (some 36) _ = _
             simp only [Act.put,List.setIfInBounds_toArray,List.set_cons_zero,List.set_cons_succ,zS,zZ]
             rfl
           exact norm_ zz63 (hCont (gb109) _ ⟨hHeld,zz59,zz29,zz35,GW109.out,GE109.out,NB101_109.out,NB109_101.out,zz24⟩)
       rintro gb109 w41 ⟨hS_,h0_,h1_,h2_,h3_,h4_,h5_,h6_,h7_⟩
       have n0_ : z1 (Kd.R k40 40 w41 w.heap.size (fun k_=>k_ ≠ gb101 ∧ k_ ≠ gb109) u8 x8_2):=⟨h0_⟩
       have n1_ : z1 (w41.heap[gb101]? = some (.cells #[.int .u64 0,.int .u64 0] 40 (0,0))):=⟨h1_⟩
       have n2_ : z1 (w41.heap[gb109]? = some (.cells #[.int .u64 0,.int .u64 0] 40 (0,0))):=⟨h2_⟩
       have n3_ : z1 (w.heap.size ≤ gb109):=⟨h3_⟩
       have n4_ : z1 (w.heap.size ≤ gb109):=⟨h4_⟩
       have n5_ : z1 (gb101 ≠ gb109):=⟨h5_⟩
       have n6_ : z1 (gb109 ≠ gb101):=⟨h6_⟩
       have n7_ : z1 (Below w.heap.size w w41):=⟨h7_⟩
       clear HO_8
       clear BK101
       clear HB
       clear h0_ h1_ h2_ h3_ h4_ h5_ h6_ h7_
       have HO_8:=n0_
       have BK101:=n1_
       have BK109:=n2_
       have GW109:=n3_
       have GE109:=n4_
       have NB101_109:=n5_
       have NB109_101:=n6_
       have HB:=n7_
       clear n0_ n1_ n2_ n3_ n4_ n5_ n6_ n7_
       have hHeld : w41.cell? (ad105.add ((x9_1).toNat * 2)) = some (.int .u64 ((zT l1 x9_1).f0)) ∧ w41.cell? ⟨(ad105.add ((x9_1).toNat * 2)).block,(ad105.add ((x9_1).toNat * 2)).off + 1,none⟩ = some (.int .u64 ((zT l1 x9_1).f1)) ∧ w41.cell? (ad106.add ((x10_2).toNat * 2)) = some (.int .u64 ((zT l2 x10_2).f0)) ∧ w41.cell? ⟨(ad106.add ((x10_2).toNat * 2)).block,(ad106.add ((x10_2).toNat * 2)).off + 1,none⟩ = some (.int .u64 ((zT l2 x10_2).f1)):=hS_
       refine norm_ (a':=?_) ?_ ?_
       rotate_left
       · simp only [putAll,Act.put,List.setIfInBounds_toArray,List.set_cons_zero,List.set_cons_succ]
         rfl
       refine one_ (i:=10) (N:=none) #[true,true,true,true,true,true,true,true,true,true,true] rfl rfl (z1J HT_.out zz78) zz79 (fun K hK=>?_)
       have hs42 : w41.cell? ⟨gb109,0,none⟩ = some (.int .u64 0):=(zc BK109.out 0).trans rfl
       have hfs42:=z8 BK109.out 0
       have hns42_0:=NB101_109.out
       have hms42_0:=NB109_101.out
       have hs43 : w41.cell? ⟨gb109,1,none⟩ = some (.int .u64 0):=(zc BK109.out 1).trans rfl
       have hfs43:=z8 BK109.out 1
       have hns43_0:=NB101_109.out
       have hms43_0:=NB109_101.out
       refine skip_ (w1:=?_) zz82 rfl ?_ ?_
       rotate_left
       · go_simp
         rfl
       refine hK.out _ _ ⟨((z1z (p:=⟨gb109,_,none⟩) zz0 _).trans (((z1z (p:=⟨gb109,_,none⟩) zz0 _).trans (hHeld.1)))),((z1z (p:=⟨gb109,_,none⟩) zz1 _).trans (((z1z (p:=⟨gb109,_,none⟩) zz1 _).trans (hHeld.2.1)))),((z1z (p:=⟨gb109,_,none⟩) zz2 _).trans (((z1z (p:=⟨gb109,_,none⟩) zz2 _).trans (hHeld.2.2.1)))),((z1z (p:=⟨gb109,_,none⟩) zz3 _).trans (((z1z (p:=⟨gb109,_,none⟩) zz3 _).trans (hHeld.2.2.2))))⟩ (fun hHeld=>?_)
       clear hK K
       refine done_ (z2q HT_.out zz78) ?_
       have hnb44:=NB109_101.out
       have hnc44:=NB101_109.out
       have hcz45_0 : w41.cell? ⟨gb109,0,none⟩ = some (.int .u64 0):=(zc BK109.out 0).trans rfl
       have hcz45_1 : w41.cell? ⟨gb109,1,none⟩ = some (.int .u64 0):=(zc BK109.out 1).trans rfl
       have hfz45_0:=z8 BK109.out 0
       have hfz45_1:=z8 BK109.out 1
       have hcz46_0 : w41.cell? ⟨gb101,0,none⟩ = some (.int .u64 0):=(zc BK101.out 0).trans rfl
       have hcz46_1 : w41.cell? ⟨gb101,1,none⟩ = some (.int .u64 0):=(zc BK101.out 1).trans rfl
       have hfz46_0:=z8 BK101.out 0
       have hfz46_1:=z8 BK101.out 1
       try go_wp2
       go_roundg k2
       case measure=>have:=HK1.out;have:=HK2.out;omega
       case rel=>exact ⟨(x8_2),(wrap64 (x10_2 + 1)),zz75,H',⟨by have:=HK1.out;have:=HK2.out;omega⟩,⟨by (with_reducible repeat (first|apply Kd.zC|apply Kd.zD|apply Kd.zO));exact Kd.z16 (Kd.z2u (p:=⟨gb109,1,none⟩) (Kd.z2u (p:=⟨gb109,0,none⟩) (Kd.z16 HO_8.out (fun k_ hk=>(⟨hk,hk.2⟩ : _ ∧ k_ ≠ gb109))) (fun _ hk=>hk.2) (.int .u64 t107)) (fun _ hk=>hk.2) (.int .u64 t108)) (fun _ hk=>hk.1.1)⟩,⟨by (with_reducible repeat (first|refine zb ?_ _|refine zf ?_|refine za ?_ _));refine z1a ?_ NB101_109.out _;(with_reducible repeat (first|refine zb ?_ _|refine zf ?_|refine za ?_ _));refine z1a ?_ NB101_109.out _;(with_reducible repeat (first|refine zb ?_ _|refine zf ?_|refine za ?_ _));exact BK101.out⟩,⟨by repeat (first|(with_reducible first|exact HB.out|apply z7|apply z2|apply z6|refine zd ?_ GE101.out|refine zd ?_ GE109.out)|exact HB.out)⟩⟩
     rw [if_pos c14] at H
     have c14b0 : (!(t107 == 0) || (!(t108 == 0))) = true:=c14
     clear c14
     replace H:=Option.bind_eq_some_iff.mp H
     obtain ⟨⟨t110,t111⟩,A150,H⟩:=H
     replace H : ((zt.f k2 x10_2).bind fun bt112=>((ze.f k2 t110 t111 bt112.1 bt112.2).bind fun bt114=>((zm.f k2 a0 bt114.1 bt114.2 t107 t108).bind fun t116=>((zk.f k2 x8_2 t116).bind fun t119=>(z9.l1 k2 a0 l1 l2 t119 x9_1 (wrap64 (x10_2 + 1)) 0 0))))) = some r:=H
     have A15:=z1.mk A150
     clear A150
     replace H:=Option.bind_eq_some_iff.mp H
     obtain ⟨⟨t112,t113⟩,A160,H⟩:=H
     replace H : ((ze.f k2 t110 t111 t112 t113).bind fun bt114=>((zm.f k2 a0 bt114.1 bt114.2 t107 t108).bind fun t116=>((zk.f k2 x8_2 t116).bind fun t119=>(z9.l1 k2 a0 l1 l2 t119 x9_1 (wrap64 (x10_2 + 1)) 0 0)))) = some r:=H
     have A16:=z1.mk A160
     clear A160
     replace H:=Option.bind_eq_some_iff.mp H
     obtain ⟨⟨t114,t115⟩,A170,H⟩:=H
     replace H : ((zm.f k2 a0 t114 t115 t107 t108).bind fun t116=>((zk.f k2 x8_2 t116).bind fun t119=>(z9.l1 k2 a0 l1 l2 t119 x9_1 (wrap64 (x10_2 + 1)) 0 0))) = some r:=H
     have A17:=z1.mk A170
     clear A170
     replace H:=Option.bind_eq_some_iff.mp H
     obtain ⟨t116,A180,H⟩:=H
     replace H : ((zk.f k2 x8_2 t116).bind fun t119=>(z9.l1 k2 a0 l1 l2 t119 x9_1 (wrap64 (x10_2 + 1)) 0 0)) = some r:=H
     have A18:=z1.mk A180
     clear A180
     replace H:=Option.bind_eq_some_iff.mp H
     obtain ⟨t119,A190,H⟩:=H
     replace H : (z9.l1 k2 a0 l1 l2 t119 x9_1 (wrap64 (x10_2 + 1)) 0 0) = some r:=H
     have A19:=z1.mk A190
     clear A190
     have H':=z1.mk H
     clear H
     try go_wp2
     have n0_:=z1.mk (Kd.zO HO_8.out)
     have n1_:=z1.mk (zf BK101.out)
     have n2_:=z1.mk (z6 HB.out)
     clear HO_8
     clear BK101
     clear HB
     have HO_8:=n0_
     have BK101:=n1_
     have HB:=n2_
     clear n0_ n1_ n2_
     have p105 : 0 ≤ (x9_1 : Int):=of_decide_eq_true zz74
     have q105 : x9_1 < (l1.length : Int):=of_decide_eq_true zz74
     obtain ⟨ad105,e105,hx105_0,hx105_1⟩:=z31 HR1.out x9_1 p105 q105
     have hw105_1:=hx105_1
     have hw105_0:=hx105_0
     cases e105
     replace hx105_0:=(HB.out.cell (World.block_lt_of_cell? w _ hx105_0)).trans hx105_0
     replace hx105_1:=(HB.out.cell (World.block_lt_of_cell? w _ hx105_1)).trans hx105_1
     replace p105:=eq_true p105
     replace q105:=eq_true q105
     have p106 : 0 ≤ (x10_2 : Int):=of_decide_eq_true zz74
     have q106 : x10_2 < (l2.length : Int):=of_decide_eq_true zz74
     obtain ⟨ad106,e106,hx106_0,hx106_1⟩:=z31 HR2.out x10_2 p106 q106
     have hw106_1:=hx106_1
     have hw106_0:=hx106_0
     cases e106
     replace hx106_0:=(HB.out.cell (World.block_lt_of_cell? w _ hx106_0)).trans hx106_0
     replace hx106_1:=(HB.out.cell (World.block_lt_of_cell? w _ hx106_1)).trans hx106_1
     replace p106:=eq_true p106
     replace q106:=eq_true q106
     refine start_ (n:=11) (S:=fun w'=>w'.cell? (ad105.add ((x9_1).toNat * 2)) = some (.int .u64 ((zT l1 x9_1).f0)) ∧ w'.cell? ⟨(ad105.add ((x9_1).toNat * 2)).block,(ad105.add ((x9_1).toNat * 2)).off + 1,none⟩ = some (.int .u64 ((zT l1 x9_1).f1)) ∧ w'.cell? (ad106.add ((x10_2).toNat * 2)) = some (.int .u64 ((zT l2 x10_2).f0)) ∧ w'.cell? ⟨(ad106.add ((x10_2).toNat * 2)).block,(ad106.add ((x10_2).toNat * 2)).off + 1,none⟩ = some (.int .u64 ((zT l2 x10_2).f1))) (ds:=[]) #[false,false,false,false,false,false,false,false,false,false,false] zz78 rfl rfl ⟨((HB.out.cell (World.block_lt_of_cell? w _ hw105_0)).trans hw105_0),((HB.out.cell (World.block_lt_of_cell? w _ hw105_1)).trans hw105_1),((HB.out.cell (World.block_lt_of_cell? w _ hw106_0)).trans hw106_0),((HB.out.cell (World.block_lt_of_cell? w _ hw106_1)).trans hw106_1)⟩ (fun hHeld=>?_);refine z22 z9.tab9 z9.bits9 (fun HT_ HW_=>?_)
     generalize wr.drew = w20 at HO_8 BK101 HB hx105_0 hx105_1 hx106_0 hx106_1 hHeld ⊢
     refine pure_ (i:=0) (N:=some 28) (v:=?_) (a':=?_) #[true,false,false,false,false,false,false,false,false,false,false] rfl rfl (z1e HT_.out zz78) (fun _ _ _ h=>h) (Or.inl ⟨by rfl,?_⟩) ?_ ?_
     rotate_left
     · intro w'
       go_simp
       with_reducible rfl
     rotate_left
     · simp only [Act.put,List.setIfInBounds_toArray,List.set_cons_zero,List.set_cons_succ,zS,zZ]
       rfl
     refine pure_ (i:=1) (N:=some 29) (v:=?_) (a':=?_) #[true,true,false,false,false,false,false,false,false,false,false] rfl rfl (z1e HT_.out zz78) (fun _ _ _ h=>h) (Or.inl ⟨by rfl,?_⟩) ?_ ?_
     rotate_left
     · intro w'
       go_simp
       with_reducible rfl
     rotate_left
     · simp only [Act.put,List.setIfInBounds_toArray,List.set_cons_zero,List.set_cons_succ,zS,zZ]
       rfl
     refine pure_ (i:=2) (N:=some 30) (v:=?_) (a':=?_) #[true,true,true,false,false,false,false,false,false,false,false] rfl rfl (z1e HT_.out zz78) (fun _ _ _ h=>h) (Or.inl ⟨by rfl,?_⟩) ?_ ?_
     rotate_left
     · intro w'
       go_simp
       with_reducible rfl
     rotate_left
     · simp only [Act.put,List.setIfInBounds_toArray,List.set_cons_zero,List.set_cons_succ,zS,zZ]
       rfl
     refine pure_ (i:=4) (N:=some 32) (v:=?_) (a':=?_) #[true,true,true,false,true,false,false,false,false,false,false] rfl rfl (z1e HT_.out zz78) (fun _ _ _ h=>h) (Or.inl ⟨by rfl,?_⟩) ?_ ?_
     rotate_left
     · intro w'
       go_simp
       with_reducible rfl
     rotate_left
     · simp only [Act.put,List.setIfInBounds_toArray,List.set_cons_zero,List.set_cons_succ,zS,zZ]
       rfl
     refine pure_ (i:=5) (N:=some 33) (v:=?_) (a':=?_) #[true,true,true,false,true,true,false,false,false,false,false] rfl rfl (z1e HT_.out zz78) (fun _ _ _ h=>h) (Or.inl ⟨by rfl,?_⟩) ?_ ?_
     rotate_left
     · intro w'
       go_simp
       with_reducible rfl
     rotate_left
     · simp only [Act.put,List.setIfInBounds_toArray,List.set_cons_zero,List.set_cons_succ,zS,zZ]
       rfl
     refine pure_ (i:=6) (N:=some 34) (v:=?_) (a':=?_) #[true,true,true,false,true,true,true,false,false,false,false] rfl rfl (z1e HT_.out zz78) (fun _ _ _ h=>h) (Or.inl ⟨by rfl,?_⟩) ?_ ?_
     rotate_left
     · intro w'
       go_simp
       with_reducible rfl
     rotate_left
     · simp only [Act.put,List.setIfInBounds_toArray,List.set_cons_zero,List.set_cons_succ,zS,zZ]
       rfl
     refine take_ (i:=3) (N:=some 31) (v:=?_) (a':=?_) #[true,true,true,true,true,true,true,false,false,false,false] rfl rfl (z1I HT_.out HW_.out zz78) (fun _ _ _ h=>h) (Or.inl ⟨by rfl,?_⟩) hHeld ?_ ?_
     rotate_left
     · rintro w' ⟨s0,s1,s2,s3⟩
       go_simp
       with_reducible rfl
     rotate_left
     · simp only [Act.put,List.setIfInBounds_toArray,List.set_cons_zero,List.set_cons_succ,zS,zZ]
       rfl
     refine take_ (i:=7) (N:=some 35) (v:=?_) (a':=?_) #[true,true,true,true,true,true,true,true,false,false,false] rfl rfl (z1I HT_.out HW_.out zz78) (fun _ _ _ h=>h) (Or.inl ⟨by rfl,?_⟩) hHeld ?_ ?_
     rotate_left
     · rintro w' ⟨s0,s1,s2,s3⟩
       go_simp
       with_reducible rfl
     rotate_left
     · simp only [Act.put,List.setIfInBounds_toArray,List.set_cons_zero,List.set_cons_succ,zS,zZ]
       rfl
     refine join_ (σ:=Nat) 1 #[true,true,true,true,true,true,true,true,true,true,false] (fun s_=>[(36,.agg #[.int .u64 t107,.int .u64 t108]),(11,.pointer (some ⟨s_,0,none⟩))]) (fun s_ w'=>(w'.cell? (ad105.add ((x9_1).toNat * 2)) = some (.int .u64 ((zT l1 x9_1).f0)) ∧ w'.cell? ⟨(ad105.add ((x9_1).toNat * 2)).block,(ad105.add ((x9_1).toNat * 2)).off + 1,none⟩ = some (.int .u64 ((zT l1 x9_1).f1)) ∧ w'.cell? (ad106.add ((x10_2).toNat * 2)) = some (.int .u64 ((zT l2 x10_2).f0)) ∧ w'.cell? ⟨(ad106.add ((x10_2).toNat * 2)).block,(ad106.add ((x10_2).toNat * 2)).off + 1,none⟩ = some (.int .u64 ((zT l2 x10_2).f1))) ∧ (Kd.R k40 40 w' w.heap.size (fun k_=>k_ ≠ gb101 ∧ k_ ≠ s_) u8 x8_2) ∧ (w'.heap[gb101]? = some (.cells #[.int .u64 0,.int .u64 0] 40 (0,0))) ∧ (w'.heap[s_]? = some (.cells #[.int .u64 0,.int .u64 0] 40 (0,0))) ∧ (w.heap.size ≤ s_) ∧ (w.heap.size ≤ s_) ∧ (gb101 ≠ s_) ∧ (s_ ≠ gb101) ∧ (Below w.heap.size w w')) ?_ ?_
     rotate_left
     · intro hCont
       refine two_ (i:=8) (j:=9) (Ni:=some 36) (Nj:=some 11) #[true,true,true,true,true,true,true,true,true,false,false] #[true,true,true,true,true,true,true,true,false,true,false] rfl rfl rfl rfl (two_of HT_.out zz78) zz79 zz79 (fun K hK=>?_) (fun K hK=>?_)
       · skip
         refine goes_ Try.func71 zz78 rfl #[.agg #[.int .u64 ((zT l1 x9_1).f0),.int .u64 ((zT l1 x9_1).f1)],.agg #[.int .u64 ((zT l2 x10_2).f0),.int .u64 ((zT l2 x10_2).f1)]] zz82 rfl rfl zz27 ?_
         with_reducible refine (ze.calls k2 ((zT l1 x9_1).f0) ((zT l1 x9_1).f1) ((zT l2 x10_2).f0) ((zT l2 x10_2).f1) t107 t108 _ A13.out).mono ?_
         rintro e w21 ⟨rfl,hb⟩
         refine ⟨_,rfl,?_⟩
         have n0_:=z1.mk (Kd.zJ zz59 hb)
         have n1_:=z1.mk (zg (g:=gb101) (o:=.cells #[.int .u64 0,.int .u64 0] 40 (0,0)) zz29 hb)
         have n2_:=z1.mk (z4 zz25 hb)
         clear HO_8
         clear BK101
         clear HB
         have HO_8:=n0_
         have BK101:=n1_
         have HB:=n2_
         clear n0_ n1_ n2_
         (try clear hb)
         (try clear hb2)
         (try clear hk)
         (try clear hi)
         refine hK.out _ _ ⟨((HB.out.cell (World.block_lt_of_cell? w _ hw105_0)).trans hw105_0),((HB.out.cell (World.block_lt_of_cell? w _ hw105_1)).trans hw105_1),((HB.out.cell (World.block_lt_of_cell? w _ hw106_0)).trans hw106_0),((HB.out.cell (World.block_lt_of_cell? w _ hw106_1)).trans hw106_1)⟩ (fun hHeld=>?_)
         clear hK K
         refine norm_ (a':=?_) ?_ ?_
         rotate_left
         · show Act.put _ (some 36) _ = _
           simp only [Act.put,List.setIfInBounds_toArray,List.set_cons_zero,List.set_cons_succ,zS,zZ]
           rfl
         refine one_ (i:=9) (N:=some 11) #[true,true,true,true,true,true,true,true,true,true,false] rfl rfl (z1J HT_.out zz78) zz79 (fun K hK=>?_)
         refine z3V ?hg (N:=11) ?hd (cs:=#[.int .u64 0,.int .u64 0]) (t:=40) ?hr ?_;(case hd=>rfl);(case hg=>rfl);(case hr=>first|(go_simp;done)|(go_simp;rfl))
         intro gb109 hg w22 hbox hb
         have n0_:=z1.mk (Kd.zJ (Kd.z1U zz59 gb109 (Nat.le_of_eq hg.symm)) hb)
         have n1_:=z1.mk (zg (g:=gb101) (o:=.cells #[.int .u64 0,.int .u64 0] 40 (0,0)) zz29 hb)
         have n2_:=z1.mk (z4 zz25 hb)
         have n3_:=z1.mk (hbox)
         have n4_:=z1.mk ((by rw [hg];exact (z5 zz25) : w.heap.size ≤ gb109))
         have n5_:=z1.mk ((by rw [hg];exact (z5 zz25) : w.heap.size ≤ gb109))
         have n6_:=z1.mk ((by rw [hg];exact Nat.ne_of_lt (zU (g:=gb101) (o:=.cells #[.int .u64 0,.int .u64 0] 40 (0,0)) zz29) : gb101 ≠ gb109))
         have n7_:=z1.mk ((by rw [hg];exact Nat.ne_of_gt (zU (g:=gb101) (o:=.cells #[.int .u64 0,.int .u64 0] 40 (0,0)) zz29) : gb109 ≠ gb101))
         clear HO_8
         clear BK101
         clear HB
         have HO_8:=n0_
         have BK101:=n1_
         have HB:=n2_
         have BK109:=n3_
         have GW109:=n4_
         have GE109:=n5_
         have NB101_109:=n6_
         have NB109_101:=n7_
         clear n0_ n1_ n2_ n3_ n4_ n5_ n6_ n7_
         clear hb hbox hg
         refine hK.out _ _ ⟨((HB.out.cell (World.block_lt_of_cell? w _ hw105_0)).trans hw105_0),((HB.out.cell (World.block_lt_of_cell? w _ hw105_1)).trans hw105_1),((HB.out.cell (World.block_lt_of_cell? w _ hw106_0)).trans hw106_0),((HB.out.cell (World.block_lt_of_cell? w _ hw106_1)).trans hw106_1)⟩ (fun hHeld=>?_)
         clear hK K
         refine norm_ (a':=?_) ?_ ?_
         rotate_left
         · show Act.put _ (some 11) _ = _
           simp only [Act.put,List.setIfInBounds_toArray,List.set_cons_zero,List.set_cons_succ,zS,zZ]
           rfl
         exact norm_ zz63 (hCont (gb109) _ ⟨hHeld,zz59,zz29,zz35,GW109.out,GE109.out,NB101_109.out,NB109_101.out,zz24⟩)
       · skip
         refine z3V ?hg (N:=11) ?hd (cs:=#[.int .u64 0,.int .u64 0]) (t:=40) ?hr ?_;(case hd=>rfl);(case hg=>rfl);(case hr=>first|(go_simp;done)|(go_simp;rfl))
         intro gb109 hg w21 hbox hb
         have n0_:=z1.mk (Kd.zJ (Kd.z1U zz59 gb109 (Nat.le_of_eq hg.symm)) hb)
         have n1_:=z1.mk (zg (g:=gb101) (o:=.cells #[.int .u64 0,.int .u64 0] 40 (0,0)) zz29 hb)
         have n2_:=z1.mk (z4 zz25 hb)
         have n3_:=z1.mk (hbox)
         have n4_:=z1.mk ((by rw [hg];exact (z5 zz25) : w.heap.size ≤ gb109))
         have n5_:=z1.mk ((by rw [hg];exact (z5 zz25) : w.heap.size ≤ gb109))
         have n6_:=z1.mk ((by rw [hg];exact Nat.ne_of_lt (zU (g:=gb101) (o:=.cells #[.int .u64 0,.int .u64 0] 40 (0,0)) zz29) : gb101 ≠ gb109))
         have n7_:=z1.mk ((by rw [hg];exact Nat.ne_of_gt (zU (g:=gb101) (o:=.cells #[.int .u64 0,.int .u64 0] 40 (0,0)) zz29) : gb109 ≠ gb101))
         clear HO_8
         clear BK101
         clear HB
         have HO_8:=n0_
         have BK101:=n1_
         have HB:=n2_
         have BK109:=n3_
         have GW109:=n4_
         have GE109:=n5_
         have NB101_109:=n6_
         have NB109_101:=n7_
         clear n0_ n1_ n2_ n3_ n4_ n5_ n6_ n7_
         clear hb hbox hg
         refine hK.out _ _ ⟨((HB.out.cell (World.block_lt_of_cell? w _ hw105_0)).trans hw105_0),((HB.out.cell (World.block_lt_of_cell? w _ hw105_1)).trans hw105_1),((HB.out.cell (World.block_lt_of_cell? w _ hw106_0)).trans hw106_0),((HB.out.cell (World.block_lt_of_cell? w _ hw106_1)).trans hw106_1)⟩ (fun hHeld=>?_)
         clear hK K
         refine norm_ (a':=?_) ?_ ?_
         rotate_left
         · show Act.put _ (some 11) _ = _
           simp only [Act.put,List.setIfInBounds_toArray,List.set_cons_zero,List.set_cons_succ,zS,zZ]
           rfl
         refine one_ (i:=8) (N:=some 36) #[true,true,true,true,true,true,true,true,true,true,false] rfl rfl (z1J HT_.out zz78) zz79 (fun K hK=>?_)
         refine goes_ Try.func71 zz78 rfl #[.agg #[.int .u64 ((zT l1 x9_1).f0),.int .u64 ((zT l1 x9_1).f1)],.agg #[.int .u64 ((zT l2 x10_2).f0),.int .u64 ((zT l2 x10_2).f1)]] zz82 rfl rfl zz27 ?_
         with_reducible refine (ze.calls k2 ((zT l1 x9_1).f0) ((zT l1 x9_1).f1) ((zT l2 x10_2).f0) ((zT l2 x10_2).f1) t107 t108 _ A13.out).mono ?_
         rintro e w22 ⟨rfl,hb⟩
         refine ⟨_,rfl,?_⟩
         have n0_:=z1.mk (Kd.zJ zz59 hb)
         have n1_:=z1.mk (zg (g:=gb101) (o:=.cells #[.int .u64 0,.int .u64 0] 40 (0,0)) zz29 hb)
         have n2_:=z1.mk (zg (g:=gb109) (o:=.cells #[.int .u64 0,.int .u64 0] 40 (0,0)) zz35 hb)
         have n3_:=z1.mk (z4 zz24 hb)
         clear HO_8
         clear BK101
         clear BK109
         clear HB
         have HO_8:=n0_
         have BK101:=n1_
         have BK109:=n2_
         have HB:=n3_
         clear n0_ n1_ n2_ n3_
         (try clear hb)
         (try clear hb2)
         (try clear hk)
         (try clear hi)
         refine hK.out _ _ ⟨((HB.out.cell (World.block_lt_of_cell? w _ hw105_0)).trans hw105_0),((HB.out.cell (World.block_lt_of_cell? w _ hw105_1)).trans hw105_1),((HB.out.cell (World.block_lt_of_cell? w _ hw106_0)).trans hw106_0),((HB.out.cell (World.block_lt_of_cell? w _ hw106_1)).trans hw106_1)⟩ (fun hHeld=>?_)
         clear hK K
         refine norm_ (a':=?_) ?_ ?_
         rotate_left
         · show Act.put _ (some 36) _ = _
           simp only [Act.put,List.setIfInBounds_toArray,List.set_cons_zero,List.set_cons_succ,zS,zZ]
           rfl
         exact norm_ zz63 (hCont (gb109) _ ⟨hHeld,zz59,zz29,zz35,GW109.out,GE109.out,NB101_109.out,NB109_101.out,zz24⟩)
     rintro gb109 w23 ⟨hS_,h0_,h1_,h2_,h3_,h4_,h5_,h6_,h7_⟩
     have n0_ : z1 (Kd.R k40 40 w23 w.heap.size (fun k_=>k_ ≠ gb101 ∧ k_ ≠ gb109) u8 x8_2):=⟨h0_⟩
     have n1_ : z1 (w23.heap[gb101]? = some (.cells #[.int .u64 0,.int .u64 0] 40 (0,0))):=⟨h1_⟩
     have n2_ : z1 (w23.heap[gb109]? = some (.cells #[.int .u64 0,.int .u64 0] 40 (0,0))):=⟨h2_⟩
     have n3_ : z1 (w.heap.size ≤ gb109):=⟨h3_⟩
     have n4_ : z1 (w.heap.size ≤ gb109):=⟨h4_⟩
     have n5_ : z1 (gb101 ≠ gb109):=⟨h5_⟩
     have n6_ : z1 (gb109 ≠ gb101):=⟨h6_⟩
     have n7_ : z1 (Below w.heap.size w w23):=⟨h7_⟩
     clear HO_8
     clear BK101
     clear HB
     clear h0_ h1_ h2_ h3_ h4_ h5_ h6_ h7_
     have HO_8:=n0_
     have BK101:=n1_
     have BK109:=n2_
     have GW109:=n3_
     have GE109:=n4_
     have NB101_109:=n5_
     have NB109_101:=n6_
     have HB:=n7_
     clear n0_ n1_ n2_ n3_ n4_ n5_ n6_ n7_
     have hHeld : w23.cell? (ad105.add ((x9_1).toNat * 2)) = some (.int .u64 ((zT l1 x9_1).f0)) ∧ w23.cell? ⟨(ad105.add ((x9_1).toNat * 2)).block,(ad105.add ((x9_1).toNat * 2)).off + 1,none⟩ = some (.int .u64 ((zT l1 x9_1).f1)) ∧ w23.cell? (ad106.add ((x10_2).toNat * 2)) = some (.int .u64 ((zT l2 x10_2).f0)) ∧ w23.cell? ⟨(ad106.add ((x10_2).toNat * 2)).block,(ad106.add ((x10_2).toNat * 2)).off + 1,none⟩ = some (.int .u64 ((zT l2 x10_2).f1)):=hS_
     refine norm_ (a':=?_) ?_ ?_
     rotate_left
     · simp only [putAll,Act.put,List.setIfInBounds_toArray,List.set_cons_zero,List.set_cons_succ]
       rfl
     refine one_ (i:=10) (N:=none) #[true,true,true,true,true,true,true,true,true,true,true] rfl rfl (z1J HT_.out zz78) zz79 (fun K hK=>?_)
     have hs24 : w23.cell? ⟨gb109,0,none⟩ = some (.int .u64 0):=(zc BK109.out 0).trans rfl
     have hfs24:=z8 BK109.out 0
     have hns24_0:=NB101_109.out
     have hms24_0:=NB109_101.out
     have hs25 : w23.cell? ⟨gb109,1,none⟩ = some (.int .u64 0):=(zc BK109.out 1).trans rfl
     have hfs25:=z8 BK109.out 1
     have hns25_0:=NB101_109.out
     have hms25_0:=NB109_101.out
     refine skip_ (w1:=?_) zz82 rfl ?_ ?_
     rotate_left
     · go_simp
       rfl
     refine hK.out _ _ ⟨((z1z (p:=⟨gb109,_,none⟩) zz0 _).trans (((z1z (p:=⟨gb109,_,none⟩) zz0 _).trans (hHeld.1)))),((z1z (p:=⟨gb109,_,none⟩) zz1 _).trans (((z1z (p:=⟨gb109,_,none⟩) zz1 _).trans (hHeld.2.1)))),((z1z (p:=⟨gb109,_,none⟩) zz2 _).trans (((z1z (p:=⟨gb109,_,none⟩) zz2 _).trans (hHeld.2.2.1)))),((z1z (p:=⟨gb109,_,none⟩) zz3 _).trans (((z1z (p:=⟨gb109,_,none⟩) zz3 _).trans (hHeld.2.2.2))))⟩ (fun hHeld=>?_)
     clear hK K
     refine done_ (z2q HT_.out zz78) ?_
     have hnb26:=NB109_101.out
     have hnc26:=NB101_109.out
     have hcz27_0 : w23.cell? ⟨gb109,0,none⟩ = some (.int .u64 0):=(zc BK109.out 0).trans rfl
     have hcz27_1 : w23.cell? ⟨gb109,1,none⟩ = some (.int .u64 0):=(zc BK109.out 1).trans rfl
     have hfz27_0:=z8 BK109.out 0
     have hfz27_1:=z8 BK109.out 1
     have hcz28_0 : w23.cell? ⟨gb101,0,none⟩ = some (.int .u64 0):=(zc BK101.out 0).trans rfl
     have hcz28_1 : w23.cell? ⟨gb101,1,none⟩ = some (.int .u64 0):=(zc BK101.out 1).trans rfl
     have hfz28_0:=z8 BK101.out 0
     have hfz28_1:=z8 BK101.out 1
     try go_wp2
     have n0_ : z1 (Kd.R k40 40 ((w23.setCell ⟨gb109,0,none⟩ (.int .u64 t107)).setCell ⟨gb109,1,none⟩ (.int .u64 t108)) w.heap.size (fun k_=>k_ ≠ gb101 ∧ k_ ≠ gb109) u8 x8_2):=⟨by (with_reducible repeat (first|apply Kd.zC|apply Kd.zD|apply Kd.zO));exact Kd.z16 (Kd.z2u (p:=⟨gb109,1,none⟩) (Kd.z2u (p:=⟨gb109,0,none⟩) (Kd.z16 HO_8.out (fun k_ hk=>(⟨hk,hk.2⟩ : _ ∧ k_ ≠ gb109))) (fun _ hk=>hk.2) (.int .u64 t107)) (fun _ hk=>hk.2) (.int .u64 t108)) (fun _ hk=>⟨hk.1.1,hk.1.2⟩)⟩
     have n1_ : z1 (((w23.setCell ⟨gb109,0,none⟩ (.int .u64 t107)).setCell ⟨gb109,1,none⟩ (.int .u64 t108)).heap[gb101]? = some (.cells #[.int .u64 0,.int .u64 0] 40 (0,0))):=⟨by (with_reducible repeat (first|refine zb ?_ _|refine zf ?_|refine za ?_ _));refine z1a ?_ NB101_109.out _;(with_reducible repeat (first|refine zb ?_ _|refine zf ?_|refine za ?_ _));refine z1a ?_ NB101_109.out _;(with_reducible repeat (first|refine zb ?_ _|refine zf ?_|refine za ?_ _));exact BK101.out⟩
     have n2_ : z1 (((w23.setCell ⟨gb109,0,none⟩ (.int .u64 t107)).setCell ⟨gb109,1,none⟩ (.int .u64 t108)).heap[gb109]? = some (.cells #[.int .u64 t107,.int .u64 t108] 40 (0,0))):=⟨by (with_reducible repeat (first|refine zb ?_ _|refine zf ?_|refine za ?_ _));refine z1m (cs:=#[.int .u64 t107,.int .u64 0]) ?_ 1 _ rfl;(with_reducible repeat (first|refine zb ?_ _|refine zf ?_|refine za ?_ _));refine z1m (cs:=#[.int .u64 0,.int .u64 0]) ?_ 0 _ rfl;(with_reducible repeat (first|refine zb ?_ _|refine zf ?_|refine za ?_ _));exact BK109.out⟩
     have n3_ : z1 (Below w.heap.size w ((w23.setCell ⟨gb109,0,none⟩ (.int .u64 t107)).setCell ⟨gb109,1,none⟩ (.int .u64 t108))):=⟨by repeat (first|(with_reducible first|exact HB.out|apply z7|apply z2|apply z6|refine zd ?_ GE101.out|refine zd ?_ GE109.out)|exact HB.out)⟩
     (try clear HO_8)
     (try clear BK101)
     (try clear BK109)
     (try clear HB)
     generalize ((w23.setCell ⟨gb109,0,none⟩ (.int .u64 t107)).setCell ⟨gb109,1,none⟩ (.int .u64 t108)) = w29 at n0_ n1_ n2_ n3_ ⊢
     have HO_8:=n0_
     have BK101:=n1_
     have BK109:=n2_
     have HB:=n3_
     clear n0_ n1_ n2_ n3_
     have n0_:=z1.mk (Kd.zO HO_8.out)
     have n1_:=z1.mk (zf BK101.out)
     have n2_:=z1.mk (zf BK109.out)
     have n3_:=z1.mk (z6 HB.out)
     clear HO_8
     clear BK101
     clear BK109
     clear HB
     have HO_8:=n0_
     have BK101:=n1_
     have BK109:=n2_
     have HB:=n3_
     clear n0_ n1_ n2_ n3_
     refine start_ (n:=11) (S:=fun w'=>w'.cell? ⟨gb109,0,none⟩ = some (.int .u64 t107) ∧ w'.cell? ⟨gb109,1,none⟩ = some (.int .u64 t108)) (ds:=[]) #[false,false,false,false,false,false,false,false,false,false,false] zz78 rfl rfl ⟨(zc BK109.out 0).trans rfl,(zc BK109.out 1).trans rfl⟩ (fun hHeld=>?_);refine z22 z9.tab11 z9.bits11 (fun HT_ HW_=>?_)
     generalize w29.drew = w30 at HO_8 BK101 BK109 HB hHeld ⊢
     refine pure_ (i:=0) (N:=some 40) (v:=?_) (a':=?_) #[true,false,false,false,false,false,false,false,false,false,false] rfl rfl (z1e HT_.out zz78) (fun _ _ _ h=>h) (Or.inl ⟨by rfl,?_⟩) ?_ ?_
     rotate_left
     · intro w'
       go_simp
       with_reducible rfl
     rotate_left
     · simp only [Act.put,List.setIfInBounds_toArray,List.set_cons_zero,List.set_cons_succ,zS,zZ]
       rfl
     refine pure_ (i:=1) (N:=some 41) (v:=?_) (a':=?_) #[true,true,false,false,false,false,false,false,false,false,false] rfl rfl (z1e HT_.out zz78) (fun _ _ _ h=>h) (Or.inl ⟨by rfl,?_⟩) ?_ ?_
     rotate_left
     · intro w'
       go_simp
       with_reducible rfl
     rotate_left
     · simp only [Act.put,List.setIfInBounds_toArray,List.set_cons_zero,List.set_cons_succ,zS,zZ]
       rfl
     refine pure_ (i:=2) (N:=some 42) (v:=?_) (a':=?_) #[true,true,true,false,false,false,false,false,false,false,false] rfl rfl (z1e HT_.out zz78) (fun _ _ _ h=>h) (Or.inl ⟨by rfl,?_⟩) ?_ ?_
     rotate_left
     · intro w'
       go_simp
       with_reducible rfl
     rotate_left
     · simp only [Act.put,List.setIfInBounds_toArray,List.set_cons_zero,List.set_cons_succ,zS,zZ]
       rfl
     refine pure_ (i:=4) (N:=some 44) (v:=?_) (a':=?_) #[true,true,true,false,true,false,false,false,false,false,false] rfl rfl (z1e HT_.out zz78) (fun _ _ _ h=>h) (Or.inl ⟨by rfl,?_⟩) ?_ ?_
     rotate_left
     · intro w'
       go_simp
       with_reducible rfl
     rotate_left
     · simp only [Act.put,List.setIfInBounds_toArray,List.set_cons_zero,List.set_cons_succ,zS,zZ]
       rfl
     refine take_ (i:=7) (N:=some 47) (v:=?_) (a':=?_) #[true,true,true,false,true,false,false,true,false,false,false] rfl rfl (z1I HT_.out HW_.out zz78) (fun _ _ _ h=>h) (Or.inl ⟨by rfl,?_⟩) hHeld ?_ ?_
     rotate_left
     · rintro w' ⟨s0,s1⟩
       go_simp
       with_reducible rfl
     rotate_left
     · simp only [Act.put,List.setIfInBounds_toArray,List.set_cons_zero,List.set_cons_succ,zS,zZ]
       rfl
     refine one_ (i:=3) (N:=some 43) #[true,true,true,true,true,false,false,true,false,false,false] rfl rfl (z1J HT_.out zz78) zz79 (fun K hK=>?_)
     refine goes_ Try.func98 zz78 rfl #[.int .i64 x9_1] zz82 rfl rfl zz27 ?_
     with_reducible refine (zt.calls k2 x9_1 t110 t111 _ A15.out).mono ?_
     rintro e w31 ⟨rfl,hb⟩
     refine ⟨_,rfl,?_⟩
     have n0_:=z1.mk (Kd.zJ zz59 hb)
     have n1_:=z1.mk (zg (g:=gb101) (o:=.cells #[.int .u64 0,.int .u64 0] 40 (0,0)) zz29 hb)
     have n2_:=z1.mk (zg (g:=gb109) (o:=.cells #[.int .u64 t107,.int .u64 t108] 40 (0,0)) zz35 hb)
     have n3_:=z1.mk (z4 zz24 hb)
     clear HO_8
     clear BK101
     clear BK109
     clear HB
     have HO_8:=n0_
     have BK101:=n1_
     have BK109:=n2_
     have HB:=n3_
     clear n0_ n1_ n2_ n3_
     (try clear hb)
     (try clear hb2)
     (try clear hk)
     (try clear hi)
     refine hK.out _ _ ⟨(zc BK109.out 0).trans rfl,(zc BK109.out 1).trans rfl⟩ (fun hHeld=>?_)
     clear hK K
     refine norm_ (a':=?_) ?_ ?_
     rotate_left
     · show Act.put _ (some 43) _ = _
       simp only [Act.put,List.setIfInBounds_toArray,List.set_cons_zero,List.set_cons_succ,zS,zZ]
       rfl
     refine one_ (i:=5) (N:=some 45) #[true,true,true,true,true,true,false,true,false,false,false] rfl rfl (z1J HT_.out zz78) zz79 (fun K hK=>?_)
     refine goes_ Try.func98 zz78 rfl #[.int .i64 x10_2] zz82 rfl rfl zz27 ?_
     with_reducible refine (zt.calls k2 x10_2 t112 t113 _ A16.out).mono ?_
     rintro e w32 ⟨rfl,hb⟩
     refine ⟨_,rfl,?_⟩
     have n0_:=z1.mk (Kd.zJ zz59 hb)
     have n1_:=z1.mk (zg (g:=gb101) (o:=.cells #[.int .u64 0,.int .u64 0] 40 (0,0)) zz29 hb)
     have n2_:=z1.mk (zg (g:=gb109) (o:=.cells #[.int .u64 t107,.int .u64 t108] 40 (0,0)) zz35 hb)
     have n3_:=z1.mk (z4 zz24 hb)
     clear HO_8
     clear BK101
     clear BK109
     clear HB
     have HO_8:=n0_
     have BK101:=n1_
     have BK109:=n2_
     have HB:=n3_
     clear n0_ n1_ n2_ n3_
     (try clear hb)
     (try clear hb2)
     (try clear hk)
     (try clear hi)
     refine hK.out _ _ ⟨(zc BK109.out 0).trans rfl,(zc BK109.out 1).trans rfl⟩ (fun hHeld=>?_)
     clear hK K
     refine norm_ (a':=?_) ?_ ?_
     rotate_left
     · show Act.put _ (some 45) _ = _
       simp only [Act.put,List.setIfInBounds_toArray,List.set_cons_zero,List.set_cons_succ,zS,zZ]
       rfl
     refine one_ (i:=6) (N:=some 46) #[true,true,true,true,true,true,true,true,false,false,false] rfl rfl (z1J HT_.out zz78) zz79 (fun K hK=>?_)
     refine goes_ Try.func71 zz78 rfl #[.agg #[.int .u64 t110,.int .u64 t111],.agg #[.int .u64 t112,.int .u64 t113]] zz82 rfl rfl zz27 ?_
     with_reducible refine (ze.calls k2 t110 t111 t112 t113 t114 t115 _ A17.out).mono ?_
     rintro e w33 ⟨rfl,hb⟩
     refine ⟨_,rfl,?_⟩
     have n0_:=z1.mk (Kd.zJ zz59 hb)
     have n1_:=z1.mk (zg (g:=gb101) (o:=.cells #[.int .u64 0,.int .u64 0] 40 (0,0)) zz29 hb)
     have n2_:=z1.mk (zg (g:=gb109) (o:=.cells #[.int .u64 t107,.int .u64 t108] 40 (0,0)) zz35 hb)
     have n3_:=z1.mk (z4 zz24 hb)
     clear HO_8
     clear BK101
     clear BK109
     clear HB
     have HO_8:=n0_
     have BK101:=n1_
     have BK109:=n2_
     have HB:=n3_
     clear n0_ n1_ n2_ n3_
     (try clear hb)
     (try clear hb2)
     (try clear hk)
     (try clear hi)
     refine hK.out _ _ ⟨(zc BK109.out 0).trans rfl,(zc BK109.out 1).trans rfl⟩ (fun hHeld=>?_)
     clear hK K
     refine norm_ (a':=?_) ?_ ?_
     rotate_left
     · show Act.put _ (some 46) _ = _
       simp only [Act.put,List.setIfInBounds_toArray,List.set_cons_zero,List.set_cons_succ,zS,zZ]
       rfl
     refine one_ (i:=8) (N:=some 48) #[true,true,true,true,true,true,true,true,true,false,false] rfl rfl (z1J HT_.out zz78) zz79 (fun K hK=>?_)
     refine goes_ Try.func97 zz78 rfl #[.int .i64 a0,.agg #[.int .u64 t114,.int .u64 t115],.agg #[.int .u64 t107,.int .u64 t108]] zz82 rfl rfl zz27 ?_
     with_reducible refine (zm.calls k2 a0 t114 t115 t107 t108 t116 _ A18.out).mono ?_
     rintro e w34 ⟨v117,rfl,ho0,hb⟩
     refine ⟨_,rfl,?_⟩
     have n0_:=z1.mk (Kd.z1n zz59 (Kd.z1j ho0) hb)
     have n1_:=z1.mk (Kd.z1l (Kd.z3h (Kd.z3h (Kd.z1K ho0 (Kd.R_lt zz59)) (g:=gb101) (o:=.cells #[.int .u64 0,.int .u64 0] 40 (0,0)) zz29) (g:=gb109) (o:=.cells #[.int .u64 t107,.int .u64 t108] 40 (0,0)) zz35) (z5 zz24))
     have n2_:=z1.mk (zg (g:=gb101) (o:=.cells #[.int .u64 0,.int .u64 0] 40 (0,0)) zz29 hb)
     have n3_:=z1.mk (zg (g:=gb109) (o:=.cells #[.int .u64 t107,.int .u64 t108] 40 (0,0)) zz35 hb)
     have n4_:=z1.mk (z4 zz24 hb)
     clear HO_8
     clear BK101
     clear BK109
     clear HB
     have HO_8:=n0_
     have HO118:=n1_
     have BK101:=n2_
     have BK109:=n3_
     have HB:=n4_
     clear n0_ n1_ n2_ n3_ n4_
     (try clear hb)
     (try clear hb2)
     (try clear hk)
     (try clear hi)
     (try clear ho0)
     obtain ⟨Ao35,co35,eo35⟩:=Kd.z1p HO_8.out
     (first|subst eo35|(injection eo35 with f1_ f2_ f3_;have f4_:=f1_.symm;have f5_:=f3_.symm;clear f1_ f2_ f3_;subst f4_;subst f5_))
     obtain ⟨Ao36,co36,eo36⟩:=Kd.z1p HO118.out
     (first|subst eo36|(injection eo36 with f1_ f2_ f3_;have f4_:=f1_.symm;have f5_:=f3_.symm;clear f1_ f2_ f3_;subst f4_;subst f5_))
     refine hK.out _ _ ⟨(zc BK109.out 0).trans rfl,(zc BK109.out 1).trans rfl⟩ (fun hHeld=>?_)
     clear hK K
     refine norm_ (a':=?_) ?_ ?_
     rotate_left
     · show Act.put _ (some 48) _ = _
       simp only [Act.put,List.setIfInBounds_toArray,List.set_cons_zero,List.set_cons_succ,zS,zZ]
       rfl
     refine one_ (i:=9) (N:=some 49) #[true,true,true,true,true,true,true,true,true,true,false] rfl rfl (z1J HT_.out zz78) zz79 (fun K hK=>?_)
     refine goes_ Try.func45 zz78 rfl #[.slice Ao35 x8_2.length co35,.slice Ao36 t116.length co36] zz82 rfl rfl zz27 ?_
     with_reducible refine (zk.calls k2 _ _ x8_2 _ _ t116 t119 _ ?side1 ?side2 ?side3 ?side4 A19.out).mono ?_
     (case side1=>repeat (first|exact (Kd.zL HO_8.out).2.2|(with_reducible refine Kd.z1h ?_ _)|(with_reducible refine Kd.z1i ?_ _)|(with_reducible refine Kd.z1y ?_)))
     (case side2=>exact (Kd.zL HO_8.out).2.1)
     (case side3=>repeat (first|exact (Kd.zL HO118.out).2.2|(with_reducible refine Kd.z1h ?_ _)|(with_reducible refine Kd.z1i ?_ _)|(with_reducible refine Kd.z1y ?_)))
     (case side4=>exact (Kd.zL HO118.out).2.1)
     rintro e w37 ⟨v120,rfl,ho0,hb⟩
     refine ⟨_,rfl,?_⟩
     have n0_:=z1.mk (Kd.z1n zz59 (Kd.z1j ho0) hb)
     have n1_:=z1.mk (Kd.z1n zz44 (Kd.z1j ho0) hb)
     have n2_:=z1.mk (Kd.z1l (Kd.z3h (Kd.z3h (Kd.z1K (Kd.z1K ho0 (Kd.R_lt zz59)) (Kd.R_lt zz44)) (g:=gb101) (o:=.cells #[.int .u64 0,.int .u64 0] 40 (0,0)) zz29) (g:=gb109) (o:=.cells #[.int .u64 t107,.int .u64 t108] 40 (0,0)) zz35) (z5 zz24))
     have n3_:=z1.mk (zg (g:=gb101) (o:=.cells #[.int .u64 0,.int .u64 0] 40 (0,0)) zz29 hb)
     have n4_:=z1.mk (zg (g:=gb109) (o:=.cells #[.int .u64 t107,.int .u64 t108] 40 (0,0)) zz35 hb)
     have n5_:=z1.mk (z4 zz24 hb)
     clear HO_8
     clear HO118
     clear BK101
     clear BK109
     clear HB
     have HO_8:=n0_
     have HO118:=n1_
     have HO121:=n2_
     have BK101:=n3_
     have BK109:=n4_
     have HB:=n5_
     clear n0_ n1_ n2_ n3_ n4_ n5_
     (try clear hb)
     (try clear hb2)
     (try clear hk)
     (try clear hi)
     (try clear ho0)
     refine hK.out _ _ ⟨(zc BK109.out 0).trans rfl,(zc BK109.out 1).trans rfl⟩ (fun hHeld=>?_)
     clear hK K
     refine norm_ (a':=?_) ?_ ?_
     rotate_left
     · show Act.put _ (some 49) _ = _
       simp only [Act.put,List.setIfInBounds_toArray,List.set_cons_zero,List.set_cons_succ,zS,zZ]
       rfl
     refine pure_ (i:=10) (N:=some 8) (v:=?_) (a':=?_) #[true,true,true,true,true,true,true,true,true,true,true] rfl rfl (z1e HT_.out zz78) (fun _ _ _ h=>h) (Or.inl ⟨by rfl,?_⟩) ?_ ?_
     rotate_left
     · intro w'
       go_simp
       with_reducible rfl
     rotate_left
     · simp only [Act.put,List.setIfInBounds_toArray,List.set_cons_zero,List.set_cons_succ,zS,zZ]
       rfl
     refine done_ (z2q HT_.out zz78) ?_
     try go_wp2
     go_roundg k2
     case measure=>have:=HK1.out;have:=HK2.out;omega
     case rel=>exact ⟨(t119),(wrap64 (x10_2 + 1)),zz75,H',⟨by have:=HK1.out;have:=HK2.out;omega⟩,⟨by (with_reducible repeat (first|apply Kd.zC|apply Kd.zD|apply Kd.zO));exact Kd.z16 HO121.out (fun _ hk=>hk.1.2)⟩,⟨by (with_reducible repeat (first|refine zb ?_ _|refine zf ?_|refine za ?_ _));exact BK101.out⟩,⟨by repeat (first|(with_reducible first|exact HB.out|apply z7|apply z2|apply z6|refine zd ?_ GE101.out|refine zd ?_ GE109.out)|exact HB.out)⟩⟩
end Go.Proofs.Ytkhmpaooinpfoaa.P
namespace Go.Proofs.Ytkhmpaooinpfoaa.P
open Go.RowKit Go.Proofs.YtkhmpaooinpfoaaW.PrintWords Go.Proofs.YtkhmpaooinpfoaaW.PrintLast Go.Proofs.YtkhmpaooinpfoaaW.PrintMore
attribute [local go_sem] z12 z14 z1b z1c zW zX z13 z15   -- for this text's walks alone
set_option linter.unusedVariables false
set_option linter.unusedSimpArgs false
mutual
def z3.j0 : Nat → Int → List (S30) → List (S30) → List (S30) → Int → List (S40) → List (S40) → Int → Bool → Option (Bool)
 | 0,_,_,_,_,_,_,_,_,_=>none
 | k + 1,x0,x7,x9,x11,x12,x13,x14,x15,x66=>if x66 = true then (some false) else (if x12 = 0 then ((zn.f k x0 x13).bind fun t126=>((zo.f k x11 t126).bind fun t129=>(z3.j1 k x0 x7 x9 x13 x14 x15 (!t129)))) else (z3.j1 k x0 x7 x9 x13 x14 x15 false))
def z3.j1 : Nat → Int → List (S30) → List (S30) → List (S40) → List (S40) → Int → Bool → Option (Bool)
 | 0,_,_,_,_,_,_,_=>none
 | k + 1,x0,x7,x9,x13,x14,x15,x76=>if x76 = true then (some false) else (if x15 = 0 then ((zA.f k).bind fun t131=>(if t131 = true then ((zk.f k x13 x14).bind fun t132=>((zo.f k x7 t132).bind fun t135=>(if t135 = true then ((z9.f k x0 x13 x14).bind fun t136=>((zo.f k x9 t136).bind fun t139=>(some t139))) else (some false)))) else (some false))) else ((zA.f k).bind fun t130=>(if t130 = true then (some ((wrap64 ((x7.length : Int) + (x9.length : Int))) == 0)) else (some false))))
end
def z3.f (k : Nat) (a0 : Int) (l1 : List (S30)) (l2 : List (S30)) : Option (Bool):=(zr.f k a0 (([l1,l2] : List (List (S30))))).bind fun t104=>(if t104 = true then ((zY.f k a0 l1 l2).bind fun bt106=>((zB.f k a0 l1 l2).bind fun bt110=>((z1d.f k a0 l1).bind fun bt114=>((zs.f k l1).bind fun t118=>((zs.f k l2).bind fun t121=>((zh.f k a0 t118 t121).bind fun t124=>(if bt106.2 = t124 then (if bt110.2 = t124 then ((zh.f k a0 t118 t118).bind fun t125=>(z3.j0 k a0 bt106.1 bt110.1 bt114.1 bt114.2 t118 t121 t124 (bt114.2 != t125))) else (z3.j0 k a0 bt106.1 bt110.1 bt114.1 bt114.2 t118 t121 t124 true)) else (z3.j0 k a0 bt106.1 bt110.1 bt114.1 bt114.2 t118 t121 t124 true)))))))) else ((zA.f k).bind fun t105=>(some t105)))
theorem z3.z17 : ∀ k,(∀ y0 y1 y2 y3 y4 y5 y6 y7 y8,LeO (z3.j0 k y0 y1 y2 y3 y4 y5 y6 y7 y8) (z3.j0 (k + 1) y0 y1 y2 y3 y4 y5 y6 y7 y8)) ∧ (∀ y0 y1 y2 y3 y4 y5 y6,LeO (z3.j1 k y0 y1 y2 y3 y4 y5 y6) (z3.j1 (k + 1) y0 y1 y2 y3 y4 y5 y6))
 | 0=>⟨fun _ _ _ _ _ _ _ _ _ r h=>by simp [z3.j0] at h,fun _ _ _ _ _ _ _ r h=>by simp [z3.j1] at h⟩
 | k + 1=>by
  obtain ⟨ih0,ih1⟩:=z3.z17 k
  refine ⟨?_,?_⟩
  · intro y0 y1 y2 y3 y4 y5 y6 y7 y8
    unfold z3.j0
    repeat' first
    | (with_reducible exact ih0 _ _ _ _ _ _ _ _ _)
    | (with_reducible exact ih1 _ _ _ _ _ _ _)
    | (with_reducible exact zY.mono _ _ _ _)
    | (with_reducible exact zB.mono _ _ _ _)
    | (with_reducible exact z1d.mono _ _ _)
    | (with_reducible exact zs.mono _ _)
    | (with_reducible exact zo.mono _ _ _)
    | (with_reducible exact zA.mono _)
    | (with_reducible exact zr.mono _ _ _)
    | (with_reducible exact zk.mono _ _ _)
    | (with_reducible exact zh.mono _ _ _ _)
    | (with_reducible exact z9.mono _ _ _ _)
    | (with_reducible exact zn.mono _ _ _)
    | (with_reducible exact LeO.refl _)
    | (with_reducible exact LeO.none _)
    | (with_reducible refine LeO.ite ?_ ?_)
    | (with_reducible refine LeO.bind ?_ (fun _=>?_))
    | exact ih0 _ _ _ _ _ _ _ _ _
    | exact ih1 _ _ _ _ _ _ _
    | exact zY.mono _ _ _ _
    | exact zB.mono _ _ _ _
    | exact z1d.mono _ _ _
    | exact zs.mono _ _
    | exact zo.mono _ _ _
    | exact zA.mono _
    | exact zr.mono _ _ _
    | exact zk.mono _ _ _
    | exact zh.mono _ _ _ _
    | exact z9.mono _ _ _ _
    | exact zn.mono _ _ _
    | exact LeO.none _
    | refine LeO.ite ?_ ?_
    | refine LeO.bind ?_ (fun _=>?_)
  · intro y0 y1 y2 y3 y4 y5 y6
    unfold z3.j1
    repeat' first
    | (with_reducible exact ih0 _ _ _ _ _ _ _ _ _)
    | (with_reducible exact ih1 _ _ _ _ _ _ _)
    | (with_reducible exact zY.mono _ _ _ _)
    | (with_reducible exact zB.mono _ _ _ _)
    | (with_reducible exact z1d.mono _ _ _)
    | (with_reducible exact zs.mono _ _)
    | (with_reducible exact zo.mono _ _ _)
    | (with_reducible exact zA.mono _)
    | (with_reducible exact zr.mono _ _ _)
    | (with_reducible exact zk.mono _ _ _)
    | (with_reducible exact zh.mono _ _ _ _)
    | (with_reducible exact z9.mono _ _ _ _)
    | (with_reducible exact zn.mono _ _ _)
    | (with_reducible exact LeO.refl _)
    | (with_reducible exact LeO.none _)
    | (with_reducible refine LeO.ite ?_ ?_)
    | (with_reducible refine LeO.bind ?_ (fun _=>?_))
    | exact ih0 _ _ _ _ _ _ _ _ _
    | exact ih1 _ _ _ _ _ _ _
    | exact zY.mono _ _ _ _
    | exact zB.mono _ _ _ _
    | exact z1d.mono _ _ _
    | exact zs.mono _ _
    | exact zo.mono _ _ _
    | exact zA.mono _
    | exact zr.mono _ _ _
    | exact zk.mono _ _ _
    | exact zh.mono _ _ _ _
    | exact z9.mono _ _ _ _
    | exact zn.mono _ _ _
    | exact LeO.none _
    | refine LeO.ite ?_ ?_
    | refine LeO.bind ?_ (fun _=>?_)
theorem z3.mono : ∀ a0 a1 a2 k,LeO (z3.f k a0 a1 a2) (z3.f (k + 1) a0 a1 a2):=by
 intro a0 a1 a2 k
 obtain ⟨ih0,ih1⟩:=z3.z17 k
 unfold z3.f
 repeat' first
  | (with_reducible exact ih0 _ _ _ _ _ _ _ _ _)
  | (with_reducible exact ih1 _ _ _ _ _ _ _)
  | (with_reducible exact zY.mono _ _ _ _)
  | (with_reducible exact zB.mono _ _ _ _)
  | (with_reducible exact z1d.mono _ _ _)
  | (with_reducible exact zs.mono _ _)
  | (with_reducible exact zo.mono _ _ _)
  | (with_reducible exact zA.mono _)
  | (with_reducible exact zr.mono _ _ _)
  | (with_reducible exact zk.mono _ _ _)
  | (with_reducible exact zh.mono _ _ _ _)
  | (with_reducible exact z9.mono _ _ _ _)
  | (with_reducible exact zn.mono _ _ _)
  | (with_reducible exact LeO.refl _)
  | (with_reducible exact LeO.none _)
  | (with_reducible refine LeO.ite ?_ ?_)
  | (with_reducible refine LeO.bind ?_ (fun _=>?_))
  | exact ih0 _ _ _ _ _ _ _ _ _
  | exact ih1 _ _ _ _ _ _ _
  | exact zY.mono _ _ _ _
  | exact zB.mono _ _ _ _
  | exact z1d.mono _ _ _
  | exact zs.mono _ _
  | exact zo.mono _ _ _
  | exact zA.mono _
  | exact zr.mono _ _ _
  | exact zk.mono _ _ _
  | exact zh.mono _ _ _ _
  | exact z9.mono _ _ _ _
  | exact zn.mono _ _ _
  | exact LeO.none _
  | refine LeO.ite ?_ ?_
  | refine LeO.bind ?_ (fun _=>?_)
set_option maxHeartbeats 8000000 in
set_option maxRecDepth 100000 in
theorem z3.calls (k : Nat) (a0 : Int) (P1_ : Nat → Prop) (A1 : Option Addr) (c1 : Nat) (l1 : List (S30)) (P2_ : Nat → Prop) (A2 : Option Addr) (c2 : Nat) (l2 : List (S30)) (r : Bool) (w : World) (hs1 : Kd.V k30 30 w w.heap.size (fun k_=>P1_ k_) (.slice A1 l1.length c1) l1) (hs2 : Kd.V k30 30 w w.heap.size (fun k_=>P2_ k_) (.slice A2 l2.length c2) l2) (h : z3.f k a0 l1 l2 = some r) :
 Calls Try.prog 7 #[.int .i64 a0,.slice A1 l1.length c1,.slice A2 l2.length c2] w fun e w'=>e = .returned (.bool r) ∧ Below w.heap.size w w':=by
 have HO1:=z1.mk (show Kd.V k30 30 w w.heap.size (fun k_=>((P1_ k_ ∨ P2_ k_) ∨ w.heap.size ≤ k_)) (.slice A1 l1.length c1) l1 from Kd.z1o hs1 (fun k_ hk=>.inl (.inl hk)))
 have HO2:=z1.mk (show Kd.V k30 30 w w.heap.size (fun k_=>((P1_ k_ ∨ P2_ k_) ∨ w.heap.size ≤ k_)) (.slice A2 l2.length c2) l2 from Kd.z1o hs2 (fun k_ hk=>.inl (.inr hk)))
 have HB:=z1.mk (Below.refl w.heap.size w)
 have H : ((zr.f k a0 (([l1,l2] : List (List (S30))))).bind fun t104=>(if t104 = true then ((zY.f k a0 l1 l2).bind fun bt106=>((zB.f k a0 l1 l2).bind fun bt110=>((z1d.f k a0 l1).bind fun bt114=>((zs.f k l1).bind fun t118=>((zs.f k l2).bind fun t121=>((zh.f k a0 t118 t121).bind fun t124=>(if bt106.2 = t124 then (if bt110.2 = t124 then ((zh.f k a0 t118 t118).bind fun t125=>(z3.j0 k a0 bt106.1 bt110.1 bt114.1 bt114.2 t118 t121 t124 (bt114.2 != t125))) else (z3.j0 k a0 bt106.1 bt110.1 bt114.1 bt114.2 t118 t121 t124 true)) else (z3.j0 k a0 bt106.1 bt110.1 bt114.1 bt114.2 t118 t121 t124 true)))))))) else ((zA.f k).bind fun t105=>(some t105)))) = some r:=h
 clear h
 obtain ⟨y101,hy101⟩ : ∃ y_ : List (List (S30)),y_ = (([l1,l2] : List (List (S30)))):=⟨_,rfl⟩
 replace H : ((zr.f k a0 y101).bind fun t104=>(if t104 = true then ((zY.f k a0 l1 l2).bind fun bt106=>((zB.f k a0 l1 l2).bind fun bt110=>((z1d.f k a0 l1).bind fun bt114=>((zs.f k l1).bind fun t118=>((zs.f k l2).bind fun t121=>((zh.f k a0 t118 t121).bind fun t124=>(if bt106.2 = t124 then (if bt110.2 = t124 then ((zh.f k a0 t118 t118).bind fun t125=>(z3.j0 k a0 bt106.1 bt110.1 bt114.1 bt114.2 t118 t121 t124 (bt114.2 != t125))) else (z3.j0 k a0 bt106.1 bt110.1 bt114.1 bt114.2 t118 t121 t124 true)) else (z3.j0 k a0 bt106.1 bt110.1 bt114.1 bt114.2 t118 t121 t124 true)))))))) else ((zA.f k).bind fun t105=>(some t105)))) = some r:=by first|(rw [hy101];with_reducible exact H)|(have H2_:=(Option.bind_some _ _).symm.trans H;rw [hy101];with_reducible exact H2_)|(have H2_:=(Option.bind_some _ _).symm.trans H;with_reducible exact H2_)|with_reducible exact H|(rw [hy101];exact H)|exact H
 have Ny101:=z1.mk hy101
 clear hy101
 replace H:=Option.bind_eq_some_iff.mp H
 obtain ⟨t104,A40,H⟩:=H
 replace H : (if t104 = true then ((zY.f k a0 l1 l2).bind fun bt106=>((zB.f k a0 l1 l2).bind fun bt110=>((z1d.f k a0 l1).bind fun bt114=>((zs.f k l1).bind fun t118=>((zs.f k l2).bind fun t121=>((zh.f k a0 t118 t121).bind fun t124=>(if bt106.2 = t124 then (if bt110.2 = t124 then ((zh.f k a0 t118 t118).bind fun t125=>(z3.j0 k a0 bt106.1 bt110.1 bt114.1 bt114.2 t118 t121 t124 (bt114.2 != t125))) else (z3.j0 k a0 bt106.1 bt110.1 bt114.1 bt114.2 t118 t121 t124 true)) else (z3.j0 k a0 bt106.1 bt110.1 bt114.1 bt114.2 t118 t121 t124 true)))))))) else ((zA.f k).bind fun t105=>(some t105))) = some r:=H
 have A4:=z1.mk A40
 clear A40
 by_cases c5 : t104 = true
 rotate_left
 · replace c5:=Bool.eq_false_iff.mpr c5
   subst c5
   have H1 : ((zA.f k).bind fun t105=>(some t105)) = some r:=by rw [if_neg (show ¬ (false = true) by decide)] at H;exact H
   clear H
   have H:=H1
   clear H1
   replace H:=Option.bind_eq_some_iff.mp H
   obtain ⟨t105,A630,H⟩:=H
   replace H : (some t105) = some r:=H
   have A63:=z1.mk A630
   clear A630
   obtain rfl:=Option.some.inj H
   go_enter Try.func7,Try.ntmps7
   go_wp2_with (first|((with_reducible refine zF (N:=19) rfl ?_);(try (refine z4J zz82 ?_;dsimp only));refine Kd.z5j (Kd.slice 30 k30) _ 24 ?hg (N':=19) ?hd (xs:=([l1,l2] : List (List (S30)))) (inner:=[.slice A1 l1.length c1,.slice A2 l2.length c2]) (ok:=(fun k_=>((P1_ k_ ∨ P2_ k_) ∨ w.heap.size ≤ k_))) (okp:=(fun k_=>((P1_ k_ ∨ P2_ k_) ∨ w.heap.size ≤ k_))) ?hr ?hp (fun _ hk=>hk) ((show ∀ k_,w.heap.size ≤ k_ → (fun k_=>((P1_ k_ ∨ P2_ k_) ∨ w.heap.size ≤ k_)) k_ from fun k_ hk=>(.inr (Nat.le_trans (z5 zz28) hk))) _ (Nat.le_refl _)) (Below.refl _ _) (Nat.le_refl _) zz81 ?_;(case hd=>rfl);(case hg=>rfl);(case hr=>first|(go_simp;done)|(go_simp;rfl));(case hp=>exact (Reps.one (show Kd.FK (Kd.slice 30 k30) _ _ l1 [.slice A1 l1.length c1] from (Kd.z1A (Kd.z1t (Kd.z1o (ok':=(fun k_=>((P1_ k_ ∨ P2_ k_) ∨ w.heap.size ≤ k_))) (HO1.out) (fun k_ hk=>hk))).2.1 (Kd.V_F (Kd.z1o (ok':=(fun k_=>((P1_ k_ ∨ P2_ k_) ∨ w.heap.size ≤ k_))) zz61 (fun k_ hk=>hk))))) (Reps.one (show Kd.FK (Kd.slice 30 k30) _ _ l2 [.slice A2 l2.length c2] from (Kd.z1A (Kd.z1t (Kd.z1o (ok':=(fun k_=>((P1_ k_ ∨ P2_ k_) ∨ w.heap.size ≤ k_))) (HO2.out) (fun k_ hk=>hk))).2.1 (Kd.V_F (Kd.z1o (ok':=(fun k_=>((P1_ k_ ∨ P2_ k_) ∨ w.heap.size ≤ k_))) zz62 (fun k_ hk=>hk))))) (Reps.none _ _))));intro v102 w64 ho65 hb hg_ hnew_;clear hg_ hnew_;(first|rw [← Ny101.out] at ho65|(simp only [Int.reduceToNat] at ho65;rw [← Ny101.out] at ho65));have n0_:=z1.mk (Kd.z1q zz61 (Kd.z2v ho65) hb);have n1_:=z1.mk (Kd.z1q zz62 (Kd.z2v ho65) hb);have n2_:=z1.mk (Kd.z2W ho65 (z5 zz28));have n3_:=z1.mk (z4 zz28 hb);clear HO1;clear HO2;clear HB;have HO1:=n0_;have HO2:=n1_;have HO103:=n2_;have HB:=n3_;clear n0_ n1_ n2_ n3_;clear hb ho65;obtain ⟨Ao66,co66,eo66⟩:=Kd.z2X HO103.out;subst eo66)|((with_reducible refine zl (f:=38) rfl ?_);refine goesL_ (some 20) rfl rfl Try.func38 zz78 rfl #[.int .i64 a0,.slice Ao66 y101.length co66] rfl zz27 ?_;(with_reducible refine (zr.calls k a0 _ _ y101 false _ ?side1 ?side2 A4.out).mono ?_);(case side1=>repeat (first|exact (Kd.z1T HO103.out).2.2|(with_reducible refine Kd.z1h ?_ _)|(with_reducible refine Kd.z1i ?_ _)|(with_reducible refine Kd.z1y ?_)));(case side2=>exact (Kd.z1T HO103.out).2.1);rintro e w' ⟨rfl,⟨nd,rfl⟩⟩;refine ⟨_,rfl,?_⟩)|((with_reducible refine zl (f:=39) rfl ?_);refine goesL_ (some 22) rfl rfl Try.func39 zz78 rfl #[] rfl zz27 ?_;(with_reducible refine (zA.calls k  t105 _ A63.out).mono ?_);rintro e w67 ⟨rfl,hb⟩;refine ⟨_,rfl,?_⟩;have n0_:=z1.mk (Kd.z1O zz61 hb);have n1_:=z1.mk (Kd.z1O zz62 hb);have n2_:=z1.mk (Kd.z2d zz37 hb);have n3_:=z1.mk (z4 zz28 hb);clear HO1;clear HO2;clear HO103;clear HB;have HO1:=n0_;have HO2:=n1_;have HO103:=n2_;have HB:=n3_;clear n0_ n1_ n2_ n3_;(try clear hb);(try clear hb2);(try clear hk);(try clear hi)))
   go_ret
   exact ⟨by first|rfl|(simp [zi,zj] <;> rfl)|(simp [*,zi,zj] <;> rfl),by repeat (first|(with_reducible first|exact HB.out|apply z7|apply z2|apply z6)|exact HB.out)⟩
 subst c5
 have H1 : ((zY.f k a0 l1 l2).bind fun bt106=>((zB.f k a0 l1 l2).bind fun bt110=>((z1d.f k a0 l1).bind fun bt114=>((zs.f k l1).bind fun t118=>((zs.f k l2).bind fun t121=>((zh.f k a0 t118 t121).bind fun t124=>(if bt106.2 = t124 then (if bt110.2 = t124 then ((zh.f k a0 t118 t118).bind fun t125=>(z3.j0 k a0 bt106.1 bt110.1 bt114.1 bt114.2 t118 t121 t124 (bt114.2 != t125))) else (z3.j0 k a0 bt106.1 bt110.1 bt114.1 bt114.2 t118 t121 t124 true)) else (z3.j0 k a0 bt106.1 bt110.1 bt114.1 bt114.2 t118 t121 t124 true)))))))) = some r:=by rw [if_pos rfl] at H;exact H
 clear H
 have H:=H1
 clear H1
 replace H:=Option.bind_eq_some_iff.mp H
 obtain ⟨⟨t106,t109⟩,A60,H⟩:=H
 replace H : ((zB.f k a0 l1 l2).bind fun bt110=>((z1d.f k a0 l1).bind fun bt114=>((zs.f k l1).bind fun t118=>((zs.f k l2).bind fun t121=>((zh.f k a0 t118 t121).bind fun t124=>(if t109 = t124 then (if bt110.2 = t124 then ((zh.f k a0 t118 t118).bind fun t125=>(z3.j0 k a0 t106 bt110.1 bt114.1 bt114.2 t118 t121 t124 (bt114.2 != t125))) else (z3.j0 k a0 t106 bt110.1 bt114.1 bt114.2 t118 t121 t124 true)) else (z3.j0 k a0 t106 bt110.1 bt114.1 bt114.2 t118 t121 t124 true))))))) = some r:=H
 have A6:=z1.mk A60
 clear A60
 replace H:=Option.bind_eq_some_iff.mp H
 obtain ⟨⟨t110,t113⟩,A70,H⟩:=H
 replace H : ((z1d.f k a0 l1).bind fun bt114=>((zs.f k l1).bind fun t118=>((zs.f k l2).bind fun t121=>((zh.f k a0 t118 t121).bind fun t124=>(if t109 = t124 then (if t113 = t124 then ((zh.f k a0 t118 t118).bind fun t125=>(z3.j0 k a0 t106 t110 bt114.1 bt114.2 t118 t121 t124 (bt114.2 != t125))) else (z3.j0 k a0 t106 t110 bt114.1 bt114.2 t118 t121 t124 true)) else (z3.j0 k a0 t106 t110 bt114.1 bt114.2 t118 t121 t124 true)))))) = some r:=H
 have A7:=z1.mk A70
 clear A70
 replace H:=Option.bind_eq_some_iff.mp H
 obtain ⟨⟨t114,t117⟩,A80,H⟩:=H
 replace H : ((zs.f k l1).bind fun t118=>((zs.f k l2).bind fun t121=>((zh.f k a0 t118 t121).bind fun t124=>(if t109 = t124 then (if t113 = t124 then ((zh.f k a0 t118 t118).bind fun t125=>(z3.j0 k a0 t106 t110 t114 t117 t118 t121 t124 (t117 != t125))) else (z3.j0 k a0 t106 t110 t114 t117 t118 t121 t124 true)) else (z3.j0 k a0 t106 t110 t114 t117 t118 t121 t124 true))))) = some r:=H
 have A8:=z1.mk A80
 clear A80
 replace H:=Option.bind_eq_some_iff.mp H
 obtain ⟨t118,A90,H⟩:=H
 replace H : ((zs.f k l2).bind fun t121=>((zh.f k a0 t118 t121).bind fun t124=>(if t109 = t124 then (if t113 = t124 then ((zh.f k a0 t118 t118).bind fun t125=>(z3.j0 k a0 t106 t110 t114 t117 t118 t121 t124 (t117 != t125))) else (z3.j0 k a0 t106 t110 t114 t117 t118 t121 t124 true)) else (z3.j0 k a0 t106 t110 t114 t117 t118 t121 t124 true)))) = some r:=H
 have A9:=z1.mk A90
 clear A90
 replace H:=Option.bind_eq_some_iff.mp H
 obtain ⟨t121,A100,H⟩:=H
 replace H : ((zh.f k a0 t118 t121).bind fun t124=>(if t109 = t124 then (if t113 = t124 then ((zh.f k a0 t118 t118).bind fun t125=>(z3.j0 k a0 t106 t110 t114 t117 t118 t121 t124 (t117 != t125))) else (z3.j0 k a0 t106 t110 t114 t117 t118 t121 t124 true)) else (z3.j0 k a0 t106 t110 t114 t117 t118 t121 t124 true))) = some r:=H
 have A10:=z1.mk A100
 clear A100
 replace H:=Option.bind_eq_some_iff.mp H
 obtain ⟨t124,A110,H⟩:=H
 replace H : (if t109 = t124 then (if t113 = t124 then ((zh.f k a0 t118 t118).bind fun t125=>(z3.j0 k a0 t106 t110 t114 t117 t118 t121 t124 (t117 != t125))) else (z3.j0 k a0 t106 t110 t114 t117 t118 t121 t124 true)) else (z3.j0 k a0 t106 t110 t114 t117 t118 t121 t124 true)) = some r:=H
 have A11:=z1.mk A110
 clear A110
 have HC12:=z1.mk H
 clear H
 go_enter Try.func7,Try.ntmps7
 go_upto_region 8 with (first|((with_reducible refine zF (N:=19) rfl ?_);(try (refine z4J zz82 ?_;dsimp only));refine Kd.z5j (Kd.slice 30 k30) _ 24 ?hg (N':=19) ?hd (xs:=([l1,l2] : List (List (S30)))) (inner:=[.slice A1 l1.length c1,.slice A2 l2.length c2]) (ok:=(fun k_=>((P1_ k_ ∨ P2_ k_) ∨ w.heap.size ≤ k_))) (okp:=(fun k_=>((P1_ k_ ∨ P2_ k_) ∨ w.heap.size ≤ k_))) ?hr ?hp (fun _ hk=>hk) ((show ∀ k_,w.heap.size ≤ k_ → (fun k_=>((P1_ k_ ∨ P2_ k_) ∨ w.heap.size ≤ k_)) k_ from fun k_ hk=>(.inr (Nat.le_trans (z5 zz28) hk))) _ (Nat.le_refl _)) (Below.refl _ _) (Nat.le_refl _) zz81 ?_;(case hd=>rfl);(case hg=>rfl);(case hr=>first|(go_simp;done)|(go_simp;rfl));(case hp=>exact (Reps.one (show Kd.FK (Kd.slice 30 k30) _ _ l1 [.slice A1 l1.length c1] from (Kd.z1A (Kd.z1t (Kd.z1o (ok':=(fun k_=>((P1_ k_ ∨ P2_ k_) ∨ w.heap.size ≤ k_))) (HO1.out) (fun k_ hk=>hk))).2.1 (Kd.V_F (Kd.z1o (ok':=(fun k_=>((P1_ k_ ∨ P2_ k_) ∨ w.heap.size ≤ k_))) zz61 (fun k_ hk=>hk))))) (Reps.one (show Kd.FK (Kd.slice 30 k30) _ _ l2 [.slice A2 l2.length c2] from (Kd.z1A (Kd.z1t (Kd.z1o (ok':=(fun k_=>((P1_ k_ ∨ P2_ k_) ∨ w.heap.size ≤ k_))) (HO2.out) (fun k_ hk=>hk))).2.1 (Kd.V_F (Kd.z1o (ok':=(fun k_=>((P1_ k_ ∨ P2_ k_) ∨ w.heap.size ≤ k_))) zz62 (fun k_ hk=>hk))))) (Reps.none _ _))));intro v102 w13 ho14 hb hg_ hnew_;clear hg_ hnew_;(first|rw [← Ny101.out] at ho14|(simp only [Int.reduceToNat] at ho14;rw [← Ny101.out] at ho14));have n0_:=z1.mk (Kd.z1q zz61 (Kd.z2v ho14) hb);have n1_:=z1.mk (Kd.z1q zz62 (Kd.z2v ho14) hb);have n2_:=z1.mk (Kd.z2W ho14 (z5 zz28));have n3_:=z1.mk (z4 zz28 hb);clear HO1;clear HO2;clear HB;have HO1:=n0_;have HO2:=n1_;have HO103:=n2_;have HB:=n3_;clear n0_ n1_ n2_ n3_;clear hb ho14;obtain ⟨Ao15,co15,eo15⟩:=Kd.z2X HO103.out;subst eo15)|((with_reducible refine zl (f:=38) rfl ?_);refine goesL_ (some 20) rfl rfl Try.func38 zz78 rfl #[.int .i64 a0,.slice Ao15 y101.length co15] rfl zz27 ?_;(with_reducible refine (zr.calls k a0 _ _ y101 true _ ?side1 ?side2 A4.out).mono ?_);(case side1=>repeat (first|exact (Kd.z1T HO103.out).2.2|(with_reducible refine Kd.z1h ?_ _)|(with_reducible refine Kd.z1i ?_ _)|(with_reducible refine Kd.z1y ?_)));(case side2=>exact (Kd.z1T HO103.out).2.1);rintro e w' ⟨rfl,⟨nd,rfl⟩⟩;refine ⟨_,rfl,?_⟩)|((with_reducible refine zl (f:=40) rfl ?_);refine goesL_ (some 27) rfl rfl Try.func40 zz78 rfl #[.int .i64 a0,.slice A1 l1.length c1,.slice A2 l2.length c2] rfl zz27 ?_;(with_reducible refine (zY.calls k a0 (fun k_=>(((P1_ k_ ∨ P2_ k_) ∨ w.heap.size ≤ k_) ∧ some k_ ≠ (.slice Ao15 y101.length co15 : Value).ownBlock)) _ _ l1 (fun k_=>(((P1_ k_ ∨ P2_ k_) ∨ w.heap.size ≤ k_) ∧ some k_ ≠ (.slice Ao15 y101.length co15 : Value).ownBlock)) _ _ l2 t106 t109 _ ?side1 ?side2 A6.out).mono ?_);(case side1=>exact HO1.out);(case side2=>exact HO2.out);rintro e w16 ⟨v107,rfl,ho0,hb⟩;refine ⟨_,rfl,?_⟩;have n0_:=z1.mk (Kd.z1q zz61 (Kd.z1j ho0) hb);have n1_:=z1.mk (Kd.z1q zz62 (Kd.z1j ho0) hb);have n2_:=z1.mk (Kd.z2w zz37 (Kd.z1j ho0) hb);have n3_:=z1.mk (Kd.z1l (Kd.z2I (M:=fun k_=>(w.heap.size ≤ k_)) (Kd.z16 (ok':=fun k_=>True) ho0 (fun _ hk_=>trivial)) (z5 zz28) (fun k_ h_=>h_)) (z5 zz28));have n4_:=z1.mk (z4 zz28 hb);clear HO1;clear HO2;clear HO103;clear HB;have HO1:=n0_;have HO2:=n1_;have HO103:=n2_;have HO108:=n3_;have HB:=n4_;clear n0_ n1_ n2_ n3_ n4_;(try clear hb);(try clear hb2);(try clear hk);(try clear hi);(try clear ho0))|((with_reducible refine zl (f:=41) rfl ?_);refine goesL_ (some 34) rfl rfl Try.func41 zz78 rfl #[.int .i64 a0,.slice A1 l1.length c1,.slice A2 l2.length c2] rfl zz27 ?_;(with_reducible refine (zB.calls k a0 (fun k_=>((((P1_ k_ ∨ P2_ k_) ∨ w.heap.size ≤ k_) ∧ some k_ ≠ (.slice Ao15 y101.length co15 : Value).ownBlock) ∧ some k_ ≠ (v107 : Value).ownBlock)) _ _ l1 (fun k_=>((((P1_ k_ ∨ P2_ k_) ∨ w.heap.size ≤ k_) ∧ some k_ ≠ (.slice Ao15 y101.length co15 : Value).ownBlock) ∧ some k_ ≠ (v107 : Value).ownBlock)) _ _ l2 t110 t113 _ ?side1 ?side2 A7.out).mono ?_);(case side1=>exact HO1.out);(case side2=>exact HO2.out);rintro e w17 ⟨v111,rfl,ho0,hb⟩;refine ⟨_,rfl,?_⟩;have n0_:=z1.mk (Kd.z1q zz61 (Kd.z1j ho0) hb);have n1_:=z1.mk (Kd.z1q zz62 (Kd.z1j ho0) hb);have n2_:=z1.mk (Kd.z2w zz37 (Kd.z1j ho0) hb);have n3_:=z1.mk (Kd.z1n zz45 (Kd.z1j ho0) hb);have n4_:=z1.mk (Kd.z1l (Kd.z1K (Kd.z2I (M:=fun k_=>(w.heap.size ≤ k_)) (Kd.z16 (ok':=fun k_=>True) ho0 (fun _ hk_=>trivial)) (z5 zz28) (fun k_ h_=>h_)) (Kd.R_lt zz45)) (z5 zz28));have n5_:=z1.mk (z4 zz28 hb);clear HO1;clear HO2;clear HO103;clear HO108;clear HB;have HO1:=n0_;have HO2:=n1_;have HO103:=n2_;have HO108:=n3_;have HO112:=n4_;have HB:=n5_;clear n0_ n1_ n2_ n3_ n4_ n5_;(try clear hb);(try clear hb2);(try clear hk);(try clear hi);(try clear ho0))|((with_reducible refine zl (f:=42) rfl ?_);refine goesL_ (some 40) rfl rfl Try.func42 zz78 rfl #[.int .i64 a0,.slice A1 l1.length c1] rfl zz27 ?_;(with_reducible refine (z1d.calls k a0 (fun k_=>(((((P1_ k_ ∨ P2_ k_) ∨ w.heap.size ≤ k_) ∧ some k_ ≠ (.slice Ao15 y101.length co15 : Value).ownBlock) ∧ some k_ ≠ (v107 : Value).ownBlock) ∧ some k_ ≠ (v111 : Value).ownBlock)) _ _ l1 t114 t117 _ ?side1 A8.out).mono ?_);(case side1=>exact HO1.out);rintro e w18 ⟨v115,rfl,ho0,hb⟩;refine ⟨_,rfl,?_⟩;have n0_:=z1.mk (Kd.z1q zz61 (Kd.z1j ho0) hb);have n1_:=z1.mk (Kd.z1q zz62 (Kd.z1j ho0) hb);have n2_:=z1.mk (Kd.z2w zz37 (Kd.z1j ho0) hb);have n3_:=z1.mk (Kd.z1n zz45 (Kd.z1j ho0) hb);have n4_:=z1.mk (Kd.z1n zz46 (Kd.z1j ho0) hb);have n5_:=z1.mk (Kd.z1l (Kd.z1K (Kd.z1K (Kd.z2I (M:=fun k_=>(w.heap.size ≤ k_)) (Kd.z16 (ok':=fun k_=>True) ho0 (fun _ hk_=>trivial)) (z5 zz28) (fun k_ h_=>h_)) (Kd.R_lt zz45)) (Kd.R_lt zz46)) (z5 zz28));have n6_:=z1.mk (z4 zz28 hb);clear HO1;clear HO2;clear HO103;clear HO108;clear HO112;clear HB;have HO1:=n0_;have HO2:=n1_;have HO103:=n2_;have HO108:=n3_;have HO112:=n4_;have HO116:=n5_;have HB:=n6_;clear n0_ n1_ n2_ n3_ n4_ n5_ n6_;(try clear hb);(try clear hb2);(try clear hk);(try clear hi);(try clear ho0))|((with_reducible refine zl (f:=14) rfl ?_);refine goesL_ (some 44) rfl rfl Try.func14 zz78 rfl #[.slice A1 l1.length c1] rfl zz27 ?_;(with_reducible refine (zs.calls k _ _ l1 t118 _ ?side1 ?side2 A9.out).mono ?_);(case side1=>repeat (first|exact (Kd.z1t HO1.out).2.2|(with_reducible refine Kd.z1h ?_ _)|(with_reducible refine Kd.z1i ?_ _)|(with_reducible refine Kd.z1y ?_)));(case side2=>exact (Kd.z1t HO1.out).2.1);rintro e w19 ⟨v119,rfl,ho0,hb⟩;refine ⟨_,rfl,?_⟩;have n0_:=z1.mk (Kd.z1q zz61 (Kd.z1j ho0) hb);have n1_:=z1.mk (Kd.z1q zz62 (Kd.z1j ho0) hb);have n2_:=z1.mk (Kd.z2w zz37 (Kd.z1j ho0) hb);have n3_:=z1.mk (Kd.zJ zz45 hb);have n4_:=z1.mk (Kd.zJ zz46 hb);have n5_:=z1.mk (Kd.zJ zz47 hb);have n6_:=z1.mk (Kd.z1l (Kd.z2I (M:=fun k_=>(w.heap.size ≤ k_)) ho0 (z5 zz28) (fun k_ h_=>h_)) (z5 zz28));have n7_:=z1.mk (z4 zz28 hb);clear HO1;clear HO2;clear HO103;clear HO108;clear HO112;clear HO116;clear HB;have HO1:=n0_;have HO2:=n1_;have HO103:=n2_;have HO108:=n3_;have HO112:=n4_;have HO116:=n5_;have HO120:=n6_;have HB:=n7_;clear n0_ n1_ n2_ n3_ n4_ n5_ n6_ n7_;(try clear hb);(try clear hb2);(try clear hk);(try clear hi);(try clear ho0))|((with_reducible refine zl (f:=14) rfl ?_);refine goesL_ (some 46) rfl rfl Try.func14 zz78 rfl #[.slice A2 l2.length c2] rfl zz27 ?_;(with_reducible refine (zs.calls k _ _ l2 t121 _ ?side1 ?side2 A10.out).mono ?_);(case side1=>repeat (first|exact (Kd.z1t HO2.out).2.2|(with_reducible refine Kd.z1h ?_ _)|(with_reducible refine Kd.z1i ?_ _)|(with_reducible refine Kd.z1y ?_)));(case side2=>exact (Kd.z1t HO2.out).2.1);rintro e w20 ⟨v122,rfl,ho0,hb⟩;refine ⟨_,rfl,?_⟩;have n0_:=z1.mk (Kd.z1q zz61 (Kd.z1j ho0) hb);have n1_:=z1.mk (Kd.z1q zz62 (Kd.z1j ho0) hb);have n2_:=z1.mk (Kd.z2w zz37 (Kd.z1j ho0) hb);have n3_:=z1.mk (Kd.zJ zz45 hb);have n4_:=z1.mk (Kd.zJ zz46 hb);have n5_:=z1.mk (Kd.zJ zz47 hb);have n6_:=z1.mk (Kd.z1n zz48 (Kd.z1j ho0) hb);have n7_:=z1.mk (Kd.z1l (Kd.z1K (Kd.z2I (M:=fun k_=>(w.heap.size ≤ k_)) ho0 (z5 zz28) (fun k_ h_=>h_)) (Kd.R_lt zz48)) (z5 zz28));have n8_:=z1.mk (z4 zz28 hb);clear HO1;clear HO2;clear HO103;clear HO108;clear HO112;clear HO116;clear HO120;clear HB;have HO1:=n0_;have HO2:=n1_;have HO103:=n2_;have HO108:=n3_;have HO112:=n4_;have HO116:=n5_;have HO120:=n6_;have HO123:=n7_;have HB:=n8_;clear n0_ n1_ n2_ n3_ n4_ n5_ n6_ n7_ n8_;(try clear hb);(try clear hb2);(try clear hk);(try clear hi);(try clear ho0);obtain ⟨Ao21,co21,eo21⟩:=Kd.z1p HO120.out;subst eo21;obtain ⟨Ao22,co22,eo22⟩:=Kd.z1p HO123.out;subst eo22)|((with_reducible refine zl (f:=43) rfl ?_);refine goesL_ (some 50) rfl rfl Try.func43 zz78 rfl #[.int .i64 a0,.slice Ao21 t118.length co21,.slice Ao22 t121.length co22] rfl zz27 ?_;(with_reducible refine (zh.calls k a0 _ _ t118 _ _ t121 t124 _ ?side1 ?side2 ?side3 ?side4 A11.out).mono ?_);(case side1=>repeat (first|exact (Kd.zL HO120.out).2.2|(with_reducible refine Kd.z1h ?_ _)|(with_reducible refine Kd.z1i ?_ _)|(with_reducible refine Kd.z1y ?_)));(case side2=>exact (Kd.zL HO120.out).2.1);(case side3=>repeat (first|exact (Kd.zL HO123.out).2.2|(with_reducible refine Kd.z1h ?_ _)|(with_reducible refine Kd.z1i ?_ _)|(with_reducible refine Kd.z1y ?_)));(case side4=>exact (Kd.zL HO123.out).2.1);rintro e w23 ⟨rfl,hb⟩;refine ⟨_,rfl,?_⟩;have n0_:=z1.mk (Kd.z1O zz61 hb);have n1_:=z1.mk (Kd.z1O zz62 hb);have n2_:=z1.mk (Kd.z2d zz37 hb);have n3_:=z1.mk (Kd.zJ zz45 hb);have n4_:=z1.mk (Kd.zJ zz46 hb);have n5_:=z1.mk (Kd.zJ zz47 hb);have n6_:=z1.mk (Kd.zJ zz48 hb);have n7_:=z1.mk (Kd.zJ zz49 hb);have n8_:=z1.mk (z4 zz28 hb);clear HO1;clear HO2;clear HO103;clear HO108;clear HO112;clear HO116;clear HO120;clear HO123;clear HB;have HO1:=n0_;have HO2:=n1_;have HO103:=n2_;have HO108:=n3_;have HO112:=n4_;have HO116:=n5_;have HO120:=n6_;have HO123:=n7_;have HB:=n8_;clear n0_ n1_ n2_ n3_ n4_ n5_ n6_ n7_ n8_;(try clear hb);(try clear hb2);(try clear hk);(try clear hi)))
 (try simp only [Act.put,List.setIfInBounds_toArray,List.set_cons_zero,List.set_cons_succ])
 go_cut [66] (fun v66 wc=>∃ (kq : Nat) (x66_11 : Bool),v66 = .bool x66_11 ∧ z1 (z3.j0 kq a0 t106 t110 t114 t117 t118 t121 t124 x66_11 = some r) ∧ z1 (kq ≤ k) ∧ z1 (Kd.R k30 30 wc w.heap.size (fun k_=>(w.heap.size ≤ k_) ∧ some k_ ≠ (v111 : Value).ownBlock ∧ some k_ ≠ (v115 : Value).ownBlock) v107 t106) ∧ z1 (Kd.R k30 30 wc w.heap.size (fun k_=>(w.heap.size ≤ k_) ∧ some k_ ≠ (v107 : Value).ownBlock ∧ some k_ ≠ (v115 : Value).ownBlock) v111 t110) ∧ z1 (Kd.R k30 30 wc w.heap.size (fun k_=>(w.heap.size ≤ k_) ∧ some k_ ≠ (v107 : Value).ownBlock ∧ some k_ ≠ (v111 : Value).ownBlock) v115 t114) ∧ z1 (Kd.R k40 40 wc w.heap.size (fun k_=>(w.heap.size ≤ k_) ∧ some k_ ≠ ((.slice Ao22 t121.length co22) : Value).ownBlock) (.slice Ao21 t118.length co21) t118) ∧ z1 (Kd.R k40 40 wc w.heap.size (fun k_=>(w.heap.size ≤ k_) ∧ some k_ ≠ ((.slice Ao21 t118.length co21) : Value).ownBlock) (.slice Ao22 t121.length co22) t121) ∧ z1 (Below w.heap.size w wc))
 case first =>
  have H:=HC12.out
  clear HC12
  by_cases c24 : t109 = t124
  rotate_left
  · rw [if_neg c24] at H
    have c24b0 : (t109 == t124) = false:=beq_eq_false_iff_ne.mpr c24
    have c24b1 : (t109 != t124) = true:=bne_iff_ne.mpr c24
    (first|rw [c24b0]|(simp only [zS,zZ];rw [c24b0])|skip)
    have H':=z1.mk H
    clear H
    go_wp2
    go_meet
    case rel=>exact ⟨_,(true),zz75,H',⟨by first|omega|exact Nat.le_refl _⟩,⟨by (with_reducible repeat (first|apply Kd.zC|apply Kd.zD|apply Kd.zO));exact Kd.z16 HO108.out (fun _ hk=>⟨hk.1.1.1,⟨hk.1.2,hk.2⟩⟩)⟩,⟨by (with_reducible repeat (first|apply Kd.zC|apply Kd.zD|apply Kd.zO));exact Kd.z16 HO112.out (fun _ hk=>⟨hk.1.1.1,⟨hk.1.2,hk.2⟩⟩)⟩,⟨by (with_reducible repeat (first|apply Kd.zC|apply Kd.zD|apply Kd.zO));exact Kd.z16 HO116.out (fun _ hk=>⟨hk.1.1.1,⟨hk.1.2,hk.2⟩⟩)⟩,⟨by (with_reducible repeat (first|apply Kd.zC|apply Kd.zD|apply Kd.zO));exact Kd.z16 HO120.out (fun _ hk=>⟨hk.1.1,hk.2⟩)⟩,⟨by (with_reducible repeat (first|apply Kd.zC|apply Kd.zD|apply Kd.zO));exact Kd.z16 HO123.out (fun _ hk=>⟨hk.1.1,hk.2⟩)⟩,⟨by repeat (first|(with_reducible first|exact HB.out|apply z7|apply z2|apply z6)|exact HB.out)⟩⟩
  rw [if_pos c24] at H
  have c24b0 : (t109 == t124) = true:=beq_iff_eq.mpr c24
  have c24b1 : (t109 != t124) = false:=bne_eq_false_iff_eq.mpr c24
  clear c24
  (first|rw [c24b0]|(simp only [zS,zZ];rw [c24b0])|skip)
  by_cases c25 : t113 = t124
  rotate_left
  · rw [if_neg c25] at H
    have c25b0 : (t113 == t124) = false:=beq_eq_false_iff_ne.mpr c25
    have c25b1 : (t113 != t124) = true:=bne_iff_ne.mpr c25
    have H':=z1.mk H
    clear H
    go_wp2
    go_meet
    case rel=>exact ⟨_,(true),zz75,H',⟨by first|omega|exact Nat.le_refl _⟩,⟨by (with_reducible repeat (first|apply Kd.zC|apply Kd.zD|apply Kd.zO));exact Kd.z16 HO108.out (fun _ hk=>⟨hk.1.1.1,⟨hk.1.2,hk.2⟩⟩)⟩,⟨by (with_reducible repeat (first|apply Kd.zC|apply Kd.zD|apply Kd.zO));exact Kd.z16 HO112.out (fun _ hk=>⟨hk.1.1.1,⟨hk.1.2,hk.2⟩⟩)⟩,⟨by (with_reducible repeat (first|apply Kd.zC|apply Kd.zD|apply Kd.zO));exact Kd.z16 HO116.out (fun _ hk=>⟨hk.1.1.1,⟨hk.1.2,hk.2⟩⟩)⟩,⟨by (with_reducible repeat (first|apply Kd.zC|apply Kd.zD|apply Kd.zO));exact Kd.z16 HO120.out (fun _ hk=>⟨hk.1.1,hk.2⟩)⟩,⟨by (with_reducible repeat (first|apply Kd.zC|apply Kd.zD|apply Kd.zO));exact Kd.z16 HO123.out (fun _ hk=>⟨hk.1.1,hk.2⟩)⟩,⟨by repeat (first|(with_reducible first|exact HB.out|apply z7|apply z2|apply z6)|exact HB.out)⟩⟩
  rw [if_pos c25] at H
  have c25b0 : (t113 == t124) = true:=beq_iff_eq.mpr c25
  have c25b1 : (t113 != t124) = false:=bne_eq_false_iff_eq.mpr c25
  clear c25
  replace H:=Option.bind_eq_some_iff.mp H
  obtain ⟨t125,A260,H⟩:=H
  replace H : (z3.j0 k a0 t106 t110 t114 t117 t118 t121 t124 (t117 != t125)) = some r:=H
  have A26:=z1.mk A260
  clear A260
  have H':=z1.mk H
  clear H
  go_wp2_with (first|(go_at_call 43;(with_reducible refine (zh.calls k a0 _ _ t118 _ _ t118 t125 _ ?side1 ?side2 ?side3 ?side4 A26.out).mono ?_);(case side1=>repeat (first|exact (Kd.zL HO120.out).2.2|(with_reducible refine Kd.z1h ?_ _)|(with_reducible refine Kd.z1i ?_ _)|(with_reducible refine Kd.z1y ?_)));(case side2=>exact (Kd.zL HO120.out).2.1);(case side3=>repeat (first|exact (Kd.zL HO120.out).2.2|(with_reducible refine Kd.z1h ?_ _)|(with_reducible refine Kd.z1i ?_ _)|(with_reducible refine Kd.z1y ?_)));(case side4=>exact (Kd.zL HO120.out).2.1);rintro e w27 ⟨rfl,hb⟩;have n0_:=z1.mk (Kd.z1O zz61 hb);have n1_:=z1.mk (Kd.z1O zz62 hb);have n2_:=z1.mk (Kd.z2d zz37 hb);have n3_:=z1.mk (Kd.zJ zz45 hb);have n4_:=z1.mk (Kd.zJ zz46 hb);have n5_:=z1.mk (Kd.zJ zz47 hb);have n6_:=z1.mk (Kd.zJ zz48 hb);have n7_:=z1.mk (Kd.zJ zz49 hb);have n8_:=z1.mk (z4 zz28 hb);clear HO1;clear HO2;clear HO103;clear HO108;clear HO112;clear HO116;clear HO120;clear HO123;clear HB;have HO1:=n0_;have HO2:=n1_;have HO103:=n2_;have HO108:=n3_;have HO112:=n4_;have HO116:=n5_;have HO120:=n6_;have HO123:=n7_;have HB:=n8_;clear n0_ n1_ n2_ n3_ n4_ n5_ n6_ n7_ n8_;(try clear hb);(try clear hb2);(try clear hk);(try clear hi)))
  go_meet
  case rel=>exact ⟨_,((t117 != t125)),zz75,H',⟨by first|omega|exact Nat.le_refl _⟩,⟨by (with_reducible repeat (first|apply Kd.zC|apply Kd.zD|apply Kd.zO));exact Kd.z16 HO108.out (fun _ hk=>⟨hk.1.1.1,⟨hk.1.2,hk.2⟩⟩)⟩,⟨by (with_reducible repeat (first|apply Kd.zC|apply Kd.zD|apply Kd.zO));exact Kd.z16 HO112.out (fun _ hk=>⟨hk.1.1.1,⟨hk.1.2,hk.2⟩⟩)⟩,⟨by (with_reducible repeat (first|apply Kd.zC|apply Kd.zD|apply Kd.zO));exact Kd.z16 HO116.out (fun _ hk=>⟨hk.1.1.1,⟨hk.1.2,hk.2⟩⟩)⟩,⟨by (with_reducible repeat (first|apply Kd.zC|apply Kd.zD|apply Kd.zO));exact Kd.z16 HO120.out (fun _ hk=>⟨hk.1.1,hk.2⟩)⟩,⟨by (with_reducible repeat (first|apply Kd.zC|apply Kd.zD|apply Kd.zO));exact Kd.z16 HO123.out (fun _ hk=>⟨hk.1.1,hk.2⟩)⟩,⟨by repeat (first|(with_reducible first|exact HB.out|apply z7|apply z2|apply z6)|exact HB.out)⟩⟩
 case rest =>
  clear HC12
  (try clear c1);(try clear c2);(try clear p2);(try clear c3);(try clear c4);(try clear c5);(try clear c7);(try clear c14);(try clear c24);(try clear c24b0);(try clear c24b1);(try clear c25);(try clear c25b0);(try clear c25b1)
  obtain ⟨kq,x66_11,rfl,HA,HJ11,HO_7,HO_9,HO_11,HO_13,HO_14,HB⟩:=hcut
  cases kq with
  | zero=>exact absurd HA.out (by simp [z3.j0])
  | succ kj11 =>
   have H:=HA.out
   clear HA
   simp only [z3.j0] at H
   by_cases c28 : x66_11 = true
   · subst c28
     have H1 : (some false) = some r:=by rw [if_pos rfl] at H;exact H
     clear H
     have H:=H1
     clear H1
     obtain rfl:=Option.some.inj H
     go_wp2
     go_ret
     exact ⟨by first|rfl|(simp [zi,zj] <;> rfl)|(simp [*,zi,zj] <;> rfl),by repeat (first|(with_reducible first|exact HB.out|apply z7|apply z2|apply z6)|exact HB.out)⟩
   replace c28:=Bool.eq_false_iff.mpr c28
   subst c28
   have H1 : (if t117 = 0 then ((zn.f kj11 a0 t118).bind fun t126=>((zo.f kj11 t114 t126).bind fun t129=>(z3.j1 kj11 a0 t106 t110 t118 t121 t124 (!t129)))) else (z3.j1 kj11 a0 t106 t110 t118 t121 t124 false)) = some r:=by rw [if_neg (show ¬ (false = true) by decide)] at H;exact H
   clear H
   have H:=H1
   clear H1
   have HC29:=z1.mk H
   clear H
   go_upto_region 10 with (fail)
   go_cut [76] (fun v76 wc=>∃ (kq : Nat) (x76_28 : Bool),v76 = .bool x76_28 ∧ z1 (z3.j1 kq a0 t106 t110 t118 t121 t124 x76_28 = some r) ∧ z1 (kq ≤ kj11) ∧ z1 (Kd.R k30 30 wc w.heap.size (fun k_=>(w.heap.size ≤ k_) ∧ some k_ ≠ (v111 : Value).ownBlock) v107 t106) ∧ z1 (Kd.R k30 30 wc w.heap.size (fun k_=>(w.heap.size ≤ k_) ∧ some k_ ≠ (v107 : Value).ownBlock) v111 t110) ∧ z1 (Kd.R k40 40 wc w.heap.size (fun k_=>(w.heap.size ≤ k_) ∧ some k_ ≠ ((.slice Ao22 t121.length co22) : Value).ownBlock) (.slice Ao21 t118.length co21) t118) ∧ z1 (Kd.R k40 40 wc w.heap.size (fun k_=>(w.heap.size ≤ k_) ∧ some k_ ≠ ((.slice Ao21 t118.length co21) : Value).ownBlock) (.slice Ao22 t121.length co22) t121) ∧ z1 (Below w.heap.size w wc))
   case first =>
    have H:=HC29.out
    clear HC29
    by_cases c30 : t117 = 0
    rotate_left
    · rw [if_neg c30] at H
      have c30b0 : (t117 == 0) = false:=beq_eq_false_iff_ne.mpr c30
      have c30b1 : (t117 != 0) = true:=bne_iff_ne.mpr c30
      (first|rw [c30b0]|(simp only [zS,zZ];rw [c30b0])|skip)
      have H':=z1.mk H
      clear H
      go_wp2
      go_meet
      case rel=>exact ⟨_,(false),zz75,H',⟨by have:=HJ11.out;first|omega|exact Nat.le_refl _⟩,⟨by (with_reducible repeat (first|apply Kd.zC|apply Kd.zD|apply Kd.zO));exact Kd.z16 HO_7.out (fun _ hk=>⟨hk.1,hk.2.1⟩)⟩,⟨by (with_reducible repeat (first|apply Kd.zC|apply Kd.zD|apply Kd.zO));exact Kd.z16 HO_9.out (fun _ hk=>⟨hk.1,hk.2.1⟩)⟩,⟨by (with_reducible repeat (first|apply Kd.zC|apply Kd.zD|apply Kd.zO));exact HO_13.out⟩,⟨by (with_reducible repeat (first|apply Kd.zC|apply Kd.zD|apply Kd.zO));exact HO_14.out⟩,⟨by repeat (first|(with_reducible first|exact HB.out|apply z7|apply z2|apply z6)|exact HB.out)⟩⟩
    rw [if_pos c30] at H
    have c30b0 : (t117 == 0) = true:=beq_iff_eq.mpr c30
    have c30b1 : (t117 != 0) = false:=bne_eq_false_iff_eq.mpr c30
    clear c30
    (first|rw [c30b0]|(simp only [zS,zZ];rw [c30b0])|skip)
    replace H:=Option.bind_eq_some_iff.mp H
    obtain ⟨t126,A310,H⟩:=H
    replace H : ((zo.f kj11 t114 t126).bind fun t129=>(z3.j1 kj11 a0 t106 t110 t118 t121 t124 (!t129))) = some r:=H
    have A31:=z1.mk A310
    clear A310
    replace H:=Option.bind_eq_some_iff.mp H
    obtain ⟨t129,A320,H⟩:=H
    replace H : (z3.j1 kj11 a0 t106 t110 t118 t121 t124 (!t129)) = some r:=H
    have A32:=z1.mk A320
    clear A320
    have H':=z1.mk H
    clear H
    go_wp2_with (first|(go_at_call 44;(with_reducible refine (zn.calls kj11 a0 _ _ t118 t126 _ ?side1 ?side2 A31.out).mono ?_);(case side1=>repeat (first|exact (Kd.zL HO_13.out).2.2|(with_reducible refine Kd.z1h ?_ _)|(with_reducible refine Kd.z1i ?_ _)|(with_reducible refine Kd.z1y ?_)));(case side2=>exact (Kd.zL HO_13.out).2.1);rintro e w33 ⟨v127,rfl,ho0,hb⟩;have n0_:=z1.mk (Kd.zJ zz58 hb);have n1_:=z1.mk (Kd.zJ zz56 hb);have n2_:=z1.mk (Kd.zJ (by (with_reducible repeat (first|apply Kd.zC|apply Kd.zD|apply Kd.zO));exact HO_11.out) hb);have n3_:=z1.mk (Kd.z1n zz50 (Kd.z1j ho0) hb);have n4_:=z1.mk (Kd.z1n zz51 (Kd.z1j ho0) hb);have n5_:=z1.mk (Kd.z1l (Kd.z1K (Kd.z1K (Kd.z2I (M:=fun k_=>(w.heap.size ≤ k_)) ho0 (z5 zz28) (fun k_ h_=>h_)) (Kd.R_lt zz50)) (Kd.R_lt zz51)) (z5 zz28));have n6_:=z1.mk (z4 zz28 hb);clear HO_7;clear HO_9;clear HO_11;clear HO_13;clear HO_14;clear HB;have HO_7:=n0_;have HO_9:=n1_;have HO_11:=n2_;have HO_13:=n3_;have HO_14:=n4_;have HO128:=n5_;have HB:=n6_;clear n0_ n1_ n2_ n3_ n4_ n5_ n6_;(try clear hb);(try clear hb2);(try clear hk);(try clear hi);(try clear ho0);obtain ⟨Ao34,co34,eo34⟩:=Kd.z1p HO_11.out;subst eo34;obtain ⟨Ao35,co35,eo35⟩:=Kd.z1p HO128.out;subst eo35)|(go_at_call 25;(with_reducible refine (zo.calls kj11 _ _ t114 _ _ t126 t129 _ ?side1 ?side2 ?side3 ?side4 A32.out).mono ?_);(case side1=>repeat (first|exact (Kd.zL HO_11.out).2.2|(with_reducible refine Kd.z1h ?_ _)|(with_reducible refine Kd.z1i ?_ _)|(with_reducible refine Kd.z1y ?_)));(case side2=>exact (Kd.zL HO_11.out).2.1);(case side3=>repeat (first|exact (Kd.zL HO128.out).2.2|(with_reducible refine Kd.z1h ?_ _)|(with_reducible refine Kd.z1i ?_ _)|(with_reducible refine Kd.z1y ?_)));(case side4=>exact (Kd.zL HO128.out).2.1);rintro e w' ⟨rfl,⟨nd,rfl⟩⟩))
    go_meet
    case rel=>exact ⟨_,(!t129),zz75,H',⟨by have:=HJ11.out;first|omega|exact Nat.le_refl _⟩,⟨by (with_reducible repeat (first|apply Kd.zC|apply Kd.zD|apply Kd.zO));exact Kd.z16 HO_7.out (fun _ hk=>⟨hk.1,hk.2.1⟩)⟩,⟨by (with_reducible repeat (first|apply Kd.zC|apply Kd.zD|apply Kd.zO));exact Kd.z16 HO_9.out (fun _ hk=>⟨hk.1,hk.2.1⟩)⟩,⟨by (with_reducible repeat (first|apply Kd.zC|apply Kd.zD|apply Kd.zO));exact Kd.z16 HO_13.out (fun _ hk=>⟨hk.1.1,hk.1.2⟩)⟩,⟨by (with_reducible repeat (first|apply Kd.zC|apply Kd.zD|apply Kd.zO));exact Kd.z16 HO_14.out (fun _ hk=>⟨hk.1.1,hk.1.2⟩)⟩,⟨by repeat (first|(with_reducible first|exact HB.out|apply z7|apply z2|apply z6)|exact HB.out)⟩⟩
   case rest =>
    clear HC29
    (try clear c1);(try clear c2);(try clear p2);(try clear c3);(try clear c4);(try clear c5);(try clear c7);(try clear c14);(try clear c24);(try clear c24b0);(try clear c24b1);(try clear c25);(try clear c25b0);(try clear c25b1);(try clear c28);(try clear c30);(try clear c30b0);(try clear c30b1);(try clear p2)
    obtain ⟨kq,x76_28,rfl,HA,HJ28,HO_7,HO_9,HO_13,HO_14,HB⟩:=hcut
    cases kq with
    | zero=>exact absurd HA.out (by simp [z3.j1])
    | succ kj28 =>
     have H:=HA.out
     clear HA
     simp only [z3.j1] at H
     by_cases c36 : x76_28 = true
     · subst c36
       have H1 : (some false) = some r:=by rw [if_pos rfl] at H;exact H
       clear H
       have H:=H1
       clear H1
       obtain rfl:=Option.some.inj H
       go_wp2
       go_ret
       exact ⟨by first|rfl|(simp [zi,zj] <;> rfl)|(simp [*,zi,zj] <;> rfl),by repeat (first|(with_reducible first|exact HB.out|apply z7|apply z2|apply z6)|exact HB.out)⟩
     replace c36:=Bool.eq_false_iff.mpr c36
     subst c36
     have H1 : (if t124 = 0 then ((zA.f kj28).bind fun t131=>(if t131 = true then ((zk.f kj28 t118 t121).bind fun t132=>((zo.f kj28 t106 t132).bind fun t135=>(if t135 = true then ((z9.f kj28 a0 t118 t121).bind fun t136=>((zo.f kj28 t110 t136).bind fun t139=>(some t139))) else (some false)))) else (some false))) else ((zA.f kj28).bind fun t130=>(if t130 = true then (some ((wrap64 ((t106.length : Int) + (t110.length : Int))) == 0)) else (some false)))) = some r:=by rw [if_neg (show ¬ (false = true) by decide)] at H;exact H
     clear H
     have H:=H1
     clear H1
     by_cases c37 : t124 = 0
     rotate_left
     · rw [if_neg c37] at H
       have c37b0 : (t124 == 0) = false:=beq_eq_false_iff_ne.mpr c37
       have c37b1 : (t124 != 0) = true:=bne_iff_ne.mpr c37
       replace H:=Option.bind_eq_some_iff.mp H
       obtain ⟨t130,A570,H⟩:=H
       replace H : (if t130 = true then (some ((wrap64 ((t106.length : Int) + (t110.length : Int))) == 0)) else (some false)) = some r:=H
       have A57:=z1.mk A570
       clear A570
       by_cases c58 : t130 = true
       · subst c58
         have H1 : (some ((wrap64 ((t106.length : Int) + (t110.length : Int))) == 0)) = some r:=by rw [if_pos rfl] at H;exact H
         clear H
         have H:=H1
         clear H1
         obtain rfl:=Option.some.inj H
         go_wp2_with (first|((with_reducible refine zl (f:=39) rfl ?_);refine goesL_ (some 79) rfl rfl Try.func39 zz78 rfl #[] rfl zz27 ?_;(with_reducible refine (zA.calls kj28  true _ A57.out).mono ?_);rintro e w59 ⟨rfl,hb⟩;refine ⟨_,rfl,?_⟩;have n0_:=z1.mk (Kd.zJ zz58 hb);have n1_:=z1.mk (Kd.zJ zz56 hb);have n2_:=z1.mk (Kd.zJ zz50 hb);have n3_:=z1.mk (Kd.zJ zz51 hb);have n4_:=z1.mk (z4 zz28 hb);clear HO_7;clear HO_9;clear HO_13;clear HO_14;clear HB;have HO_7:=n0_;have HO_9:=n1_;have HO_13:=n2_;have HO_14:=n3_;have HB:=n4_;clear n0_ n1_ n2_ n3_ n4_;(try clear hb);(try clear hb2);(try clear hk);(try clear hi);obtain ⟨Ao60,co60,eo60⟩:=Kd.z1p HO_7.out;subst eo60;obtain ⟨Ao61,co61,eo61⟩:=Kd.z1p HO_9.out;subst eo61))
         go_ret
         exact ⟨by first|rfl|(simp [zi,zj] <;> rfl)|(simp [*,zi,zj] <;> rfl),by repeat (first|(with_reducible first|exact HB.out|apply z7|apply z2|apply z6)|exact HB.out)⟩
       replace c58:=Bool.eq_false_iff.mpr c58
       subst c58
       have H1 : (some false) = some r:=by rw [if_neg (show ¬ (false = true) by decide)] at H;exact H
       clear H
       have H:=H1
       clear H1
       obtain rfl:=Option.some.inj H
       go_wp2_with (first|((with_reducible refine zl (f:=39) rfl ?_);refine goesL_ (some 79) rfl rfl Try.func39 zz78 rfl #[] rfl zz27 ?_;(with_reducible refine (zA.calls kj28  false _ A57.out).mono ?_);rintro e w62 ⟨rfl,hb⟩;refine ⟨_,rfl,?_⟩;have n0_:=z1.mk (Kd.zJ zz58 hb);have n1_:=z1.mk (Kd.zJ zz56 hb);have n2_:=z1.mk (Kd.zJ zz50 hb);have n3_:=z1.mk (Kd.zJ zz51 hb);have n4_:=z1.mk (z4 zz28 hb);clear HO_7;clear HO_9;clear HO_13;clear HO_14;clear HB;have HO_7:=n0_;have HO_9:=n1_;have HO_13:=n2_;have HO_14:=n3_;have HB:=n4_;clear n0_ n1_ n2_ n3_ n4_;(try clear hb);(try clear hb2);(try clear hk);(try clear hi)))
       go_ret
       exact ⟨by first|rfl|(simp [zi,zj] <;> rfl)|(simp [*,zi,zj] <;> rfl),by repeat (first|(with_reducible first|exact HB.out|apply z7|apply z2|apply z6)|exact HB.out)⟩
     rw [if_pos c37] at H
     have c37b0 : (t124 == 0) = true:=beq_iff_eq.mpr c37
     have c37b1 : (t124 != 0) = false:=bne_eq_false_iff_eq.mpr c37
     clear c37
     replace H:=Option.bind_eq_some_iff.mp H
     obtain ⟨t131,A380,H⟩:=H
     replace H : (if t131 = true then ((zk.f kj28 t118 t121).bind fun t132=>((zo.f kj28 t106 t132).bind fun t135=>(if t135 = true then ((z9.f kj28 a0 t118 t121).bind fun t136=>((zo.f kj28 t110 t136).bind fun t139=>(some t139))) else (some false)))) else (some false)) = some r:=H
     have A38:=z1.mk A380
     clear A380
     by_cases c39 : t131 = true
     rotate_left
     · replace c39:=Bool.eq_false_iff.mpr c39
       subst c39
       have H1 : (some false) = some r:=by rw [if_neg (show ¬ (false = true) by decide)] at H;exact H
       clear H
       have H:=H1
       clear H1
       obtain rfl:=Option.some.inj H
       go_wp2_with (first|((with_reducible refine zl (f:=39) rfl ?_);refine goesL_ (some 88) rfl rfl Try.func39 zz78 rfl #[] rfl zz27 ?_;(with_reducible refine (zA.calls kj28  false _ A38.out).mono ?_);rintro e w56 ⟨rfl,hb⟩;refine ⟨_,rfl,?_⟩;have n0_:=z1.mk (Kd.zJ zz58 hb);have n1_:=z1.mk (Kd.zJ zz56 hb);have n2_:=z1.mk (Kd.zJ zz50 hb);have n3_:=z1.mk (Kd.zJ zz51 hb);have n4_:=z1.mk (z4 zz28 hb);clear HO_7;clear HO_9;clear HO_13;clear HO_14;clear HB;have HO_7:=n0_;have HO_9:=n1_;have HO_13:=n2_;have HO_14:=n3_;have HB:=n4_;clear n0_ n1_ n2_ n3_ n4_;(try clear hb);(try clear hb2);(try clear hk);(try clear hi)))
       go_ret
       exact ⟨by first|rfl|(simp [zi,zj] <;> rfl)|(simp [*,zi,zj] <;> rfl),by repeat (first|(with_reducible first|exact HB.out|apply z7|apply z2|apply z6)|exact HB.out)⟩
     subst c39
     have H1 : ((zk.f kj28 t118 t121).bind fun t132=>((zo.f kj28 t106 t132).bind fun t135=>(if t135 = true then ((z9.f kj28 a0 t118 t121).bind fun t136=>((zo.f kj28 t110 t136).bind fun t139=>(some t139))) else (some false)))) = some r:=by rw [if_pos rfl] at H;exact H
     clear H
     have H:=H1
     clear H1
     replace H:=Option.bind_eq_some_iff.mp H
     obtain ⟨t132,A400,H⟩:=H
     replace H : ((zo.f kj28 t106 t132).bind fun t135=>(if t135 = true then ((z9.f kj28 a0 t118 t121).bind fun t136=>((zo.f kj28 t110 t136).bind fun t139=>(some t139))) else (some false))) = some r:=H
     have A40:=z1.mk A400
     clear A400
     replace H:=Option.bind_eq_some_iff.mp H
     obtain ⟨t135,A410,H⟩:=H
     replace H : (if t135 = true then ((z9.f kj28 a0 t118 t121).bind fun t136=>((zo.f kj28 t110 t136).bind fun t139=>(some t139))) else (some false)) = some r:=H
     have A41:=z1.mk A410
     clear A410
     by_cases c42 : t135 = true
     rotate_left
     · replace c42:=Bool.eq_false_iff.mpr c42
       subst c42
       have H1 : (some false) = some r:=by rw [if_neg (show ¬ (false = true) by decide)] at H;exact H
       clear H
       have H:=H1
       clear H1
       obtain rfl:=Option.some.inj H
       go_wp2_with (first|((with_reducible refine zl (f:=39) rfl ?_);refine goesL_ (some 88) rfl rfl Try.func39 zz78 rfl #[] rfl zz27 ?_;(with_reducible refine (zA.calls kj28  true _ A38.out).mono ?_);rintro e w52 ⟨rfl,hb⟩;refine ⟨_,rfl,?_⟩;have n0_:=z1.mk (Kd.zJ zz58 hb);have n1_:=z1.mk (Kd.zJ zz56 hb);have n2_:=z1.mk (Kd.zJ zz50 hb);have n3_:=z1.mk (Kd.zJ zz51 hb);have n4_:=z1.mk (z4 zz28 hb);clear HO_7;clear HO_9;clear HO_13;clear HO_14;clear HB;have HO_7:=n0_;have HO_9:=n1_;have HO_13:=n2_;have HO_14:=n3_;have HB:=n4_;clear n0_ n1_ n2_ n3_ n4_;(try clear hb);(try clear hb2);(try clear hk);(try clear hi))|(go_at_call 45;(with_reducible refine (zk.calls kj28 _ _ t118 _ _ t121 t132 _ ?side1 ?side2 ?side3 ?side4 A40.out).mono ?_);(case side1=>repeat (first|exact (Kd.zL HO_13.out).2.2|(with_reducible refine Kd.z1h ?_ _)|(with_reducible refine Kd.z1i ?_ _)|(with_reducible refine Kd.z1y ?_)));(case side2=>exact (Kd.zL HO_13.out).2.1);(case side3=>repeat (first|exact (Kd.zL HO_14.out).2.2|(with_reducible refine Kd.z1h ?_ _)|(with_reducible refine Kd.z1i ?_ _)|(with_reducible refine Kd.z1y ?_)));(case side4=>exact (Kd.zL HO_14.out).2.1);rintro e w53 ⟨v133,rfl,ho0,hb⟩;have n0_:=z1.mk (Kd.zJ zz58 hb);have n1_:=z1.mk (Kd.zJ zz56 hb);have n2_:=z1.mk (Kd.z1n zz50 (Kd.z1j ho0) hb);have n3_:=z1.mk (Kd.z1n zz51 (Kd.z1j ho0) hb);have n4_:=z1.mk (Kd.z1l (Kd.z1K (Kd.z1K (Kd.z2I (M:=fun k_=>(w.heap.size ≤ k_)) ho0 (z5 zz28) (fun k_ h_=>h_)) (Kd.R_lt zz50)) (Kd.R_lt zz51)) (z5 zz28));have n5_:=z1.mk (z4 zz28 hb);clear HO_7;clear HO_9;clear HO_13;clear HO_14;clear HB;have HO_7:=n0_;have HO_9:=n1_;have HO_13:=n2_;have HO_14:=n3_;have HO134:=n4_;have HB:=n5_;clear n0_ n1_ n2_ n3_ n4_ n5_;(try clear hb);(try clear hb2);(try clear hk);(try clear hi);(try clear ho0);obtain ⟨Ao54,co54,eo54⟩:=Kd.z1p HO_7.out;subst eo54;obtain ⟨Ao55,co55,eo55⟩:=Kd.z1p HO134.out;subst eo55)|(go_at_call 25;(with_reducible refine (zo.calls kj28 _ _ t106 _ _ t132 false _ ?side1 ?side2 ?side3 ?side4 A41.out).mono ?_);(case side1=>repeat (first|exact (Kd.zL HO_7.out).2.2|(with_reducible refine Kd.z1h ?_ _)|(with_reducible refine Kd.z1i ?_ _)|(with_reducible refine Kd.z1y ?_)));(case side2=>exact (Kd.zL HO_7.out).2.1);(case side3=>repeat (first|exact (Kd.zL HO134.out).2.2|(with_reducible refine Kd.z1h ?_ _)|(with_reducible refine Kd.z1i ?_ _)|(with_reducible refine Kd.z1y ?_)));(case side4=>exact (Kd.zL HO134.out).2.1);rintro e w' ⟨rfl,⟨nd,rfl⟩⟩))
       go_ret
       exact ⟨by first|rfl|(simp [zi,zj] <;> rfl)|(simp [*,zi,zj] <;> rfl),by repeat (first|(with_reducible first|exact HB.out|apply z7|apply z2|apply z6)|exact HB.out)⟩
     subst c42
     have H1 : ((z9.f kj28 a0 t118 t121).bind fun t136=>((zo.f kj28 t110 t136).bind fun t139=>(some t139))) = some r:=by rw [if_pos rfl] at H;exact H
     clear H
     have H:=H1
     clear H1
     replace H:=Option.bind_eq_some_iff.mp H
     obtain ⟨t136,A430,H⟩:=H
     replace H : ((zo.f kj28 t110 t136).bind fun t139=>(some t139)) = some r:=H
     have A43:=z1.mk A430
     clear A430
     replace H:=Option.bind_eq_some_iff.mp H
     obtain ⟨t139,A440,H⟩:=H
     replace H : (some t139) = some r:=H
     have A44:=z1.mk A440
     clear A440
     obtain rfl:=Option.some.inj H
     go_wp2_with (first|((with_reducible refine zl (f:=39) rfl ?_);refine goesL_ (some 88) rfl rfl Try.func39 zz78 rfl #[] rfl zz27 ?_;(with_reducible refine (zA.calls kj28  true _ A38.out).mono ?_);rintro e w45 ⟨rfl,hb⟩;refine ⟨_,rfl,?_⟩;have n0_:=z1.mk (Kd.zJ zz58 hb);have n1_:=z1.mk (Kd.zJ zz56 hb);have n2_:=z1.mk (Kd.zJ zz50 hb);have n3_:=z1.mk (Kd.zJ zz51 hb);have n4_:=z1.mk (z4 zz28 hb);clear HO_7;clear HO_9;clear HO_13;clear HO_14;clear HB;have HO_7:=n0_;have HO_9:=n1_;have HO_13:=n2_;have HO_14:=n3_;have HB:=n4_;clear n0_ n1_ n2_ n3_ n4_;(try clear hb);(try clear hb2);(try clear hk);(try clear hi))|(go_at_call 45;(with_reducible refine (zk.calls kj28 _ _ t118 _ _ t121 t132 _ ?side1 ?side2 ?side3 ?side4 A40.out).mono ?_);(case side1=>repeat (first|exact (Kd.zL HO_13.out).2.2|(with_reducible refine Kd.z1h ?_ _)|(with_reducible refine Kd.z1i ?_ _)|(with_reducible refine Kd.z1y ?_)));(case side2=>exact (Kd.zL HO_13.out).2.1);(case side3=>repeat (first|exact (Kd.zL HO_14.out).2.2|(with_reducible refine Kd.z1h ?_ _)|(with_reducible refine Kd.z1i ?_ _)|(with_reducible refine Kd.z1y ?_)));(case side4=>exact (Kd.zL HO_14.out).2.1);rintro e w46 ⟨v133,rfl,ho0,hb⟩;have n0_:=z1.mk (Kd.zJ zz58 hb);have n1_:=z1.mk (Kd.zJ zz56 hb);have n2_:=z1.mk (Kd.z1n zz50 (Kd.z1j ho0) hb);have n3_:=z1.mk (Kd.z1n zz51 (Kd.z1j ho0) hb);have n4_:=z1.mk (Kd.z1l (Kd.z1K (Kd.z1K (Kd.z2I (M:=fun k_=>(w.heap.size ≤ k_)) ho0 (z5 zz28) (fun k_ h_=>h_)) (Kd.R_lt zz50)) (Kd.R_lt zz51)) (z5 zz28));have n5_:=z1.mk (z4 zz28 hb);clear HO_7;clear HO_9;clear HO_13;clear HO_14;clear HB;have HO_7:=n0_;have HO_9:=n1_;have HO_13:=n2_;have HO_14:=n3_;have HO134:=n4_;have HB:=n5_;clear n0_ n1_ n2_ n3_ n4_ n5_;(try clear hb);(try clear hb2);(try clear hk);(try clear hi);(try clear ho0);obtain ⟨Ao47,co47,eo47⟩:=Kd.z1p HO_7.out;subst eo47;obtain ⟨Ao48,co48,eo48⟩:=Kd.z1p HO134.out;subst eo48)|(go_at_call 25;(with_reducible refine (zo.calls kj28 _ _ t106 _ _ t132 true _ ?side1 ?side2 ?side3 ?side4 A41.out).mono ?_);(case side1=>repeat (first|exact (Kd.zL HO_7.out).2.2|(with_reducible refine Kd.z1h ?_ _)|(with_reducible refine Kd.z1i ?_ _)|(with_reducible refine Kd.z1y ?_)));(case side2=>exact (Kd.zL HO_7.out).2.1);(case side3=>repeat (first|exact (Kd.zL HO134.out).2.2|(with_reducible refine Kd.z1h ?_ _)|(with_reducible refine Kd.z1i ?_ _)|(with_reducible refine Kd.z1y ?_)));(case side4=>exact (Kd.zL HO134.out).2.1);rintro e w' ⟨rfl,⟨nd,rfl⟩⟩)|(go_at_call 46;(with_reducible refine (z9.calls kj28 a0 _ _ t118 _ _ t121 t136 _ ?side1 ?side2 ?side3 ?side4 A43.out).mono ?_);(case side1=>repeat (first|exact (Kd.zL HO_13.out).2.2|(with_reducible refine Kd.z1h ?_ _)|(with_reducible refine Kd.z1i ?_ _)|(with_reducible refine Kd.z1y ?_)));(case side2=>exact (Kd.zL HO_13.out).2.1);(case side3=>repeat (first|exact (Kd.zL HO_14.out).2.2|(with_reducible refine Kd.z1h ?_ _)|(with_reducible refine Kd.z1i ?_ _)|(with_reducible refine Kd.z1y ?_)));(case side4=>exact (Kd.zL HO_14.out).2.1);rintro e w49 ⟨v137,rfl,ho0,hb⟩;have n0_:=z1.mk (Kd.zJ zz58 hb);have n1_:=z1.mk (Kd.zJ zz56 hb);have n2_:=z1.mk (Kd.z1n zz50 (Kd.z1j ho0) hb);have n3_:=z1.mk (Kd.z1n zz51 (Kd.z1j ho0) hb);have n4_:=z1.mk (Kd.z1n zz52 (Kd.z1j ho0) hb);have n5_:=z1.mk (Kd.z1l (Kd.z1K (Kd.z1K (Kd.z1K (Kd.z2I (M:=fun k_=>(w.heap.size ≤ k_)) ho0 (z5 zz28) (fun k_ h_=>h_)) (Kd.R_lt zz50)) (Kd.R_lt zz51)) (Kd.R_lt zz52)) (z5 zz28));have n6_:=z1.mk (z4 zz28 hb);clear HO_7;clear HO_9;clear HO_13;clear HO_14;clear HO134;clear HB;have HO_7:=n0_;have HO_9:=n1_;have HO_13:=n2_;have HO_14:=n3_;have HO134:=n4_;have HO138:=n5_;have HB:=n6_;clear n0_ n1_ n2_ n3_ n4_ n5_ n6_;(try clear hb);(try clear hb2);(try clear hk);(try clear hi);(try clear ho0);obtain ⟨Ao50,co50,eo50⟩:=Kd.z1p HO_9.out;subst eo50;obtain ⟨Ao51,co51,eo51⟩:=Kd.z1p HO138.out;subst eo51)|(go_at_call 25;(with_reducible refine (zo.calls kj28 _ _ t110 _ _ t136 t139 _ ?side1 ?side2 ?side3 ?side4 A44.out).mono ?_);(case side1=>repeat (first|exact (Kd.zL HO_9.out).2.2|(with_reducible refine Kd.z1h ?_ _)|(with_reducible refine Kd.z1i ?_ _)|(with_reducible refine Kd.z1y ?_)));(case side2=>exact (Kd.zL HO_9.out).2.1);(case side3=>repeat (first|exact (Kd.zL HO138.out).2.2|(with_reducible refine Kd.z1h ?_ _)|(with_reducible refine Kd.z1i ?_ _)|(with_reducible refine Kd.z1y ?_)));(case side4=>exact (Kd.zL HO138.out).2.1);rintro e w' ⟨rfl,⟨nd,rfl⟩⟩))
     go_ret
     exact ⟨by first|rfl|(simp [zi,zj] <;> rfl)|(simp [*,zi,zj] <;> rfl),by repeat (first|(with_reducible first|exact HB.out|apply z7|apply z2|apply z6)|exact HB.out)⟩
end Go.Proofs.Ytkhmpaooinpfoaa.P
/- What the arguments of a law read as: for each type that can be told, any reading of it is one of a value of its kind, with its numbers in their ranges. Own text. -/
namespace Go.Proofs.Ytkhmpaooinpfoaa.Reads
open Go.ChangeShapes Go.WideShapes Go.ChangeAt Go.RowKit Go.Deep Go.Proofs.YtkhmpaooinpfoaaW.PrintWords
set_option linter.unusedVariables false

/-- Whatever is read at type t is of kind d, and good. -/
def ReadsAs {α : Type} (P : Program) (t : TypeId) (d : Kd α) (good : α → Prop) : Prop :=
  ∀ {H : Type} (enc : TypeId × Value → H) (w : World) (base : Nat) (spare : Nat → Bool) (held : Bool) (fuel : Nat) (cs : List Value) (x : DataW H × List MemPlace), DataW.trod enc P w base spare held fuel t cs = some x → ∃ a, d.K w a cs ∧ good a

theorem z7p {P : Program} {t : TypeId} {k : IntKind} (ht : P.underlying t = some (.int k)) : ReadsAs P t (Kd.int k) (fun n => (Lit.int k n).wf = true) := by
  intro H enc w base spare held fuel cs x h
  obtain ⟨n, rfl, _, hw⟩ := DataW.trod_int ht h
  exact ⟨n, rfl, hw⟩
theorem op_bool {P : Program} {t : TypeId} (ht : P.underlying t = some .bool) : ReadsAs P t Kd.bool (fun _ => True) := by
  intro H enc w base spare held fuel cs x h
  obtain ⟨n, rfl, _⟩ := DataW.trod_bool ht h
  exact ⟨n, rfl, trivial⟩
theorem z5R (a : Addr) (i j : Nat) : (a.add i).add j = a.add (i + j) := Go.Deep.add_add a i j
theorem op_slice {α : Type} {P : Program} {t e : TypeId} {d : Kd α} {good : α → Prop} (ht : P.underlying t = some (.slice e)) (hc : P.cellsOf e = d.sz) (he : ReadsAs P e d good) : ReadsAs P t (Kd.slice e d) (fun l => (∀ x ∈ l, good x) ∧ l.length ≤ maxLen) := by
  intro H enc w base spare held fuel cs x h
  rcases open_slice ht h with ⟨rfl, _⟩ | ⟨a, len, cap, m, n, D, Pl, rfl, hb, hl, hm, hmm, rfl, hx⟩
  · exact ⟨[], ⟨none, 0, rfl, Nat.le_refl _, Kd.z5i d w⟩, ⟨by simp, Nat.zero_le _⟩⟩
  · have hlm : len ≤ m := by rw [hmm]; split <;> omega
    have hex : ∀ i, i < len → ∃ y : α, ∃ c, c.length = d.sz ∧ d.K w y c ∧ good y ∧ ∀ j u, c[j]? = some u → w.cell? (a.add (i * d.sz + j)) = some u := by
      intro i hi
      obtain ⟨cs', h1, h2⟩ := hx i (by omega)
      obtain ⟨_, hlen, hcell⟩ := World.cells?_some h1
      obtain ⟨y, hK, hg⟩ := he enc w base spare held n cs' _ h2
      refine ⟨y, cs', by rw [hlen, hc], hK, hg, fun j u hu => ?_⟩
      have hj : j < P.cellsOf e := by rw [← hlen]; exact (List.getElem?_eq_some_iff.1 hu).1
      have := hcell j hj
      rw [z5R] at this
      rw [← hc, this]; exact hu
    have hmax : len ≤ 9223372036854775807 := by
      have h9 : len ≤ maxLen := by omega
      simpa [maxLen] using h9
    have hlen : (List.ofFn (fun i : Fin len => Classical.choose (hex i.1 i.2))).length = len := List.length_ofFn
    refine ⟨List.ofFn (fun i : Fin len => Classical.choose (hex i.1 i.2)), ⟨some a, cap, by rw [hlen], by rw [hlen]; exact hl, rfl, by rw [hlen]; exact hmax, fun _ => ⟨a, rfl, ?_⟩⟩, ?_, by rw [hlen]; omega⟩
    · intro j p hp
      obtain ⟨hj, hpj⟩ := List.getElem?_eq_some_iff.1 hp
      rw [List.length_ofFn] at hj
      rw [List.getElem_ofFn] at hpj
      obtain ⟨c, h1, h2, _, h4⟩ := Classical.choose_spec (hex j hj)
      exact ⟨c, h1, by rw [← hpj]; exact h2, h4⟩
    · intro y hy
      obtain ⟨i, rfl⟩ := List.mem_ofFn.1 hy
      obtain ⟨c, _, _, h3, _⟩ := Classical.choose_spec (hex i.1 i.2)
      exact h3

/-- Fields that lie one behind the other. -/
def ReadsFs {α : Type} (P : Program) (fs : List Field) (off : Nat) (d : Kd α) (good : α → Prop) : Prop :=
  ∀ {H : Type} (enc : TypeId × Value → H) (w : World) (base : Nat) (spare : Nat → Bool) (held : Bool) (n : Nat) (cs : List Value), cs.length = d.sz →
    (∀ f ∈ fs, off ≤ f.offset ∧ ∃ x, DataW.trod enc P w base spare held n f.type ((cs.drop (f.offset - off)).take (P.cellsOf f.type)) = some x) → ∃ a, d.K w a cs ∧ good a
theorem z7s {α : Type} {P : Program} {f : Field} {off : Nat} {d : Kd α} {good : α → Prop} (hs : P.cellsOf f.type = d.sz) (ho : f.offset = off) (he : ReadsAs P f.type d good) : ReadsFs P [f] off d good := by
  intro H enc w base spare held n cs hl h
  obtain ⟨_, x, hx⟩ := h f (by simp)
  rw [ho, Nat.sub_self, List.drop_zero, hs, ← hl, List.take_length] at hx
  exact he enc w base spare held n cs x hx
theorem z7r {α β : Type} {P : Program} {f : Field} {fs : List Field} {off : Nat} {d : Kd α} {d' : Kd β} {good : α → Prop} {good' : β → Prop} (hs : P.cellsOf f.type = d.sz) (ho : f.offset = off) (he : ReadsAs P f.type d good)
    (hr : ReadsFs P fs (off + d.sz) d' good') (hoff : ∀ g ∈ fs, off + d.sz ≤ g.offset) : ReadsFs P (f :: fs) off (Kd.pair d d') (fun x => good x.1 ∧ good' x.2) := by
  intro H enc w base spare held n cs hl h
  have hl' : cs.length = d.sz + d'.sz := hl
  obtain ⟨_, x, hx⟩ := h f (by simp)
  rw [ho, Nat.sub_self, List.drop_zero, hs] at hx
  obtain ⟨a, hK, hg⟩ := he enc w base spare held n _ x hx
  obtain ⟨b, hK', hg'⟩ := hr enc w base spare held n (cs.drop d.sz) (by rw [List.length_drop]; omega) (fun g hgm => by
    obtain ⟨_, y, hy⟩ := h g (by simp [hgm])
    have ho' := hoff g hgm
    refine ⟨ho', y, ?_⟩
    rw [List.drop_drop, show d.sz + (g.offset - (off + d.sz)) = g.offset - off by omega]
    exact hy)
  exact ⟨(a, b), ⟨cs.take d.sz, cs.drop d.sz, (List.take_append_drop _ _).symm, hK, hK'⟩, hg, hg'⟩
theorem z7q {α β : Type} {P : Program} {t : TypeId} {fs : Array Field} {l : List Field} {d : Kd α} {good : α → Prop} (f : β → α) (hsurj : ∀ a, ∃ b, f b = a) (ht : P.underlying t = some (.struct fs)) (hfl : fs.toList = l) (hs : P.cellsOf t = d.sz) (h : ReadsFs P l 0 d good) :
    ReadsAs P t (Kd.iso d f) (fun b => good (f b)) := by
  intro H enc w base spare held fuel cs x hx
  obtain ⟨xs, n, rfl, _, hlen, hxs, hall⟩ := DataW.trod_struct ht hx
  obtain ⟨a, hK, hg⟩ := h enc w base spare held n cs (by rw [hlen, hs]) (fun g hgm => by
    rw [← hfl] at hgm
    obtain ⟨i, hi, rfl⟩ := List.mem_iff_getElem.1 hgm
    have h1 := hall i fs.toList[i] (by simp at hi ⊢)
    have hi' : i < xs.length := by rw [hxs]; simpa using hi
    refine ⟨Nat.zero_le _, xs[i], ?_⟩
    rw [Nat.sub_zero, h1, List.getElem?_eq_getElem hi'])
  obtain ⟨b, rfl⟩ := hsurj a
  exact ⟨b, hK, hg⟩

/-- Elements of an array, one behind the other. -/
def ReadsAr {α : Type} (P : Program) (e : TypeId) (m : Nat) (d : Kd α) (good : α → Prop) : Prop :=
  ∀ {H : Type} (enc : TypeId × Value → H) (w : World) (base : Nat) (spare : Nat → Bool) (held : Bool) (n : Nat) (cs : List Value), cs.length = d.sz →
    (∀ i, i < m → ∃ x, DataW.trod enc P w base spare held n e ((cs.drop (i * P.cellsOf e)).take (P.cellsOf e)) = some x) → ∃ a, d.K w a cs ∧ good a
theorem opas_last {α : Type} {P : Program} {e : TypeId} {d : Kd α} {good : α → Prop} (hs : P.cellsOf e = d.sz) (he : ReadsAs P e d good) : ReadsAr P e 1 d good := by
  intro H enc w base spare held n cs hl h
  obtain ⟨x, hx⟩ := h 0 (by omega)
  rw [Nat.zero_mul, List.drop_zero, hs, ← hl, List.take_length] at hx
  exact he enc w base spare held n cs x hx
theorem opas_cons {α β : Type} {P : Program} {e : TypeId} {m : Nat} {d : Kd α} {d' : Kd β} {good : α → Prop} {good' : β → Prop} (hs : P.cellsOf e = d.sz) (he : ReadsAs P e d good) (hr : ReadsAr P e m d' good') :
    ReadsAr P e (m + 1) (Kd.pair d d') (fun x => good x.1 ∧ good' x.2) := by
  intro H enc w base spare held n cs hl h
  have hl' : cs.length = d.sz + d'.sz := hl
  obtain ⟨x, hx⟩ := h 0 (by omega)
  rw [Nat.zero_mul, List.drop_zero, hs] at hx
  obtain ⟨a, hK, hg⟩ := he enc w base spare held n _ x hx
  obtain ⟨b, hK', hg'⟩ := hr enc w base spare held n (cs.drop d.sz) (by rw [List.length_drop]; omega) (fun i hi => by
    obtain ⟨y, hy⟩ := h (i + 1) (by omega)
    refine ⟨y, ?_⟩
    rw [List.drop_drop, show d.sz + i * P.cellsOf e = (i + 1) * P.cellsOf e by rw [hs, Nat.add_mul]; omega]
    exact hy)
  exact ⟨(a, b), ⟨cs.take d.sz, cs.drop d.sz, (List.take_append_drop _ _).symm, hK, hK'⟩, hg, hg'⟩
theorem op_array {α β : Type} {P : Program} {t e : TypeId} {m : Nat} {d : Kd α} {good : α → Prop} (f : β → α) (hsurj : ∀ a, ∃ b, f b = a) (ht : P.underlying t = some (.array m e)) (hs : P.cellsOf t = d.sz) (h : ReadsAr P e m d good) :
    ReadsAs P t (Kd.iso d f) (fun b => good (f b)) := by
  intro H enc w base spare held fuel cs x hx
  obtain ⟨xs, n, rfl, _, hlen, hxs, hall⟩ := DataW.trod_array ht hx
  obtain ⟨a, hK, hg⟩ := h enc w base spare held n cs (by rw [hlen, hs]) (fun i hi => by
    have hi' : i < xs.length := by omega
    exact ⟨xs[i], by rw [hall i hi, List.getElem?_eq_getElem hi']⟩)
  obtain ⟨b, rfl⟩ := hsurj a
  exact ⟨b, hK, hg⟩
theorem z5x {P : Program} {w : World} {r : Reach} {base : Nat} {t e : TypeId} {m : Nat} {v : Value} (ht : P.underlying t = some (.array m e)) (h : Value.okWide P w r base t v) : ∃ cs, v = .agg cs ∧ cs.size = P.cellsOf t := by
  simp only [Value.okWide, ht] at h
  cases v <;> simp_all

/-- An argument that is a slice. -/
theorem z5p {α : Type} {P : Program} {H : Type} {enc : TypeId × Value → H} {W : World} {base : Nat} {spare : Nat → Bool} {held : Bool} {t e : TypeId} {d : Kd α} {good : List α → Prop} {v : Value} {dd : DataW H} {ps : List MemPlace}
    (hop : ReadsAs P t (Kd.slice e d) good) {e' : TypeId} (ht : P.underlying t = some (.slice e')) {r : Reach} {b : Nat} (hv : Value.okWide P W r b t v) (h : DataW.Trod enc P W base spare held t v dd ps) :
    ∃ (l : List α) (A : Option Addr) (c : Nat), v = .slice A l.length c ∧ l.length ≤ c ∧ Kd.C d W A l.length l ∧ good l := by
  obtain ⟨A, len, cap, rfl⟩ := okWide_slice ht hv
  obtain ⟨fuel, hf⟩ := h
  obtain ⟨l, ⟨A', c, hcs, hl, hC⟩, hg⟩ := hop enc W base spare held fuel _ _ hf
  simp [Value.cells] at hcs
  obtain ⟨rfl, rfl, rfl⟩ := hcs
  exact ⟨l, A, cap, rfl, hl, hC, hg⟩
theorem arg_int {P : Program} {H : Type} {enc : TypeId × Value → H} {W : World} {base : Nat} {spare : Nat → Bool} {held : Bool} {t : TypeId} {k : IntKind} {v : Value} {dd : DataW H} {ps : List MemPlace}
    (ht : P.underlying t = some (.int k)) {r : Reach} {b : Nat} (hv : Value.okWide P W r b t v) (h : DataW.Trod enc P W base spare held t v dd ps) :
    ∃ n, v = .int k n ∧ (Lit.int k n).wf = true := by
  obtain ⟨n, rfl⟩ := okWide_int ht hv
  obtain ⟨fuel, hf⟩ := h
  obtain ⟨l, hcs, hg⟩ := z7p ht enc W base spare held fuel _ _ hf
  have : n = l := by
    have h1 : ([Value.int k n] : List Value) = [.int k l] := hcs
    simpa using h1
  subst this
  exact ⟨n, rfl, hg⟩
theorem arg_bool {P : Program} {W : World} {t : TypeId} {v : Value} (ht : P.underlying t = some .bool) {r : Reach} {b : Nat} (hv : Value.okWide P W r b t v) : ∃ n, v = .bool n := okWide_bool ht hv
/-- An argument that is a struct: its cells. -/
theorem arg_struct {α : Type} {P : Program} {H : Type} {enc : TypeId × Value → H} {W : World} {base : Nat} {spare : Nat → Bool} {held : Bool} {t : TypeId} {fs : Array Field} {d : Kd α} {good : α → Prop} {v : Value} {dd : DataW H} {ps : List MemPlace}
    (hop : ReadsAs P t d good) (ht : P.underlying t = some (.struct fs)) {r : Reach} {b : Nat} (hv : Value.okWide P W r b t v) (h : DataW.Trod enc P W base spare held t v dd ps) :
    ∃ (a : α) (cs : List Value), v = .agg cs.toArray ∧ d.K W a cs ∧ good a := by
  obtain ⟨cs, rfl, _⟩ := okWide_struct ht hv
  obtain ⟨fuel, hf⟩ := h
  obtain ⟨a, hK, hg⟩ := hop enc W base spare held fuel _ _ hf
  exact ⟨a, cs.toList, by simp, hK, hg⟩
/-- An argument that is an array: its cells. -/
theorem arg_array {α : Type} {P : Program} {H : Type} {enc : TypeId × Value → H} {W : World} {base : Nat} {spare : Nat → Bool} {held : Bool} {t e : TypeId} {m : Nat} {d : Kd α} {good : α → Prop} {v : Value} {dd : DataW H} {ps : List MemPlace}
    (hop : ReadsAs P t d good) (ht : P.underlying t = some (.array m e)) {r : Reach} {b : Nat} (hv : Value.okWide P W r b t v) (h : DataW.Trod enc P W base spare held t v dd ps) :
    ∃ (a : α) (cs : List Value), v = .agg cs.toArray ∧ d.K W a cs ∧ good a := by
  obtain ⟨cs, rfl, _⟩ := z5x ht hv
  obtain ⟨fuel, hf⟩ := h
  obtain ⟨a, hK, hg⟩ := hop enc W base spare held fuel _ _ hf
  exact ⟨a, cs.toList, by simp, hK, hg⟩
end Go.Proofs.Ytkhmpaooinpfoaa.Reads

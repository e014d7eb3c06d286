/- Own text: merged by wip/tools/pack.py out of what the law RingBatches reaches. -/
import Derived.Test.YtkhmpaooinpfoaaMRingBatchesb
import Derived.Test.YtkhmpaooinpfoaaMRingBatchesc
namespace Go.Proofs.Ytkhmpaooinpfoaa.P
open Go.RowKit Go.Proofs.YtkhmpaooinpfoaaW.PrintWords Go.Proofs.YtkhmpaooinpfoaaW.PrintLast Go.Proofs.YtkhmpaooinpfoaaW.PrintMore
attribute [local go_sem] z12 z14 z1i z1j zU zV z13 z15   -- for this text's walks alone
set_option linter.unusedVariables false
set_option linter.unusedSimpArgs false
attribute [local go_sem high] eqA30
def zM.f (k : Nat)  : Option (Bool):=(zB.f k 0 (([true,false] : List Bool)) (([(⟨0,1⟩ : S30)] : List (S30)))).bind fun bt107=>((z1g.f k 0 bt107.1 ([] : List (S30))).bind fun bt111=>((z1f.f k 0 (([(⟨0,1⟩ : S30)] : List (S30))) ([] : List (S30))).bind fun bt118=>(if bt107.2 = 0 then (if bt111.2.2 = 0 then (if bt118.2 = 0 then (if (bt107.1.length : Int) = 1 then (if 0 < (bt107.1.length : Int) then (if (((rd_T30 bt107.1 0).f0) == 0 && (((rd_T30 bt107.1 0).f1) == 0)) = true then (if (bt111.1 == 0 && (bt111.2.1 == 0)) = true then (if (bt118.1.length : Int) = 2 then (if 1 < (bt118.1.length : Int) then (some (((rd_T30 bt118.1 1).f0) == 0 && (((rd_T30 bt118.1 1).f1) == 1))) else (none)) else (some false)) else (some false)) else (some false)) else (none)) else (some false)) else (some false)) else (some false)) else (some false))))
theorem zM.mono : ∀ k,LeO (zM.f k ) (zM.f (k + 1) ):=by
 intro  k
 unfold zM.f
 repeat' first
  | (with_reducible exact z1f.mono _ _ _ _)
  | (with_reducible exact zB.mono _ _ _ _)
  | (with_reducible exact z1g.mono _ _ _ _)
  | (with_reducible exact LeO.refl _)
  | (with_reducible exact LeO.none _)
  | (with_reducible refine LeO.ite ?_ ?_)
  | (with_reducible refine LeO.bind ?_ (fun _=>?_))
  | exact z1f.mono _ _ _ _
  | exact zB.mono _ _ _ _
  | exact z1g.mono _ _ _ _
  | exact LeO.none _
  | refine LeO.ite ?_ ?_
  | refine LeO.bind ?_ (fun _=>?_)
set_option maxHeartbeats 8000000 in
set_option maxRecDepth 100000 in
theorem zM.calls (k : Nat)  (r : Bool) (w : World) (h : zM.f k  = some r) :
 Calls Try.prog 53 #[] w fun e w'=>e = .returned (.bool r) ∧ Below w.heap.size w w':=by
 have hu30:=Try.underlying30
 have HB:=z1.mk (Below.refl w.heap.size w)
 have H : ((zB.f k 0 (([true,false] : List Bool)) (([(⟨0,1⟩ : S30)] : List (S30)))).bind fun bt107=>((z1g.f k 0 bt107.1 ([] : List (S30))).bind fun bt111=>((z1f.f k 0 (([(⟨0,1⟩ : S30)] : List (S30))) ([] : List (S30))).bind fun bt118=>(if bt107.2 = 0 then (if bt111.2.2 = 0 then (if bt118.2 = 0 then (if (bt107.1.length : Int) = 1 then (if 0 < (bt107.1.length : Int) then (if (((rd_T30 bt107.1 0).f0) == 0 && (((rd_T30 bt107.1 0).f1) == 0)) = true then (if (bt111.1 == 0 && (bt111.2.1 == 0)) = true then (if (bt118.1.length : Int) = 2 then (if 1 < (bt118.1.length : Int) then (some (((rd_T30 bt118.1 1).f0) == 0 && (((rd_T30 bt118.1 1).f1) == 1))) else (none)) else (some false)) else (some false)) else (some false)) else (none)) else (some false)) else (some false)) else (some false)) else (some false))))) = some r:=h
 clear h
 obtain ⟨y101,hy101⟩ : ∃ y_ : List Bool,y_ = (([true,false] : List Bool)):=⟨_,rfl⟩
 replace H : ((zB.f k 0 y101 (([(⟨0,1⟩ : S30)] : List (S30)))).bind fun bt107=>((z1g.f k 0 bt107.1 ([] : List (S30))).bind fun bt111=>((z1f.f k 0 (([(⟨0,1⟩ : S30)] : List (S30))) ([] : List (S30))).bind fun bt118=>(if bt107.2 = 0 then (if bt111.2.2 = 0 then (if bt118.2 = 0 then (if (bt107.1.length : Int) = 1 then (if 0 < (bt107.1.length : Int) then (if (((rd_T30 bt107.1 0).f0) == 0 && (((rd_T30 bt107.1 0).f1) == 0)) = true then (if (bt111.1 == 0 && (bt111.2.1 == 0)) = true then (if (bt118.1.length : Int) = 2 then (if 1 < (bt118.1.length : Int) then (some (((rd_T30 bt118.1 1).f0) == 0 && (((rd_T30 bt118.1 1).f1) == 1))) else (none)) else (some false)) else (some false)) else (some false)) else (none)) else (some false)) else (some false)) else (some false)) else (some false))))) = some r:=by first|(rw [hy101];with_reducible exact H)|(have H2_:=(Option.bind_some _ _).symm.trans H;rw [hy101];with_reducible exact H2_)|(have H2_:=(Option.bind_some _ _).symm.trans H;with_reducible exact H2_)|with_reducible exact H|(rw [hy101];exact H)|exact H
 have Ny101:=z1.mk hy101
 clear hy101
 obtain ⟨y104,hy104⟩ : ∃ y_ : List (S30),y_ = (([(⟨0,1⟩ : S30)] : List (S30))):=⟨_,rfl⟩
 replace H : ((zB.f k 0 y101 y104).bind fun bt107=>((z1g.f k 0 bt107.1 ([] : List (S30))).bind fun bt111=>((z1f.f k 0 (([(⟨0,1⟩ : S30)] : List (S30))) ([] : List (S30))).bind fun bt118=>(if bt107.2 = 0 then (if bt111.2.2 = 0 then (if bt118.2 = 0 then (if (bt107.1.length : Int) = 1 then (if 0 < (bt107.1.length : Int) then (if (((rd_T30 bt107.1 0).f0) == 0 && (((rd_T30 bt107.1 0).f1) == 0)) = true then (if (bt111.1 == 0 && (bt111.2.1 == 0)) = true then (if (bt118.1.length : Int) = 2 then (if 1 < (bt118.1.length : Int) then (some (((rd_T30 bt118.1 1).f0) == 0 && (((rd_T30 bt118.1 1).f1) == 1))) else (none)) else (some false)) else (some false)) else (some false)) else (none)) else (some false)) else (some false)) else (some false)) else (some false))))) = some r:=by first|(rw [hy104];with_reducible exact H)|(have H2_:=(Option.bind_some _ _).symm.trans H;rw [hy104];with_reducible exact H2_)|(have H2_:=(Option.bind_some _ _).symm.trans H;with_reducible exact H2_)|with_reducible exact H|(rw [hy104];exact H)|exact H
 have Ny104:=z1.mk hy104
 clear hy104
 replace H:=Option.bind_eq_some_iff.mp H
 obtain ⟨⟨t107,t108⟩,A10,H⟩:=H
 replace H : ((z1g.f k 0 t107 ([] : List (S30))).bind fun bt111=>((z1f.f k 0 (([(⟨0,1⟩ : S30)] : List (S30))) ([] : List (S30))).bind fun bt118=>(if t108 = 0 then (if bt111.2.2 = 0 then (if bt118.2 = 0 then (if (t107.length : Int) = 1 then (if 0 < (t107.length : Int) then (if (((rd_T30 t107 0).f0) == 0 && (((rd_T30 t107 0).f1) == 0)) = true then (if (bt111.1 == 0 && (bt111.2.1 == 0)) = true then (if (bt118.1.length : Int) = 2 then (if 1 < (bt118.1.length : Int) then (some (((rd_T30 bt118.1 1).f0) == 0 && (((rd_T30 bt118.1 1).f1) == 1))) else (none)) else (some false)) else (some false)) else (some false)) else (none)) else (some false)) else (some false)) else (some false)) else (some false)))) = some r:=H
 have A1:=z1.mk A10
 clear A10
 replace H:=Option.bind_eq_some_iff.mp H
 obtain ⟨⟨t111,t112,t113⟩,A20,H⟩:=H
 replace H : ((z1f.f k 0 (([(⟨0,1⟩ : S30)] : List (S30))) ([] : List (S30))).bind fun bt118=>(if t108 = 0 then (if t113 = 0 then (if bt118.2 = 0 then (if (t107.length : Int) = 1 then (if 0 < (t107.length : Int) then (if (((rd_T30 t107 0).f0) == 0 && (((rd_T30 t107 0).f1) == 0)) = true then (if (t111 == 0 && (t112 == 0)) = true then (if (bt118.1.length : Int) = 2 then (if 1 < (bt118.1.length : Int) then (some (((rd_T30 bt118.1 1).f0) == 0 && (((rd_T30 bt118.1 1).f1) == 1))) else (none)) else (some false)) else (some false)) else (some false)) else (none)) else (some false)) else (some false)) else (some false)) else (some false))) = some r:=H
 have A2:=z1.mk A20
 clear A20
 obtain ⟨y115,hy115⟩ : ∃ y_ : List (S30),y_ = (([(⟨0,1⟩ : S30)] : List (S30))):=⟨_,rfl⟩
 replace H : ((z1f.f k 0 y115 ([] : List (S30))).bind fun bt118=>(if t108 = 0 then (if t113 = 0 then (if bt118.2 = 0 then (if (t107.length : Int) = 1 then (if 0 < (t107.length : Int) then (if (((rd_T30 t107 0).f0) == 0 && (((rd_T30 t107 0).f1) == 0)) = true then (if (t111 == 0 && (t112 == 0)) = true then (if (bt118.1.length : Int) = 2 then (if 1 < (bt118.1.length : Int) then (some (((rd_T30 bt118.1 1).f0) == 0 && (((rd_T30 bt118.1 1).f1) == 1))) else (none)) else (some false)) else (some false)) else (some false)) else (none)) else (some false)) else (some false)) else (some false)) else (some false))) = some r:=by first|(rw [hy115];with_reducible exact H)|(have H2_:=(Option.bind_some _ _).symm.trans H;rw [hy115];with_reducible exact H2_)|(have H2_:=(Option.bind_some _ _).symm.trans H;with_reducible exact H2_)|with_reducible exact H|(rw [hy115];exact H)|exact H
 have Ny115:=z1.mk hy115
 clear hy115
 replace H:=Option.bind_eq_some_iff.mp H
 obtain ⟨⟨t118,t119⟩,A30,H⟩:=H
 replace H : (if t108 = 0 then (if t113 = 0 then (if t119 = 0 then (if (t107.length : Int) = 1 then (if 0 < (t107.length : Int) then (if (((rd_T30 t107 0).f0) == 0 && (((rd_T30 t107 0).f1) == 0)) = true then (if (t111 == 0 && (t112 == 0)) = true then (if (t118.length : Int) = 2 then (if 1 < (t118.length : Int) then (some (((rd_T30 t118 1).f0) == 0 && (((rd_T30 t118 1).f1) == 1))) else (none)) else (some false)) else (some false)) else (some false)) else (none)) else (some false)) else (some false)) else (some false)) else (some false)) = some r:=H
 have A3:=z1.mk A30
 clear A30
 by_cases c4 : t108 = 0
 rotate_left
 · rw [if_neg c4] at H
   have c4b0 : (t108 == 0) = false:=beq_eq_false_iff_ne.mpr c4
   have c4b1 : (t108 != 0) = true:=bne_iff_ne.mpr c4
   obtain rfl:=Option.some.inj H
   go_enter Try.func53,Try.ntmps53
   go_wp2_with (first|((with_reducible refine zp (N:=8) rfl ?_);(try (refine z1c zz94 ?_;dsimp only));refine Kd.z2k Kd.bool _ 4 ?hg (N:=8) ?hd (xs:=([true,false] : List Bool)) (inner:=[.bool true,.bool false]) (ok:=fun _=>True) (okp:=fun _=>True) ?hr ?hp (fun _ hk=>hk) trivial (Below.refl _ _) (Nat.le_refl _) zz93 ?_;(case hd=>rfl);(case hg=>rfl);(case hr=>first|(go_simp;done)|(go_simp;rfl));(case hp=>exact (Reps.one (show Kd.M Kd.bool _ _ _ true [.bool true] from rfl) (Reps.one (show Kd.M Kd.bool _ _ _ false [.bool false] from rfl) (Reps.none _ _))));intro v102 w123 ho124 hb hg_ hnew_;clear hg_ hnew_;(first|rw [← Ny101.out] at ho124|(simp only [Int.reduceToNat] at ho124;rw [← Ny101.out] at ho124));have n0_:=z1.mk (Kd.z1h ho124 (zb zz49));have n1_:=z1.mk (z3 zz49 hb);clear HB;have HO103:=n0_;have HB:=n1_;clear n0_ n1_;clear hb ho124)|((with_reducible refine zp (N:=10) rfl ?_);(try (refine z1c zz94 ?_;dsimp only));refine Kd.z2k k30 _ 30 ?hg (N:=10) ?hd (xs:=([(⟨0,1⟩ : S30)] : List (S30))) (inner:=[.int .u64 0,.int .u64 1]) (ok:=fun _=>True) (okp:=fun _=>True) ?hr ?hp (fun _ hk=>hk) trivial (Below.refl _ _) (Nat.le_refl _) zz93 ?_;(case hd=>rfl);(case hg=>rfl);(case hr=>first|(go_simp;done)|(go_simp;rfl));(case hp=>exact (Reps.c2 (show Kd.M k30 _ _ _ (⟨0,1⟩ : S30) [.int .u64 0,.int .u64 1] from (z1J _ _ _ (⟨0,1⟩ : S30) )) (Reps.none _ _)));intro v105 w125 ho126 hb hg_ hnew_;clear hg_ hnew_;(first|rw [← Ny104.out] at ho126|(simp only [Int.reduceToNat] at ho126;rw [← Ny104.out] at ho126));have n0_:=z1.mk (Kd.zq zz65 hb);have n1_:=z1.mk (Kd.z1h ho126 (zb zz49));have n2_:=z1.mk (z3 zz49 hb);clear HO103;clear HB;have HO103:=n0_;have HO106:=n1_;have HB:=n2_;clear n0_ n1_ n2_;clear hb ho126;obtain ⟨Ao127,co127,eo127⟩:=Kd.z1q HO103.out;subst eo127;obtain ⟨Ao128,co128,eo128⟩:=Kd.z1q HO106.out;subst eo128)|((with_reducible refine zi (f:=101) rfl ?_);refine goesL_ (some 11) rfl rfl Try.func101 zz90 rfl #[.int .i64 0,.slice Ao127 y101.length co127,.slice Ao128 y104.length co128] rfl zz48 ?_;(with_reducible refine (zB.calls k 0 _ _ y101 _ _ y104 t107 t108 _ ?side1 ?side2 ?side3 ?side4 A1.out).mono ?_);(case side1=>repeat (first|exact (Kd.zs HO103.out).2.2|(with_reducible refine Kd.zQ ?_ _)|(with_reducible refine Kd.zR ?_ _)|(with_reducible refine Kd.z1d ?_)));(case side2=>exact (Kd.zs HO103.out).2.1);(case side3=>repeat (first|exact (Kd.zs HO106.out).2.2|(with_reducible refine Kd.zQ ?_ _)|(with_reducible refine Kd.zR ?_ _)|(with_reducible refine Kd.z1d ?_)));(case side4=>exact (Kd.zs HO106.out).2.1);rintro e w129 ⟨v109,rfl,ho0,hb⟩;refine ⟨_,rfl,?_⟩;have n0_:=z1.mk (Kd.zq zz65 hb);have n1_:=z1.mk (Kd.z1e zz60 (Kd.z1z ho0) hb);have n2_:=z1.mk (Kd.z1h (Kd.z1A ho0 (Kd.R_lt zz60)) (zb zz49));have n3_:=z1.mk (z3 zz49 hb);clear HO103;clear HO106;clear HB;have HO103:=n0_;have HO106:=n1_;have HO110:=n2_;have HB:=n3_;clear n0_ n1_ n2_ n3_;(try clear hb);(try clear hb2);(try clear hk);(try clear hi);(try clear ho0);obtain ⟨Ao130,co130,eo130⟩:=Kd.z1q HO110.out;subst eo130)|((with_reducible refine zi (f:=55) rfl ?_);refine goesL_ (some 16) rfl rfl Try.func55 zz90 rfl #[.int .i64 0,.slice Ao130 t107.length co130,.slice none 0 0] rfl zz48 ?_;(refine (z1g.calls k 0 _ _ t107 _ _ ([] : List (S30)) t111 t112 t113 _ ?side1 ?side2 ?side3 ?side4 A2.out).mono ?_);(case side1=>repeat (first|exact (Kd.zs HO110.out).2.2|(with_reducible refine Kd.zQ ?_ _)|(with_reducible refine Kd.zR ?_ _)|(with_reducible refine Kd.z1d ?_)));(case side2=>exact (Kd.zs HO110.out).2.1);(case side3=>exact Kd.z2U _ _);(case side4=>exact Nat.le_refl _);rintro e w131 ⟨rfl,hb⟩;refine ⟨_,rfl,?_⟩;have n0_:=z1.mk (Kd.zq zz65 hb);have n1_:=z1.mk (Kd.zq zz60 hb);have n2_:=z1.mk (Kd.zq zz66 hb);have n3_:=z1.mk (z3 zz49 hb);clear HO103;clear HO106;clear HO110;clear HB;have HO103:=n0_;have HO106:=n1_;have HO110:=n2_;have HB:=n3_;clear n0_ n1_ n2_ n3_;(try clear hb);(try clear hb2);(try clear hk);(try clear hi))|((with_reducible refine zp (N:=3) rfl ?_);(try (refine z1c zz94 ?_;dsimp only));refine zt ?hg (N:=3) ?hd (cs:=#[.int .u64 0,.int .u64 0]) (t:=30) ?hr ?_;(case hd=>rfl);(case hg=>rfl);(case hr=>first|(go_simp;done)|(go_simp;rfl));intro gb114 hg w132 hbox hb;have n0_:=z1.mk (Kd.zq zz65 hb);have n1_:=z1.mk (Kd.zq (Kd.z1w zz60 gb114 (Nat.le_of_eq hg.symm)) hb);have n2_:=z1.mk (Kd.zq (Kd.z1w zz66 gb114 (Nat.le_of_eq hg.symm)) hb);have n3_:=z1.mk (z3 zz49 hb);have n4_:=z1.mk (hbox);have n5_:=z1.mk ((by rw [hg];exact (zb zz49) : w.heap.size ≤ gb114));have n6_:=z1.mk ((by rw [hg];exact (zb zz49) : w.heap.size ≤ gb114));clear HO103;clear HO106;clear HO110;clear HB;have HO103:=n0_;have HO106:=n1_;have HO110:=n2_;have HB:=n3_;have BK114:=n4_;have GW114:=n5_;have GE114:=n6_;clear n0_ n1_ n2_ n3_ n4_ n5_ n6_;clear hb hbox hg;have hcz133_0 : w132.cell? ⟨gb114,0,none⟩ = some (.int .u64 0):=(z7 BK114.out 0).trans rfl;have hcz133_1 : w132.cell? ⟨gb114,1,none⟩ = some (.int .u64 0):=(z7 BK114.out 1).trans rfl;have hfz133_0:=z6 BK114.out 0;have hfz133_1:=z6 BK114.out 1)|((with_reducible refine zp (N:=21) rfl ?_);(try (refine z1c zz94 ?_;dsimp only));refine Kd.z2k k30 _ 30 ?hg (N:=21) ?hd (xs:=([(⟨0,1⟩ : S30)] : List (S30))) (inner:=[.int .u64 0,.int .u64 1]) (ok:=fun _=>True) (okp:=fun _=>True) ?hr ?hp (fun _ hk=>hk) trivial (Below.refl _ _) (Nat.le_refl _) zz93 ?_;(case hd=>rfl);(case hg=>rfl);(case hr=>first|(go_simp;done)|(go_simp;rfl));(case hp=>exact (Reps.c2 (show Kd.M k30 _ _ _ (⟨0,1⟩ : S30) [.int .u64 0,.int .u64 1] from (z1J _ _ _ (⟨0,1⟩ : S30) )) (Reps.none _ _)));intro v116 w134 ho135 hb hg_ hnew_;clear hg_ hnew_;(first|rw [← Ny115.out] at ho135|(simp only [Int.reduceToNat] at ho135;rw [← Ny115.out] at ho135));have n0_:=z1.mk (Kd.zq zz23 hb);have n1_:=z1.mk (Kd.z1e zz20 (Kd.z1z ho135) hb);have n2_:=z1.mk (Kd.z1e zz21 (Kd.z1z ho135) hb);have n3_:=z1.mk (Kd.z1h (Kd.z2d (Kd.z1A (Kd.z1A ho135 (Kd.R_lt zz20)) (Kd.R_lt zz21)) (g:=gb114) (o:=.cells #[.int .u64 t111,.int .u64 t112] 30 (0,0)) zz6) (zb zz46));have n4_:=z1.mk (zc (g:=gb114) (o:=.cells #[.int .u64 t111,.int .u64 t112] 30 (0,0)) zz6 hb);have n5_:=z1.mk (z3 zz46 hb);clear HO103;clear HO106;clear HO110;clear BK114;clear HB;have HO103:=n0_;have HO106:=n1_;have HO110:=n2_;have HO117:=n3_;have BK114:=n4_;have HB:=n5_;clear n0_ n1_ n2_ n3_ n4_ n5_;clear hb ho135;obtain ⟨Ao136,co136,eo136⟩:=Kd.z1q HO117.out;subst eo136)|((with_reducible refine zi (f:=102) rfl ?_);refine goesL_ (some 22) rfl rfl Try.func102 zz90 rfl #[.int .i64 0,.slice Ao136 y115.length co136,.slice none 0 0] rfl zz48 ?_;(refine (z1f.calls k 0 _ _ y115 _ _ ([] : List (S30)) t118 t119 _ ?side1 ?side2 ?side3 ?side4 A3.out).mono ?_);(case side1=>repeat (first|exact (Kd.zs HO117.out).2.2|(with_reducible refine Kd.zQ ?_ _)|(with_reducible refine Kd.zR ?_ _)|(with_reducible refine Kd.z1d ?_)));(case side2=>exact (Kd.zs HO117.out).2.1);(case side3=>exact Kd.z2U _ _);(case side4=>exact Nat.le_refl _);rintro e w137 ⟨v120,rfl,ho0,hb⟩;refine ⟨_,rfl,?_⟩;have n0_:=z1.mk (Kd.zq zz65 hb);have n1_:=z1.mk (Kd.z1e zz60 (Kd.z1z ho0) hb);have n2_:=z1.mk (Kd.z1e zz66 (Kd.z1z ho0) hb);have n3_:=z1.mk (Kd.z1e zz67 (Kd.z1z ho0) hb);have n4_:=z1.mk (Kd.z1h (Kd.z2d (Kd.z1A (Kd.z1A (Kd.z1A ho0 (Kd.R_lt zz60)) (Kd.R_lt zz66)) (Kd.R_lt zz67)) (g:=gb114) (o:=.cells #[.int .u64 t111,.int .u64 t112] 30 (0,0)) zz54) (zb zz46));have n5_:=z1.mk (zc (g:=gb114) (o:=.cells #[.int .u64 t111,.int .u64 t112] 30 (0,0)) zz54 hb);have n6_:=z1.mk (z3 zz46 hb);clear HO103;clear HO106;clear HO110;clear HO117;clear BK114;clear HB;have HO103:=n0_;have HO106:=n1_;have HO110:=n2_;have HO117:=n3_;have HO121:=n4_;have BK114:=n5_;have HB:=n6_;clear n0_ n1_ n2_ n3_ n4_ n5_ n6_;(try clear hb);(try clear hb2);(try clear hk);(try clear hi);(try clear ho0)))
   go_ret
   exact ⟨by first|rfl|(simp [zg,zh] <;> rfl)|(simp [*,zg,zh] <;> rfl),by repeat (first|(with_reducible first|exact HB.out|apply zd|apply z2|apply z9|refine za ?_ GE114.out)|exact HB.out)⟩
 rw [if_pos c4] at H
 have c4b0 : (t108 == 0) = true:=beq_iff_eq.mpr c4
 have c4b1 : (t108 != 0) = false:=bne_eq_false_iff_eq.mpr c4
 clear c4
 by_cases c5 : t113 = 0
 rotate_left
 · rw [if_neg c5] at H
   have c5b0 : (t113 == 0) = false:=beq_eq_false_iff_ne.mpr c5
   have c5b1 : (t113 != 0) = true:=bne_iff_ne.mpr c5
   obtain rfl:=Option.some.inj H
   go_enter Try.func53,Try.ntmps53
   go_wp2_with (first|((with_reducible refine zp (N:=8) rfl ?_);(try (refine z1c zz94 ?_;dsimp only));refine Kd.z2k Kd.bool _ 4 ?hg (N:=8) ?hd (xs:=([true,false] : List Bool)) (inner:=[.bool true,.bool false]) (ok:=fun _=>True) (okp:=fun _=>True) ?hr ?hp (fun _ hk=>hk) trivial (Below.refl _ _) (Nat.le_refl _) zz93 ?_;(case hd=>rfl);(case hg=>rfl);(case hr=>first|(go_simp;done)|(go_simp;rfl));(case hp=>exact (Reps.one (show Kd.M Kd.bool _ _ _ true [.bool true] from rfl) (Reps.one (show Kd.M Kd.bool _ _ _ false [.bool false] from rfl) (Reps.none _ _))));intro v102 w108 ho109 hb hg_ hnew_;clear hg_ hnew_;(first|rw [← Ny101.out] at ho109|(simp only [Int.reduceToNat] at ho109;rw [← Ny101.out] at ho109));have n0_:=z1.mk (Kd.z1h ho109 (zb zz49));have n1_:=z1.mk (z3 zz49 hb);clear HB;have HO103:=n0_;have HB:=n1_;clear n0_ n1_;clear hb ho109)|((with_reducible refine zp (N:=10) rfl ?_);(try (refine z1c zz94 ?_;dsimp only));refine Kd.z2k k30 _ 30 ?hg (N:=10) ?hd (xs:=([(⟨0,1⟩ : S30)] : List (S30))) (inner:=[.int .u64 0,.int .u64 1]) (ok:=fun _=>True) (okp:=fun _=>True) ?hr ?hp (fun _ hk=>hk) trivial (Below.refl _ _) (Nat.le_refl _) zz93 ?_;(case hd=>rfl);(case hg=>rfl);(case hr=>first|(go_simp;done)|(go_simp;rfl));(case hp=>exact (Reps.c2 (show Kd.M k30 _ _ _ (⟨0,1⟩ : S30) [.int .u64 0,.int .u64 1] from (z1J _ _ _ (⟨0,1⟩ : S30) )) (Reps.none _ _)));intro v105 w110 ho111 hb hg_ hnew_;clear hg_ hnew_;(first|rw [← Ny104.out] at ho111|(simp only [Int.reduceToNat] at ho111;rw [← Ny104.out] at ho111));have n0_:=z1.mk (Kd.zq zz65 hb);have n1_:=z1.mk (Kd.z1h ho111 (zb zz49));have n2_:=z1.mk (z3 zz49 hb);clear HO103;clear HB;have HO103:=n0_;have HO106:=n1_;have HB:=n2_;clear n0_ n1_ n2_;clear hb ho111;obtain ⟨Ao112,co112,eo112⟩:=Kd.z1q HO103.out;subst eo112;obtain ⟨Ao113,co113,eo113⟩:=Kd.z1q HO106.out;subst eo113)|((with_reducible refine zi (f:=101) rfl ?_);refine goesL_ (some 11) rfl rfl Try.func101 zz90 rfl #[.int .i64 0,.slice Ao112 y101.length co112,.slice Ao113 y104.length co113] rfl zz48 ?_;(with_reducible refine (zB.calls k 0 _ _ y101 _ _ y104 t107 t108 _ ?side1 ?side2 ?side3 ?side4 A1.out).mono ?_);(case side1=>repeat (first|exact (Kd.zs HO103.out).2.2|(with_reducible refine Kd.zQ ?_ _)|(with_reducible refine Kd.zR ?_ _)|(with_reducible refine Kd.z1d ?_)));(case side2=>exact (Kd.zs HO103.out).2.1);(case side3=>repeat (first|exact (Kd.zs HO106.out).2.2|(with_reducible refine Kd.zQ ?_ _)|(with_reducible refine Kd.zR ?_ _)|(with_reducible refine Kd.z1d ?_)));(case side4=>exact (Kd.zs HO106.out).2.1);rintro e w114 ⟨v109,rfl,ho0,hb⟩;refine ⟨_,rfl,?_⟩;have n0_:=z1.mk (Kd.zq zz65 hb);have n1_:=z1.mk (Kd.z1e zz60 (Kd.z1z ho0) hb);have n2_:=z1.mk (Kd.z1h (Kd.z1A ho0 (Kd.R_lt zz60)) (zb zz49));have n3_:=z1.mk (z3 zz49 hb);clear HO103;clear HO106;clear HB;have HO103:=n0_;have HO106:=n1_;have HO110:=n2_;have HB:=n3_;clear n0_ n1_ n2_ n3_;(try clear hb);(try clear hb2);(try clear hk);(try clear hi);(try clear ho0);obtain ⟨Ao115,co115,eo115⟩:=Kd.z1q HO110.out;subst eo115)|((with_reducible refine zi (f:=55) rfl ?_);refine goesL_ (some 16) rfl rfl Try.func55 zz90 rfl #[.int .i64 0,.slice Ao115 t107.length co115,.slice none 0 0] rfl zz48 ?_;(refine (z1g.calls k 0 _ _ t107 _ _ ([] : List (S30)) t111 t112 t113 _ ?side1 ?side2 ?side3 ?side4 A2.out).mono ?_);(case side1=>repeat (first|exact (Kd.zs HO110.out).2.2|(with_reducible refine Kd.zQ ?_ _)|(with_reducible refine Kd.zR ?_ _)|(with_reducible refine Kd.z1d ?_)));(case side2=>exact (Kd.zs HO110.out).2.1);(case side3=>exact Kd.z2U _ _);(case side4=>exact Nat.le_refl _);rintro e w116 ⟨rfl,hb⟩;refine ⟨_,rfl,?_⟩;have n0_:=z1.mk (Kd.zq zz65 hb);have n1_:=z1.mk (Kd.zq zz60 hb);have n2_:=z1.mk (Kd.zq zz66 hb);have n3_:=z1.mk (z3 zz49 hb);clear HO103;clear HO106;clear HO110;clear HB;have HO103:=n0_;have HO106:=n1_;have HO110:=n2_;have HB:=n3_;clear n0_ n1_ n2_ n3_;(try clear hb);(try clear hb2);(try clear hk);(try clear hi))|((with_reducible refine zp (N:=3) rfl ?_);(try (refine z1c zz94 ?_;dsimp only));refine zt ?hg (N:=3) ?hd (cs:=#[.int .u64 0,.int .u64 0]) (t:=30) ?hr ?_;(case hd=>rfl);(case hg=>rfl);(case hr=>first|(go_simp;done)|(go_simp;rfl));intro gb114 hg w117 hbox hb;have n0_:=z1.mk (Kd.zq zz65 hb);have n1_:=z1.mk (Kd.zq (Kd.z1w zz60 gb114 (Nat.le_of_eq hg.symm)) hb);have n2_:=z1.mk (Kd.zq (Kd.z1w zz66 gb114 (Nat.le_of_eq hg.symm)) hb);have n3_:=z1.mk (z3 zz49 hb);have n4_:=z1.mk (hbox);have n5_:=z1.mk ((by rw [hg];exact (zb zz49) : w.heap.size ≤ gb114));have n6_:=z1.mk ((by rw [hg];exact (zb zz49) : w.heap.size ≤ gb114));clear HO103;clear HO106;clear HO110;clear HB;have HO103:=n0_;have HO106:=n1_;have HO110:=n2_;have HB:=n3_;have BK114:=n4_;have GW114:=n5_;have GE114:=n6_;clear n0_ n1_ n2_ n3_ n4_ n5_ n6_;clear hb hbox hg;have hcz118_0 : w117.cell? ⟨gb114,0,none⟩ = some (.int .u64 0):=(z7 BK114.out 0).trans rfl;have hcz118_1 : w117.cell? ⟨gb114,1,none⟩ = some (.int .u64 0):=(z7 BK114.out 1).trans rfl;have hfz118_0:=z6 BK114.out 0;have hfz118_1:=z6 BK114.out 1)|((with_reducible refine zp (N:=21) rfl ?_);(try (refine z1c zz94 ?_;dsimp only));refine Kd.z2k k30 _ 30 ?hg (N:=21) ?hd (xs:=([(⟨0,1⟩ : S30)] : List (S30))) (inner:=[.int .u64 0,.int .u64 1]) (ok:=fun _=>True) (okp:=fun _=>True) ?hr ?hp (fun _ hk=>hk) trivial (Below.refl _ _) (Nat.le_refl _) zz93 ?_;(case hd=>rfl);(case hg=>rfl);(case hr=>first|(go_simp;done)|(go_simp;rfl));(case hp=>exact (Reps.c2 (show Kd.M k30 _ _ _ (⟨0,1⟩ : S30) [.int .u64 0,.int .u64 1] from (z1J _ _ _ (⟨0,1⟩ : S30) )) (Reps.none _ _)));intro v116 w119 ho120 hb hg_ hnew_;clear hg_ hnew_;(first|rw [← Ny115.out] at ho120|(simp only [Int.reduceToNat] at ho120;rw [← Ny115.out] at ho120));have n0_:=z1.mk (Kd.zq zz23 hb);have n1_:=z1.mk (Kd.z1e zz20 (Kd.z1z ho120) hb);have n2_:=z1.mk (Kd.z1e zz21 (Kd.z1z ho120) hb);have n3_:=z1.mk (Kd.z1h (Kd.z2d (Kd.z1A (Kd.z1A ho120 (Kd.R_lt zz20)) (Kd.R_lt zz21)) (g:=gb114) (o:=.cells #[.int .u64 t111,.int .u64 t112] 30 (0,0)) zz6) (zb zz46));have n4_:=z1.mk (zc (g:=gb114) (o:=.cells #[.int .u64 t111,.int .u64 t112] 30 (0,0)) zz6 hb);have n5_:=z1.mk (z3 zz46 hb);clear HO103;clear HO106;clear HO110;clear BK114;clear HB;have HO103:=n0_;have HO106:=n1_;have HO110:=n2_;have HO117:=n3_;have BK114:=n4_;have HB:=n5_;clear n0_ n1_ n2_ n3_ n4_ n5_;clear hb ho120;obtain ⟨Ao121,co121,eo121⟩:=Kd.z1q HO117.out;subst eo121)|((with_reducible refine zi (f:=102) rfl ?_);refine goesL_ (some 22) rfl rfl Try.func102 zz90 rfl #[.int .i64 0,.slice Ao121 y115.length co121,.slice none 0 0] rfl zz48 ?_;(refine (z1f.calls k 0 _ _ y115 _ _ ([] : List (S30)) t118 t119 _ ?side1 ?side2 ?side3 ?side4 A3.out).mono ?_);(case side1=>repeat (first|exact (Kd.zs HO117.out).2.2|(with_reducible refine Kd.zQ ?_ _)|(with_reducible refine Kd.zR ?_ _)|(with_reducible refine Kd.z1d ?_)));(case side2=>exact (Kd.zs HO117.out).2.1);(case side3=>exact Kd.z2U _ _);(case side4=>exact Nat.le_refl _);rintro e w122 ⟨v120,rfl,ho0,hb⟩;refine ⟨_,rfl,?_⟩;have n0_:=z1.mk (Kd.zq zz65 hb);have n1_:=z1.mk (Kd.z1e zz60 (Kd.z1z ho0) hb);have n2_:=z1.mk (Kd.z1e zz66 (Kd.z1z ho0) hb);have n3_:=z1.mk (Kd.z1e zz67 (Kd.z1z ho0) hb);have n4_:=z1.mk (Kd.z1h (Kd.z2d (Kd.z1A (Kd.z1A (Kd.z1A ho0 (Kd.R_lt zz60)) (Kd.R_lt zz66)) (Kd.R_lt zz67)) (g:=gb114) (o:=.cells #[.int .u64 t111,.int .u64 t112] 30 (0,0)) zz54) (zb zz46));have n5_:=z1.mk (zc (g:=gb114) (o:=.cells #[.int .u64 t111,.int .u64 t112] 30 (0,0)) zz54 hb);have n6_:=z1.mk (z3 zz46 hb);clear HO103;clear HO106;clear HO110;clear HO117;clear BK114;clear HB;have HO103:=n0_;have HO106:=n1_;have HO110:=n2_;have HO117:=n3_;have HO121:=n4_;have BK114:=n5_;have HB:=n6_;clear n0_ n1_ n2_ n3_ n4_ n5_ n6_;(try clear hb);(try clear hb2);(try clear hk);(try clear hi);(try clear ho0)))
   go_ret
   exact ⟨by first|rfl|(simp [zg,zh] <;> rfl)|(simp [*,zg,zh] <;> rfl),by repeat (first|(with_reducible first|exact HB.out|apply zd|apply z2|apply z9|refine za ?_ GE114.out)|exact HB.out)⟩
 rw [if_pos c5] at H
 have c5b0 : (t113 == 0) = true:=beq_iff_eq.mpr c5
 have c5b1 : (t113 != 0) = false:=bne_eq_false_iff_eq.mpr c5
 clear c5
 by_cases c6 : t119 = 0
 rotate_left
 · rw [if_neg c6] at H
   have c6b0 : (t119 == 0) = false:=beq_eq_false_iff_ne.mpr c6
   have c6b1 : (t119 != 0) = true:=bne_iff_ne.mpr c6
   obtain rfl:=Option.some.inj H
   go_enter Try.func53,Try.ntmps53
   go_wp2_with (first|((with_reducible refine zp (N:=8) rfl ?_);(try (refine z1c zz94 ?_;dsimp only));refine Kd.z2k Kd.bool _ 4 ?hg (N:=8) ?hd (xs:=([true,false] : List Bool)) (inner:=[.bool true,.bool false]) (ok:=fun _=>True) (okp:=fun _=>True) ?hr ?hp (fun _ hk=>hk) trivial (Below.refl _ _) (Nat.le_refl _) zz93 ?_;(case hd=>rfl);(case hg=>rfl);(case hr=>first|(go_simp;done)|(go_simp;rfl));(case hp=>exact (Reps.one (show Kd.M Kd.bool _ _ _ true [.bool true] from rfl) (Reps.one (show Kd.M Kd.bool _ _ _ false [.bool false] from rfl) (Reps.none _ _))));intro v102 w93 ho94 hb hg_ hnew_;clear hg_ hnew_;(first|rw [← Ny101.out] at ho94|(simp only [Int.reduceToNat] at ho94;rw [← Ny101.out] at ho94));have n0_:=z1.mk (Kd.z1h ho94 (zb zz49));have n1_:=z1.mk (z3 zz49 hb);clear HB;have HO103:=n0_;have HB:=n1_;clear n0_ n1_;clear hb ho94)|((with_reducible refine zp (N:=10) rfl ?_);(try (refine z1c zz94 ?_;dsimp only));refine Kd.z2k k30 _ 30 ?hg (N:=10) ?hd (xs:=([(⟨0,1⟩ : S30)] : List (S30))) (inner:=[.int .u64 0,.int .u64 1]) (ok:=fun _=>True) (okp:=fun _=>True) ?hr ?hp (fun _ hk=>hk) trivial (Below.refl _ _) (Nat.le_refl _) zz93 ?_;(case hd=>rfl);(case hg=>rfl);(case hr=>first|(go_simp;done)|(go_simp;rfl));(case hp=>exact (Reps.c2 (show Kd.M k30 _ _ _ (⟨0,1⟩ : S30) [.int .u64 0,.int .u64 1] from (z1J _ _ _ (⟨0,1⟩ : S30) )) (Reps.none _ _)));intro v105 w95 ho96 hb hg_ hnew_;clear hg_ hnew_;(first|rw [← Ny104.out] at ho96|(simp only [Int.reduceToNat] at ho96;rw [← Ny104.out] at ho96));have n0_:=z1.mk (Kd.zq zz65 hb);have n1_:=z1.mk (Kd.z1h ho96 (zb zz49));have n2_:=z1.mk (z3 zz49 hb);clear HO103;clear HB;have HO103:=n0_;have HO106:=n1_;have HB:=n2_;clear n0_ n1_ n2_;clear hb ho96;obtain ⟨Ao97,co97,eo97⟩:=Kd.z1q HO103.out;subst eo97;obtain ⟨Ao98,co98,eo98⟩:=Kd.z1q HO106.out;subst eo98)|((with_reducible refine zi (f:=101) rfl ?_);refine goesL_ (some 11) rfl rfl Try.func101 zz90 rfl #[.int .i64 0,.slice Ao97 y101.length co97,.slice Ao98 y104.length co98] rfl zz48 ?_;(with_reducible refine (zB.calls k 0 _ _ y101 _ _ y104 t107 t108 _ ?side1 ?side2 ?side3 ?side4 A1.out).mono ?_);(case side1=>repeat (first|exact (Kd.zs HO103.out).2.2|(with_reducible refine Kd.zQ ?_ _)|(with_reducible refine Kd.zR ?_ _)|(with_reducible refine Kd.z1d ?_)));(case side2=>exact (Kd.zs HO103.out).2.1);(case side3=>repeat (first|exact (Kd.zs HO106.out).2.2|(with_reducible refine Kd.zQ ?_ _)|(with_reducible refine Kd.zR ?_ _)|(with_reducible refine Kd.z1d ?_)));(case side4=>exact (Kd.zs HO106.out).2.1);rintro e w99 ⟨v109,rfl,ho0,hb⟩;refine ⟨_,rfl,?_⟩;have n0_:=z1.mk (Kd.zq zz65 hb);have n1_:=z1.mk (Kd.z1e zz60 (Kd.z1z ho0) hb);have n2_:=z1.mk (Kd.z1h (Kd.z1A ho0 (Kd.R_lt zz60)) (zb zz49));have n3_:=z1.mk (z3 zz49 hb);clear HO103;clear HO106;clear HB;have HO103:=n0_;have HO106:=n1_;have HO110:=n2_;have HB:=n3_;clear n0_ n1_ n2_ n3_;(try clear hb);(try clear hb2);(try clear hk);(try clear hi);(try clear ho0);obtain ⟨Ao100,co100,eo100⟩:=Kd.z1q HO110.out;subst eo100)|((with_reducible refine zi (f:=55) rfl ?_);refine goesL_ (some 16) rfl rfl Try.func55 zz90 rfl #[.int .i64 0,.slice Ao100 t107.length co100,.slice none 0 0] rfl zz48 ?_;(refine (z1g.calls k 0 _ _ t107 _ _ ([] : List (S30)) t111 t112 t113 _ ?side1 ?side2 ?side3 ?side4 A2.out).mono ?_);(case side1=>repeat (first|exact (Kd.zs HO110.out).2.2|(with_reducible refine Kd.zQ ?_ _)|(with_reducible refine Kd.zR ?_ _)|(with_reducible refine Kd.z1d ?_)));(case side2=>exact (Kd.zs HO110.out).2.1);(case side3=>exact Kd.z2U _ _);(case side4=>exact Nat.le_refl _);rintro e w101 ⟨rfl,hb⟩;refine ⟨_,rfl,?_⟩;have n0_:=z1.mk (Kd.zq zz65 hb);have n1_:=z1.mk (Kd.zq zz60 hb);have n2_:=z1.mk (Kd.zq zz66 hb);have n3_:=z1.mk (z3 zz49 hb);clear HO103;clear HO106;clear HO110;clear HB;have HO103:=n0_;have HO106:=n1_;have HO110:=n2_;have HB:=n3_;clear n0_ n1_ n2_ n3_;(try clear hb);(try clear hb2);(try clear hk);(try clear hi))|((with_reducible refine zp (N:=3) rfl ?_);(try (refine z1c zz94 ?_;dsimp only));refine zt ?hg (N:=3) ?hd (cs:=#[.int .u64 0,.int .u64 0]) (t:=30) ?hr ?_;(case hd=>rfl);(case hg=>rfl);(case hr=>first|(go_simp;done)|(go_simp;rfl));intro gb114 hg w102 hbox hb;have n0_:=z1.mk (Kd.zq zz65 hb);have n1_:=z1.mk (Kd.zq (Kd.z1w zz60 gb114 (Nat.le_of_eq hg.symm)) hb);have n2_:=z1.mk (Kd.zq (Kd.z1w zz66 gb114 (Nat.le_of_eq hg.symm)) hb);have n3_:=z1.mk (z3 zz49 hb);have n4_:=z1.mk (hbox);have n5_:=z1.mk ((by rw [hg];exact (zb zz49) : w.heap.size ≤ gb114));have n6_:=z1.mk ((by rw [hg];exact (zb zz49) : w.heap.size ≤ gb114));clear HO103;clear HO106;clear HO110;clear HB;have HO103:=n0_;have HO106:=n1_;have HO110:=n2_;have HB:=n3_;have BK114:=n4_;have GW114:=n5_;have GE114:=n6_;clear n0_ n1_ n2_ n3_ n4_ n5_ n6_;clear hb hbox hg;have hcz103_0 : w102.cell? ⟨gb114,0,none⟩ = some (.int .u64 0):=(z7 BK114.out 0).trans rfl;have hcz103_1 : w102.cell? ⟨gb114,1,none⟩ = some (.int .u64 0):=(z7 BK114.out 1).trans rfl;have hfz103_0:=z6 BK114.out 0;have hfz103_1:=z6 BK114.out 1)|((with_reducible refine zp (N:=21) rfl ?_);(try (refine z1c zz94 ?_;dsimp only));refine Kd.z2k k30 _ 30 ?hg (N:=21) ?hd (xs:=([(⟨0,1⟩ : S30)] : List (S30))) (inner:=[.int .u64 0,.int .u64 1]) (ok:=fun _=>True) (okp:=fun _=>True) ?hr ?hp (fun _ hk=>hk) trivial (Below.refl _ _) (Nat.le_refl _) zz93 ?_;(case hd=>rfl);(case hg=>rfl);(case hr=>first|(go_simp;done)|(go_simp;rfl));(case hp=>exact (Reps.c2 (show Kd.M k30 _ _ _ (⟨0,1⟩ : S30) [.int .u64 0,.int .u64 1] from (z1J _ _ _ (⟨0,1⟩ : S30) )) (Reps.none _ _)));intro v116 w104 ho105 hb hg_ hnew_;clear hg_ hnew_;(first|rw [← Ny115.out] at ho105|(simp only [Int.reduceToNat] at ho105;rw [← Ny115.out] at ho105));have n0_:=z1.mk (Kd.zq zz23 hb);have n1_:=z1.mk (Kd.z1e zz20 (Kd.z1z ho105) hb);have n2_:=z1.mk (Kd.z1e zz21 (Kd.z1z ho105) hb);have n3_:=z1.mk (Kd.z1h (Kd.z2d (Kd.z1A (Kd.z1A ho105 (Kd.R_lt zz20)) (Kd.R_lt zz21)) (g:=gb114) (o:=.cells #[.int .u64 t111,.int .u64 t112] 30 (0,0)) zz6) (zb zz46));have n4_:=z1.mk (zc (g:=gb114) (o:=.cells #[.int .u64 t111,.int .u64 t112] 30 (0,0)) zz6 hb);have n5_:=z1.mk (z3 zz46 hb);clear HO103;clear HO106;clear HO110;clear BK114;clear HB;have HO103:=n0_;have HO106:=n1_;have HO110:=n2_;have HO117:=n3_;have BK114:=n4_;have HB:=n5_;clear n0_ n1_ n2_ n3_ n4_ n5_;clear hb ho105;obtain ⟨Ao106,co106,eo106⟩:=Kd.z1q HO117.out;subst eo106)|((with_reducible refine zi (f:=102) rfl ?_);refine goesL_ (some 22) rfl rfl Try.func102 zz90 rfl #[.int .i64 0,.slice Ao106 y115.length co106,.slice none 0 0] rfl zz48 ?_;(refine (z1f.calls k 0 _ _ y115 _ _ ([] : List (S30)) t118 t119 _ ?side1 ?side2 ?side3 ?side4 A3.out).mono ?_);(case side1=>repeat (first|exact (Kd.zs HO117.out).2.2|(with_reducible refine Kd.zQ ?_ _)|(with_reducible refine Kd.zR ?_ _)|(with_reducible refine Kd.z1d ?_)));(case side2=>exact (Kd.zs HO117.out).2.1);(case side3=>exact Kd.z2U _ _);(case side4=>exact Nat.le_refl _);rintro e w107 ⟨v120,rfl,ho0,hb⟩;refine ⟨_,rfl,?_⟩;have n0_:=z1.mk (Kd.zq zz65 hb);have n1_:=z1.mk (Kd.z1e zz60 (Kd.z1z ho0) hb);have n2_:=z1.mk (Kd.z1e zz66 (Kd.z1z ho0) hb);have n3_:=z1.mk (Kd.z1e zz67 (Kd.z1z ho0) hb);have n4_:=z1.mk (Kd.z1h (Kd.z2d (Kd.z1A (Kd.z1A (Kd.z1A ho0 (Kd.R_lt zz60)) (Kd.R_lt zz66)) (Kd.R_lt zz67)) (g:=gb114) (o:=.cells #[.int .u64 t111,.int .u64 t112] 30 (0,0)) zz54) (zb zz46));have n5_:=z1.mk (zc (g:=gb114) (o:=.cells #[.int .u64 t111,.int .u64 t112] 30 (0,0)) zz54 hb);have n6_:=z1.mk (z3 zz46 hb);clear HO103;clear HO106;clear HO110;clear HO117;clear BK114;clear HB;have HO103:=n0_;have HO106:=n1_;have HO110:=n2_;have HO117:=n3_;have HO121:=n4_;have BK114:=n5_;have HB:=n6_;clear n0_ n1_ n2_ n3_ n4_ n5_ n6_;(try clear hb);(try clear hb2);(try clear hk);(try clear hi);(try clear ho0)))
   go_ret
   exact ⟨by first|rfl|(simp [zg,zh] <;> rfl)|(simp [*,zg,zh] <;> rfl),by repeat (first|(with_reducible first|exact HB.out|apply zd|apply z2|apply z9|refine za ?_ GE114.out)|exact HB.out)⟩
 rw [if_pos c6] at H
 have c6b0 : (t119 == 0) = true:=beq_iff_eq.mpr c6
 have c6b1 : (t119 != 0) = false:=bne_eq_false_iff_eq.mpr c6
 clear c6
 by_cases c7 : (t107.length : Int) = 1
 rotate_left
 · rw [if_neg c7] at H
   have c7b0 : ((t107.length : Int) == 1) = false:=beq_eq_false_iff_ne.mpr c7
   have c7b1 : ((t107.length : Int) != 1) = true:=bne_iff_ne.mpr c7
   obtain rfl:=Option.some.inj H
   go_enter Try.func53,Try.ntmps53
   go_wp2_with (first|((with_reducible refine zp (N:=8) rfl ?_);(try (refine z1c zz94 ?_;dsimp only));refine Kd.z2k Kd.bool _ 4 ?hg (N:=8) ?hd (xs:=([true,false] : List Bool)) (inner:=[.bool true,.bool false]) (ok:=fun _=>True) (okp:=fun _=>True) ?hr ?hp (fun _ hk=>hk) trivial (Below.refl _ _) (Nat.le_refl _) zz93 ?_;(case hd=>rfl);(case hg=>rfl);(case hr=>first|(go_simp;done)|(go_simp;rfl));(case hp=>exact (Reps.one (show Kd.M Kd.bool _ _ _ true [.bool true] from rfl) (Reps.one (show Kd.M Kd.bool _ _ _ false [.bool false] from rfl) (Reps.none _ _))));intro v102 w78 ho79 hb hg_ hnew_;clear hg_ hnew_;(first|rw [← Ny101.out] at ho79|(simp only [Int.reduceToNat] at ho79;rw [← Ny101.out] at ho79));have n0_:=z1.mk (Kd.z1h ho79 (zb zz49));have n1_:=z1.mk (z3 zz49 hb);clear HB;have HO103:=n0_;have HB:=n1_;clear n0_ n1_;clear hb ho79)|((with_reducible refine zp (N:=10) rfl ?_);(try (refine z1c zz94 ?_;dsimp only));refine Kd.z2k k30 _ 30 ?hg (N:=10) ?hd (xs:=([(⟨0,1⟩ : S30)] : List (S30))) (inner:=[.int .u64 0,.int .u64 1]) (ok:=fun _=>True) (okp:=fun _=>True) ?hr ?hp (fun _ hk=>hk) trivial (Below.refl _ _) (Nat.le_refl _) zz93 ?_;(case hd=>rfl);(case hg=>rfl);(case hr=>first|(go_simp;done)|(go_simp;rfl));(case hp=>exact (Reps.c2 (show Kd.M k30 _ _ _ (⟨0,1⟩ : S30) [.int .u64 0,.int .u64 1] from (z1J _ _ _ (⟨0,1⟩ : S30) )) (Reps.none _ _)));intro v105 w80 ho81 hb hg_ hnew_;clear hg_ hnew_;(first|rw [← Ny104.out] at ho81|(simp only [Int.reduceToNat] at ho81;rw [← Ny104.out] at ho81));have n0_:=z1.mk (Kd.zq zz65 hb);have n1_:=z1.mk (Kd.z1h ho81 (zb zz49));have n2_:=z1.mk (z3 zz49 hb);clear HO103;clear HB;have HO103:=n0_;have HO106:=n1_;have HB:=n2_;clear n0_ n1_ n2_;clear hb ho81;obtain ⟨Ao82,co82,eo82⟩:=Kd.z1q HO103.out;subst eo82;obtain ⟨Ao83,co83,eo83⟩:=Kd.z1q HO106.out;subst eo83)|((with_reducible refine zi (f:=101) rfl ?_);refine goesL_ (some 11) rfl rfl Try.func101 zz90 rfl #[.int .i64 0,.slice Ao82 y101.length co82,.slice Ao83 y104.length co83] rfl zz48 ?_;(with_reducible refine (zB.calls k 0 _ _ y101 _ _ y104 t107 t108 _ ?side1 ?side2 ?side3 ?side4 A1.out).mono ?_);(case side1=>repeat (first|exact (Kd.zs HO103.out).2.2|(with_reducible refine Kd.zQ ?_ _)|(with_reducible refine Kd.zR ?_ _)|(with_reducible refine Kd.z1d ?_)));(case side2=>exact (Kd.zs HO103.out).2.1);(case side3=>repeat (first|exact (Kd.zs HO106.out).2.2|(with_reducible refine Kd.zQ ?_ _)|(with_reducible refine Kd.zR ?_ _)|(with_reducible refine Kd.z1d ?_)));(case side4=>exact (Kd.zs HO106.out).2.1);rintro e w84 ⟨v109,rfl,ho0,hb⟩;refine ⟨_,rfl,?_⟩;have n0_:=z1.mk (Kd.zq zz65 hb);have n1_:=z1.mk (Kd.z1e zz60 (Kd.z1z ho0) hb);have n2_:=z1.mk (Kd.z1h (Kd.z1A ho0 (Kd.R_lt zz60)) (zb zz49));have n3_:=z1.mk (z3 zz49 hb);clear HO103;clear HO106;clear HB;have HO103:=n0_;have HO106:=n1_;have HO110:=n2_;have HB:=n3_;clear n0_ n1_ n2_ n3_;(try clear hb);(try clear hb2);(try clear hk);(try clear hi);(try clear ho0);obtain ⟨Ao85,co85,eo85⟩:=Kd.z1q HO110.out;subst eo85)|((with_reducible refine zi (f:=55) rfl ?_);refine goesL_ (some 16) rfl rfl Try.func55 zz90 rfl #[.int .i64 0,.slice Ao85 t107.length co85,.slice none 0 0] rfl zz48 ?_;(refine (z1g.calls k 0 _ _ t107 _ _ ([] : List (S30)) t111 t112 t113 _ ?side1 ?side2 ?side3 ?side4 A2.out).mono ?_);(case side1=>repeat (first|exact (Kd.zs HO110.out).2.2|(with_reducible refine Kd.zQ ?_ _)|(with_reducible refine Kd.zR ?_ _)|(with_reducible refine Kd.z1d ?_)));(case side2=>exact (Kd.zs HO110.out).2.1);(case side3=>exact Kd.z2U _ _);(case side4=>exact Nat.le_refl _);rintro e w86 ⟨rfl,hb⟩;refine ⟨_,rfl,?_⟩;have n0_:=z1.mk (Kd.zq zz65 hb);have n1_:=z1.mk (Kd.zq zz60 hb);have n2_:=z1.mk (Kd.zq zz66 hb);have n3_:=z1.mk (z3 zz49 hb);clear HO103;clear HO106;clear HO110;clear HB;have HO103:=n0_;have HO106:=n1_;have HO110:=n2_;have HB:=n3_;clear n0_ n1_ n2_ n3_;(try clear hb);(try clear hb2);(try clear hk);(try clear hi))|((with_reducible refine zp (N:=3) rfl ?_);(try (refine z1c zz94 ?_;dsimp only));refine zt ?hg (N:=3) ?hd (cs:=#[.int .u64 0,.int .u64 0]) (t:=30) ?hr ?_;(case hd=>rfl);(case hg=>rfl);(case hr=>first|(go_simp;done)|(go_simp;rfl));intro gb114 hg w87 hbox hb;have n0_:=z1.mk (Kd.zq zz65 hb);have n1_:=z1.mk (Kd.zq (Kd.z1w zz60 gb114 (Nat.le_of_eq hg.symm)) hb);have n2_:=z1.mk (Kd.zq (Kd.z1w zz66 gb114 (Nat.le_of_eq hg.symm)) hb);have n3_:=z1.mk (z3 zz49 hb);have n4_:=z1.mk (hbox);have n5_:=z1.mk ((by rw [hg];exact (zb zz49) : w.heap.size ≤ gb114));have n6_:=z1.mk ((by rw [hg];exact (zb zz49) : w.heap.size ≤ gb114));clear HO103;clear HO106;clear HO110;clear HB;have HO103:=n0_;have HO106:=n1_;have HO110:=n2_;have HB:=n3_;have BK114:=n4_;have GW114:=n5_;have GE114:=n6_;clear n0_ n1_ n2_ n3_ n4_ n5_ n6_;clear hb hbox hg;have hcz88_0 : w87.cell? ⟨gb114,0,none⟩ = some (.int .u64 0):=(z7 BK114.out 0).trans rfl;have hcz88_1 : w87.cell? ⟨gb114,1,none⟩ = some (.int .u64 0):=(z7 BK114.out 1).trans rfl;have hfz88_0:=z6 BK114.out 0;have hfz88_1:=z6 BK114.out 1)|((with_reducible refine zp (N:=21) rfl ?_);(try (refine z1c zz94 ?_;dsimp only));refine Kd.z2k k30 _ 30 ?hg (N:=21) ?hd (xs:=([(⟨0,1⟩ : S30)] : List (S30))) (inner:=[.int .u64 0,.int .u64 1]) (ok:=fun _=>True) (okp:=fun _=>True) ?hr ?hp (fun _ hk=>hk) trivial (Below.refl _ _) (Nat.le_refl _) zz93 ?_;(case hd=>rfl);(case hg=>rfl);(case hr=>first|(go_simp;done)|(go_simp;rfl));(case hp=>exact (Reps.c2 (show Kd.M k30 _ _ _ (⟨0,1⟩ : S30) [.int .u64 0,.int .u64 1] from (z1J _ _ _ (⟨0,1⟩ : S30) )) (Reps.none _ _)));intro v116 w89 ho90 hb hg_ hnew_;clear hg_ hnew_;(first|rw [← Ny115.out] at ho90|(simp only [Int.reduceToNat] at ho90;rw [← Ny115.out] at ho90));have n0_:=z1.mk (Kd.zq zz23 hb);have n1_:=z1.mk (Kd.z1e zz20 (Kd.z1z ho90) hb);have n2_:=z1.mk (Kd.z1e zz21 (Kd.z1z ho90) hb);have n3_:=z1.mk (Kd.z1h (Kd.z2d (Kd.z1A (Kd.z1A ho90 (Kd.R_lt zz20)) (Kd.R_lt zz21)) (g:=gb114) (o:=.cells #[.int .u64 t111,.int .u64 t112] 30 (0,0)) zz6) (zb zz46));have n4_:=z1.mk (zc (g:=gb114) (o:=.cells #[.int .u64 t111,.int .u64 t112] 30 (0,0)) zz6 hb);have n5_:=z1.mk (z3 zz46 hb);clear HO103;clear HO106;clear HO110;clear BK114;clear HB;have HO103:=n0_;have HO106:=n1_;have HO110:=n2_;have HO117:=n3_;have BK114:=n4_;have HB:=n5_;clear n0_ n1_ n2_ n3_ n4_ n5_;clear hb ho90;obtain ⟨Ao91,co91,eo91⟩:=Kd.z1q HO117.out;subst eo91)|((with_reducible refine zi (f:=102) rfl ?_);refine goesL_ (some 22) rfl rfl Try.func102 zz90 rfl #[.int .i64 0,.slice Ao91 y115.length co91,.slice none 0 0] rfl zz48 ?_;(refine (z1f.calls k 0 _ _ y115 _ _ ([] : List (S30)) t118 t119 _ ?side1 ?side2 ?side3 ?side4 A3.out).mono ?_);(case side1=>repeat (first|exact (Kd.zs HO117.out).2.2|(with_reducible refine Kd.zQ ?_ _)|(with_reducible refine Kd.zR ?_ _)|(with_reducible refine Kd.z1d ?_)));(case side2=>exact (Kd.zs HO117.out).2.1);(case side3=>exact Kd.z2U _ _);(case side4=>exact Nat.le_refl _);rintro e w92 ⟨v120,rfl,ho0,hb⟩;refine ⟨_,rfl,?_⟩;have n0_:=z1.mk (Kd.zq zz65 hb);have n1_:=z1.mk (Kd.z1e zz60 (Kd.z1z ho0) hb);have n2_:=z1.mk (Kd.z1e zz66 (Kd.z1z ho0) hb);have n3_:=z1.mk (Kd.z1e zz67 (Kd.z1z ho0) hb);have n4_:=z1.mk (Kd.z1h (Kd.z2d (Kd.z1A (Kd.z1A (Kd.z1A ho0 (Kd.R_lt zz60)) (Kd.R_lt zz66)) (Kd.R_lt zz67)) (g:=gb114) (o:=.cells #[.int .u64 t111,.int .u64 t112] 30 (0,0)) zz54) (zb zz46));have n5_:=z1.mk (zc (g:=gb114) (o:=.cells #[.int .u64 t111,.int .u64 t112] 30 (0,0)) zz54 hb);have n6_:=z1.mk (z3 zz46 hb);clear HO103;clear HO106;clear HO110;clear HO117;clear BK114;clear HB;have HO103:=n0_;have HO106:=n1_;have HO110:=n2_;have HO117:=n3_;have HO121:=n4_;have BK114:=n5_;have HB:=n6_;clear n0_ n1_ n2_ n3_ n4_ n5_ n6_;(try clear hb);(try clear hb2);(try clear hk);(try clear hi);(try clear ho0)))
   go_ret
   exact ⟨by first|rfl|(simp [zg,zh] <;> rfl)|(simp [*,zg,zh] <;> rfl),by repeat (first|(with_reducible first|exact HB.out|apply zd|apply z2|apply z9|refine za ?_ GE114.out)|exact HB.out)⟩
 rw [if_pos c7] at H
 have c7b0 : ((t107.length : Int) == 1) = true:=beq_iff_eq.mpr c7
 have c7b1 : ((t107.length : Int) != 1) = false:=bne_eq_false_iff_eq.mpr c7
 clear c7
 by_cases c8 : 0 < (t107.length : Int)
 rotate_left
 · rw [if_neg c8] at H
   exact absurd H zz93
 rw [if_pos c8] at H
 have c8b0 : decide (0 < (t107.length : Int)) = true:=decide_eq_true c8
 have c8b1 : decide (0 < t107.length) = true:=decide_eq_true zz92
 clear c8
 by_cases c9 : (((rd_T30 t107 0).f0) == 0 && (((rd_T30 t107 0).f1) == 0)) = true
 rotate_left
 · rw [if_neg c9] at H
   have c9b0 : (((rd_T30 t107 0).f0) == 0 && (((rd_T30 t107 0).f1) == 0)) = false:=by simpa using c9
   (try (have c9b1 : decide (((rd_T30 t107 0).f0) = 0 && (((rd_T30 t107 0).f1) == 0)) = false:=by simpa using c9))
   (try (have c9b2 : (((rd_T30 t107 0).f0) == 0 && (((rd_T30 t107 0).f1) == 0)) = false:=by simpa using c9))
   (try (have c9b3 : ¬ (((rd_T30 t107 0).f0) = 0 && (((rd_T30 t107 0).f1) == 0)):=by simpa using c9))
   clear c9
   obtain rfl:=Option.some.inj H
   go_enter Try.func53,Try.ntmps53
   go_wp2_with (first|((with_reducible refine zp (N:=8) rfl ?_);(try (refine z1c zz94 ?_;dsimp only));refine Kd.z2k Kd.bool _ 4 ?hg (N:=8) ?hd (xs:=([true,false] : List Bool)) (inner:=[.bool true,.bool false]) (ok:=fun _=>True) (okp:=fun _=>True) ?hr ?hp (fun _ hk=>hk) trivial (Below.refl _ _) (Nat.le_refl _) zz93 ?_;(case hd=>rfl);(case hg=>rfl);(case hr=>first|(go_simp;done)|(go_simp;rfl));(case hp=>exact (Reps.one (show Kd.M Kd.bool _ _ _ true [.bool true] from rfl) (Reps.one (show Kd.M Kd.bool _ _ _ false [.bool false] from rfl) (Reps.none _ _))));intro v102 w63 ho64 hb hg_ hnew_;clear hg_ hnew_;(first|rw [← Ny101.out] at ho64|(simp only [Int.reduceToNat] at ho64;rw [← Ny101.out] at ho64));have n0_:=z1.mk (Kd.z1h ho64 (zb zz49));have n1_:=z1.mk (z3 zz49 hb);clear HB;have HO103:=n0_;have HB:=n1_;clear n0_ n1_;clear hb ho64)|((with_reducible refine zp (N:=10) rfl ?_);(try (refine z1c zz94 ?_;dsimp only));refine Kd.z2k k30 _ 30 ?hg (N:=10) ?hd (xs:=([(⟨0,1⟩ : S30)] : List (S30))) (inner:=[.int .u64 0,.int .u64 1]) (ok:=fun _=>True) (okp:=fun _=>True) ?hr ?hp (fun _ hk=>hk) trivial (Below.refl _ _) (Nat.le_refl _) zz93 ?_;(case hd=>rfl);(case hg=>rfl);(case hr=>first|(go_simp;done)|(go_simp;rfl));(case hp=>exact (Reps.c2 (show Kd.M k30 _ _ _ (⟨0,1⟩ : S30) [.int .u64 0,.int .u64 1] from (z1J _ _ _ (⟨0,1⟩ : S30) )) (Reps.none _ _)));intro v105 w65 ho66 hb hg_ hnew_;clear hg_ hnew_;(first|rw [← Ny104.out] at ho66|(simp only [Int.reduceToNat] at ho66;rw [← Ny104.out] at ho66));have n0_:=z1.mk (Kd.zq zz65 hb);have n1_:=z1.mk (Kd.z1h ho66 (zb zz49));have n2_:=z1.mk (z3 zz49 hb);clear HO103;clear HB;have HO103:=n0_;have HO106:=n1_;have HB:=n2_;clear n0_ n1_ n2_;clear hb ho66;obtain ⟨Ao67,co67,eo67⟩:=Kd.z1q HO103.out;subst eo67;obtain ⟨Ao68,co68,eo68⟩:=Kd.z1q HO106.out;subst eo68)|((with_reducible refine zi (f:=101) rfl ?_);refine goesL_ (some 11) rfl rfl Try.func101 zz90 rfl #[.int .i64 0,.slice Ao67 y101.length co67,.slice Ao68 y104.length co68] rfl zz48 ?_;(with_reducible refine (zB.calls k 0 _ _ y101 _ _ y104 t107 t108 _ ?side1 ?side2 ?side3 ?side4 A1.out).mono ?_);(case side1=>repeat (first|exact (Kd.zs HO103.out).2.2|(with_reducible refine Kd.zQ ?_ _)|(with_reducible refine Kd.zR ?_ _)|(with_reducible refine Kd.z1d ?_)));(case side2=>exact (Kd.zs HO103.out).2.1);(case side3=>repeat (first|exact (Kd.zs HO106.out).2.2|(with_reducible refine Kd.zQ ?_ _)|(with_reducible refine Kd.zR ?_ _)|(with_reducible refine Kd.z1d ?_)));(case side4=>exact (Kd.zs HO106.out).2.1);rintro e w69 ⟨v109,rfl,ho0,hb⟩;refine ⟨_,rfl,?_⟩;have n0_:=z1.mk (Kd.zq zz65 hb);have n1_:=z1.mk (Kd.z1e zz60 (Kd.z1z ho0) hb);have n2_:=z1.mk (Kd.z1h (Kd.z1A ho0 (Kd.R_lt zz60)) (zb zz49));have n3_:=z1.mk (z3 zz49 hb);clear HO103;clear HO106;clear HB;have HO103:=n0_;have HO106:=n1_;have HO110:=n2_;have HB:=n3_;clear n0_ n1_ n2_ n3_;(try clear hb);(try clear hb2);(try clear hk);(try clear hi);(try clear ho0);obtain ⟨Ao70,co70,eo70⟩:=Kd.z1q HO110.out;subst eo70)|((with_reducible refine zi (f:=55) rfl ?_);refine goesL_ (some 16) rfl rfl Try.func55 zz90 rfl #[.int .i64 0,.slice Ao70 t107.length co70,.slice none 0 0] rfl zz48 ?_;(refine (z1g.calls k 0 _ _ t107 _ _ ([] : List (S30)) t111 t112 t113 _ ?side1 ?side2 ?side3 ?side4 A2.out).mono ?_);(case side1=>repeat (first|exact (Kd.zs HO110.out).2.2|(with_reducible refine Kd.zQ ?_ _)|(with_reducible refine Kd.zR ?_ _)|(with_reducible refine Kd.z1d ?_)));(case side2=>exact (Kd.zs HO110.out).2.1);(case side3=>exact Kd.z2U _ _);(case side4=>exact Nat.le_refl _);rintro e w71 ⟨rfl,hb⟩;refine ⟨_,rfl,?_⟩;have n0_:=z1.mk (Kd.zq zz65 hb);have n1_:=z1.mk (Kd.zq zz60 hb);have n2_:=z1.mk (Kd.zq zz66 hb);have n3_:=z1.mk (z3 zz49 hb);clear HO103;clear HO106;clear HO110;clear HB;have HO103:=n0_;have HO106:=n1_;have HO110:=n2_;have HB:=n3_;clear n0_ n1_ n2_ n3_;(try clear hb);(try clear hb2);(try clear hk);(try clear hi))|((with_reducible refine zp (N:=3) rfl ?_);(try (refine z1c zz94 ?_;dsimp only));refine zt ?hg (N:=3) ?hd (cs:=#[.int .u64 0,.int .u64 0]) (t:=30) ?hr ?_;(case hd=>rfl);(case hg=>rfl);(case hr=>first|(go_simp;done)|(go_simp;rfl));intro gb114 hg w72 hbox hb;have n0_:=z1.mk (Kd.zq zz65 hb);have n1_:=z1.mk (Kd.zq (Kd.z1w zz60 gb114 (Nat.le_of_eq hg.symm)) hb);have n2_:=z1.mk (Kd.zq (Kd.z1w zz66 gb114 (Nat.le_of_eq hg.symm)) hb);have n3_:=z1.mk (z3 zz49 hb);have n4_:=z1.mk (hbox);have n5_:=z1.mk ((by rw [hg];exact (zb zz49) : w.heap.size ≤ gb114));have n6_:=z1.mk ((by rw [hg];exact (zb zz49) : w.heap.size ≤ gb114));clear HO103;clear HO106;clear HO110;clear HB;have HO103:=n0_;have HO106:=n1_;have HO110:=n2_;have HB:=n3_;have BK114:=n4_;have GW114:=n5_;have GE114:=n6_;clear n0_ n1_ n2_ n3_ n4_ n5_ n6_;clear hb hbox hg;have hcz73_0 : w72.cell? ⟨gb114,0,none⟩ = some (.int .u64 0):=(z7 BK114.out 0).trans rfl;have hcz73_1 : w72.cell? ⟨gb114,1,none⟩ = some (.int .u64 0):=(z7 BK114.out 1).trans rfl;have hfz73_0:=z6 BK114.out 0;have hfz73_1:=z6 BK114.out 1)|((with_reducible refine zp (N:=21) rfl ?_);(try (refine z1c zz94 ?_;dsimp only));refine Kd.z2k k30 _ 30 ?hg (N:=21) ?hd (xs:=([(⟨0,1⟩ : S30)] : List (S30))) (inner:=[.int .u64 0,.int .u64 1]) (ok:=fun _=>True) (okp:=fun _=>True) ?hr ?hp (fun _ hk=>hk) trivial (Below.refl _ _) (Nat.le_refl _) zz93 ?_;(case hd=>rfl);(case hg=>rfl);(case hr=>first|(go_simp;done)|(go_simp;rfl));(case hp=>exact (Reps.c2 (show Kd.M k30 _ _ _ (⟨0,1⟩ : S30) [.int .u64 0,.int .u64 1] from (z1J _ _ _ (⟨0,1⟩ : S30) )) (Reps.none _ _)));intro v116 w74 ho75 hb hg_ hnew_;clear hg_ hnew_;(first|rw [← Ny115.out] at ho75|(simp only [Int.reduceToNat] at ho75;rw [← Ny115.out] at ho75));have n0_:=z1.mk (Kd.zq zz23 hb);have n1_:=z1.mk (Kd.z1e zz20 (Kd.z1z ho75) hb);have n2_:=z1.mk (Kd.z1e zz21 (Kd.z1z ho75) hb);have n3_:=z1.mk (Kd.z1h (Kd.z2d (Kd.z1A (Kd.z1A ho75 (Kd.R_lt zz20)) (Kd.R_lt zz21)) (g:=gb114) (o:=.cells #[.int .u64 t111,.int .u64 t112] 30 (0,0)) zz6) (zb zz46));have n4_:=z1.mk (zc (g:=gb114) (o:=.cells #[.int .u64 t111,.int .u64 t112] 30 (0,0)) zz6 hb);have n5_:=z1.mk (z3 zz46 hb);clear HO103;clear HO106;clear HO110;clear BK114;clear HB;have HO103:=n0_;have HO106:=n1_;have HO110:=n2_;have HO117:=n3_;have BK114:=n4_;have HB:=n5_;clear n0_ n1_ n2_ n3_ n4_ n5_;clear hb ho75;obtain ⟨Ao76,co76,eo76⟩:=Kd.z1q HO117.out;subst eo76)|((with_reducible refine zi (f:=102) rfl ?_);refine goesL_ (some 22) rfl rfl Try.func102 zz90 rfl #[.int .i64 0,.slice Ao76 y115.length co76,.slice none 0 0] rfl zz48 ?_;(refine (z1f.calls k 0 _ _ y115 _ _ ([] : List (S30)) t118 t119 _ ?side1 ?side2 ?side3 ?side4 A3.out).mono ?_);(case side1=>repeat (first|exact (Kd.zs HO117.out).2.2|(with_reducible refine Kd.zQ ?_ _)|(with_reducible refine Kd.zR ?_ _)|(with_reducible refine Kd.z1d ?_)));(case side2=>exact (Kd.zs HO117.out).2.1);(case side3=>exact Kd.z2U _ _);(case side4=>exact Nat.le_refl _);rintro e w77 ⟨v120,rfl,ho0,hb⟩;refine ⟨_,rfl,?_⟩;have n0_:=z1.mk (Kd.zq zz65 hb);have n1_:=z1.mk (Kd.z1e zz60 (Kd.z1z ho0) hb);have n2_:=z1.mk (Kd.z1e zz66 (Kd.z1z ho0) hb);have n3_:=z1.mk (Kd.z1e zz67 (Kd.z1z ho0) hb);have n4_:=z1.mk (Kd.z1h (Kd.z2d (Kd.z1A (Kd.z1A (Kd.z1A ho0 (Kd.R_lt zz60)) (Kd.R_lt zz66)) (Kd.R_lt zz67)) (g:=gb114) (o:=.cells #[.int .u64 t111,.int .u64 t112] 30 (0,0)) zz54) (zb zz46));have n5_:=z1.mk (zc (g:=gb114) (o:=.cells #[.int .u64 t111,.int .u64 t112] 30 (0,0)) zz54 hb);have n6_:=z1.mk (z3 zz46 hb);clear HO103;clear HO106;clear HO110;clear HO117;clear BK114;clear HB;have HO103:=n0_;have HO106:=n1_;have HO110:=n2_;have HO117:=n3_;have HO121:=n4_;have BK114:=n5_;have HB:=n6_;clear n0_ n1_ n2_ n3_ n4_ n5_ n6_;(try clear hb);(try clear hb2);(try clear hk);(try clear hi);(try clear ho0);have p122 : 0 ≤ (0 : Int):=zz92;have q122 : 0 < (t107.length : Int):=of_decide_eq_true zz85;obtain ⟨ad122,e122,hx122_0,hx122_1⟩:=z20 (Kd.zs HO110.out).2.2 0 p122 q122;cases e122;have qi122 : (0 < t107.length) = True:=eq_true zz92;(try rw [show ((0 : Int)).toNat = 0 from rfl] at hx122_0);(try rw [show 0 * 2 = 0 from rfl] at hx122_0);(try rw [Addr.add_zero'] at hx122_0);(try rw [show ((0 : Int)).toNat = 0 from rfl] at hx122_1);(try rw [show 0 * 2 = 0 from rfl] at hx122_1);(try rw [Addr.add_zero'] at hx122_1);replace p122:=eq_true p122;replace q122:=eq_true q122))
   go_ret
   exact ⟨by first|rfl|(simp [zg,zh] <;> rfl)|(simp [*,zg,zh] <;> rfl),by repeat (first|(with_reducible first|exact HB.out|apply zd|apply z2|apply z9|refine za ?_ GE114.out)|exact HB.out)⟩
 rw [if_pos c9] at H
 have c9b0 : (((rd_T30 t107 0).f0) == 0 && (((rd_T30 t107 0).f1) == 0)) = true:=c9
 (try (have c9b1 : decide (((rd_T30 t107 0).f0) = 0 && (((rd_T30 t107 0).f1) == 0)) = true:=by simpa using c9))
 (try (have c9b2 : (((rd_T30 t107 0).f0) == 0 && (((rd_T30 t107 0).f1) == 0)) = true:=by simpa using c9))
 clear c9
 by_cases c10 : (t111 == 0 && (t112 == 0)) = true
 rotate_left
 · rw [if_neg c10] at H
   have c10b0 : (t111 == 0 && (t112 == 0)) = false:=by simpa using c10
   (try (have c10b1 : decide (t111 = 0 && (t112 == 0)) = false:=by simpa using c10))
   (try (have c10b2 : (t111 == 0 && (t112 == 0)) = false:=by simpa using c10))
   (try (have c10b3 : ¬ (t111 = 0 && (t112 == 0)):=by simpa using c10))
   clear c10
   obtain rfl:=Option.some.inj H
   go_enter Try.func53,Try.ntmps53
   go_wp2_with (first|((with_reducible refine zp (N:=8) rfl ?_);(try (refine z1c zz94 ?_;dsimp only));refine Kd.z2k Kd.bool _ 4 ?hg (N:=8) ?hd (xs:=([true,false] : List Bool)) (inner:=[.bool true,.bool false]) (ok:=fun _=>True) (okp:=fun _=>True) ?hr ?hp (fun _ hk=>hk) trivial (Below.refl _ _) (Nat.le_refl _) zz93 ?_;(case hd=>rfl);(case hg=>rfl);(case hr=>first|(go_simp;done)|(go_simp;rfl));(case hp=>exact (Reps.one (show Kd.M Kd.bool _ _ _ true [.bool true] from rfl) (Reps.one (show Kd.M Kd.bool _ _ _ false [.bool false] from rfl) (Reps.none _ _))));intro v102 w47 ho48 hb hg_ hnew_;clear hg_ hnew_;(first|rw [← Ny101.out] at ho48|(simp only [Int.reduceToNat] at ho48;rw [← Ny101.out] at ho48));have n0_:=z1.mk (Kd.z1h ho48 (zb zz49));have n1_:=z1.mk (z3 zz49 hb);clear HB;have HO103:=n0_;have HB:=n1_;clear n0_ n1_;clear hb ho48)|((with_reducible refine zp (N:=10) rfl ?_);(try (refine z1c zz94 ?_;dsimp only));refine Kd.z2k k30 _ 30 ?hg (N:=10) ?hd (xs:=([(⟨0,1⟩ : S30)] : List (S30))) (inner:=[.int .u64 0,.int .u64 1]) (ok:=fun _=>True) (okp:=fun _=>True) ?hr ?hp (fun _ hk=>hk) trivial (Below.refl _ _) (Nat.le_refl _) zz93 ?_;(case hd=>rfl);(case hg=>rfl);(case hr=>first|(go_simp;done)|(go_simp;rfl));(case hp=>exact (Reps.c2 (show Kd.M k30 _ _ _ (⟨0,1⟩ : S30) [.int .u64 0,.int .u64 1] from (z1J _ _ _ (⟨0,1⟩ : S30) )) (Reps.none _ _)));intro v105 w49 ho50 hb hg_ hnew_;clear hg_ hnew_;(first|rw [← Ny104.out] at ho50|(simp only [Int.reduceToNat] at ho50;rw [← Ny104.out] at ho50));have n0_:=z1.mk (Kd.zq zz65 hb);have n1_:=z1.mk (Kd.z1h ho50 (zb zz49));have n2_:=z1.mk (z3 zz49 hb);clear HO103;clear HB;have HO103:=n0_;have HO106:=n1_;have HB:=n2_;clear n0_ n1_ n2_;clear hb ho50;obtain ⟨Ao51,co51,eo51⟩:=Kd.z1q HO103.out;subst eo51;obtain ⟨Ao52,co52,eo52⟩:=Kd.z1q HO106.out;subst eo52)|((with_reducible refine zi (f:=101) rfl ?_);refine goesL_ (some 11) rfl rfl Try.func101 zz90 rfl #[.int .i64 0,.slice Ao51 y101.length co51,.slice Ao52 y104.length co52] rfl zz48 ?_;(with_reducible refine (zB.calls k 0 _ _ y101 _ _ y104 t107 t108 _ ?side1 ?side2 ?side3 ?side4 A1.out).mono ?_);(case side1=>repeat (first|exact (Kd.zs HO103.out).2.2|(with_reducible refine Kd.zQ ?_ _)|(with_reducible refine Kd.zR ?_ _)|(with_reducible refine Kd.z1d ?_)));(case side2=>exact (Kd.zs HO103.out).2.1);(case side3=>repeat (first|exact (Kd.zs HO106.out).2.2|(with_reducible refine Kd.zQ ?_ _)|(with_reducible refine Kd.zR ?_ _)|(with_reducible refine Kd.z1d ?_)));(case side4=>exact (Kd.zs HO106.out).2.1);rintro e w53 ⟨v109,rfl,ho0,hb⟩;refine ⟨_,rfl,?_⟩;have n0_:=z1.mk (Kd.zq zz65 hb);have n1_:=z1.mk (Kd.z1e zz60 (Kd.z1z ho0) hb);have n2_:=z1.mk (Kd.z1h (Kd.z1A ho0 (Kd.R_lt zz60)) (zb zz49));have n3_:=z1.mk (z3 zz49 hb);clear HO103;clear HO106;clear HB;have HO103:=n0_;have HO106:=n1_;have HO110:=n2_;have HB:=n3_;clear n0_ n1_ n2_ n3_;(try clear hb);(try clear hb2);(try clear hk);(try clear hi);(try clear ho0);obtain ⟨Ao54,co54,eo54⟩:=Kd.z1q HO110.out;subst eo54)|((with_reducible refine zi (f:=55) rfl ?_);refine goesL_ (some 16) rfl rfl Try.func55 zz90 rfl #[.int .i64 0,.slice Ao54 t107.length co54,.slice none 0 0] rfl zz48 ?_;(refine (z1g.calls k 0 _ _ t107 _ _ ([] : List (S30)) t111 t112 t113 _ ?side1 ?side2 ?side3 ?side4 A2.out).mono ?_);(case side1=>repeat (first|exact (Kd.zs HO110.out).2.2|(with_reducible refine Kd.zQ ?_ _)|(with_reducible refine Kd.zR ?_ _)|(with_reducible refine Kd.z1d ?_)));(case side2=>exact (Kd.zs HO110.out).2.1);(case side3=>exact Kd.z2U _ _);(case side4=>exact Nat.le_refl _);rintro e w55 ⟨rfl,hb⟩;refine ⟨_,rfl,?_⟩;have n0_:=z1.mk (Kd.zq zz65 hb);have n1_:=z1.mk (Kd.zq zz60 hb);have n2_:=z1.mk (Kd.zq zz66 hb);have n3_:=z1.mk (z3 zz49 hb);clear HO103;clear HO106;clear HO110;clear HB;have HO103:=n0_;have HO106:=n1_;have HO110:=n2_;have HB:=n3_;clear n0_ n1_ n2_ n3_;(try clear hb);(try clear hb2);(try clear hk);(try clear hi))|((with_reducible refine zp (N:=3) rfl ?_);(try (refine z1c zz94 ?_;dsimp only));refine zt ?hg (N:=3) ?hd (cs:=#[.int .u64 0,.int .u64 0]) (t:=30) ?hr ?_;(case hd=>rfl);(case hg=>rfl);(case hr=>first|(go_simp;done)|(go_simp;rfl));intro gb114 hg w56 hbox hb;have n0_:=z1.mk (Kd.zq zz65 hb);have n1_:=z1.mk (Kd.zq (Kd.z1w zz60 gb114 (Nat.le_of_eq hg.symm)) hb);have n2_:=z1.mk (Kd.zq (Kd.z1w zz66 gb114 (Nat.le_of_eq hg.symm)) hb);have n3_:=z1.mk (z3 zz49 hb);have n4_:=z1.mk (hbox);have n5_:=z1.mk ((by rw [hg];exact (zb zz49) : w.heap.size ≤ gb114));have n6_:=z1.mk ((by rw [hg];exact (zb zz49) : w.heap.size ≤ gb114));clear HO103;clear HO106;clear HO110;clear HB;have HO103:=n0_;have HO106:=n1_;have HO110:=n2_;have HB:=n3_;have BK114:=n4_;have GW114:=n5_;have GE114:=n6_;clear n0_ n1_ n2_ n3_ n4_ n5_ n6_;clear hb hbox hg;have hcz57_0 : w56.cell? ⟨gb114,0,none⟩ = some (.int .u64 0):=(z7 BK114.out 0).trans rfl;have hcz57_1 : w56.cell? ⟨gb114,1,none⟩ = some (.int .u64 0):=(z7 BK114.out 1).trans rfl;have hfz57_0:=z6 BK114.out 0;have hfz57_1:=z6 BK114.out 1)|((with_reducible refine zp (N:=21) rfl ?_);(try (refine z1c zz94 ?_;dsimp only));refine Kd.z2k k30 _ 30 ?hg (N:=21) ?hd (xs:=([(⟨0,1⟩ : S30)] : List (S30))) (inner:=[.int .u64 0,.int .u64 1]) (ok:=fun _=>True) (okp:=fun _=>True) ?hr ?hp (fun _ hk=>hk) trivial (Below.refl _ _) (Nat.le_refl _) zz93 ?_;(case hd=>rfl);(case hg=>rfl);(case hr=>first|(go_simp;done)|(go_simp;rfl));(case hp=>exact (Reps.c2 (show Kd.M k30 _ _ _ (⟨0,1⟩ : S30) [.int .u64 0,.int .u64 1] from (z1J _ _ _ (⟨0,1⟩ : S30) )) (Reps.none _ _)));intro v116 w58 ho59 hb hg_ hnew_;clear hg_ hnew_;(first|rw [← Ny115.out] at ho59|(simp only [Int.reduceToNat] at ho59;rw [← Ny115.out] at ho59));have n0_:=z1.mk (Kd.zq zz23 hb);have n1_:=z1.mk (Kd.z1e zz20 (Kd.z1z ho59) hb);have n2_:=z1.mk (Kd.z1e zz21 (Kd.z1z ho59) hb);have n3_:=z1.mk (Kd.z1h (Kd.z2d (Kd.z1A (Kd.z1A ho59 (Kd.R_lt zz20)) (Kd.R_lt zz21)) (g:=gb114) (o:=.cells #[.int .u64 t111,.int .u64 t112] 30 (0,0)) zz6) (zb zz46));have n4_:=z1.mk (zc (g:=gb114) (o:=.cells #[.int .u64 t111,.int .u64 t112] 30 (0,0)) zz6 hb);have n5_:=z1.mk (z3 zz46 hb);clear HO103;clear HO106;clear HO110;clear BK114;clear HB;have HO103:=n0_;have HO106:=n1_;have HO110:=n2_;have HO117:=n3_;have BK114:=n4_;have HB:=n5_;clear n0_ n1_ n2_ n3_ n4_ n5_;clear hb ho59;obtain ⟨Ao60,co60,eo60⟩:=Kd.z1q HO117.out;subst eo60)|((with_reducible refine zi (f:=102) rfl ?_);refine goesL_ (some 22) rfl rfl Try.func102 zz90 rfl #[.int .i64 0,.slice Ao60 y115.length co60,.slice none 0 0] rfl zz48 ?_;(refine (z1f.calls k 0 _ _ y115 _ _ ([] : List (S30)) t118 t119 _ ?side1 ?side2 ?side3 ?side4 A3.out).mono ?_);(case side1=>repeat (first|exact (Kd.zs HO117.out).2.2|(with_reducible refine Kd.zQ ?_ _)|(with_reducible refine Kd.zR ?_ _)|(with_reducible refine Kd.z1d ?_)));(case side2=>exact (Kd.zs HO117.out).2.1);(case side3=>exact Kd.z2U _ _);(case side4=>exact Nat.le_refl _);rintro e w61 ⟨v120,rfl,ho0,hb⟩;refine ⟨_,rfl,?_⟩;have n0_:=z1.mk (Kd.zq zz65 hb);have n1_:=z1.mk (Kd.z1e zz60 (Kd.z1z ho0) hb);have n2_:=z1.mk (Kd.z1e zz66 (Kd.z1z ho0) hb);have n3_:=z1.mk (Kd.z1e zz67 (Kd.z1z ho0) hb);have n4_:=z1.mk (Kd.z1h (Kd.z2d (Kd.z1A (Kd.z1A (Kd.z1A ho0 (Kd.R_lt zz60)) (Kd.R_lt zz66)) (Kd.R_lt zz67)) (g:=gb114) (o:=.cells #[.int .u64 t111,.int .u64 t112] 30 (0,0)) zz54) (zb zz46));have n5_:=z1.mk (zc (g:=gb114) (o:=.cells #[.int .u64 t111,.int .u64 t112] 30 (0,0)) zz54 hb);have n6_:=z1.mk (z3 zz46 hb);clear HO103;clear HO106;clear HO110;clear HO117;clear BK114;clear HB;have HO103:=n0_;have HO106:=n1_;have HO110:=n2_;have HO117:=n3_;have HO121:=n4_;have BK114:=n5_;have HB:=n6_;clear n0_ n1_ n2_ n3_ n4_ n5_ n6_;(try clear hb);(try clear hb2);(try clear hk);(try clear hi);(try clear ho0);have p122 : 0 ≤ (0 : Int):=zz92;have q122 : 0 < (t107.length : Int):=of_decide_eq_true zz85;obtain ⟨ad122,e122,hx122_0,hx122_1⟩:=z20 (Kd.zs HO110.out).2.2 0 p122 q122;cases e122;have qi122 : (0 < t107.length) = True:=eq_true zz92;(try rw [show ((0 : Int)).toNat = 0 from rfl] at hx122_0);(try rw [show 0 * 2 = 0 from rfl] at hx122_0);(try rw [Addr.add_zero'] at hx122_0);(try rw [show ((0 : Int)).toNat = 0 from rfl] at hx122_1);(try rw [show 0 * 2 = 0 from rfl] at hx122_1);(try rw [Addr.add_zero'] at hx122_1);replace p122:=eq_true p122;replace q122:=eq_true q122;have hcz62_0 : w61.cell? ⟨gb114,0,none⟩ = some (.int .u64 t111):=(z7 BK114.out 0).trans rfl;have hcz62_1 : w61.cell? ⟨gb114,1,none⟩ = some (.int .u64 t112):=(z7 BK114.out 1).trans rfl;have hfz62_0:=z6 BK114.out 0;have hfz62_1:=z6 BK114.out 1))
   go_ret
   exact ⟨by first|rfl|(simp [zg,zh] <;> rfl)|(simp [*,zg,zh] <;> rfl),by repeat (first|(with_reducible first|exact HB.out|apply zd|apply z2|apply z9|refine za ?_ GE114.out)|exact HB.out)⟩
 rw [if_pos c10] at H
 have c10b0 : (t111 == 0 && (t112 == 0)) = true:=c10
 (try (have c10b1 : decide (t111 = 0 && (t112 == 0)) = true:=by simpa using c10))
 (try (have c10b2 : (t111 == 0 && (t112 == 0)) = true:=by simpa using c10))
 clear c10
 by_cases c11 : (t118.length : Int) = 2
 rotate_left
 · rw [if_neg c11] at H
   have c11b0 : ((t118.length : Int) == 2) = false:=beq_eq_false_iff_ne.mpr c11
   have c11b1 : ((t118.length : Int) != 2) = true:=bne_iff_ne.mpr c11
   obtain rfl:=Option.some.inj H
   go_enter Try.func53,Try.ntmps53
   go_wp2_with (first|((with_reducible refine zp (N:=8) rfl ?_);(try (refine z1c zz94 ?_;dsimp only));refine Kd.z2k Kd.bool _ 4 ?hg (N:=8) ?hd (xs:=([true,false] : List Bool)) (inner:=[.bool true,.bool false]) (ok:=fun _=>True) (okp:=fun _=>True) ?hr ?hp (fun _ hk=>hk) trivial (Below.refl _ _) (Nat.le_refl _) zz93 ?_;(case hd=>rfl);(case hg=>rfl);(case hr=>first|(go_simp;done)|(go_simp;rfl));(case hp=>exact (Reps.one (show Kd.M Kd.bool _ _ _ true [.bool true] from rfl) (Reps.one (show Kd.M Kd.bool _ _ _ false [.bool false] from rfl) (Reps.none _ _))));intro v102 w30 ho31 hb hg_ hnew_;clear hg_ hnew_;(first|rw [← Ny101.out] at ho31|(simp only [Int.reduceToNat] at ho31;rw [← Ny101.out] at ho31));have n0_:=z1.mk (Kd.z1h ho31 (zb zz49));have n1_:=z1.mk (z3 zz49 hb);clear HB;have HO103:=n0_;have HB:=n1_;clear n0_ n1_;clear hb ho31)|((with_reducible refine zp (N:=10) rfl ?_);(try (refine z1c zz94 ?_;dsimp only));refine Kd.z2k k30 _ 30 ?hg (N:=10) ?hd (xs:=([(⟨0,1⟩ : S30)] : List (S30))) (inner:=[.int .u64 0,.int .u64 1]) (ok:=fun _=>True) (okp:=fun _=>True) ?hr ?hp (fun _ hk=>hk) trivial (Below.refl _ _) (Nat.le_refl _) zz93 ?_;(case hd=>rfl);(case hg=>rfl);(case hr=>first|(go_simp;done)|(go_simp;rfl));(case hp=>exact (Reps.c2 (show Kd.M k30 _ _ _ (⟨0,1⟩ : S30) [.int .u64 0,.int .u64 1] from (z1J _ _ _ (⟨0,1⟩ : S30) )) (Reps.none _ _)));intro v105 w32 ho33 hb hg_ hnew_;clear hg_ hnew_;(first|rw [← Ny104.out] at ho33|(simp only [Int.reduceToNat] at ho33;rw [← Ny104.out] at ho33));have n0_:=z1.mk (Kd.zq zz65 hb);have n1_:=z1.mk (Kd.z1h ho33 (zb zz49));have n2_:=z1.mk (z3 zz49 hb);clear HO103;clear HB;have HO103:=n0_;have HO106:=n1_;have HB:=n2_;clear n0_ n1_ n2_;clear hb ho33;obtain ⟨Ao34,co34,eo34⟩:=Kd.z1q HO103.out;subst eo34;obtain ⟨Ao35,co35,eo35⟩:=Kd.z1q HO106.out;subst eo35)|((with_reducible refine zi (f:=101) rfl ?_);refine goesL_ (some 11) rfl rfl Try.func101 zz90 rfl #[.int .i64 0,.slice Ao34 y101.length co34,.slice Ao35 y104.length co35] rfl zz48 ?_;(with_reducible refine (zB.calls k 0 _ _ y101 _ _ y104 t107 t108 _ ?side1 ?side2 ?side3 ?side4 A1.out).mono ?_);(case side1=>repeat (first|exact (Kd.zs HO103.out).2.2|(with_reducible refine Kd.zQ ?_ _)|(with_reducible refine Kd.zR ?_ _)|(with_reducible refine Kd.z1d ?_)));(case side2=>exact (Kd.zs HO103.out).2.1);(case side3=>repeat (first|exact (Kd.zs HO106.out).2.2|(with_reducible refine Kd.zQ ?_ _)|(with_reducible refine Kd.zR ?_ _)|(with_reducible refine Kd.z1d ?_)));(case side4=>exact (Kd.zs HO106.out).2.1);rintro e w36 ⟨v109,rfl,ho0,hb⟩;refine ⟨_,rfl,?_⟩;have n0_:=z1.mk (Kd.zq zz65 hb);have n1_:=z1.mk (Kd.z1e zz60 (Kd.z1z ho0) hb);have n2_:=z1.mk (Kd.z1h (Kd.z1A ho0 (Kd.R_lt zz60)) (zb zz49));have n3_:=z1.mk (z3 zz49 hb);clear HO103;clear HO106;clear HB;have HO103:=n0_;have HO106:=n1_;have HO110:=n2_;have HB:=n3_;clear n0_ n1_ n2_ n3_;(try clear hb);(try clear hb2);(try clear hk);(try clear hi);(try clear ho0);obtain ⟨Ao37,co37,eo37⟩:=Kd.z1q HO110.out;subst eo37)|((with_reducible refine zi (f:=55) rfl ?_);refine goesL_ (some 16) rfl rfl Try.func55 zz90 rfl #[.int .i64 0,.slice Ao37 t107.length co37,.slice none 0 0] rfl zz48 ?_;(refine (z1g.calls k 0 _ _ t107 _ _ ([] : List (S30)) t111 t112 t113 _ ?side1 ?side2 ?side3 ?side4 A2.out).mono ?_);(case side1=>repeat (first|exact (Kd.zs HO110.out).2.2|(with_reducible refine Kd.zQ ?_ _)|(with_reducible refine Kd.zR ?_ _)|(with_reducible refine Kd.z1d ?_)));(case side2=>exact (Kd.zs HO110.out).2.1);(case side3=>exact Kd.z2U _ _);(case side4=>exact Nat.le_refl _);rintro e w38 ⟨rfl,hb⟩;refine ⟨_,rfl,?_⟩;have n0_:=z1.mk (Kd.zq zz65 hb);have n1_:=z1.mk (Kd.zq zz60 hb);have n2_:=z1.mk (Kd.zq zz66 hb);have n3_:=z1.mk (z3 zz49 hb);clear HO103;clear HO106;clear HO110;clear HB;have HO103:=n0_;have HO106:=n1_;have HO110:=n2_;have HB:=n3_;clear n0_ n1_ n2_ n3_;(try clear hb);(try clear hb2);(try clear hk);(try clear hi))|((with_reducible refine zp (N:=3) rfl ?_);(try (refine z1c zz94 ?_;dsimp only));refine zt ?hg (N:=3) ?hd (cs:=#[.int .u64 0,.int .u64 0]) (t:=30) ?hr ?_;(case hd=>rfl);(case hg=>rfl);(case hr=>first|(go_simp;done)|(go_simp;rfl));intro gb114 hg w39 hbox hb;have n0_:=z1.mk (Kd.zq zz65 hb);have n1_:=z1.mk (Kd.zq (Kd.z1w zz60 gb114 (Nat.le_of_eq hg.symm)) hb);have n2_:=z1.mk (Kd.zq (Kd.z1w zz66 gb114 (Nat.le_of_eq hg.symm)) hb);have n3_:=z1.mk (z3 zz49 hb);have n4_:=z1.mk (hbox);have n5_:=z1.mk ((by rw [hg];exact (zb zz49) : w.heap.size ≤ gb114));have n6_:=z1.mk ((by rw [hg];exact (zb zz49) : w.heap.size ≤ gb114));clear HO103;clear HO106;clear HO110;clear HB;have HO103:=n0_;have HO106:=n1_;have HO110:=n2_;have HB:=n3_;have BK114:=n4_;have GW114:=n5_;have GE114:=n6_;clear n0_ n1_ n2_ n3_ n4_ n5_ n6_;clear hb hbox hg;have hcz40_0 : w39.cell? ⟨gb114,0,none⟩ = some (.int .u64 0):=(z7 BK114.out 0).trans rfl;have hcz40_1 : w39.cell? ⟨gb114,1,none⟩ = some (.int .u64 0):=(z7 BK114.out 1).trans rfl;have hfz40_0:=z6 BK114.out 0;have hfz40_1:=z6 BK114.out 1)|((with_reducible refine zp (N:=21) rfl ?_);(try (refine z1c zz94 ?_;dsimp only));refine Kd.z2k k30 _ 30 ?hg (N:=21) ?hd (xs:=([(⟨0,1⟩ : S30)] : List (S30))) (inner:=[.int .u64 0,.int .u64 1]) (ok:=fun _=>True) (okp:=fun _=>True) ?hr ?hp (fun _ hk=>hk) trivial (Below.refl _ _) (Nat.le_refl _) zz93 ?_;(case hd=>rfl);(case hg=>rfl);(case hr=>first|(go_simp;done)|(go_simp;rfl));(case hp=>exact (Reps.c2 (show Kd.M k30 _ _ _ (⟨0,1⟩ : S30) [.int .u64 0,.int .u64 1] from (z1J _ _ _ (⟨0,1⟩ : S30) )) (Reps.none _ _)));intro v116 w41 ho42 hb hg_ hnew_;clear hg_ hnew_;(first|rw [← Ny115.out] at ho42|(simp only [Int.reduceToNat] at ho42;rw [← Ny115.out] at ho42));have n0_:=z1.mk (Kd.zq zz23 hb);have n1_:=z1.mk (Kd.z1e zz20 (Kd.z1z ho42) hb);have n2_:=z1.mk (Kd.z1e zz21 (Kd.z1z ho42) hb);have n3_:=z1.mk (Kd.z1h (Kd.z2d (Kd.z1A (Kd.z1A ho42 (Kd.R_lt zz20)) (Kd.R_lt zz21)) (g:=gb114) (o:=.cells #[.int .u64 t111,.int .u64 t112] 30 (0,0)) zz6) (zb zz46));have n4_:=z1.mk (zc (g:=gb114) (o:=.cells #[.int .u64 t111,.int .u64 t112] 30 (0,0)) zz6 hb);have n5_:=z1.mk (z3 zz46 hb);clear HO103;clear HO106;clear HO110;clear BK114;clear HB;have HO103:=n0_;have HO106:=n1_;have HO110:=n2_;have HO117:=n3_;have BK114:=n4_;have HB:=n5_;clear n0_ n1_ n2_ n3_ n4_ n5_;clear hb ho42;obtain ⟨Ao43,co43,eo43⟩:=Kd.z1q HO117.out;subst eo43)|((with_reducible refine zi (f:=102) rfl ?_);refine goesL_ (some 22) rfl rfl Try.func102 zz90 rfl #[.int .i64 0,.slice Ao43 y115.length co43,.slice none 0 0] rfl zz48 ?_;(refine (z1f.calls k 0 _ _ y115 _ _ ([] : List (S30)) t118 t119 _ ?side1 ?side2 ?side3 ?side4 A3.out).mono ?_);(case side1=>repeat (first|exact (Kd.zs HO117.out).2.2|(with_reducible refine Kd.zQ ?_ _)|(with_reducible refine Kd.zR ?_ _)|(with_reducible refine Kd.z1d ?_)));(case side2=>exact (Kd.zs HO117.out).2.1);(case side3=>exact Kd.z2U _ _);(case side4=>exact Nat.le_refl _);rintro e w44 ⟨v120,rfl,ho0,hb⟩;refine ⟨_,rfl,?_⟩;have n0_:=z1.mk (Kd.zq zz65 hb);have n1_:=z1.mk (Kd.z1e zz60 (Kd.z1z ho0) hb);have n2_:=z1.mk (Kd.z1e zz66 (Kd.z1z ho0) hb);have n3_:=z1.mk (Kd.z1e zz67 (Kd.z1z ho0) hb);have n4_:=z1.mk (Kd.z1h (Kd.z2d (Kd.z1A (Kd.z1A (Kd.z1A ho0 (Kd.R_lt zz60)) (Kd.R_lt zz66)) (Kd.R_lt zz67)) (g:=gb114) (o:=.cells #[.int .u64 t111,.int .u64 t112] 30 (0,0)) zz54) (zb zz46));have n5_:=z1.mk (zc (g:=gb114) (o:=.cells #[.int .u64 t111,.int .u64 t112] 30 (0,0)) zz54 hb);have n6_:=z1.mk (z3 zz46 hb);clear HO103;clear HO106;clear HO110;clear HO117;clear BK114;clear HB;have HO103:=n0_;have HO106:=n1_;have HO110:=n2_;have HO117:=n3_;have HO121:=n4_;have BK114:=n5_;have HB:=n6_;clear n0_ n1_ n2_ n3_ n4_ n5_ n6_;(try clear hb);(try clear hb2);(try clear hk);(try clear hi);(try clear ho0);have p122 : 0 ≤ (0 : Int):=zz92;have q122 : 0 < (t107.length : Int):=of_decide_eq_true zz85;obtain ⟨ad122,e122,hx122_0,hx122_1⟩:=z20 (Kd.zs HO110.out).2.2 0 p122 q122;cases e122;have qi122 : (0 < t107.length) = True:=eq_true zz92;(try rw [show ((0 : Int)).toNat = 0 from rfl] at hx122_0);(try rw [show 0 * 2 = 0 from rfl] at hx122_0);(try rw [Addr.add_zero'] at hx122_0);(try rw [show ((0 : Int)).toNat = 0 from rfl] at hx122_1);(try rw [show 0 * 2 = 0 from rfl] at hx122_1);(try rw [Addr.add_zero'] at hx122_1);replace p122:=eq_true p122;replace q122:=eq_true q122;have hcz45_0 : w44.cell? ⟨gb114,0,none⟩ = some (.int .u64 t111):=(z7 BK114.out 0).trans rfl;have hcz45_1 : w44.cell? ⟨gb114,1,none⟩ = some (.int .u64 t112):=(z7 BK114.out 1).trans rfl;have hfz45_0:=z6 BK114.out 0;have hfz45_1:=z6 BK114.out 1;obtain ⟨Ao46,co46,eo46⟩:=Kd.z1q HO121.out;subst eo46))
   go_ret
   exact ⟨by first|rfl|(simp [zg,zh] <;> rfl)|(simp [*,zg,zh] <;> rfl),by repeat (first|(with_reducible first|exact HB.out|apply zd|apply z2|apply z9|refine za ?_ GE114.out)|exact HB.out)⟩
 rw [if_pos c11] at H
 have c11b0 : ((t118.length : Int) == 2) = true:=beq_iff_eq.mpr c11
 have c11b1 : ((t118.length : Int) != 2) = false:=bne_eq_false_iff_eq.mpr c11
 clear c11
 by_cases c12 : 1 < (t118.length : Int)
 rotate_left
 · rw [if_neg c12] at H
   exact absurd H zz93
 rw [if_pos c12] at H
 have c12b0 : decide (1 < (t118.length : Int)) = true:=decide_eq_true c12
 have c12b1 : decide (1 < t118.length) = true:=decide_eq_true zz92
 clear c12
 obtain rfl:=Option.some.inj H
 go_enter Try.func53,Try.ntmps53
 go_wp2_with (first|((with_reducible refine zp (N:=8) rfl ?_);(try (refine z1c zz94 ?_;dsimp only));refine Kd.z2k Kd.bool _ 4 ?hg (N:=8) ?hd (xs:=([true,false] : List Bool)) (inner:=[.bool true,.bool false]) (ok:=fun _=>True) (okp:=fun _=>True) ?hr ?hp (fun _ hk=>hk) trivial (Below.refl _ _) (Nat.le_refl _) zz93 ?_;(case hd=>rfl);(case hg=>rfl);(case hr=>first|(go_simp;done)|(go_simp;rfl));(case hp=>exact (Reps.one (show Kd.M Kd.bool _ _ _ true [.bool true] from rfl) (Reps.one (show Kd.M Kd.bool _ _ _ false [.bool false] from rfl) (Reps.none _ _))));intro v102 w13 ho14 hb hg_ hnew_;clear hg_ hnew_;(first|rw [← Ny101.out] at ho14|(simp only [Int.reduceToNat] at ho14;rw [← Ny101.out] at ho14));have n0_:=z1.mk (Kd.z1h ho14 (zb zz49));have n1_:=z1.mk (z3 zz49 hb);clear HB;have HO103:=n0_;have HB:=n1_;clear n0_ n1_;clear hb ho14)|((with_reducible refine zp (N:=10) rfl ?_);(try (refine z1c zz94 ?_;dsimp only));refine Kd.z2k k30 _ 30 ?hg (N:=10) ?hd (xs:=([(⟨0,1⟩ : S30)] : List (S30))) (inner:=[.int .u64 0,.int .u64 1]) (ok:=fun _=>True) (okp:=fun _=>True) ?hr ?hp (fun _ hk=>hk) trivial (Below.refl _ _) (Nat.le_refl _) zz93 ?_;(case hd=>rfl);(case hg=>rfl);(case hr=>first|(go_simp;done)|(go_simp;rfl));(case hp=>exact (Reps.c2 (show Kd.M k30 _ _ _ (⟨0,1⟩ : S30) [.int .u64 0,.int .u64 1] from (z1J _ _ _ (⟨0,1⟩ : S30) )) (Reps.none _ _)));intro v105 w15 ho16 hb hg_ hnew_;clear hg_ hnew_;(first|rw [← Ny104.out] at ho16|(simp only [Int.reduceToNat] at ho16;rw [← Ny104.out] at ho16));have n0_:=z1.mk (Kd.zq zz65 hb);have n1_:=z1.mk (Kd.z1h ho16 (zb zz49));have n2_:=z1.mk (z3 zz49 hb);clear HO103;clear HB;have HO103:=n0_;have HO106:=n1_;have HB:=n2_;clear n0_ n1_ n2_;clear hb ho16;obtain ⟨Ao17,co17,eo17⟩:=Kd.z1q HO103.out;subst eo17;obtain ⟨Ao18,co18,eo18⟩:=Kd.z1q HO106.out;subst eo18)|((with_reducible refine zi (f:=101) rfl ?_);refine goesL_ (some 11) rfl rfl Try.func101 zz90 rfl #[.int .i64 0,.slice Ao17 y101.length co17,.slice Ao18 y104.length co18] rfl zz48 ?_;(with_reducible refine (zB.calls k 0 _ _ y101 _ _ y104 t107 t108 _ ?side1 ?side2 ?side3 ?side4 A1.out).mono ?_);(case side1=>repeat (first|exact (Kd.zs HO103.out).2.2|(with_reducible refine Kd.zQ ?_ _)|(with_reducible refine Kd.zR ?_ _)|(with_reducible refine Kd.z1d ?_)));(case side2=>exact (Kd.zs HO103.out).2.1);(case side3=>repeat (first|exact (Kd.zs HO106.out).2.2|(with_reducible refine Kd.zQ ?_ _)|(with_reducible refine Kd.zR ?_ _)|(with_reducible refine Kd.z1d ?_)));(case side4=>exact (Kd.zs HO106.out).2.1);rintro e w19 ⟨v109,rfl,ho0,hb⟩;refine ⟨_,rfl,?_⟩;have n0_:=z1.mk (Kd.zq zz65 hb);have n1_:=z1.mk (Kd.z1e zz60 (Kd.z1z ho0) hb);have n2_:=z1.mk (Kd.z1h (Kd.z1A ho0 (Kd.R_lt zz60)) (zb zz49));have n3_:=z1.mk (z3 zz49 hb);clear HO103;clear HO106;clear HB;have HO103:=n0_;have HO106:=n1_;have HO110:=n2_;have HB:=n3_;clear n0_ n1_ n2_ n3_;(try clear hb);(try clear hb2);(try clear hk);(try clear hi);(try clear ho0);obtain ⟨Ao20,co20,eo20⟩:=Kd.z1q HO110.out;subst eo20)|((with_reducible refine zi (f:=55) rfl ?_);refine goesL_ (some 16) rfl rfl Try.func55 zz90 rfl #[.int .i64 0,.slice Ao20 t107.length co20,.slice none 0 0] rfl zz48 ?_;(refine (z1g.calls k 0 _ _ t107 _ _ ([] : List (S30)) t111 t112 t113 _ ?side1 ?side2 ?side3 ?side4 A2.out).mono ?_);(case side1=>repeat (first|exact (Kd.zs HO110.out).2.2|(with_reducible refine Kd.zQ ?_ _)|(with_reducible refine Kd.zR ?_ _)|(with_reducible refine Kd.z1d ?_)));(case side2=>exact (Kd.zs HO110.out).2.1);(case side3=>exact Kd.z2U _ _);(case side4=>exact Nat.le_refl _);rintro e w21 ⟨rfl,hb⟩;refine ⟨_,rfl,?_⟩;have n0_:=z1.mk (Kd.zq zz65 hb);have n1_:=z1.mk (Kd.zq zz60 hb);have n2_:=z1.mk (Kd.zq zz66 hb);have n3_:=z1.mk (z3 zz49 hb);clear HO103;clear HO106;clear HO110;clear HB;have HO103:=n0_;have HO106:=n1_;have HO110:=n2_;have HB:=n3_;clear n0_ n1_ n2_ n3_;(try clear hb);(try clear hb2);(try clear hk);(try clear hi))|((with_reducible refine zp (N:=3) rfl ?_);(try (refine z1c zz94 ?_;dsimp only));refine zt ?hg (N:=3) ?hd (cs:=#[.int .u64 0,.int .u64 0]) (t:=30) ?hr ?_;(case hd=>rfl);(case hg=>rfl);(case hr=>first|(go_simp;done)|(go_simp;rfl));intro gb114 hg w22 hbox hb;have n0_:=z1.mk (Kd.zq zz65 hb);have n1_:=z1.mk (Kd.zq (Kd.z1w zz60 gb114 (Nat.le_of_eq hg.symm)) hb);have n2_:=z1.mk (Kd.zq (Kd.z1w zz66 gb114 (Nat.le_of_eq hg.symm)) hb);have n3_:=z1.mk (z3 zz49 hb);have n4_:=z1.mk (hbox);have n5_:=z1.mk ((by rw [hg];exact (zb zz49) : w.heap.size ≤ gb114));have n6_:=z1.mk ((by rw [hg];exact (zb zz49) : w.heap.size ≤ gb114));clear HO103;clear HO106;clear HO110;clear HB;have HO103:=n0_;have HO106:=n1_;have HO110:=n2_;have HB:=n3_;have BK114:=n4_;have GW114:=n5_;have GE114:=n6_;clear n0_ n1_ n2_ n3_ n4_ n5_ n6_;clear hb hbox hg;have hcz23_0 : w22.cell? ⟨gb114,0,none⟩ = some (.int .u64 0):=(z7 BK114.out 0).trans rfl;have hcz23_1 : w22.cell? ⟨gb114,1,none⟩ = some (.int .u64 0):=(z7 BK114.out 1).trans rfl;have hfz23_0:=z6 BK114.out 0;have hfz23_1:=z6 BK114.out 1)|((with_reducible refine zp (N:=21) rfl ?_);(try (refine z1c zz94 ?_;dsimp only));refine Kd.z2k k30 _ 30 ?hg (N:=21) ?hd (xs:=([(⟨0,1⟩ : S30)] : List (S30))) (inner:=[.int .u64 0,.int .u64 1]) (ok:=fun _=>True) (okp:=fun _=>True) ?hr ?hp (fun _ hk=>hk) trivial (Below.refl _ _) (Nat.le_refl _) zz93 ?_;(case hd=>rfl);(case hg=>rfl);(case hr=>first|(go_simp;done)|(go_simp;rfl));(case hp=>exact (Reps.c2 (show Kd.M k30 _ _ _ (⟨0,1⟩ : S30) [.int .u64 0,.int .u64 1] from (z1J _ _ _ (⟨0,1⟩ : S30) )) (Reps.none _ _)));intro v116 w24 ho25 hb hg_ hnew_;clear hg_ hnew_;(first|rw [← Ny115.out] at ho25|(simp only [Int.reduceToNat] at ho25;rw [← Ny115.out] at ho25));have n0_:=z1.mk (Kd.zq zz23 hb);have n1_:=z1.mk (Kd.z1e zz20 (Kd.z1z ho25) hb);have n2_:=z1.mk (Kd.z1e zz21 (Kd.z1z ho25) hb);have n3_:=z1.mk (Kd.z1h (Kd.z2d (Kd.z1A (Kd.z1A ho25 (Kd.R_lt zz20)) (Kd.R_lt zz21)) (g:=gb114) (o:=.cells #[.int .u64 t111,.int .u64 t112] 30 (0,0)) zz6) (zb zz46));have n4_:=z1.mk (zc (g:=gb114) (o:=.cells #[.int .u64 t111,.int .u64 t112] 30 (0,0)) zz6 hb);have n5_:=z1.mk (z3 zz46 hb);clear HO103;clear HO106;clear HO110;clear BK114;clear HB;have HO103:=n0_;have HO106:=n1_;have HO110:=n2_;have HO117:=n3_;have BK114:=n4_;have HB:=n5_;clear n0_ n1_ n2_ n3_ n4_ n5_;clear hb ho25;obtain ⟨Ao26,co26,eo26⟩:=Kd.z1q HO117.out;subst eo26)|((with_reducible refine zi (f:=102) rfl ?_);refine goesL_ (some 22) rfl rfl Try.func102 zz90 rfl #[.int .i64 0,.slice Ao26 y115.length co26,.slice none 0 0] rfl zz48 ?_;(refine (z1f.calls k 0 _ _ y115 _ _ ([] : List (S30)) t118 t119 _ ?side1 ?side2 ?side3 ?side4 A3.out).mono ?_);(case side1=>repeat (first|exact (Kd.zs HO117.out).2.2|(with_reducible refine Kd.zQ ?_ _)|(with_reducible refine Kd.zR ?_ _)|(with_reducible refine Kd.z1d ?_)));(case side2=>exact (Kd.zs HO117.out).2.1);(case side3=>exact Kd.z2U _ _);(case side4=>exact Nat.le_refl _);rintro e w27 ⟨v120,rfl,ho0,hb⟩;refine ⟨_,rfl,?_⟩;have n0_:=z1.mk (Kd.zq zz65 hb);have n1_:=z1.mk (Kd.z1e zz60 (Kd.z1z ho0) hb);have n2_:=z1.mk (Kd.z1e zz66 (Kd.z1z ho0) hb);have n3_:=z1.mk (Kd.z1e zz67 (Kd.z1z ho0) hb);have n4_:=z1.mk (Kd.z1h (Kd.z2d (Kd.z1A (Kd.z1A (Kd.z1A ho0 (Kd.R_lt zz60)) (Kd.R_lt zz66)) (Kd.R_lt zz67)) (g:=gb114) (o:=.cells #[.int .u64 t111,.int .u64 t112] 30 (0,0)) zz54) (zb zz46));have n5_:=z1.mk (zc (g:=gb114) (o:=.cells #[.int .u64 t111,.int .u64 t112] 30 (0,0)) zz54 hb);have n6_:=z1.mk (z3 zz46 hb);clear HO103;clear HO106;clear HO110;clear HO117;clear BK114;clear HB;have HO103:=n0_;have HO106:=n1_;have HO110:=n2_;have HO117:=n3_;have HO121:=n4_;have BK114:=n5_;have HB:=n6_;clear n0_ n1_ n2_ n3_ n4_ n5_ n6_;(try clear hb);(try clear hb2);(try clear hk);(try clear hi);(try clear ho0);have p122 : 0 ≤ (0 : Int):=zz92;have q122 : 0 < (t107.length : Int):=of_decide_eq_true zz85;obtain ⟨ad122,e122,hx122_0,hx122_1⟩:=z20 (Kd.zs HO110.out).2.2 0 p122 q122;cases e122;have qi122 : (0 < t107.length) = True:=eq_true zz92;(try rw [show ((0 : Int)).toNat = 0 from rfl] at hx122_0);(try rw [show 0 * 2 = 0 from rfl] at hx122_0);(try rw [Addr.add_zero'] at hx122_0);(try rw [show ((0 : Int)).toNat = 0 from rfl] at hx122_1);(try rw [show 0 * 2 = 0 from rfl] at hx122_1);(try rw [Addr.add_zero'] at hx122_1);replace p122:=eq_true p122;replace q122:=eq_true q122;have hcz28_0 : w27.cell? ⟨gb114,0,none⟩ = some (.int .u64 t111):=(z7 BK114.out 0).trans rfl;have hcz28_1 : w27.cell? ⟨gb114,1,none⟩ = some (.int .u64 t112):=(z7 BK114.out 1).trans rfl;have hfz28_0:=z6 BK114.out 0;have hfz28_1:=z6 BK114.out 1;obtain ⟨Ao29,co29,eo29⟩:=Kd.z1q HO121.out;subst eo29;have p123 : 0 ≤ (1 : Int):=zz92;have q123 : 1 < (t118.length : Int):=of_decide_eq_true zz85;obtain ⟨ad123,e123,hx123_0,hx123_1⟩:=z20 (Kd.zs HO121.out).2.2 1 p123 q123;cases e123;(try simp only [show (1 : Int).toNat = 1 from rfl,Nat.reduceMul,Nat.reduceEqDiff,Go.Addr.add,↓reduceIte] at hx123_0);(try simp only [show (1 : Int).toNat = 1 from rfl,Nat.reduceMul,Nat.reduceEqDiff,Go.Addr.add,↓reduceIte] at hx123_1);have qi123 : (1 < t118.length) = True:=eq_true zz92;(try rw [show ((1 : Int)).toNat = 1 from rfl] at hx123_0);(try rw [show 1 * 2 = 2 from rfl] at hx123_0);(try rw [show ((1 : Int)).toNat = 1 from rfl] at hx123_1);(try rw [show 1 * 2 = 2 from rfl] at hx123_1);replace p123:=eq_true p123;replace q123:=eq_true q123))
 go_ret
 exact ⟨by first|rfl|(simp [zg,zh] <;> rfl)|(simp [*,zg,zh] <;> rfl),by repeat (first|(with_reducible first|exact HB.out|apply zd|apply z2|apply z9|refine za ?_ GE114.out)|exact HB.out)⟩
end Go.Proofs.Ytkhmpaooinpfoaa.P
namespace Go.Proofs.Ytkhmpaooinpfoaa.P
open Go.RowKit Go.Proofs.YtkhmpaooinpfoaaW.PrintWords Go.Proofs.YtkhmpaooinpfoaaW.PrintLast Go.Proofs.YtkhmpaooinpfoaaW.PrintMore
attribute [local go_sem] z12 z14 z1i z1j zU zV z13 z15   -- for this text's walks alone
set_option linter.unusedVariables false
set_option linter.unusedSimpArgs false
def zK.q.f (k : Nat) (a0 : Int) (x0 : Int) (x1 : Int) : Option Bool:=(z1P.f k x0 x1).bind fun t=>some (!(decide (t ≥ a0)))
theorem zK.q.mono : ∀ a0 a1 a2 k,LeO (zK.q.f k a0 a1 a2) (zK.q.f (k + 1) a0 a1 a2):=fun a0 a1 a2 k=>LeO.bind (z1P.mono _ _ k) (fun _=>LeO.refl _)
set_option maxHeartbeats 800000 in
set_option maxRecDepth 100000 in
theorem zK.clo (k : Nat) (a0 : Int) (x : S30) (g : Nat) (r : Bool) (w : World) (hg : w.heap[g]? = some (.cells #[.int .i64 a0] 3 (0,0))) (h : zK.q.f k a0 x.f0 x.f1 = some r) :
 Calls Try.prog 143 #[.agg #[.int .u64 x.f0,.int .u64 x.f1],.pointer (some ⟨g,0,none⟩)] w fun e w'=>e = .returned (.bool (!r)) ∧ Below w.heap.size w w':=by
 have hu30:=Try.underlying30
 obtain ⟨t,ht,h2⟩:=Option.bind_eq_some_iff.mp h
 obtain rfl:=Option.some.inj h2
 have HB:=z1.mk (Below.refl w.heap.size w)
 have HG:=z1.mk hg
 have A8:=z1.mk ht
 clear hg h h2 ht
 go_enter Try.func143,Try.ntmps143
 try go_wp2_with (first
  | ((with_reducible refine zp (N:=2) rfl ?_);refine zt ?hg (N:=2) ?hd (cs:=#[.int .u64 x.f0,.int .u64 x.f1]) (t:=30) ?hr ?_;(case hd=>rfl);(case hg=>rfl);(case hr=>first|(go_simp;done)|(go_simp;rfl));intro gb hgb w1_ hbox hb;have n0_:=z1.mk (z3 HB.out hb);have n1_:=z1.mk (zc (g:=g) (o:=(.cells #[.int .i64 a0] 3 (0,0))) HG.out hb);have n2_:=z1.mk hbox;clear HB HG hbox hb hgb;have HB:=n0_;have HG:=n1_;have BX:=n2_;clear n0_ n1_ n2_))
 have n0_:=z1.mk (z8 HG.out)
 have n1_:=z1.mk (z8 BX.out)
 have n2_:=z1.mk (z9 HB.out)
 clear HG BX HB
 have HG:=n0_
 have BX:=n1_
 have HB:=n2_
 clear n0_ n1_ n2_
 refine start_ (n:=5) (S:=fun w'=>w'.cell? ⟨gb,0,none⟩ = some (.int .u64 x.f0) ∧ w'.cell? ⟨gb,1,none⟩ = some (.int .u64 x.f1) ∧ w'.cell? ⟨g,0,none⟩ = some (.int .i64 a0)) (ds:=[]) #[false,false,false,false,false] zz90 rfl rfl ⟨(z7 BX.out 0).trans rfl,(z7 BX.out 1).trans rfl,(z7 HG.out 0).trans rfl⟩ (fun hHeld=>?_)
 generalize w1_.drew = w2_ at HG BX HB hHeld ⊢
 refine take_ (i:=0) (N:=some 4) (v:=?_) (a':=?_) #[true,false,false,false,false] rfl rfl zz90 (fun _ _ _ h=>h) (Or.inl ⟨by rfl,?_⟩) hHeld ?_ ?_
 rotate_left
 · rintro w' ⟨s0,s1,s2⟩
   go_simp
   with_reducible rfl
 rotate_left
 · simp only [Act.put,List.setIfInBounds_toArray,List.set_cons_zero,List.set_cons_succ,zH,zP]
   rfl
 refine take_ (i:=2) (N:=some 6) (v:=?_) (a':=?_) #[true,false,true,false,false] rfl rfl zz90 (fun _ _ _ h=>h) (Or.inl ⟨by rfl,?_⟩) hHeld ?_ ?_
 rotate_left
 · rintro w' ⟨s0,s1,s2⟩
   go_simp
   with_reducible rfl
 rotate_left
 · simp only [Act.put,List.setIfInBounds_toArray,List.set_cons_zero,List.set_cons_succ,zH,zP]
   rfl
 refine one_ (i:=1) (N:=some 5) #[true,true,true,false,false] rfl rfl zz90 zz91 (fun K hK=>?_)
 refine goes_ Try.func144 zz90 rfl #[.agg #[.int .u64 x.f0,.int .u64 x.f1]] zz94 rfl rfl zz84 ?_
 with_reducible refine (z1P.calls k x.f0 x.f1 t _ A8.out).mono ?_
 rintro e w3_ ⟨rfl,hb0⟩
 have hb:=hb0
 refine ⟨_,rfl,?_⟩
 have n0_:=z1.mk (zc (g:=g) (o:=(.cells #[.int .i64 a0] 3 (0,0))) HG.out hb)
 have n1_:=z1.mk (zc (g:=gb) (o:=(.cells #[.int .u64 x.f0,.int .u64 x.f1] 30 (0,0))) BX.out hb)
 have n2_:=z1.mk (z3 HB.out hb)
 clear HG BX HB hb hb0
 have HG:=n0_
 have BX:=n1_
 have HB:=n2_
 clear n0_ n1_ n2_
 refine hK.out _ _ ⟨(z7 BX.out 0).trans rfl,(z7 BX.out 1).trans rfl,(z7 HG.out 0).trans rfl⟩ (fun hHeld=>?_)
 clear hK K
 refine norm_ (a':=?_) ?_ ?_
 rotate_left
 · show Act.put _ (some 5) _ = _
   simp only [Act.put,List.setIfInBounds_toArray,List.set_cons_zero,List.set_cons_succ,zH,zP]
   rfl
 refine pure_ (i:=3) (N:=some 7) (v:=?_) (a':=?_) #[true,true,true,true,false] rfl rfl zz90 (fun _ _ _ h=>h) (Or.inl ⟨by rfl,?_⟩) ?_ ?_
 rotate_left
 · intro w'
   go_simp
   with_reducible rfl
 rotate_left
 · simp only [Act.put,List.setIfInBounds_toArray,List.set_cons_zero,List.set_cons_succ,zH,zP]
   rfl
 refine pure_ (i:=4) (N:=some 3) (v:=?_) (a':=?_) #[true,true,true,true,true] rfl rfl zz90 (fun _ _ _ h=>h) (Or.inl ⟨by rfl,?_⟩) ?_ ?_
 rotate_left
 · intro w'
   go_simp
   with_reducible rfl
 rotate_left
 · simp only [Act.put,List.setIfInBounds_toArray,List.set_cons_zero,List.set_cons_succ,zH,zP]
   rfl
 refine done_ zz90 ?_
 try go_wp2
 go_ret
 exact ⟨by simp,HB.out⟩
def zK.all (k : Nat) (a0 : Int) : List S30 → Option Bool
 | []=>some true
 | x :: xs=>(zK.q.f k a0 x.f0 x.f1).bind fun b=>if b = true then zK.all k a0 xs else some false
theorem zK.z2y (a0 : Int) : ∀ (l : List S30) (k : Nat),LeO (zK.all k a0 l) (zK.all (k + 1) a0 l)
 | [],k=>LeO.refl _
 | x :: xs,k=>LeO.bind (zK.q.mono a0 x.f0 x.f1 k) (fun b=>LeO.ite (zK.z2y a0 xs k) (LeO.refl _))
theorem zK.z3q (k : Nat) (a0 : Int) (l : List S30) (i : Nat) (h : i < l.length) : zK.all k a0 (l.drop i) = (zK.q.f k a0 (rd_T30 l (i : Int)).f0 (rd_T30 l (i : Int)).f1).bind fun b=>if b = true then zK.all k a0 (l.drop (i + 1)) else some false:=by
 rw [List.drop_eq_getElem_cons h]
 have e : rd_T30 l (i : Int) = l[i]:=by unfold rd_T30;rw [Int.toNat_natCast,List.getD_eq_getElem?_getD,List.getElem?_eq_getElem h];rfl
 rw [e];rfl
set_option maxHeartbeats 800000 in
set_option maxRecDepth 100000 in
theorem zK.idx (k : Nat) (a0 : Int) (A_ : Option Addr) (c : Nat) (l : List S30) (g : Nat) (r : Bool) (w : World) (hr : Kd.C k30 w A_ l.length l) (hg : w.heap[g]? = some (.cells #[.int .i64 a0] 3 (0,0))) (h : zK.all k a0 l = some r) :
 Calls Try.prog 135 #[.slice A_ l.length c,.func (.func 143) #[] #[.pointer (some ⟨g,0,none⟩)]] w fun e w'=>(∃ i : Int,e = .returned (.int .i64 i) ∧ decide (i ≥ 0) = !r) ∧ Below w.heap.size w w':=by
 have hu30:=Try.underlying30
 have HB:=z1.mk (Below.refl w.heap.size w)
 have HG:=z1.mk hg
 have HR:=z1.mk hr
 have HA:=z1.mk h
 have HM:=z1.mk (Kd.C_max hr)
 clear hg h hr
 go_enter Try.func135,Try.ntmps135
 go_wp2
 go_loopg [8] l.length (fun kq v8 w'=>∃ (i : Nat),v8 = .int .i64 i ∧ z1 (i + kq = l.length) ∧ z1 (zK.all k a0 (l.drop i) = some r) ∧ z1 (w'.heap[g]? = some (.cells #[.int .i64 a0] 3 (0,0))) ∧ z1 (Below w.heap.size w w'))
 case atStart=>exact ⟨0,rfl,⟨by omega⟩,HA,HG,HB⟩
 case round =>
  obtain ⟨i,rfl,HK,HAi,HGi,HBi⟩:=hrel
  clear HG HB HA
  by_cases hlt : i < l.length
  rotate_left
  · have p0 : decide (i < l.length) = false:=decide_eq_false hlt
    have p1 : decide ((i : Int) < (l.length : Int)) = false:=decide_eq_false zz92
    have hr : r = true:=by
     have h1:=HAi.out
     rw [List.drop_eq_nil_of_le zz92] at h1
     exact (Option.some.inj h1).symm
    clear hlt HAi
    subst hr
    go_wp2
    go_ret
    exact ⟨⟨-1,rfl,by decide⟩,HBi.out⟩
  have hd:=zK.z3q k a0 l i hlt
  have e1:=HAi.out
  rw [hd] at e1
  obtain ⟨b,hb,e2⟩:=Option.bind_eq_some_iff.mp e1
  clear e1 hd
  have HE:=z1.mk e2
  have HF:=z1.mk hb
  clear e2 hb
  obtain ⟨ad,e205,hx0,hx1⟩:=z20 HR.out (i : Int) zz92 zz92
  cases e205
  rw [Int.toNat_natCast] at hx0 hx1
  replace hx0:=(HBi.out.cell (World.block_lt_of_cell? w _ hx0)).trans hx0
  replace hx1:=(HBi.out.cell (World.block_lt_of_cell? w _ hx1)).trans hx1
  have p0 : decide (i < l.length) = true:=decide_eq_true hlt
  have p1 : decide ((i : Int) < (l.length : Int)) = true:=decide_eq_true zz92
  have p2 : (0 ≤ (i : Int)) = True:=eq_true zz92
  have p3 : ((i : Int) < (l.length : Int)) = True:=eq_true zz92
  clear hlt
  go_wp2_with fail
  refine (zK.clo k a0 (rd_T30 l (i : Int)) g b _ HGi.out HF.out).mono ?_
  rintro e w1 ⟨rfl,hb1⟩
  have n0_:=z1.mk (z3 HBi.out hb1)
  have n1_:=z1.mk (zc (g:=g) (o:=.cells #[.int .i64 a0] 3 (0,0)) HGi.out hb1)
  clear HBi HGi hb1 hx0 hx1
  cases b with
  | true =>
   rw [if_pos rfl] at HE
   simp only [Bool.not_true]
   go_wp2
   have hi : wrap64 ((i : Int) + 1) = ((i + 1 : Nat) : Int):=by
    have:=HM.out;have:=HK.out;have h9:=of_decide_eq_true p0;unfold wrap64;omega
   go_roundg (l.length - i - 1)
   case measure=>have:=HK.out;have h9:=of_decide_eq_true p0;omega
   case rel=>exact ⟨i + 1,congrArg (Value.int .i64) hi,⟨by have:=HK.out;have h9:=of_decide_eq_true p0;omega⟩,HE,n1_,n0_⟩
  | false =>
   have hr : r = false:=by
    have:=HE.out
    simp at this
    exact this
   subst hr
   simp only [Bool.not_false]
   go_wp2
   go_ret
   exact ⟨⟨(i : Int),rfl,by simp⟩,n0_.out⟩
set_option maxHeartbeats 800000 in
set_option maxRecDepth 100000 in
theorem zK.cont (k : Nat) (a0 : Int) (A_ : Option Addr) (c : Nat) (l : List S30) (g : Nat) (r : Bool) (w : World) (hr : Kd.C k30 w A_ l.length l) (hg : w.heap[g]? = some (.cells #[.int .i64 a0] 3 (0,0))) (h : zK.all k a0 l = some r) :
 Calls Try.prog 105 #[.slice A_ l.length c,.func (.func 143) #[] #[.pointer (some ⟨g,0,none⟩)]] w fun e w'=>e = .returned (.bool (!r)) ∧ Below w.heap.size w w':=by
 have HB:=z1.mk (Below.refl w.heap.size w)
 have HG:=z1.mk hg
 have HR:=z1.mk hr
 have HA:=z1.mk h
 clear hg h hr
 go_enter Try.func105,Try.ntmps105
 go_wp2_with fail
 refine (zK.idx k a0 A_ c l g r _ HR.out HG.out HA.out).mono ?_
 rintro e w1 ⟨⟨i,rfl,hi⟩,hb1⟩
 have hb:=z1.mk hb1
 have hj:=z1.mk hi
 clear hb1 hi
 go_wp2
 go_ret
 exact ⟨by rw [← hj.out];rfl,hb.out⟩
def zK.f (k : Nat) (l0 : List S30) (a1 : Int) : Option Bool:=zK.all k a1 l0
theorem zK.mono : ∀ a0 a1 k,LeO (zK.f k a0 a1) (zK.f (k + 1) a0 a1):=fun l a0 k=>zK.z2y a0 l k
set_option maxHeartbeats 800000 in
set_option maxRecDepth 100000 in
theorem zK.calls (k : Nat) (A0 : Option Addr) (c0 : Nat) (l0 : List S30) (a1 : Int) (r : Bool) (w : World) (hr0 : Kd.C k30 w A0 l0.length l0) (hc0 : l0.length ≤ c0) (h : zK.f k l0 a1 = some r) :
 Calls Try.prog 128 #[.slice A0 l0.length c0,.int .i64 a1] w fun e w'=>e = .returned (.bool r) ∧ Below w.heap.size w w':=by
 have hmf : ∀ (fn : Fn) (first cap : Array Value) (w : World),(Instr.makeFunc fn first cap).run Try.prog w = .ok (.func fn first cap) w:=fun _ _ _ _=>rfl
 have HB:=z1.mk (Below.refl w.heap.size w)
 have HR:=z1.mk hr0
 have HA:=z1.mk (show zK.all k a1 l0 = some r from h)
 clear h hr0
 go_enter Try.func128,Try.ntmps128
 go_wp2_with (first
  | ((with_reducible refine zp (N:=3) rfl ?_);refine zt ?hg (N:=3) ?hd (cs:=#[.int .i64 a1]) (t:=3) ?hr ?_;(case hd=>rfl);(case hg=>rfl);(case hr=>first|(go_simp;done)|(go_simp;rfl));intro gb hgb w1_ hbox hb;have n0_:=z1.mk (z3 HB.out hb);have n1_:=z1.mk hbox;have n2_:=z1.mk (Kd.z1r HR.out hb);clear HB HR hbox hb hgb;have HB:=n0_;have HG:=n1_;have HR:=n2_;clear n0_ n1_ n2_)
  | ((with_reducible refine zi (f:=105) rfl ?_);refine goesL_ (some 7) rfl rfl Try.func105 zz90 rfl #[.slice A0 l0.length c0,.func (.func 143) #[] #[.pointer (some ⟨gb,0,none⟩)]] rfl zz84 ?_;(with_reducible refine (zK.cont k a1 _ _ l0 gb r _ HR.out HG.out HA.out).mono ?_);rintro e w2_ ⟨rfl,hb2⟩;refine ⟨_,rfl,?_⟩;have n0_:=z1.mk (z3 HB.out hb2);clear HB hb2;have HB:=n0_;clear n0_))
 go_ret
 exact ⟨by simp,HB.out⟩
end Go.Proofs.Ytkhmpaooinpfoaa.P
namespace Go.Proofs.Ytkhmpaooinpfoaa.P
open Go.RowKit Go.Proofs.YtkhmpaooinpfoaaW.PrintWords Go.Proofs.YtkhmpaooinpfoaaW.PrintLast Go.Proofs.YtkhmpaooinpfoaaW.PrintMore
attribute [local go_sem] z12 z14 z1i z1j zU zV z13 z15   -- for this text's walks alone
set_option linter.unusedVariables false
set_option linter.unusedSimpArgs false
mutual
def zC.j0 : Nat → List (S30) → Int → Bool → Option ((List (S30)) × Int)
 | 0,_,_,_=>none
 | k + 1,x0,x1,x10=>if x10 = true then (some (([] : List (S30)),1)) else ((zK.f k x0 x1).bind fun t101=>(if t101 = true then (if 0 ≤ x1 then (if (x1 : Int).toNat ≤ 17592186044416 then (zC.l0 k x1 (List.replicate (x1 : Int).toNat z30) x0 (x0.length : Int) 0) else (none)) else (none)) else (some (([] : List (S30)),6))))
def zC.l0 : Nat → Int → List (S30) → List (S30) → Int → Int → Option ((List (S30)) × Int)
 | 0,_,_,_,_,_=>none
 | k + 1,x1,x6,x29,x30,x31=>if x31 < x30 then (if 0 ≤ x31 then (if x31 < (x29.length : Int) then (zC.l1 k x1 x6 x31 x29 x30 x31 x1 0 ((rd_T30 x29 x31).f0) ((rd_T30 x29 x31).f1)) else (none)) else (none)) else (some (x6,0))
def zC.l1 : Nat → Int → List (S30) → Int → List (S30) → Int → Int → Int → Int → Int → Int → Option ((List (S30)) × Int)
 | 0,_,_,_,_,_,_,_,_,_,_=>none
 | k + 1,x1,x6,x7,x29,x30,x31,x36,x37,x107000,x107001=>if x37 < x36 then ((z1E.f k x107000 x107001 x37).bind fun t107=>(if t107 = true then (if 0 ≤ x37 then (if x37 < (x6.length : Int) then ((zY.f k x7).bind fun bt109=>((z1t.f ((rd_T30 x6 x37).f0) ((rd_T30 x6 x37).f1) bt109.1 bt109.2).bind fun bt111=>(zC.l1 k x1 (x6.set (x37 : Int).toNat (⟨bt111.1,bt111.2⟩ : S30)) x7 x29 x30 x31 x36 (wrap64 (x37 + 1)) x107000 x107001))) else (none)) else (none)) else (zC.l1 k x1 x6 x7 x29 x30 x31 x36 (wrap64 (x37 + 1)) x107000 x107001))) else (zC.l0 k x1 x6 x29 x30 (wrap64 (x31 + 1)))
end
def zC.f (k : Nat) (l0 : List (S30)) (a1 : Int) : Option ((List (S30)) × Int):=if (l0.length : Int) > 128 then (zC.j0 k l0 a1 true) else (if a1 < 0 then (zC.j0 k l0 a1 true) else (zC.j0 k l0 a1 (decide (a1 > 128))))
theorem zC.z17 : ∀ k,(∀ y0 y1 y2,LeO (zC.j0 k y0 y1 y2) (zC.j0 (k + 1) y0 y1 y2)) ∧ (∀ y0 y1 y2 y3 y4,LeO (zC.l0 k y0 y1 y2 y3 y4) (zC.l0 (k + 1) y0 y1 y2 y3 y4)) ∧ (∀ y0 y1 y2 y3 y4 y5 y6 y7 y8 y9,LeO (zC.l1 k y0 y1 y2 y3 y4 y5 y6 y7 y8 y9) (zC.l1 (k + 1) y0 y1 y2 y3 y4 y5 y6 y7 y8 y9))
 | 0=>⟨fun _ _ _ r h=>by simp [zC.j0] at h,fun _ _ _ _ _ r h=>by simp [zC.l0] at h,fun _ _ _ _ _ _ _ _ _ _ r h=>by simp [zC.l1] at h⟩
 | k + 1=>by
  obtain ⟨ih0,ih1,ih2⟩:=zC.z17 k
  refine ⟨?_,?_,?_⟩
  · intro y0 y1 y2
    unfold zC.j0
    repeat' first
    | (with_reducible exact ih0 _ _ _)
    | (with_reducible exact ih1 _ _ _ _ _)
    | (with_reducible exact ih2 _ _ _ _ _ _ _ _ _ _)
    | (with_reducible exact z1E.mono _ _ _ _)
    | (with_reducible exact zK.mono _ _ _)
    | (with_reducible exact zY.mono _ _)
    | (with_reducible exact LeO.refl _)
    | (with_reducible exact LeO.none _)
    | (with_reducible refine LeO.ite ?_ ?_)
    | (with_reducible refine LeO.bind ?_ (fun _=>?_))
    | exact ih0 _ _ _
    | exact ih1 _ _ _ _ _
    | exact ih2 _ _ _ _ _ _ _ _ _ _
    | exact z1E.mono _ _ _ _
    | exact zK.mono _ _ _
    | exact zY.mono _ _
    | exact LeO.none _
    | refine LeO.ite ?_ ?_
    | refine LeO.bind ?_ (fun _=>?_)
  · intro y0 y1 y2 y3 y4
    unfold zC.l0
    repeat' first
    | (with_reducible exact ih0 _ _ _)
    | (with_reducible exact ih1 _ _ _ _ _)
    | (with_reducible exact ih2 _ _ _ _ _ _ _ _ _ _)
    | (with_reducible exact z1E.mono _ _ _ _)
    | (with_reducible exact zK.mono _ _ _)
    | (with_reducible exact zY.mono _ _)
    | (with_reducible exact LeO.refl _)
    | (with_reducible exact LeO.none _)
    | (with_reducible refine LeO.ite ?_ ?_)
    | (with_reducible refine LeO.bind ?_ (fun _=>?_))
    | exact ih0 _ _ _
    | exact ih1 _ _ _ _ _
    | exact ih2 _ _ _ _ _ _ _ _ _ _
    | exact z1E.mono _ _ _ _
    | exact zK.mono _ _ _
    | exact zY.mono _ _
    | exact LeO.none _
    | refine LeO.ite ?_ ?_
    | refine LeO.bind ?_ (fun _=>?_)
  · intro y0 y1 y2 y3 y4 y5 y6 y7 y8 y9
    unfold zC.l1
    repeat' first
    | (with_reducible exact ih0 _ _ _)
    | (with_reducible exact ih1 _ _ _ _ _)
    | (with_reducible exact ih2 _ _ _ _ _ _ _ _ _ _)
    | (with_reducible exact z1E.mono _ _ _ _)
    | (with_reducible exact zK.mono _ _ _)
    | (with_reducible exact zY.mono _ _)
    | (with_reducible exact LeO.refl _)
    | (with_reducible exact LeO.none _)
    | (with_reducible refine LeO.ite ?_ ?_)
    | (with_reducible refine LeO.bind ?_ (fun _=>?_))
    | exact ih0 _ _ _
    | exact ih1 _ _ _ _ _
    | exact ih2 _ _ _ _ _ _ _ _ _ _
    | exact z1E.mono _ _ _ _
    | exact zK.mono _ _ _
    | exact zY.mono _ _
    | exact LeO.none _
    | refine LeO.ite ?_ ?_
    | refine LeO.bind ?_ (fun _=>?_)
theorem zC.mono : ∀ a0 a1 k,LeO (zC.f k a0 a1) (zC.f (k + 1) a0 a1):=by
 intro a0 a1 k
 obtain ⟨ih0,ih1,ih2⟩:=zC.z17 k
 unfold zC.f
 repeat' first
  | (with_reducible exact ih0 _ _ _)
  | (with_reducible exact ih1 _ _ _ _ _)
  | (with_reducible exact ih2 _ _ _ _ _ _ _ _ _ _)
  | (with_reducible exact z1E.mono _ _ _ _)
  | (with_reducible exact zK.mono _ _ _)
  | (with_reducible exact zY.mono _ _)
  | (with_reducible exact LeO.refl _)
  | (with_reducible exact LeO.none _)
  | (with_reducible refine LeO.ite ?_ ?_)
  | (with_reducible refine LeO.bind ?_ (fun _=>?_))
  | exact ih0 _ _ _
  | exact ih1 _ _ _ _ _
  | exact ih2 _ _ _ _ _ _ _ _ _ _
  | exact z1E.mono _ _ _ _
  | exact zK.mono _ _ _
  | exact zY.mono _ _
  | exact LeO.none _
  | refine LeO.ite ?_ ?_
  | refine LeO.bind ?_ (fun _=>?_)
def zC.T13 : Bool × List (List Nat × List Nat):=(true,[([],[]),([],[]),([],[]),([],[]),([2,3],[2,3]),([4],[4]),([],[]),([6],[6]),([5,7,7],[5,7]),([0,1,0,1,2,3,4,5,6,7,8],[0,1]),([9,8,8,0,1,2,3,4,5,6,7,8],[8,9])])
def zC.B13 : List Nat:=[0,0,0,0,12,28,0,64,252,511,1023]
theorem zC.tab13 : rtab .any (opsOf Try.f95 13) = zC.T13:=by kernel_rfl
theorem zC.bits13 : waitsOk zC.T13.2 zC.B13 = true:=by kernel_rfl
set_option maxHeartbeats 8000000 in
set_option maxRecDepth 100000 in
theorem zC.calls (k : Nat) (A0 : Option Addr) (c0 : Nat) (l0 : List (S30)) (a1 : Int) (r1 : List (S30)) (r2 : Int) (w : World) (hr0 : Kd.C k30 w A0 l0.length l0) (hc0 : l0.length ≤ c0) (h : zC.f k l0 a1 = some (r1,r2)) :
 Calls Try.prog 95 #[.slice A0 l0.length c0,.int .i64 a1] w fun e w'=>∃ v0_ : Value,e = .returned (.tuple #[v0_,.int .i64 r2]) ∧ Kd.R k30 30 w' w.heap.size (fun _=>True) v0_ r1 ∧ Below w.heap.size w w':=by
 have hu30:=Try.underlying30
 have HR0:=z1.mk hr0
 have HC0:=z1.mk hc0
 clear hr0 hc0
 have HB:=z1.mk (Below.refl w.heap.size w)
 have H : (if (l0.length : Int) > 128 then (zC.j0 k l0 a1 true) else (if a1 < 0 then (zC.j0 k l0 a1 true) else (zC.j0 k l0 a1 (decide (a1 > 128))))) = some (r1,r2):=h
 clear h
 have HC3:=z1.mk H
 clear H
 go_enter Try.func95,Try.ntmps95
 go_upto_region 1 with (fail)
 go_cut [10] (fun v10 wc=>∃ (kq : Nat) (x10_2 : Bool),v10 = .bool x10_2 ∧ z1 (zC.j0 kq l0 a1 x10_2 = some (r1,r2)) ∧ z1 (kq ≤ k) ∧ z1 (Below w.heap.size w wc))
 case first =>
  have H:=HC3.out
  clear HC3
  by_cases c4 : (l0.length : Int) > 128
  · rw [if_pos c4] at H
    have c4b0 : decide (128 < (l0.length : Int)) = true:=decide_eq_true c4
    have c4b1 : decide (128 < l0.length) = true:=decide_eq_true zz92
    clear c4
    (first|rw [c4b0]|(simp only [zH,zP];rw [c4b0])|skip)
    have H':=z1.mk H
    clear H
    go_wp2
    go_meet
    case rel=>exact ⟨_,(true),zz86,H',⟨by first|omega|exact Nat.le_refl _⟩,⟨by repeat (first|(with_reducible first|exact HB.out|apply zd|apply z2|apply z9)|exact HB.out)⟩⟩
  rw [if_neg c4] at H
  have c4b0 : decide (128 < (l0.length : Int)) = false:=decide_eq_false c4
  have c4b1 : decide (128 < l0.length) = false:=decide_eq_false zz92
  clear c4
  (first|rw [c4b0]|(simp only [zH,zP];rw [c4b0])|skip)
  by_cases c5 : a1 < 0
  rotate_left
  · rw [if_neg c5] at H
    have c5b0 : decide (a1 < 0) = false:=decide_eq_false c5
    clear c5
    have H':=z1.mk H
    clear H
    go_wp2
    go_meet
    case rel=>exact ⟨_,(decide (a1 > 128)),zz86,H',⟨by first|omega|exact Nat.le_refl _⟩,⟨by repeat (first|(with_reducible first|exact HB.out|apply zd|apply z2|apply z9)|exact HB.out)⟩⟩
  rw [if_pos c5] at H
  have c5b0 : decide (a1 < 0) = true:=decide_eq_true c5
  clear c5
  have H':=z1.mk H
  clear H
  go_wp2
  go_meet
  case rel=>exact ⟨_,(true),zz86,H',⟨by first|omega|exact Nat.le_refl _⟩,⟨by repeat (first|(with_reducible first|exact HB.out|apply zd|apply z2|apply z9)|exact HB.out)⟩⟩
 case rest =>
  clear HC3
  (try clear p2);(try clear c4);(try clear c4b0);(try clear c4b1);(try clear c5);(try clear c5b0)
  obtain ⟨kq,x10_2,rfl,HA,HJ2,HB⟩:=hcut
  cases kq with
  | zero=>exact absurd HA.out (by simp [zC.j0])
  | succ kj2 =>
   have H:=HA.out
   clear HA
   simp only [zC.j0] at H
   by_cases c6 : x10_2 = true
   · subst c6
     have H1 : (some (([] : List (S30)),1)) = some (r1,r2):=by rw [if_pos rfl] at H;exact H
     clear H
     have H:=H1
     clear H1
     simp only [Option.some.injEq,Prod.mk.injEq] at H
     obtain ⟨rfl,rfl⟩:=H
     go_wp2
     go_ret2
     exact ⟨_,by first|rfl|(simp [zg,zh] <;> rfl)|(simp [*,zg,zh] <;> rfl),by first|exact Kd.z2W _ _ _ _ _|exact Kd.z3k _ _ _ _ _|exact Kd.z3p _ _ _ _ _|exact Kd.z3m _ _ _ _ _|exact Kd.z3o _ _ _ _ _,by repeat (first|(with_reducible first|exact HB.out|apply zd|apply z2|apply z9)|exact HB.out)⟩
   replace c6:=Bool.eq_false_iff.mpr c6
   subst c6
   have H1 : ((zK.f kj2 l0 a1).bind fun t101=>(if t101 = true then (if 0 ≤ a1 then (if (a1 : Int).toNat ≤ 17592186044416 then (zC.l0 kj2 a1 (List.replicate (a1 : Int).toNat z30) l0 (l0.length : Int) 0) else (none)) else (none)) else (some (([] : List (S30)),6)))) = some (r1,r2):=by rw [if_neg (show ¬ (false = true) by decide)] at H;exact H
   clear H
   have H:=H1
   clear H1
   replace H:=Option.bind_eq_some_iff.mp H
   obtain ⟨t101,A70,H⟩:=H
   replace H : (if t101 = true then (if 0 ≤ a1 then (if (a1 : Int).toNat ≤ 17592186044416 then (zC.l0 kj2 a1 (List.replicate (a1 : Int).toNat z30) l0 (l0.length : Int) 0) else (none)) else (none)) else (some (([] : List (S30)),6))) = some (r1,r2):=H
   have A7:=z1.mk A70
   clear A70
   by_cases c8 : t101 = true
   rotate_left
   · replace c8:=Bool.eq_false_iff.mpr c8
     subst c8
     have H1 : (some (([] : List (S30)),6)) = some (r1,r2):=by rw [if_neg (show ¬ (false = true) by decide)] at H;exact H
     clear H
     have H:=H1
     clear H1
     simp only [Option.some.injEq,Prod.mk.injEq] at H
     obtain ⟨rfl,rfl⟩:=H
     go_wp2_with (first|((with_reducible refine zi (f:=128) rfl ?_);refine goesL_ (some 25) rfl rfl Try.func128 zz90 rfl #[.slice A0 l0.length c0,.int .i64 a1] rfl zz48 ?_;(with_reducible refine (zK.calls kj2 _ _ l0 a1 false _ ?side1 ?side2 A7.out).mono ?_);(case side1=>repeat (first|exact (Kd.z1r HR0.out HB.out)|(with_reducible refine Kd.zQ ?_ _)|(with_reducible refine Kd.zR ?_ _)|(with_reducible refine Kd.z1d ?_)));(case side2=>exact HC0.out);rintro e w36 ⟨rfl,hb⟩;refine ⟨_,rfl,?_⟩;have n0_:=z1.mk (z3 zz49 hb);clear HB;have HB:=n0_;clear n0_;(try clear hb);(try clear hb2);(try clear hk);(try clear hi)))
     go_ret2
     exact ⟨_,by first|rfl|(simp [zg,zh] <;> rfl)|(simp [*,zg,zh] <;> rfl),by first|exact Kd.z2W _ _ _ _ _|exact Kd.z3k _ _ _ _ _|exact Kd.z3p _ _ _ _ _|exact Kd.z3m _ _ _ _ _|exact Kd.z3o _ _ _ _ _,by repeat (first|(with_reducible first|exact HB.out|apply zd|apply z2|apply z9)|exact HB.out)⟩
   subst c8
   have H1 : (if 0 ≤ a1 then (if (a1 : Int).toNat ≤ 17592186044416 then (zC.l0 kj2 a1 (List.replicate (a1 : Int).toNat z30) l0 (l0.length : Int) 0) else (none)) else (none)) = some (r1,r2):=by rw [if_pos rfl] at H;exact H
   clear H
   have H:=H1
   clear H1
   by_cases c9 : 0 ≤ a1
   rotate_left
   · rw [if_neg c9] at H
     exact absurd H zz93
   rw [if_pos c9] at H
   have c9b0:=eq_true c9
   have c9b1 : decide (0 ≤ a1) = true:=decide_eq_true c9
   clear c9
   by_cases c10 : (a1 : Int).toNat ≤ 17592186044416
   rotate_left
   · rw [if_neg c10] at H
     exact absurd H zz93
   rw [if_pos c10] at H
   have c10b0:=eq_true c10
   have c10b1 : decide ((a1 : Int).toNat ≤ 17592186044416) = true:=decide_eq_true c10
   clear c10
   obtain ⟨y102,hy102⟩ : ∃ y_ : List (S30),y_ = (List.replicate (a1 : Int).toNat z30):=⟨_,rfl⟩
   replace H : (zC.l0 kj2 a1 y102 l0 (l0.length : Int) 0) = some (r1,r2):=by first|(rw [hy102];with_reducible exact H)|(have H2_:=(Option.bind_some _ _).symm.trans H;rw [hy102];with_reducible exact H2_)|(have H2_:=(Option.bind_some _ _).symm.trans H;with_reducible exact H2_)|with_reducible exact H|(rw [hy102];exact H)|exact H
   have Ny102:=z1.mk hy102
   clear hy102
   have H':=z1.mk H
   clear H
   go_wp2_with (first|((with_reducible refine zi (f:=128) rfl ?_);refine goesL_ (some 25) rfl rfl Try.func128 zz90 rfl #[.slice A0 l0.length c0,.int .i64 a1] rfl zz48 ?_;(with_reducible refine (zK.calls kj2 _ _ l0 a1 true _ ?side1 ?side2 A7.out).mono ?_);(case side1=>repeat (first|exact (Kd.z1r HR0.out HB.out)|(with_reducible refine Kd.zQ ?_ _)|(with_reducible refine Kd.zR ?_ _)|(with_reducible refine Kd.z1d ?_)));(case side2=>exact HC0.out);rintro e w11 ⟨rfl,hb⟩;refine ⟨_,rfl,?_⟩;have n0_:=z1.mk (z3 zz49 hb);clear HB;have HB:=n0_;clear n0_;(try clear hb);(try clear hb2);(try clear hk);(try clear hi))|((with_reducible refine zp (N:=28) rfl ?_);refine Kd.z5a k30 _ 30 rfl (N:=28) rfl 24 _ _ rfl a1 rfl rfl Try.underlying24 (.agg #[(.int .u64 0),(.int .u64 0)]) 16 info30 rfl zz91 zz92 z30 (ok:=fun _=>True) (okp:=fun _=>True) (z1J _ _ _ z30 ) (fun _ hk=>hk) trivial (of_decide_eq_true zz85) (Nat.le_trans (Nat.mul_le_mul_right _ (of_decide_eq_true zz85 : a1.toNat ≤ 17592186044416)) zz92) (Below.refl _ _) (Nat.le_refl _) ?_;intro v103 w12 ho13 hb hg_ hnew_;clear hg_ hnew_;(first|rw [← Ny102.out] at ho13|(simp only [Int.reduceToNat] at ho13;rw [← Ny102.out] at ho13));have n0_:=z1.mk (Kd.z1h ho13 (zb zz49));have n1_:=z1.mk (z3 zz49 hb);clear HB;have HO104:=n0_;have HB:=n1_;clear n0_ n1_;clear hb ho13))
   go_loopg [31] kj2 (fun kq v31 w'=>∃ (x6_2 : List (S30)) (x31_2 : Int),v31 = .int .i64 x31_2 ∧ z1 (zC.l0 kq a1 x6_2 l0 (l0.length : Int) x31_2 = some (r1,r2)) ∧ z1 (kq ≤ kj2) ∧ z1 (Kd.R k30 30 w' w.heap.size (fun _=>True) v103 x6_2) ∧ z1 (Below w.heap.size w w'))
   case atStart=>exact ⟨(y102),(0),zz86,H',⟨Nat.le_refl _⟩,⟨by (with_reducible repeat (first|apply Kd.zI|apply Kd.zJ|apply Kd.zT));exact HO104.out⟩,⟨by repeat (first|(with_reducible first|exact HB.out|apply zd|apply z2|apply z9)|exact HB.out)⟩⟩
   case round =>
    clear H'
    (try clear c1);(try clear p2);(try clear c4);(try clear c4b0);(try clear c4b1);(try clear c5);(try clear c5b0);(try clear c6);(try clear c8);(try clear c9);(try clear c9b0);(try clear c9b1);(try clear c10);(try clear c10b0);(try clear c10b1);(try clear c12);(try clear p2)
    obtain ⟨x6_2,x31_2,rfl,HA,HK2,HO_6,HB⟩:=hrel
    cases gk with
    | zero=>exact absurd HA.out (by simp [zC.l0])
    | succ k2 =>
     have H:=HA.out
     clear HA
     simp only [zC.l0] at H
     by_cases c14 : x31_2 < (l0.length : Int)
     rotate_left
     · rw [if_neg c14] at H
       have c14b0 : decide (x31_2 < (l0.length : Int)) = false:=decide_eq_false c14
       clear c14
       simp only [Option.some.injEq,Prod.mk.injEq] at H
       obtain ⟨rfl,rfl⟩:=H
       go_wp2
       go_ret2
       exact ⟨_,by first|rfl|(simp [zg,zh] <;> rfl)|(simp [*,zg,zh] <;> rfl),by (with_reducible repeat (first|apply Kd.zI|apply Kd.zJ|apply Kd.zT));exact HO_6.out,by repeat (first|(with_reducible first|exact HB.out|apply zd|apply z2|apply z9)|exact HB.out)⟩
     rw [if_pos c14] at H
     have c14b0 : decide (x31_2 < (l0.length : Int)) = true:=decide_eq_true c14
     clear c14
     by_cases c15 : 0 ≤ x31_2
     rotate_left
     · rw [if_neg c15] at H
       exact absurd H zz93
     rw [if_pos c15] at H
     have c15b0 : decide (0 ≤ x31_2) = true:=decide_eq_true c15
     clear c15
     by_cases c16 : x31_2 < (l0.length : Int)
     rotate_left
     · rw [if_neg c16] at H
       exact absurd H zz93
     rw [if_pos c16] at H
     have c16b0 : decide (x31_2 < (l0.length : Int)) = true:=decide_eq_true c16
     clear c16
     have H':=z1.mk H
     clear H
     have p105 : 0 ≤ (x31_2 : Int):=of_decide_eq_true zz85
     have q105 : x31_2 < (l0.length : Int):=of_decide_eq_true zz85
     obtain ⟨ad105,e105,hx105_0,hx105_1⟩:=z20 HR0.out x31_2 p105 q105
     cases e105
     replace hx105_0:=(HB.out.cell (World.block_lt_of_cell? w _ hx105_0)).trans hx105_0
     replace hx105_1:=(HB.out.cell (World.block_lt_of_cell? w _ hx105_1)).trans hx105_1
     replace p105:=eq_true p105
     replace q105:=eq_true q105
     go_wp2_with (first|((with_reducible refine zp (N:=8) rfl ?_);refine zt ?hg (N:=8) ?hd (cs:=#[.int .u64 0,.int .u64 0]) (t:=30) ?hr ?_;(case hd=>rfl);(case hg=>rfl);(case hr=>first|(go_simp;done)|(go_simp;rfl));intro gb106 hg w17 hbox hb;have n0_:=z1.mk (Kd.zq (Kd.z1w zz73 gb106 (Nat.le_of_eq hg.symm)) hb);have n1_:=z1.mk (z3 zz49 hb);have n2_:=z1.mk (hbox);have n3_:=z1.mk ((by rw [hg];exact (zb zz49) : w.heap.size ≤ gb106));have n4_:=z1.mk ((by rw [hg];exact (zb zz49) : w.heap.size ≤ gb106));clear HO_6;clear HB;have HO_6:=n0_;have HB:=n1_;have BK106:=n2_;have GW106:=n3_;have GE106:=n4_;clear n0_ n1_ n2_ n3_ n4_;clear hb hbox hg;have hcz18_0 : w17.cell? ⟨gb106,0,none⟩ = some (.int .u64 0):=(z7 BK106.out 0).trans rfl;have hcz18_1 : w17.cell? ⟨gb106,1,none⟩ = some (.int .u64 0):=(z7 BK106.out 1).trans rfl;have hfz18_0:=z6 BK106.out 0;have hfz18_1:=z6 BK106.out 1))
     go_loopg [37] k2 (fun kq v37 w'=>∃ (x6_3 : List (S30)) (x37_3 : Int) (x107000_3 : Int) (x107001_3 : Int),v37 = .int .i64 x37_3 ∧ z1 (zC.l1 kq a1 x6_3 x31_2 l0 (l0.length : Int) x31_2 a1 x37_3 x107000_3 x107001_3 = some (r1,r2)) ∧ z1 (kq ≤ k2) ∧ z1 (Kd.R k30 30 w' w.heap.size (fun k_=>k_ ≠ gb106) v103 x6_3) ∧ z1 (w'.heap[gb106]? = some (.cells #[.int .u64 x107000_3,.int .u64 x107001_3] 30 (0,0))) ∧ z1 (Below w.heap.size w w'))
     case atStart=>exact ⟨(x6_2),(0),((rd_T30 l0 x31_2).f0),((rd_T30 l0 x31_2).f1),zz86,H',⟨Nat.le_refl _⟩,⟨by (with_reducible repeat (first|apply Kd.zI|apply Kd.zJ|apply Kd.zT));exact Kd.z18 (Kd.z1M (p:=⟨gb106,1,none⟩) (Kd.z1M (p:=⟨gb106,0,none⟩) (Kd.z18 HO_6.out (fun k_ hk=>(⟨hk,hk.2⟩ : _ ∧ k_ ≠ gb106))) (fun _ hk=>hk.2) (.int .u64 ((rd_T30 l0 x31_2).f0))) (fun _ hk=>hk.2) (.int .u64 ((rd_T30 l0 x31_2).f1))) (fun _ hk=>hk.1.2)⟩,⟨by (with_reducible repeat (first|refine z5 ?_ _|refine z8 ?_|refine z4 ?_ _));refine zX (cs:=#[.int .u64 ((rd_T30 l0 x31_2).f0),.int .u64 0]) ?_ 1 _ rfl;(with_reducible repeat (first|refine z5 ?_ _|refine z8 ?_|refine z4 ?_ _));refine zX (cs:=#[.int .u64 0,.int .u64 0]) ?_ 0 _ rfl;(with_reducible repeat (first|refine z5 ?_ _|refine z8 ?_|refine z4 ?_ _));exact BK106.out⟩,⟨by repeat (first|(with_reducible first|exact HB.out|apply zd|apply z2|apply z9|refine za ?_ GE106.out)|exact HB.out)⟩⟩
     case round =>
      clear H'
      (try clear c1);(try clear p1);(try clear q1);(try clear hx1);(try clear p2);(try clear c4);(try clear c4b0);(try clear c4b1);(try clear c5);(try clear c5b0);(try clear c6);(try clear c8);(try clear c9);(try clear c9b0);(try clear c9b1);(try clear c10);(try clear c10b0);(try clear c10b1);(try clear p10);(try clear q10);(try clear hx10);(try clear c12);(try clear c14);(try clear c14b0);(try clear c15);(try clear c15b0);(try clear c16);(try clear c16b0);(try clear hcz18_0);(try clear hcz18_1);(try clear hfz18_0);(try clear hfz18_1);(try clear hx105_0);(try clear hx105_1);(try clear p105);(try clear p2);(try clear q105)
      obtain ⟨x6_3,x37_3,x107000_3,x107001_3,rfl,HA,HK3,HO_6,BK106,HB⟩:=hrel
      cases gk with
      | zero=>exact absurd HA.out (by simp [zC.l1])
      | succ k3 =>
       have H:=HA.out
       clear HA
       simp only [zC.l1] at H
       by_cases c19 : x37_3 < a1
       rotate_left
       · rw [if_neg c19] at H
         have c19b0 : decide (x37_3 < a1) = false:=decide_eq_false c19
         clear c19
         have H':=z1.mk H
         clear H
         go_wp2
         go_roundg k3
         case measure=>have:=HJ2.out;have:=HK2.out;have:=HK3.out;omega
         case rel=>exact ⟨(x6_3),(wrap64 (x31_2 + 1)),zz86,H',⟨by have:=HJ2.out;have:=HK2.out;have:=HK3.out;omega⟩,⟨by (with_reducible repeat (first|apply Kd.zI|apply Kd.zJ|apply Kd.zT));exact Kd.z18 HO_6.out (fun _ hk=>trivial)⟩,⟨by repeat (first|(with_reducible first|exact HB.out|apply zd|apply z2|apply z9|refine za ?_ GE106.out)|exact HB.out)⟩⟩
       rw [if_pos c19] at H
       have c19b0 : decide (x37_3 < a1) = true:=decide_eq_true c19
       clear c19
       replace H:=Option.bind_eq_some_iff.mp H
       obtain ⟨t107,A200,H⟩:=H
       replace H : (if t107 = true then (if 0 ≤ x37_3 then (if x37_3 < (x6_3.length : Int) then ((zY.f k3 x31_2).bind fun bt109=>((z1t.f ((rd_T30 x6_3 x37_3).f0) ((rd_T30 x6_3 x37_3).f1) bt109.1 bt109.2).bind fun bt111=>(zC.l1 k3 a1 (x6_3.set (x37_3 : Int).toNat (⟨bt111.1,bt111.2⟩ : S30)) x31_2 l0 (l0.length : Int) x31_2 a1 (wrap64 (x37_3 + 1)) x107000_3 x107001_3))) else (none)) else (none)) else (zC.l1 k3 a1 x6_3 x31_2 l0 (l0.length : Int) x31_2 a1 (wrap64 (x37_3 + 1)) x107000_3 x107001_3)) = some (r1,r2):=H
       have A20:=z1.mk A200
       clear A200
       by_cases c21 : t107 = true
       rotate_left
       · replace c21:=Bool.eq_false_iff.mpr c21
         subst c21
         have H1 : (zC.l1 k3 a1 x6_3 x31_2 l0 (l0.length : Int) x31_2 a1 (wrap64 (x37_3 + 1)) x107000_3 x107001_3) = some (r1,r2):=by rw [if_neg (show ¬ (false = true) by decide)] at H;exact H
         clear H
         have H:=H1
         clear H1
         have H':=z1.mk H
         clear H
         have hcz34_0 : wr.cell? ⟨gb106,0,none⟩ = some (.int .u64 x107000_3):=(z7 BK106.out 0).trans rfl
         have hcz34_1 : wr.cell? ⟨gb106,1,none⟩ = some (.int .u64 x107001_3):=(z7 BK106.out 1).trans rfl
         have hfz34_0:=z6 BK106.out 0
         have hfz34_1:=z6 BK106.out 1
         go_wp2_with (first|((with_reducible refine zi (f:=129) rfl ?_);refine goesL_ (some 42) rfl rfl Try.func129 zz90 rfl #[.agg #[.int .u64 x107000_3,.int .u64 x107001_3],.int .i64 x37_3] rfl zz48 ?_;(with_reducible refine (z1E.calls k3 x107000_3 x107001_3 x37_3 false _ A20.out).mono ?_);rintro e w35 ⟨rfl,hb⟩;refine ⟨_,rfl,?_⟩;have n0_:=z1.mk (Kd.zq zz73 hb);have n1_:=z1.mk (zc (g:=gb106) (o:=.cells #[.int .u64 x107000_3,.int .u64 x107001_3] 30 (0,0)) zz56 hb);have n2_:=z1.mk (z3 zz47 hb);clear HO_6;clear BK106;clear HB;have HO_6:=n0_;have BK106:=n1_;have HB:=n2_;clear n0_ n1_ n2_;(try clear hb);(try clear hb2);(try clear hk);(try clear hi)))
         go_roundg k3
         case measure=>have:=HJ2.out;have:=HK2.out;have:=HK3.out;omega
         case rel=>exact ⟨(x6_3),(wrap64 (x37_3 + 1)),(x107000_3),(x107001_3),zz86,H',⟨by have:=HJ2.out;have:=HK2.out;have:=HK3.out;omega⟩,⟨by (with_reducible repeat (first|apply Kd.zI|apply Kd.zJ|apply Kd.zT));exact HO_6.out⟩,⟨by (with_reducible repeat (first|refine z5 ?_ _|refine z8 ?_|refine z4 ?_ _));exact BK106.out⟩,⟨by repeat (first|(with_reducible first|exact HB.out|apply zd|apply z2|apply z9|refine za ?_ GE106.out)|exact HB.out)⟩⟩
       subst c21
       have H1 : (if 0 ≤ x37_3 then (if x37_3 < (x6_3.length : Int) then ((zY.f k3 x31_2).bind fun bt109=>((z1t.f ((rd_T30 x6_3 x37_3).f0) ((rd_T30 x6_3 x37_3).f1) bt109.1 bt109.2).bind fun bt111=>(zC.l1 k3 a1 (x6_3.set (x37_3 : Int).toNat (⟨bt111.1,bt111.2⟩ : S30)) x31_2 l0 (l0.length : Int) x31_2 a1 (wrap64 (x37_3 + 1)) x107000_3 x107001_3))) else (none)) else (none)) = some (r1,r2):=by rw [if_pos rfl] at H;exact H
       clear H
       have H:=H1
       clear H1
       by_cases c22 : 0 ≤ x37_3
       rotate_left
       · rw [if_neg c22] at H
         exact absurd H zz93
       rw [if_pos c22] at H
       have c22b0 : decide (0 ≤ x37_3) = true:=decide_eq_true c22
       clear c22
       by_cases c23 : x37_3 < (x6_3.length : Int)
       rotate_left
       · rw [if_neg c23] at H
         exact absurd H zz93
       rw [if_pos c23] at H
       have c23b0 : decide (x37_3 < (x6_3.length : Int)) = true:=decide_eq_true c23
       clear c23
       replace H:=Option.bind_eq_some_iff.mp H
       obtain ⟨⟨t109,t110⟩,A240,H⟩:=H
       replace H : ((z1t.f ((rd_T30 x6_3 x37_3).f0) ((rd_T30 x6_3 x37_3).f1) t109 t110).bind fun bt111=>(zC.l1 k3 a1 (x6_3.set (x37_3 : Int).toNat (⟨bt111.1,bt111.2⟩ : S30)) x31_2 l0 (l0.length : Int) x31_2 a1 (wrap64 (x37_3 + 1)) x107000_3 x107001_3)) = some (r1,r2):=H
       have A24:=z1.mk A240
       clear A240
       replace H:=Option.bind_eq_some_iff.mp H
       obtain ⟨⟨t111,t112⟩,A250,H⟩:=H
       replace H : (zC.l1 k3 a1 (x6_3.set (x37_3 : Int).toNat (⟨t111,t112⟩ : S30)) x31_2 l0 (l0.length : Int) x31_2 a1 (wrap64 (x37_3 + 1)) x107000_3 x107001_3) = some (r1,r2):=H
       have A25:=z1.mk A250
       clear A250
       obtain ⟨y113,hy113⟩ : ∃ y_ : List (S30),y_ = (x6_3.set (x37_3 : Int).toNat (⟨t111,t112⟩ : S30)):=⟨_,rfl⟩
       replace H : (zC.l1 k3 a1 y113 x31_2 l0 (l0.length : Int) x31_2 a1 (wrap64 (x37_3 + 1)) x107000_3 x107001_3) = some (r1,r2):=by first|(rw [hy113];with_reducible exact H)|(have H2_:=(Option.bind_some _ _).symm.trans H;rw [hy113];with_reducible exact H2_)|(have H2_:=(Option.bind_some _ _).symm.trans H;with_reducible exact H2_)|with_reducible exact H|(rw [hy113];exact H)|exact H
       have Ny113:=z1.mk hy113
       clear hy113
       have H':=z1.mk H
       clear H
       have hcz27_0 : wr.cell? ⟨gb106,0,none⟩ = some (.int .u64 x107000_3):=(z7 BK106.out 0).trans rfl
       have hcz27_1 : wr.cell? ⟨gb106,1,none⟩ = some (.int .u64 x107001_3):=(z7 BK106.out 1).trans rfl
       have hfz27_0:=z6 BK106.out 0
       have hfz27_1:=z6 BK106.out 1
       try go_wp2_with (first|((with_reducible refine zi (f:=129) rfl ?_);refine goesL_ (some 42) rfl rfl Try.func129 zz90 rfl #[.agg #[.int .u64 x107000_3,.int .u64 x107001_3],.int .i64 x37_3] rfl zz48 ?_;(with_reducible refine (z1E.calls k3 x107000_3 x107001_3 x37_3 true _ A20.out).mono ?_);rintro e w28 ⟨rfl,hb⟩;refine ⟨_,rfl,?_⟩;have n0_:=z1.mk (Kd.zq zz73 hb);have n1_:=z1.mk (zc (g:=gb106) (o:=.cells #[.int .u64 x107000_3,.int .u64 x107001_3] 30 (0,0)) zz56 hb);have n2_:=z1.mk (z3 zz47 hb);clear HO_6;clear BK106;clear HB;have HO_6:=n0_;have BK106:=n1_;have HB:=n2_;clear n0_ n1_ n2_;(try clear hb);(try clear hb2);(try clear hk);(try clear hi)))
       have n0_:=z1.mk (Kd.zT HO_6.out)
       have n1_:=z1.mk (z8 BK106.out)
       have n2_:=z1.mk (z9 HB.out)
       clear HO_6
       clear BK106
       clear HB
       have HO_6:=n0_
       have BK106:=n1_
       have HB:=n2_
       clear n0_ n1_ n2_
       obtain ⟨Ao30,co30,eo30⟩:=Kd.z1q HO_6.out
       (first|subst eo30|(injection eo30 with f1_ f2_ f3_;have f4_:=f1_.symm;have f5_:=f3_.symm;clear f1_ f2_ f3_;subst f4_;subst f5_))
       have p108 : 0 ≤ (x37_3 : Int):=of_decide_eq_true zz85
       have q108 : x37_3 < (x6_3.length : Int):=of_decide_eq_true zz85
       obtain ⟨ad108,e108,hx108_0,hx108_1⟩:=z20 (Kd.zs HO_6.out).2.2 x37_3 p108 q108
       cases e108
       replace p108:=eq_true p108
       replace q108:=eq_true q108
       refine start_ (n:=11) (S:=fun w'=>w'.cell? (ad108.add ((x37_3).toNat * 2)) = some (.int .u64 ((rd_T30 x6_3 x37_3).f0)) ∧ w'.cell? ⟨(ad108.add ((x37_3).toNat * 2)).block,(ad108.add ((x37_3).toNat * 2)).off + 1,none⟩ = some (.int .u64 ((rd_T30 x6_3 x37_3).f1))) (ds:=[10]) #[false,false,false,false,false,false,false,false,false,false,false] zz90 rfl rfl ⟨hx108_0,hx108_1⟩ (fun hHeld=>?_);refine z25 zC.tab13 zC.bits13 (fun HT_ HW_=>?_)
       generalize w28.drew = w29 at HO_6 BK106 HB hx108_0 hx108_1 hHeld ⊢
       refine pure_ (i:=0) (N:=some 43) (v:=?_) (a':=?_) #[true,false,false,false,false,false,false,false,false,false,false] rfl rfl (z19 HT_.out zz90) (fun _ _ _ h=>h) (Or.inl ⟨by rfl,?_⟩) ?_ ?_
       rotate_left
       · intro w'
         go_simp
         with_reducible rfl
       rotate_left
       · simp only [Act.put,List.setIfInBounds_toArray,List.set_cons_zero,List.set_cons_succ,zH,zP]
         rfl
       refine pure_ (i:=1) (N:=some 44) (v:=?_) (a':=?_) #[true,true,false,false,false,false,false,false,false,false,false] rfl rfl (z19 HT_.out zz90) (fun _ _ _ h=>h) (Or.inl ⟨by rfl,?_⟩) ?_ ?_
       rotate_left
       · intro w'
         go_simp
         with_reducible rfl
       rotate_left
       · simp only [Act.put,List.setIfInBounds_toArray,List.set_cons_zero,List.set_cons_succ,zH,zP]
         rfl
       refine pure_ (i:=2) (N:=some 45) (v:=?_) (a':=?_) #[true,true,true,false,false,false,false,false,false,false,false] rfl rfl (z19 HT_.out zz90) (fun _ _ _ h=>h) (Or.inl ⟨by rfl,?_⟩) ?_ ?_
       rotate_left
       · intro w'
         go_simp
         with_reducible rfl
       rotate_left
       · simp only [Act.put,List.setIfInBounds_toArray,List.set_cons_zero,List.set_cons_succ,zH,zP]
         rfl
       refine pure_ (i:=3) (N:=some 46) (v:=?_) (a':=?_) #[true,true,true,true,false,false,false,false,false,false,false] rfl rfl (z19 HT_.out zz90) (fun _ _ _ h=>h) (Or.inl ⟨by rfl,?_⟩) ?_ ?_
       rotate_left
       · intro w'
         go_simp
         with_reducible rfl
       rotate_left
       · simp only [Act.put,List.setIfInBounds_toArray,List.set_cons_zero,List.set_cons_succ,zH,zP]
         rfl
       refine pure_ (i:=4) (N:=some 47) (v:=?_) (a':=?_) #[true,true,true,true,true,false,false,false,false,false,false] rfl rfl (z19 HT_.out zz90) (fun _ _ _ h=>h) (Or.inl ⟨by rfl,?_⟩) ?_ ?_
       rotate_left
       · intro w'
         go_simp
         with_reducible rfl
       rotate_left
       · simp only [Act.put,List.setIfInBounds_toArray,List.set_cons_zero,List.set_cons_succ,zH,zP]
         rfl
       refine pure_ (i:=6) (N:=some 49) (v:=?_) (a':=?_) #[true,true,true,true,true,false,true,false,false,false,false] rfl rfl (z19 HT_.out zz90) (fun _ _ _ h=>h) (Or.inl ⟨by rfl,?_⟩) ?_ ?_
       rotate_left
       · intro w'
         go_simp
         with_reducible rfl
       rotate_left
       · simp only [Act.put,List.setIfInBounds_toArray,List.set_cons_zero,List.set_cons_succ,zH,zP]
         rfl
       refine take_ (i:=5) (N:=some 48) (v:=?_) (a':=?_) #[true,true,true,true,true,true,true,false,false,false,false] rfl rfl (z1I HT_.out HW_.out zz90) (fun _ _ _ h=>h) (Or.inl ⟨by rfl,?_⟩) hHeld ?_ ?_
       rotate_left
       · rintro w' ⟨s0,s1⟩
         go_simp
         with_reducible rfl
       rotate_left
       · simp only [Act.put,List.setIfInBounds_toArray,List.set_cons_zero,List.set_cons_succ,zH,zP]
         rfl
       refine one_ (i:=7) (N:=some 50) #[true,true,true,true,true,true,true,true,false,false,false] rfl rfl (z1N HT_.out zz90) zz91 (fun K hK=>?_)
       refine goes_ Try.func94 zz90 rfl #[.int .i64 x31_2] zz94 rfl rfl zz48 ?_
       with_reducible refine (zY.calls k3 x31_2 t109 t110 _ A24.out).mono ?_
       rintro e w31 ⟨rfl,hb⟩
       have HS0_:=(hb.cell (World.block_lt_of_cell? _ _ (hHeld.1))).trans (hHeld.1)
       have HS1_:=(hb.cell (World.block_lt_of_cell? _ _ (hHeld.2))).trans (hHeld.2)
       refine ⟨_,rfl,?_⟩
       have n0_:=z1.mk (Kd.zq zz73 hb)
       have n1_:=z1.mk (zc (g:=gb106) (o:=.cells #[.int .u64 x107000_3,.int .u64 x107001_3] 30 (0,0)) zz56 hb)
       have n2_:=z1.mk (z3 zz47 hb)
       clear HO_6
       clear BK106
       clear HB
       have HO_6:=n0_
       have BK106:=n1_
       have HB:=n2_
       clear n0_ n1_ n2_
       (try clear hb)
       (try clear hb2)
       (try clear hk)
       (try clear hi)
       refine hK.out _ _ ⟨HS0_,HS1_⟩ (fun hHeld=>?_)
       clear hK K
       refine norm_ (a':=?_) ?_ ?_
       rotate_left
       · show Act.put _ (some 50) _ = _
         simp only [Act.put,List.setIfInBounds_toArray,List.set_cons_zero,List.set_cons_succ,zH,zP]
         rfl
       refine one_ (i:=8) (N:=some 51) #[true,true,true,true,true,true,true,true,true,false,false] rfl rfl (z1N HT_.out zz90) zz91 (fun K hK=>?_)
       refine goes_ Try.func64 zz90 rfl #[.agg #[.int .u64 ((rd_T30 x6_3 x37_3).f0),.int .u64 ((rd_T30 x6_3 x37_3).f1)],.agg #[.int .u64 t109,.int .u64 t110]] zz94 rfl rfl zz48 ?_
       with_reducible refine (z1t.calls ((rd_T30 x6_3 x37_3).f0) ((rd_T30 x6_3 x37_3).f1) t109 t110 t111 t112 _ A25.out).mono ?_
       rintro e w32 ⟨rfl,hb⟩
       have HS0_:=(hb.cell (World.block_lt_of_cell? _ _ (hHeld.1))).trans (hHeld.1)
       have HS1_:=(hb.cell (World.block_lt_of_cell? _ _ (hHeld.2))).trans (hHeld.2)
       refine ⟨_,rfl,?_⟩
       have n0_:=z1.mk (Kd.zq zz73 hb)
       have n1_:=z1.mk (zc (g:=gb106) (o:=.cells #[.int .u64 x107000_3,.int .u64 x107001_3] 30 (0,0)) zz56 hb)
       have n2_:=z1.mk (z3 zz47 hb)
       clear HO_6
       clear BK106
       clear HB
       have HO_6:=n0_
       have BK106:=n1_
       have HB:=n2_
       clear n0_ n1_ n2_
       (try clear hb)
       (try clear hb2)
       (try clear hk)
       (try clear hi)
       have p26 : 0 ≤ (x37_3 : Int):=of_decide_eq_true zz85
       have q26 : (x37_3 : Int) < ((x6_3.length : Int) : Int):=of_decide_eq_true zz85
       obtain ⟨go26,co26,eo26,gb26,gl26,cl26,HG26⟩:=Kd.z43 HO_6.out zz92
       (first|cases eo26|(injection eo26 with ea_ en_ ec_;(first|subst ea_|(injection ea_ with ea_;subst ea_));subst ec_;clear en_))
       have GB26:=z1.mk gb26
       have GG26:=z1.mk HG26
       clear gb26 gl26 HG26
       (first|simp only [z27] at hx108_0|skip)
       (first|simp only [z27] at hx108_1|skip)
       obtain ⟨ce26,hcl26,hM26,hcc26,hfr26⟩:=Kd.z2x HO_6.out z30 (x37_3 : Int) p26 q26
       obtain rfl:=z1V hM26
       have hx26_0 : World.cell? _ ⟨go26,(x37_3 : Int).toNat * 2,none⟩ = some (.int .u64 ((rd_T30 x6_3 x37_3).f0)):=hcc26 0 _ rfl
       have hx26_1 : World.cell? _ ⟨go26,(x37_3 : Int).toNat * 2 + 1,none⟩ = some (.int .u64 ((rd_T30 x6_3 x37_3).f1)):=hcc26 1 _ rfl
       have hf26_0 : World.frozen? _ ⟨go26,(x37_3 : Int).toNat * 2,none⟩ = false:=hfr26 0
       have hf26_1 : World.frozen? _ ⟨go26,(x37_3 : Int).toNat * 2 + 1,none⟩ = false:=hfr26 1
       clear hcl26 hcc26 hfr26 hM26
       replace p26:=eq_true p26
       replace q26:=eq_true q26
       obtain ⟨ce33,hcl33,hM33,hcc33,hfr33⟩:=Kd.z2x HO_6.out z30 (x37_3 : Int) (of_decide_eq_true zz85) (by have h_ : (x37_3 : Int) < ((x6_3.length : Int) : Int):=of_decide_eq_true zz85;first|exact h_|(have e_:=(Kd.zs HO_6.out).1;omega)|simpa using h_)
       obtain rfl:=z1V hM33
       have HP33:=(Kd.z5A HO_6.out (x37_3 : Int) (of_decide_eq_true zz85) (by have h_ : (x37_3 : Int) < ((x6_3.length : Int) : Int):=of_decide_eq_true zz85;first|exact h_|(have e_:=(Kd.zs HO_6.out).1;omega)|simpa using h_) (seg:=[.int .u64 t111,.int .u64 t112]) (j:=0) hcl33 hcc33 (show 2 ≤ 2 from by decide) (x':=(⟨t111,t112⟩ : S30)) (z1J _ _ _ (⟨t111,t112⟩ : S30) ) (fun _ hk=>hk)).1
       rw [← Ny113.out] at HP33
       have HQ33:=z1.mk HP33
       clear hcl33 hcc33 hfr33 hM33 HP33
       refine hK.out _ _ ⟨HS0_,HS1_⟩ (fun hHeld=>?_)
       clear hK K
       refine norm_ (a':=?_) ?_ ?_
       rotate_left
       · show Act.put _ (some 51) _ = _
         simp only [Act.put,List.setIfInBounds_toArray,List.set_cons_zero,List.set_cons_succ,zH,zP]
         rfl
       refine pure_ (i:=9) (N:=some 52) (v:=?_) (a':=?_) #[true,true,true,true,true,true,true,true,true,true,false] rfl rfl (z19 HT_.out zz90) (fun _ _ _ h=>h) (Or.inl ⟨by rfl,?_⟩) ?_ ?_
       rotate_left
       · intro w'
         go_simp
         with_reducible rfl
       rotate_left
       · simp only [Act.put,List.setIfInBounds_toArray,List.set_cons_zero,List.set_cons_succ,zH,zP]
         rfl
       refine last_ (i:=10) (N:=none) #[true,true,true,true,true,true,true,true,true,true,true] rfl rfl (z1N HT_.out zz90) zz91 (fun K hK=>?_)
       refine skip_ (w1:=?_) zz94 rfl ?_ ?_
       rotate_left
       · go_simp
         rfl
       refine hK.out _ _ ?_
       clear hK K
       refine done_ (z2i HT_.out zz90) ?_
       try go_wp2
       go_roundg k3
       case measure=>have:=HJ2.out;have:=HK2.out;have:=HK3.out;omega
       case rel=>exact ⟨(y113),(wrap64 (x37_3 + 1)),(x107000_3),(x107001_3),zz86,H',⟨by have:=HJ2.out;have:=HK2.out;have:=HK3.out;omega⟩,⟨by (with_reducible repeat (first|apply Kd.zI|apply Kd.zJ|apply Kd.zT));exact HQ33.out⟩,⟨by (with_reducible repeat (first|refine z5 ?_ _|refine z8 ?_|refine z4 ?_ _));refine zZ ?_ zz83 _;(with_reducible repeat (first|refine z5 ?_ _|refine z8 ?_|refine z4 ?_ _));refine zZ ?_ zz83 _;(with_reducible repeat (first|refine z5 ?_ _|refine z8 ?_|refine z4 ?_ _));exact BK106.out⟩,⟨by repeat (first|(with_reducible first|exact HB.out|apply zd|apply z2|apply z9|refine za ?_ GB26.out|refine za ?_ GB26.out|refine za ?_ GE106.out)|exact HB.out)⟩⟩
end Go.Proofs.Ytkhmpaooinpfoaa.P
namespace Go.Proofs.Ytkhmpaooinpfoaa.P
open Go.RowKit Go.Proofs.YtkhmpaooinpfoaaW.PrintWords Go.Proofs.YtkhmpaooinpfoaaW.PrintLast Go.Proofs.YtkhmpaooinpfoaaW.PrintMore
attribute [local go_sem] z12 z14 z1i z1j zU zV z13 z15   -- for this text's walks alone
set_option linter.unusedVariables false
set_option linter.unusedSimpArgs false
def z1C.f (k : Nat) (a0 : Int) (l1 : List (S30)) (l2 : List (S30)) : Option (Int × Int × Int):=(z1o.f k a0 l1 l2).bind fun t102=>(if t102 = 0 then (if 0 ≤ a0 then ((zC.f k l1 (shl .i64 1 a0)).bind fun bt103=>((zj.f k a0 l2).bind fun t107=>((zN.f k a0 t107 bt103.1).bind fun bt110=>(some (bt110.1,bt110.2,0))))) else (none)) else (some (0,0,t102)))
theorem z1C.mono : ∀ a0 a1 a2 k,LeO (z1C.f k a0 a1 a2) (z1C.f (k + 1) a0 a1 a2):=by
 intro a0 a1 a2 k
 unfold z1C.f
 repeat' first
  | (with_reducible exact zj.mono _ _ _)
  | (with_reducible exact z1o.mono _ _ _ _)
  | (with_reducible exact zC.mono _ _ _)
  | (with_reducible exact zN.mono _ _ _ _)
  | (with_reducible exact LeO.refl _)
  | (with_reducible exact LeO.none _)
  | (with_reducible refine LeO.ite ?_ ?_)
  | (with_reducible refine LeO.bind ?_ (fun _=>?_))
  | exact zj.mono _ _ _
  | exact z1o.mono _ _ _ _
  | exact zC.mono _ _ _
  | exact zN.mono _ _ _ _
  | exact LeO.none _
  | refine LeO.ite ?_ ?_
  | refine LeO.bind ?_ (fun _=>?_)
set_option maxHeartbeats 8000000 in
set_option maxRecDepth 100000 in
theorem z1C.calls (k : Nat) (a0 : Int) (A1 : Option Addr) (c1 : Nat) (l1 : List (S30)) (A2 : Option Addr) (c2 : Nat) (l2 : List (S30)) (r1 : Int) (r2 : Int) (r3 : Int) (w : World) (hr1 : Kd.C k30 w A1 l1.length l1) (hc1 : l1.length ≤ c1) (hr2 : Kd.C k30 w A2 l2.length l2) (hc2 : l2.length ≤ c2) (h : z1C.f k a0 l1 l2 = some (r1,r2,r3)) :
 Calls Try.prog 54 #[.int .i64 a0,.slice A1 l1.length c1,.slice A2 l2.length c2] w fun e w'=>e = .returned (.tuple #[.agg #[.int .u64 r1,.int .u64 r2],.int .i64 r3]) ∧ Below w.heap.size w w':=by
 have hu30:=Try.underlying30
 have HR1:=z1.mk hr1
 have HC1:=z1.mk hc1
 clear hr1 hc1
 have HR2:=z1.mk hr2
 have HC2:=z1.mk hc2
 clear hr2 hc2
 have HB:=z1.mk (Below.refl w.heap.size w)
 have H : ((z1o.f k a0 l1 l2).bind fun t102=>(if t102 = 0 then (if 0 ≤ a0 then ((zC.f k l1 (shl .i64 1 a0)).bind fun bt103=>((zj.f k a0 l2).bind fun t107=>((zN.f k a0 t107 bt103.1).bind fun bt110=>(some (bt110.1,bt110.2,0))))) else (none)) else (some (0,0,t102)))) = some (r1,r2,r3):=h
 clear h
 replace H:=Option.bind_eq_some_iff.mp H
 obtain ⟨t102,A40,H⟩:=H
 replace H : (if t102 = 0 then (if 0 ≤ a0 then ((zC.f k l1 (shl .i64 1 a0)).bind fun bt103=>((zj.f k a0 l2).bind fun t107=>((zN.f k a0 t107 bt103.1).bind fun bt110=>(some (bt110.1,bt110.2,0))))) else (none)) else (some (0,0,t102))) = some (r1,r2,r3):=H
 have A4:=z1.mk A40
 clear A40
 by_cases c5 : t102 = 0
 rotate_left
 · rw [if_neg c5] at H
   have c5b0 : (t102 == 0) = false:=beq_eq_false_iff_ne.mpr c5
   have c5b1 : (t102 != 0) = true:=bne_iff_ne.mpr c5
   simp only [Option.some.injEq,Prod.mk.injEq] at H
   obtain ⟨rfl,rfl,rfl⟩:=H
   go_enter Try.func54,Try.ntmps54
   go_wp2_with (first|((with_reducible refine zp (N:=6) rfl ?_);refine zt ?hg (N:=6) ?hd (cs:=#[.int .u64 0,.int .u64 0]) (t:=30) ?hr ?_;(case hd=>rfl);(case hg=>rfl);(case hr=>first|(go_simp;done)|(go_simp;rfl));intro gb101 hg w19 hbox hb;have n0_:=z1.mk (z3 zz49 hb);have n1_:=z1.mk (hbox);have n2_:=z1.mk ((by rw [hg];exact (zb zz49) : w.heap.size ≤ gb101));have n3_:=z1.mk ((by rw [hg];exact (zb zz49) : w.heap.size ≤ gb101));clear HB;have HB:=n0_;have BK101:=n1_;have GW101:=n2_;have GE101:=n3_;clear n0_ n1_ n2_ n3_;clear hb hbox hg)|((with_reducible refine zi (f:=103) rfl ?_);refine goesL_ (some 14) rfl rfl Try.func103 zz90 rfl #[.int .i64 a0,.slice A1 l1.length c1,.slice A2 l2.length c2] rfl zz48 ?_;(with_reducible refine (z1o.calls k a0 _ _ l1 _ _ l2 t102 _ ?side1 ?side2 ?side3 ?side4 A4.out).mono ?_);(case side1=>repeat (first|exact (Kd.z1r HR1.out HB.out)|(with_reducible refine Kd.zQ ?_ _)|(with_reducible refine Kd.zR ?_ _)|(with_reducible refine Kd.z1d ?_)));(case side2=>exact HC1.out);(case side3=>repeat (first|exact (Kd.z1r HR2.out HB.out)|(with_reducible refine Kd.zQ ?_ _)|(with_reducible refine Kd.zR ?_ _)|(with_reducible refine Kd.z1d ?_)));(case side4=>exact HC2.out);rintro e w20 ⟨rfl,hb⟩;refine ⟨_,rfl,?_⟩;have n0_:=z1.mk (zc (g:=gb101) (o:=.cells #[.int .u64 0,.int .u64 0] 30 (0,0)) zz50 hb);have n1_:=z1.mk (z3 zz43 hb);clear BK101;clear HB;have BK101:=n0_;have HB:=n1_;clear n0_ n1_;(try clear hb);(try clear hb2);(try clear hk);(try clear hi);have hcz21_0 : w20.cell? ⟨gb101,0,none⟩ = some (.int .u64 0):=(z7 BK101.out 0).trans rfl;have hcz21_1 : w20.cell? ⟨gb101,1,none⟩ = some (.int .u64 0):=(z7 BK101.out 1).trans rfl;have hfz21_0:=z6 BK101.out 0;have hfz21_1:=z6 BK101.out 1))
   refine bodyPost_ret (z2p rfl _ _ gb101 30 #[.int .u64 0,.int .u64 0] (0,0) _ rfl zz9 Try.underlying30 rfl zz90) rfl ?_
   exact ⟨by first|rfl|(simp [zg,zh] <;> rfl)|(simp [*,zg,zh] <;> rfl),by repeat (first|(with_reducible first|exact HB.out|apply zd|apply z2|apply z9|refine za ?_ GE101.out)|exact HB.out)⟩
 rw [if_pos c5] at H
 have c5b0 : (t102 == 0) = true:=beq_iff_eq.mpr c5
 have c5b1 : (t102 != 0) = false:=bne_eq_false_iff_eq.mpr c5
 clear c5
 by_cases c6 : 0 ≤ a0
 rotate_left
 · rw [if_neg c6] at H
   exact absurd H zz93
 rw [if_pos c6] at H
 have c6b0:=eq_true c6
 have c6b1 : decide (0 ≤ a0) = true:=decide_eq_true c6
 clear c6
 obtain ⟨ji7,hji7⟩ : ∃ j_ : Int,(shl .i64 1 a0) = j_:=⟨_,rfl⟩
 replace H : ((zC.f k l1 (ji7)).bind fun bt103=>((zj.f k a0 l2).bind fun t107=>((zN.f k a0 t107 bt103.1).bind fun bt110=>(some (bt110.1,bt110.2,0))))) = some (r1,r2,r3):=by first|(rw [hji7] at H;exact H)|(simp only [hji7] at H ⊢;exact H)
 (try rw [hji7] at A4)
 have hji7_ : (IntKind.i64.wrap (1 * 2 ^ min a0.toNat 64)) = ji7:=hji7
 have hji7z : a0 ≤ 64 → (IntKind.i64.wrap (1 * 2 ^ a0.toNat)) = ji7:=z1K hji7
 have hji7u : (IntKind.i64.wrap (2 ^ min a0.toNat 64)) = ji7:=by have h_:=hji7_;rw [Int.one_mul] at h_;exact h_
 have hji7v : a0 ≤ 64 → (IntKind.i64.wrap (2 ^ a0.toNat)) = ji7:=fun hle_=>by have h_:=hji7z hle_;rw [Int.one_mul] at h_;exact h_
 have hji7y : (wrap64 (1 * 2 ^ min a0.toNat 64)) = ji7:=(zH _).symm.trans hji7_
 have hji7x : a0 ≤ 64 → (wrap64 (1 * 2 ^ a0.toNat)) = ji7:=fun h_=>(zH _).symm.trans (hji7z h_)
 replace H:=Option.bind_eq_some_iff.mp H
 obtain ⟨⟨t103,t104⟩,A80,H⟩:=H
 replace H : ((zj.f k a0 l2).bind fun t107=>((zN.f k a0 t107 t103).bind fun bt110=>(some (bt110.1,bt110.2,0)))) = some (r1,r2,r3):=H
 have A8:=z1.mk A80
 clear A80
 replace H:=Option.bind_eq_some_iff.mp H
 obtain ⟨t107,A90,H⟩:=H
 replace H : ((zN.f k a0 t107 t103).bind fun bt110=>(some (bt110.1,bt110.2,0))) = some (r1,r2,r3):=H
 have A9:=z1.mk A90
 clear A90
 replace H:=Option.bind_eq_some_iff.mp H
 obtain ⟨⟨t110,t111⟩,A100,H⟩:=H
 replace H : (some (t110,t111,0)) = some (r1,r2,r3):=H
 have A10:=z1.mk A100
 clear A100
 simp only [Option.some.injEq,Prod.mk.injEq] at H
 obtain ⟨rfl,rfl,rfl⟩:=H
 go_enter Try.func54,Try.ntmps54
 go_wp2_with (first|((with_reducible refine zp (N:=6) rfl ?_);refine zt ?hg (N:=6) ?hd (cs:=#[.int .u64 0,.int .u64 0]) (t:=30) ?hr ?_;(case hd=>rfl);(case hg=>rfl);(case hr=>first|(go_simp;done)|(go_simp;rfl));intro gb101 hg w11 hbox hb;have n0_:=z1.mk (z3 zz49 hb);have n1_:=z1.mk (hbox);have n2_:=z1.mk ((by rw [hg];exact (zb zz49) : w.heap.size ≤ gb101));have n3_:=z1.mk ((by rw [hg];exact (zb zz49) : w.heap.size ≤ gb101));clear HB;have HB:=n0_;have BK101:=n1_;have GW101:=n2_;have GE101:=n3_;clear n0_ n1_ n2_ n3_;clear hb hbox hg)|((with_reducible refine zi (f:=103) rfl ?_);refine goesL_ (some 14) rfl rfl Try.func103 zz90 rfl #[.int .i64 a0,.slice A1 l1.length c1,.slice A2 l2.length c2] rfl zz48 ?_;(with_reducible refine (z1o.calls k a0 _ _ l1 _ _ l2 t102 _ ?side1 ?side2 ?side3 ?side4 A4.out).mono ?_);(case side1=>repeat (first|exact (Kd.z1r HR1.out HB.out)|(with_reducible refine Kd.zQ ?_ _)|(with_reducible refine Kd.zR ?_ _)|(with_reducible refine Kd.z1d ?_)));(case side2=>exact HC1.out);(case side3=>repeat (first|exact (Kd.z1r HR2.out HB.out)|(with_reducible refine Kd.zQ ?_ _)|(with_reducible refine Kd.zR ?_ _)|(with_reducible refine Kd.z1d ?_)));(case side4=>exact HC2.out);rintro e w12 ⟨rfl,hb⟩;refine ⟨_,rfl,?_⟩;have n0_:=z1.mk (zc (g:=gb101) (o:=.cells #[.int .u64 0,.int .u64 0] 30 (0,0)) zz50 hb);have n1_:=z1.mk (z3 zz43 hb);clear BK101;clear HB;have BK101:=n0_;have HB:=n1_;clear n0_ n1_;(try clear hb);(try clear hb2);(try clear hk);(try clear hi))|((with_reducible refine zi (f:=95) rfl ?_);refine goesL_ (some 23) rfl rfl Try.func95 zz90 rfl #[.slice A1 l1.length c1,.int .i64 ji7] rfl zz42 ?_;(with_reducible refine (zC.calls k _ _ l1 ji7 t103 t104 _ ?side1 ?side2 A8.out).mono ?_);(case side1=>repeat (first|exact (Kd.z1r HR1.out HB.out)|(with_reducible refine Kd.zQ ?_ _)|(with_reducible refine Kd.zR ?_ _)|(with_reducible refine Kd.z1d ?_)));(case side2=>exact HC1.out);rintro e w13 ⟨v105,rfl,ho0,hb⟩;refine ⟨_,rfl,?_⟩;have n0_:=z1.mk (Kd.z1h (Kd.z2d ho0 (g:=gb101) (o:=.cells #[.int .u64 0,.int .u64 0] 30 (0,0)) zz50) (zb zz43));have n1_:=z1.mk (zc (g:=gb101) (o:=.cells #[.int .u64 0,.int .u64 0] 30 (0,0)) zz50 hb);have n2_:=z1.mk (z3 zz43 hb);clear BK101;clear HB;have HO106:=n0_;have BK101:=n1_;have HB:=n2_;clear n0_ n1_ n2_;(try clear hb);(try clear hb2);(try clear hk);(try clear hi);(try clear ho0))|((with_reducible refine zi (f:=65) rfl ?_);refine goesL_ (some 29) rfl rfl Try.func65 zz90 rfl #[.int .i64 a0,.slice A2 l2.length c2] rfl zz48 ?_;(with_reducible refine (zj.calls k a0 _ _ l2 t107 _ ?side1 ?side2 A9.out).mono ?_);(case side1=>repeat (first|exact (Kd.z1r HR2.out HB.out)|(with_reducible refine Kd.zQ ?_ _)|(with_reducible refine Kd.zR ?_ _)|(with_reducible refine Kd.z1d ?_)));(case side2=>exact HC2.out);rintro e w14 ⟨v108,rfl,ho0,hb⟩;refine ⟨_,rfl,?_⟩;have n0_:=z1.mk (Kd.z1e zz60 (Kd.z1z ho0) hb);have n1_:=z1.mk (Kd.z1h (Kd.z2d (Kd.z1A ho0 (Kd.R_lt zz60)) (g:=gb101) (o:=.cells #[.int .u64 0,.int .u64 0] 30 (0,0)) zz50) (zb zz43));have n2_:=z1.mk (zc (g:=gb101) (o:=.cells #[.int .u64 0,.int .u64 0] 30 (0,0)) zz50 hb);have n3_:=z1.mk (z3 zz43 hb);clear HO106;clear BK101;clear HB;have HO106:=n0_;have HO109:=n1_;have BK101:=n2_;have HB:=n3_;clear n0_ n1_ n2_ n3_;(try clear hb);(try clear hb2);(try clear hk);(try clear hi);(try clear ho0);obtain ⟨Ao15,co15,eo15⟩:=Kd.z1q HO109.out;subst eo15;obtain ⟨Ao16,co16,eo16⟩:=Kd.z1q HO106.out;subst eo16)|((with_reducible refine zi (f:=37) rfl ?_);refine goesL_ (some 31) rfl rfl Try.func37 zz90 rfl #[.int .i64 a0,.slice Ao15 t107.length co15,.slice Ao16 t103.length co16] rfl zz48 ?_;(with_reducible refine (zN.calls k a0 _ _ t107 _ _ t103 t110 t111 _ ?side1 ?side2 ?side3 ?side4 A10.out).mono ?_);(case side1=>repeat (first|exact (Kd.zs HO109.out).2.2|(with_reducible refine Kd.zQ ?_ _)|(with_reducible refine Kd.zR ?_ _)|(with_reducible refine Kd.z1d ?_)));(case side2=>exact (Kd.zs HO109.out).2.1);(case side3=>repeat (first|exact (Kd.zs HO106.out).2.2|(with_reducible refine Kd.zQ ?_ _)|(with_reducible refine Kd.zR ?_ _)|(with_reducible refine Kd.z1d ?_)));(case side4=>exact (Kd.zs HO106.out).2.1);rintro e w17 ⟨rfl,hb⟩;refine ⟨_,rfl,?_⟩;have n0_:=z1.mk (Kd.zq zz60 hb);have n1_:=z1.mk (Kd.zq (by (with_reducible repeat (first|apply Kd.zI|apply Kd.zJ|apply Kd.zT));exact HO109.out) hb);have n2_:=z1.mk (zc (g:=gb101) (o:=.cells #[.int .u64 0,.int .u64 0] 30 (0,0)) zz50 hb);have n3_:=z1.mk (z3 zz43 hb);clear HO106;clear HO109;clear BK101;clear HB;have HO106:=n0_;have HO109:=n1_;have BK101:=n2_;have HB:=n3_;clear n0_ n1_ n2_ n3_;(try clear hb);(try clear hb2);(try clear hk);(try clear hi);have hcz18_0 : w17.cell? ⟨gb101,0,none⟩ = some (.int .u64 0):=(z7 BK101.out 0).trans rfl;have hcz18_1 : w17.cell? ⟨gb101,1,none⟩ = some (.int .u64 0):=(z7 BK101.out 1).trans rfl;have hfz18_0:=z6 BK101.out 0;have hfz18_1:=z6 BK101.out 1))
 refine bodyPost_ret (z2p rfl _ _ gb101 30 #[.int .u64 t110,.int .u64 t111] (0,0) _ rfl (by (with_reducible repeat (first|refine z5 ?_ _|refine z8 ?_|refine z4 ?_ _));refine zX (cs:=#[.int .u64 t110,.int .u64 0]) ?_ 1 _ rfl;(with_reducible repeat (first|refine z5 ?_ _|refine z8 ?_|refine z4 ?_ _));refine zX (cs:=#[.int .u64 0,.int .u64 0]) ?_ 0 _ rfl;(with_reducible repeat (first|refine z5 ?_ _|refine z8 ?_|refine z4 ?_ _));exact BK101.out) Try.underlying30 rfl zz90) rfl ?_
 exact ⟨by first|rfl|(simp [zg,zh] <;> rfl)|(simp only [← hji7];first|rfl|(simp [zg,zh] <;> rfl))|(simp [*,zg,zh] <;> rfl),by repeat (first|(with_reducible first|exact HB.out|apply zd|apply z2|apply z9|refine za ?_ GE101.out)|exact HB.out)⟩
end Go.Proofs.Ytkhmpaooinpfoaa.P
namespace Go.Proofs.Ytkhmpaooinpfoaa.P
open Go.RowKit Go.Proofs.YtkhmpaooinpfoaaW.PrintWords Go.Proofs.YtkhmpaooinpfoaaW.PrintLast Go.Proofs.YtkhmpaooinpfoaaW.PrintMore
attribute [local go_sem] z12 z14 z1i z1j zU zV z13 z15   -- for this text's walks alone
set_option linter.unusedVariables false
set_option linter.unusedSimpArgs false
def zz.l0 : Nat → Int → Int → Int → Option (Int)
 | 0,_,_,_=>none
 | k + 1,x0,x3,x4=>if x4 < x0 then (zz.l0 k x0 (wrap64 (2 * x3)) (wrap64 (x4 + 1))) else (some x3)
def zz.f (k : Nat) (a0 : Int) : Option (Int):=zz.l0 k a0 1 0
theorem zz.z17 : ∀ k,(∀ y0 y1 y2,LeO (zz.l0 k y0 y1 y2) (zz.l0 (k + 1) y0 y1 y2))
 | 0=>fun _ _ _ r h=>by simp [zz.l0] at h
 | k + 1=>by
  have ih0:=zz.z17 k
  · intro y0 y1 y2
    unfold zz.l0
    repeat' first
    | (with_reducible exact ih0 _ _ _)
    | (with_reducible exact LeO.refl _)
    | (with_reducible exact LeO.none _)
    | (with_reducible refine LeO.ite ?_ ?_)
    | (with_reducible refine LeO.bind ?_ (fun _=>?_))
    | exact ih0 _ _ _
    | exact LeO.none _
    | refine LeO.ite ?_ ?_
    | refine LeO.bind ?_ (fun _=>?_)
theorem zz.mono : ∀ a0 k,LeO (zz.f k a0) (zz.f (k + 1) a0):=by
 intro a0 k
 have ih0:=zz.z17 k
 unfold zz.f
 repeat' first
  | (with_reducible exact ih0 _ _ _)
  | (with_reducible exact LeO.refl _)
  | (with_reducible exact LeO.none _)
  | (with_reducible refine LeO.ite ?_ ?_)
  | (with_reducible refine LeO.bind ?_ (fun _=>?_))
  | exact ih0 _ _ _
  | exact LeO.none _
  | refine LeO.ite ?_ ?_
  | refine LeO.bind ?_ (fun _=>?_)
set_option maxHeartbeats 8000000 in
set_option maxRecDepth 100000 in
theorem zz.calls (k : Nat) (a0 : Int) (r : Int) (w : World) (h : zz.f k a0 = some r) :
 Calls Try.prog 67 #[.int .i64 a0] w fun e w'=>e = .returned (.int .i64 r) ∧ Drawn0 w w':=by
 have H : (zz.l0 k a0 1 0) = some r:=h
 clear h
 have H':=z1.mk H
 clear H
 go_enter Try.func67,Try.ntmps67
 go_wp2
 go_loopg [3,4] k (fun kq v3 v4 w'=>∃ (x3_1 : Int) (x4_1 : Int),v3 = .int .i64 x3_1 ∧ v4 = .int .i64 x4_1 ∧ z1 (zz.l0 kq a0 x3_1 x4_1 = some r) ∧ z1 (kq ≤ k) ∧ Drawn0 w w')
 case atStart=>exact ⟨(1),(0),zz86,zz86,H',⟨Nat.le_refl _⟩,by repeat (first|exact Drawn0.refl _|apply Drawn0.step)⟩
 case round =>
  clear H'
  obtain ⟨x3_1,x4_1,rfl,rfl,HA,HK1,⟨m1,rfl⟩⟩:=hrel
  cases gk with
  | zero=>exact absurd HA.out (by simp [zz.l0])
  | succ k1 =>
   have H:=HA.out
   clear HA
   simp only [zz.l0] at H
   by_cases c2 : x4_1 < a0
   rotate_left
   · rw [if_neg c2] at H
     have c2b0 : decide (x4_1 < a0) = false:=decide_eq_false c2
     clear c2
     obtain rfl:=Option.some.inj H
     go_wp2
     go_ret
     exact ⟨by first|rfl|(simp;done)|(simp [*];done),by repeat (first|exact Drawn0.refl _|apply Drawn0.step)⟩
   rw [if_pos c2] at H
   have c2b0 : decide (x4_1 < a0) = true:=decide_eq_true c2
   clear c2
   have H':=z1.mk H
   clear H
   go_wp2
   go_roundg k1
   case measure=>have:=HK1.out;omega
   case rel=>exact ⟨(wrap64 (2 * x3_1)),(wrap64 (x4_1 + 1)),zz86,zz86,H',⟨by have:=HK1.out;omega⟩,by repeat (first|exact Drawn0.refl _|apply Drawn0.step)⟩
end Go.Proofs.Ytkhmpaooinpfoaa.P
namespace Go.Proofs.Ytkhmpaooinpfoaa.P
open Go.RowKit Go.Proofs.YtkhmpaooinpfoaaW.PrintWords Go.Proofs.YtkhmpaooinpfoaaW.PrintLast Go.Proofs.YtkhmpaooinpfoaaW.PrintMore
attribute [local go_sem] z12 z14 z1i z1j zU zV z13 z15   -- for this text's walks alone
set_option linter.unusedVariables false
set_option linter.unusedSimpArgs false
def z1R.f (a0_0 : Int) (a0_1 : Int) (a1 : Int) : Option (Int):=if a1 ≥ 64 then (if 0 ≤ (IntKind.u64.wrap (wrap64 (a1 - 64))) then (some (Go.bits .and .u64 (shr .u64 a0_0 (IntKind.u64.wrap (wrap64 (a1 - 64)))) 1)) else (none)) else (if 0 ≤ (IntKind.u64.wrap (a1)) then (some (Go.bits .and .u64 (shr .u64 a0_1 (IntKind.u64.wrap (a1))) 1)) else (none))
set_option maxHeartbeats 8000000 in
set_option maxRecDepth 100000 in
theorem z1R.calls (a0_0 : Int) (a0_1 : Int) (a1 : Int) (r : Int) (w : World) (h : z1R.f a0_0 a0_1 a1 = some r) :
 Calls Try.prog 122 #[.agg #[.int .u64 a0_0,.int .u64 a0_1],.int .i64 a1] w fun e w'=>e = .returned (.int .u64 r) ∧ Below w.heap.size w w':=by
 have hu40:=Try.underlying40
 have HB:=z1.mk (Below.refl w.heap.size w)
 have H : (if a1 ≥ 64 then (if 0 ≤ (IntKind.u64.wrap (wrap64 (a1 - 64))) then (some (Go.bits .and .u64 (shr .u64 a0_0 (IntKind.u64.wrap (wrap64 (a1 - 64)))) 1)) else (none)) else (if 0 ≤ (IntKind.u64.wrap (a1)) then (some (Go.bits .and .u64 (shr .u64 a0_1 (IntKind.u64.wrap (a1))) 1)) else (none))) = some r:=h
 clear h
 by_cases c3 : a1 ≥ 64
 · rw [if_pos c3] at H
   have c3b0 : decide (64 ≤ a1) = true:=decide_eq_true c3
   clear c3
   obtain ⟨ji4,hji4⟩ : ∃ j_ : Int,(IntKind.u64.wrap (wrap64 (a1 - 64))) = j_:=⟨_,rfl⟩
   replace H : (if 0 ≤ (ji4) then (some (Go.bits .and .u64 (shr .u64 a0_0 (ji4)) 1)) else (none)) = some r:=by first|(rw [hji4] at H;exact H)|(simp only [hji4] at H ⊢;exact H)
   by_cases c5 : 0 ≤ (ji4)
   rotate_left
   · rw [if_neg c5] at H
     exact absurd H zz93
   rw [if_pos c5] at H
   have c5b0:=eq_true c5
   have c5b1 : decide (0 ≤ (ji4)) = true:=decide_eq_true c5
   clear c5
   obtain ⟨ji6,hji6⟩ : ∃ j_ : Int,(shr .u64 a0_0 (ji4)) = j_:=⟨_,rfl⟩
   replace H : (some (Go.bits .and .u64 (ji6) 1)) = some r:=by first|(rw [hji6] at H;exact H)|(simp only [hji6] at H ⊢;exact H)
   have hji6_ : (a0_0 / 2 ^ min (ji4).toNat 64) = ji6:=hji6
   have hji6z : (ji4) ≤ 64 → (a0_0 / 2 ^ (ji4).toNat) = ji6:=z2K hji6
   obtain rfl:=Option.some.inj H
   go_enter Try.func122,Try.ntmps122
   go_wp2_with (first|((with_reducible refine zp (N:=2) rfl ?_);refine zt ?hg (N:=2) ?hd (cs:=#[.int .u64 a0_0,.int .u64 a0_1]) (t:=40) ?hr ?_;(case hd=>rfl);(case hg=>rfl);(case hr=>first|(go_simp;done)|(go_simp;rfl));intro gb101 hg w7 hbox hb;have n0_:=z1.mk (z3 zz49 hb);have n1_:=z1.mk (hbox);have n2_:=z1.mk ((by rw [hg];exact (zb zz49) : w.heap.size ≤ gb101));have n3_:=z1.mk ((by rw [hg];exact (zb zz49) : w.heap.size ≤ gb101));clear HB;have HB:=n0_;have BK101:=n1_;have GW101:=n2_;have GE101:=n3_;clear n0_ n1_ n2_ n3_;clear hb hbox hg;have hcz8_0 : w7.cell? ⟨gb101,0,none⟩ = some (.int .u64 a0_0):=(z7 BK101.out 0).trans rfl;have hcz8_1 : w7.cell? ⟨gb101,1,none⟩ = some (.int .u64 a0_1):=(z7 BK101.out 1).trans rfl;have hfz8_0:=z6 BK101.out 0;have hfz8_1:=z6 BK101.out 1))
   go_ret
   exact ⟨by first|rfl|(simp [zg,zh] <;> rfl)|(simp only [← hji4,← hji6];first|rfl|(simp [zg,zh] <;> rfl))|(simp [*,zg,zh] <;> rfl),by repeat (first|(with_reducible first|exact HB.out|apply zd|apply z2|apply z9|refine za ?_ GE101.out)|exact HB.out)⟩
 rw [if_neg c3] at H
 have c3b0 : decide (64 ≤ a1) = false:=decide_eq_false c3
 clear c3
 obtain ⟨ji9,hji9⟩ : ∃ j_ : Int,(IntKind.u64.wrap (a1)) = j_:=⟨_,rfl⟩
 replace H : (if 0 ≤ (ji9) then (some (Go.bits .and .u64 (shr .u64 a0_1 (ji9)) 1)) else (none)) = some r:=by first|(rw [hji9] at H;exact H)|(simp only [hji9] at H ⊢;exact H)
 by_cases c10 : 0 ≤ (ji9)
 rotate_left
 · rw [if_neg c10] at H
   exact absurd H zz93
 rw [if_pos c10] at H
 have c10b0:=eq_true c10
 have c10b1 : decide (0 ≤ (ji9)) = true:=decide_eq_true c10
 clear c10
 obtain ⟨ji11,hji11⟩ : ∃ j_ : Int,(shr .u64 a0_1 (ji9)) = j_:=⟨_,rfl⟩
 replace H : (some (Go.bits .and .u64 (ji11) 1)) = some r:=by first|(rw [hji11] at H;exact H)|(simp only [hji11] at H ⊢;exact H)
 have hji11_ : (a0_1 / 2 ^ min (ji9).toNat 64) = ji11:=hji11
 have hji11z : (ji9) ≤ 64 → (a0_1 / 2 ^ (ji9).toNat) = ji11:=z2K hji11
 obtain rfl:=Option.some.inj H
 go_enter Try.func122,Try.ntmps122
 go_wp2_with (first|((with_reducible refine zp (N:=2) rfl ?_);refine zt ?hg (N:=2) ?hd (cs:=#[.int .u64 a0_0,.int .u64 a0_1]) (t:=40) ?hr ?_;(case hd=>rfl);(case hg=>rfl);(case hr=>first|(go_simp;done)|(go_simp;rfl));intro gb101 hg w12 hbox hb;have n0_:=z1.mk (z3 zz49 hb);have n1_:=z1.mk (hbox);have n2_:=z1.mk ((by rw [hg];exact (zb zz49) : w.heap.size ≤ gb101));have n3_:=z1.mk ((by rw [hg];exact (zb zz49) : w.heap.size ≤ gb101));clear HB;have HB:=n0_;have BK101:=n1_;have GW101:=n2_;have GE101:=n3_;clear n0_ n1_ n2_ n3_;clear hb hbox hg;have hcz13_0 : w12.cell? ⟨gb101,0,none⟩ = some (.int .u64 a0_0):=(z7 BK101.out 0).trans rfl;have hcz13_1 : w12.cell? ⟨gb101,1,none⟩ = some (.int .u64 a0_1):=(z7 BK101.out 1).trans rfl;have hfz13_0:=z6 BK101.out 0;have hfz13_1:=z6 BK101.out 1))
 go_ret
 exact ⟨by first|rfl|(simp [zg,zh] <;> rfl)|(simp only [← hji9,← hji11];first|rfl|(simp [zg,zh] <;> rfl))|(simp [*,zg,zh] <;> rfl),by repeat (first|(with_reducible first|exact HB.out|apply zd|apply z2|apply z9|refine za ?_ GE101.out)|exact HB.out)⟩
end Go.Proofs.Ytkhmpaooinpfoaa.P
namespace Go.Proofs.Ytkhmpaooinpfoaa.P
open Go.RowKit Go.Proofs.YtkhmpaooinpfoaaW.PrintWords Go.Proofs.YtkhmpaooinpfoaaW.PrintLast Go.Proofs.YtkhmpaooinpfoaaW.PrintMore
attribute [local go_sem] z12 z14 z1i z1j zU zV z13 z15   -- for this text's walks alone
set_option linter.unusedVariables false
set_option linter.unusedSimpArgs false
mutual
def zu.j0 : Nat → Int → List Int → Bool → Int → Int → Option (Bool)
 | 0,_,_,_,_,_=>none
 | k + 1,x0,x5,x13,x102000,x102001=>if x13 = true then (some false) else (if 0 ≤ x0 then (if x0 < (x5.length : Int) then (zu.l0 k (rd x5 x0) x102000 x102001) else (none)) else (none))
def zu.l0 : Nat → Int → Int → Int → Option (Bool)
 | 0,_,_,_=>none
 | k + 1,x6,x102000,x102001=>if x6 < 128 then ((z1R.f x102000 x102001 x6).bind fun t106=>(if t106 = 1 then (some false) else (zu.l0 k (wrap64 (x6 + 1)) x102000 x102001))) else (some true)
end
def zu.f (k : Nat) (a0 : Int) (a1_0 : Int) (a1_1 : Int) : Option (Bool):=(some (([1,2,4,8,16,32,64,128] : List Int) : List Int)).bind fun y102=>(if a0 < 0 then (zu.j0 k a0 y102 true a1_0 a1_1) else (zu.j0 k a0 y102 (decide (a0 > 7)) a1_0 a1_1))
theorem zu.z17 : ∀ k,(∀ y0 y1 y2 y3 y4,LeO (zu.j0 k y0 y1 y2 y3 y4) (zu.j0 (k + 1) y0 y1 y2 y3 y4)) ∧ (∀ y0 y1 y2,LeO (zu.l0 k y0 y1 y2) (zu.l0 (k + 1) y0 y1 y2))
 | 0=>⟨fun _ _ _ _ _ r h=>by simp [zu.j0] at h,fun _ _ _ r h=>by simp [zu.l0] at h⟩
 | k + 1=>by
  obtain ⟨ih0,ih1⟩:=zu.z17 k
  refine ⟨?_,?_⟩
  · intro y0 y1 y2 y3 y4
    unfold zu.j0
    repeat' first
    | (with_reducible exact ih0 _ _ _ _ _)
    | (with_reducible exact ih1 _ _ _)
    | (with_reducible exact LeO.refl _)
    | (with_reducible exact LeO.none _)
    | (with_reducible refine LeO.ite ?_ ?_)
    | (with_reducible refine LeO.bind ?_ (fun _=>?_))
    | exact ih0 _ _ _ _ _
    | exact ih1 _ _ _
    | exact LeO.none _
    | refine LeO.ite ?_ ?_
    | refine LeO.bind ?_ (fun _=>?_)
  · intro y0 y1 y2
    unfold zu.l0
    repeat' first
    | (with_reducible exact ih0 _ _ _ _ _)
    | (with_reducible exact ih1 _ _ _)
    | (with_reducible exact LeO.refl _)
    | (with_reducible exact LeO.none _)
    | (with_reducible refine LeO.ite ?_ ?_)
    | (with_reducible refine LeO.bind ?_ (fun _=>?_))
    | exact ih0 _ _ _ _ _
    | exact ih1 _ _ _
    | exact LeO.none _
    | refine LeO.ite ?_ ?_
    | refine LeO.bind ?_ (fun _=>?_)
theorem zu.mono : ∀ a0 a1 a2 k,LeO (zu.f k a0 a1 a2) (zu.f (k + 1) a0 a1 a2):=by
 intro a0 a1 a2 k
 obtain ⟨ih0,ih1⟩:=zu.z17 k
 unfold zu.f
 repeat' first
  | (with_reducible exact ih0 _ _ _ _ _)
  | (with_reducible exact ih1 _ _ _)
  | (with_reducible exact LeO.refl _)
  | (with_reducible exact LeO.none _)
  | (with_reducible refine LeO.ite ?_ ?_)
  | (with_reducible refine LeO.bind ?_ (fun _=>?_))
  | exact ih0 _ _ _ _ _
  | exact ih1 _ _ _
  | exact LeO.none _
  | refine LeO.ite ?_ ?_
  | refine LeO.bind ?_ (fun _=>?_)
set_option maxHeartbeats 8000000 in
set_option maxRecDepth 100000 in
theorem zu.calls (k : Nat) (a0 : Int) (a1_0 : Int) (a1_1 : Int) (r : Bool) (w : World) (h : zu.f k a0 a1_0 a1_1 = some r) :
 Calls Try.prog 85 #[.int .i64 a0,.agg #[.int .u64 a1_0,.int .u64 a1_1]] w fun e w'=>e = .returned (.bool r) ∧ Below w.heap.size w w':=by
 have hu40:=Try.underlying40
 have HB:=z1.mk (Below.refl w.heap.size w)
 have H : ((some (([1,2,4,8,16,32,64,128] : List Int) : List Int)).bind fun y102=>(if a0 < 0 then (zu.j0 k a0 y102 true a1_0 a1_1) else (zu.j0 k a0 y102 (decide (a0 > 7)) a1_0 a1_1))) = some r:=h
 clear h
 obtain ⟨y102,hy102⟩ : ∃ y_ : List Int,y_ = (([1,2,4,8,16,32,64,128] : List Int)):=⟨_,rfl⟩
 replace H : (if a0 < 0 then (zu.j0 k a0 y102 true a1_0 a1_1) else (zu.j0 k a0 y102 (decide (a0 > 7)) a1_0 a1_1)) = some r:=by first|(rw [hy102];with_reducible exact H)|(have H2_:=(Option.bind_some _ _).symm.trans H;rw [hy102];with_reducible exact H2_)|(have H2_:=(Option.bind_some _ _).symm.trans H;with_reducible exact H2_)|with_reducible exact H|(rw [hy102];exact H)|exact H
 have Ny102:=z1.mk hy102
 clear hy102
 have HC3:=z1.mk H
 clear H
 go_enter Try.func85,Try.ntmps85
 go_upto_region 2 with (first|((with_reducible refine zp (N:=3) rfl ?_);refine zt ?hg (N:=3) ?hd (cs:=#[.int .u64 a1_0,.int .u64 a1_1]) (t:=40) ?hr ?_;(case hd=>rfl);(case hg=>rfl);(case hr=>first|(go_simp;done)|(go_simp;rfl));intro gb101 hg w4 hbox hb;have n0_:=z1.mk (z3 zz49 hb);have n1_:=z1.mk (hbox);have n2_:=z1.mk ((by rw [hg];exact (zb zz49) : w.heap.size ≤ gb101));have n3_:=z1.mk ((by rw [hg];exact (zb zz49) : w.heap.size ≤ gb101));clear HB;have HB:=n0_;have BK101:=n1_;have GW101:=n2_;have GE101:=n3_;clear n0_ n1_ n2_ n3_;clear hb hbox hg)|((with_reducible refine zp (N:=7) rfl ?_);refine Kd.z2k (Kd.int .i64) _ 3 ?hg (N:=7) ?hd (xs:=([1,2,4,8,16,32,64,128] : List Int)) (inner:=[.int .i64 1,.int .i64 2,.int .i64 4,.int .i64 8,.int .i64 16,.int .i64 32,.int .i64 64,.int .i64 128]) (ok:=fun _=>True) (okp:=fun _=>True) ?hr ?hp (fun _ hk=>hk) trivial (Below.refl _ _) (Nat.le_refl _) zz93 ?_;(case hd=>rfl);(case hg=>rfl);(case hr=>first|(go_simp;done)|(go_simp;rfl));(case hp=>exact (Reps.one (show Kd.M (Kd.int .i64) _ _ _ 1 [.int .i64 1] from rfl) (Reps.one (show Kd.M (Kd.int .i64) _ _ _ 2 [.int .i64 2] from rfl) (Reps.one (show Kd.M (Kd.int .i64) _ _ _ 4 [.int .i64 4] from rfl) (Reps.one (show Kd.M (Kd.int .i64) _ _ _ 8 [.int .i64 8] from rfl) (Reps.one (show Kd.M (Kd.int .i64) _ _ _ 16 [.int .i64 16] from rfl) (Reps.one (show Kd.M (Kd.int .i64) _ _ _ 32 [.int .i64 32] from rfl) (Reps.one (show Kd.M (Kd.int .i64) _ _ _ 64 [.int .i64 64] from rfl) (Reps.one (show Kd.M (Kd.int .i64) _ _ _ 128 [.int .i64 128] from rfl) (Reps.none _ _))))))))));intro v103 w5 ho6 hb hg_ hnew_;clear hg_ hnew_;(first|rw [← Ny102.out] at ho6|(simp only [Int.reduceToNat] at ho6;rw [← Ny102.out] at ho6));have n0_:=z1.mk (Kd.z1h ho6 (zb zz43));have n1_:=z1.mk (zc (g:=gb101) (o:=.cells #[.int .u64 a1_0,.int .u64 a1_1] 40 (0,0)) zz50 hb);have n2_:=z1.mk (z3 zz43 hb);clear BK101;clear HB;have HO104:=n0_;have BK101:=n1_;have HB:=n2_;clear n0_ n1_ n2_;clear hb ho6))
 (try simp only [Act.put,List.setIfInBounds_toArray,List.set_cons_zero,List.set_cons_succ])
 go_cut [13] (fun v13 wc=>∃ (kq : Nat) (x13_2 : Bool),v13 = .bool x13_2 ∧ z1 (zu.j0 kq a0 y102 x13_2 a1_0 a1_1 = some r) ∧ z1 (kq ≤ k) ∧ z1 (Kd.R (Kd.int .i64) 3 wc w.heap.size (fun _=>True) v103 y102) ∧ z1 (wc.heap[gb101]? = some (.cells #[.int .u64 a1_0,.int .u64 a1_1] 40 (0,0))) ∧ z1 (Below w.heap.size w wc))
 case first =>
  have H:=HC3.out
  clear HC3
  by_cases c7 : a0 < 0
  rotate_left
  · rw [if_neg c7] at H
    have c7b0 : decide (a0 < 0) = false:=decide_eq_false c7
    clear c7
    (first|rw [c7b0]|(simp only [zH,zP];rw [c7b0])|skip)
    have H':=z1.mk H
    clear H
    go_wp2
    go_meet
    case rel=>exact ⟨_,(decide (a0 > 7)),zz86,H',⟨by first|omega|exact Nat.le_refl _⟩,⟨by (with_reducible repeat (first|apply Kd.zI|apply Kd.zJ|apply Kd.zT));exact HO104.out⟩,⟨by (with_reducible repeat (first|refine z5 ?_ _|refine z8 ?_|refine z4 ?_ _));exact BK101.out⟩,⟨by repeat (first|(with_reducible first|exact HB.out|apply zd|apply z2|apply z9|refine za ?_ GE101.out)|exact HB.out)⟩⟩
  rw [if_pos c7] at H
  have c7b0 : decide (a0 < 0) = true:=decide_eq_true c7
  clear c7
  (first|rw [c7b0]|(simp only [zH,zP];rw [c7b0])|skip)
  have H':=z1.mk H
  clear H
  go_wp2
  go_meet
  case rel=>exact ⟨_,(true),zz86,H',⟨by first|omega|exact Nat.le_refl _⟩,⟨by (with_reducible repeat (first|apply Kd.zI|apply Kd.zJ|apply Kd.zT));exact HO104.out⟩,⟨by (with_reducible repeat (first|refine z5 ?_ _|refine z8 ?_|refine z4 ?_ _));exact BK101.out⟩,⟨by repeat (first|(with_reducible first|exact HB.out|apply zd|apply z2|apply z9|refine za ?_ GE101.out)|exact HB.out)⟩⟩
 case rest =>
  clear HC3
  (try clear p2);(try clear c7);(try clear c7b0)
  obtain ⟨kq,x13_2,rfl,HA,HJ2,HO_5,BK101,HB⟩:=hcut
  cases kq with
  | zero=>exact absurd HA.out (by simp [zu.j0])
  | succ kj2 =>
   have H:=HA.out
   clear HA
   simp only [zu.j0] at H
   by_cases c8 : x13_2 = true
   · subst c8
     have H1 : (some false) = some r:=by rw [if_pos rfl] at H;exact H
     clear H
     have H:=H1
     clear H1
     obtain rfl:=Option.some.inj H
     go_wp2
     go_ret
     exact ⟨by first|rfl|(simp [zg,zh] <;> rfl)|(simp [*,zg,zh] <;> rfl),by repeat (first|(with_reducible first|exact HB.out|apply zd|apply z2|apply z9|refine za ?_ GE101.out)|exact HB.out)⟩
   replace c8:=Bool.eq_false_iff.mpr c8
   subst c8
   have H1 : (if 0 ≤ a0 then (if a0 < (y102.length : Int) then (zu.l0 kj2 (rd y102 a0) a1_0 a1_1) else (none)) else (none)) = some r:=by rw [if_neg (show ¬ (false = true) by decide)] at H;exact H
   clear H
   have H:=H1
   clear H1
   by_cases c9 : 0 ≤ a0
   rotate_left
   · rw [if_neg c9] at H
     exact absurd H zz93
   rw [if_pos c9] at H
   have c9b0 : decide (0 ≤ a0) = true:=decide_eq_true c9
   clear c9
   by_cases c10 : a0 < (y102.length : Int)
   rotate_left
   · rw [if_neg c10] at H
     exact absurd H zz93
   rw [if_pos c10] at H
   have c10b0 : decide (a0 < (y102.length : Int)) = true:=decide_eq_true c10
   clear c10
   have H':=z1.mk H
   clear H
   obtain ⟨Ao11,co11,eo11⟩:=Kd.z1q HO_5.out
   subst eo11
   have p105 : 0 ≤ (a0 : Int):=of_decide_eq_true zz85
   have q105 : a0 < (y102.length : Int):=of_decide_eq_true zz85
   obtain ⟨ad105,e105,hx105_0⟩:=Kd.at_int (Kd.zs HO_5.out).2.2 a0 p105 q105
   cases e105
   replace p105:=eq_true p105
   replace q105:=eq_true q105
   go_wp2
   go_loopg [6] kj2 (fun kq v6 w'=>∃ (x6_2 : Int),v6 = .int .i64 x6_2 ∧ z1 (zu.l0 kq x6_2 a1_0 a1_1 = some r) ∧ z1 (kq ≤ kj2) ∧ z1 (w'.heap[gb101]? = some (.cells #[.int .u64 a1_0,.int .u64 a1_1] 40 (0,0))) ∧ z1 (Below w.heap.size w w'))
   case atStart=>exact ⟨(rd y102 a0),zz86,H',⟨Nat.le_refl _⟩,⟨by (with_reducible repeat (first|refine z5 ?_ _|refine z8 ?_|refine z4 ?_ _));exact BK101.out⟩,⟨by repeat (first|(with_reducible first|exact HB.out|apply zd|apply z2|apply z9|refine za ?_ GE101.out)|exact HB.out)⟩⟩
   case round =>
    clear H'
    (try clear c1);(try clear p1);(try clear q1);(try clear hx1);(try clear p2);(try clear c7);(try clear c7b0);(try clear c8);(try clear c9);(try clear c9b0);(try clear c10);(try clear c10b0);(try clear p10);(try clear q10);(try clear hx10);(try clear hx105_0);(try clear p105);(try clear p2);(try clear q105)
    obtain ⟨x6_2,rfl,HA,HK2,BK101,HB⟩:=hrel
    cases gk with
    | zero=>exact absurd HA.out (by simp [zu.l0])
    | succ k2 =>
     have H:=HA.out
     clear HA
     simp only [zu.l0] at H
     by_cases c12 : x6_2 < 128
     rotate_left
     · rw [if_neg c12] at H
       have c12b0 : decide (x6_2 < 128) = false:=decide_eq_false c12
       clear c12
       obtain rfl:=Option.some.inj H
       go_wp2
       go_ret
       exact ⟨by first|rfl|(simp [zg,zh] <;> rfl)|(simp [*,zg,zh] <;> rfl),by repeat (first|(with_reducible first|exact HB.out|apply zd|apply z2|apply z9|refine za ?_ GE101.out)|exact HB.out)⟩
     rw [if_pos c12] at H
     have c12b0 : decide (x6_2 < 128) = true:=decide_eq_true c12
     clear c12
     replace H:=Option.bind_eq_some_iff.mp H
     obtain ⟨t106,A130,H⟩:=H
     replace H : (if t106 = 1 then (some false) else (zu.l0 k2 (wrap64 (x6_2 + 1)) a1_0 a1_1)) = some r:=H
     have A13:=z1.mk A130
     clear A130
     by_cases c14 : t106 = 1
     · rw [if_pos c14] at H
       have c14b0 : (t106 == 1) = true:=beq_iff_eq.mpr c14
       have c14b1 : (t106 != 1) = false:=bne_eq_false_iff_eq.mpr c14
       clear c14
       obtain rfl:=Option.some.inj H
       have hcz15_0 : wr.cell? ⟨gb101,0,none⟩ = some (.int .u64 a1_0):=(z7 BK101.out 0).trans rfl
       have hcz15_1 : wr.cell? ⟨gb101,1,none⟩ = some (.int .u64 a1_1):=(z7 BK101.out 1).trans rfl
       have hfz15_0:=z6 BK101.out 0
       have hfz15_1:=z6 BK101.out 1
       go_wp2_with (first|((with_reducible refine zi (f:=122) rfl ?_);refine goesL_ (some 24) rfl rfl Try.func122 zz90 rfl #[.agg #[.int .u64 a1_0,.int .u64 a1_1],.int .i64 x6_2] rfl zz48 ?_;(with_reducible refine (z1R.calls a1_0 a1_1 x6_2 t106 _ A13.out).mono ?_);rintro e w16 ⟨rfl,hb⟩;refine ⟨_,rfl,?_⟩;have n0_:=z1.mk (zc (g:=gb101) (o:=.cells #[.int .u64 a1_0,.int .u64 a1_1] 40 (0,0)) zz50 hb);have n1_:=z1.mk (z3 zz43 hb);clear BK101;clear HB;have BK101:=n0_;have HB:=n1_;clear n0_ n1_;(try clear hb);(try clear hb2);(try clear hk);(try clear hi)))
       go_ret
       exact ⟨by first|rfl|(simp [zg,zh] <;> rfl)|(simp [*,zg,zh] <;> rfl),by repeat (first|(with_reducible first|exact HB.out|apply zd|apply z2|apply z9|refine za ?_ GE101.out)|exact HB.out)⟩
     rw [if_neg c14] at H
     have c14b0 : (t106 == 1) = false:=beq_eq_false_iff_ne.mpr c14
     have c14b1 : (t106 != 1) = true:=bne_iff_ne.mpr c14
     have H':=z1.mk H
     clear H
     have hcz17_0 : wr.cell? ⟨gb101,0,none⟩ = some (.int .u64 a1_0):=(z7 BK101.out 0).trans rfl
     have hcz17_1 : wr.cell? ⟨gb101,1,none⟩ = some (.int .u64 a1_1):=(z7 BK101.out 1).trans rfl
     have hfz17_0:=z6 BK101.out 0
     have hfz17_1:=z6 BK101.out 1
     go_wp2_with (first|((with_reducible refine zi (f:=122) rfl ?_);refine goesL_ (some 24) rfl rfl Try.func122 zz90 rfl #[.agg #[.int .u64 a1_0,.int .u64 a1_1],.int .i64 x6_2] rfl zz48 ?_;(with_reducible refine (z1R.calls a1_0 a1_1 x6_2 t106 _ A13.out).mono ?_);rintro e w18 ⟨rfl,hb⟩;refine ⟨_,rfl,?_⟩;have n0_:=z1.mk (zc (g:=gb101) (o:=.cells #[.int .u64 a1_0,.int .u64 a1_1] 40 (0,0)) zz50 hb);have n1_:=z1.mk (z3 zz43 hb);clear BK101;clear HB;have BK101:=n0_;have HB:=n1_;clear n0_ n1_;(try clear hb);(try clear hb2);(try clear hk);(try clear hi)))
     go_roundg k2
     case measure=>have:=HJ2.out;have:=HK2.out;omega
     case rel=>exact ⟨(wrap64 (x6_2 + 1)),zz86,H',⟨by have:=HJ2.out;have:=HK2.out;omega⟩,⟨by (with_reducible repeat (first|refine z5 ?_ _|refine z8 ?_|refine z4 ?_ _));exact BK101.out⟩,⟨by repeat (first|(with_reducible first|exact HB.out|apply zd|apply z2|apply z9|refine za ?_ GE101.out)|exact HB.out)⟩⟩
end Go.Proofs.Ytkhmpaooinpfoaa.P
namespace Go.Proofs.Ytkhmpaooinpfoaa.P
open Go.RowKit Go.Proofs.YtkhmpaooinpfoaaW.PrintWords Go.Proofs.YtkhmpaooinpfoaaW.PrintLast Go.Proofs.YtkhmpaooinpfoaaW.PrintMore
attribute [local go_sem] z12 z14 z1i z1j zU zV z13 z15   -- for this text's walks alone
set_option linter.unusedVariables false
set_option linter.unusedSimpArgs false
def zv.l0 : Nat → Int → List (S40) → Int → Option (Bool)
 | 0,_,_,_=>none
 | k + 1,x0,x1,x5=>if x5 < (x1.length : Int) then (if 0 ≤ x5 then ((zu.f k x0 ((z1x x1 x5).f0) ((z1x x1 x5).f1)).bind fun t102=>(if t102 = true then (zv.l0 k x0 x1 (wrap64 (x5 + 1))) else (some false))) else (none)) else (some true)
def zv.f (k : Nat) (a0 : Int) (l1 : List (S40)) : Option (Bool):=zv.l0 k a0 l1 0
theorem zv.z17 : ∀ k,(∀ y0 y1 y2,LeO (zv.l0 k y0 y1 y2) (zv.l0 (k + 1) y0 y1 y2))
 | 0=>fun _ _ _ r h=>by simp [zv.l0] at h
 | k + 1=>by
  have ih0:=zv.z17 k
  · intro y0 y1 y2
    unfold zv.l0
    repeat' first
    | (with_reducible exact ih0 _ _ _)
    | (with_reducible exact zu.mono _ _ _ _)
    | (with_reducible exact LeO.refl _)
    | (with_reducible exact LeO.none _)
    | (with_reducible refine LeO.ite ?_ ?_)
    | (with_reducible refine LeO.bind ?_ (fun _=>?_))
    | exact ih0 _ _ _
    | exact zu.mono _ _ _ _
    | exact LeO.none _
    | refine LeO.ite ?_ ?_
    | refine LeO.bind ?_ (fun _=>?_)
theorem zv.mono : ∀ a0 a1 k,LeO (zv.f k a0 a1) (zv.f (k + 1) a0 a1):=by
 intro a0 a1 k
 have ih0:=zv.z17 k
 unfold zv.f
 repeat' first
  | (with_reducible exact ih0 _ _ _)
  | (with_reducible exact zu.mono _ _ _ _)
  | (with_reducible exact LeO.refl _)
  | (with_reducible exact LeO.none _)
  | (with_reducible refine LeO.ite ?_ ?_)
  | (with_reducible refine LeO.bind ?_ (fun _=>?_))
  | exact ih0 _ _ _
  | exact zu.mono _ _ _ _
  | exact LeO.none _
  | refine LeO.ite ?_ ?_
  | refine LeO.bind ?_ (fun _=>?_)
set_option maxHeartbeats 8000000 in
set_option maxRecDepth 100000 in
theorem zv.calls (k : Nat) (a0 : Int) (A1 : Option Addr) (c1 : Nat) (l1 : List (S40)) (r : Bool) (w : World) (hr1 : Kd.C k40 w A1 l1.length l1) (hc1 : l1.length ≤ c1) (h : zv.f k a0 l1 = some r) :
 Calls Try.prog 50 #[.int .i64 a0,.slice A1 l1.length c1] w fun e w'=>e = .returned (.bool r) ∧ Below w.heap.size w w':=by
 have hu40:=Try.underlying40
 have HR1:=z1.mk hr1
 have HC1:=z1.mk hc1
 clear hr1 hc1
 have HB:=z1.mk (Below.refl w.heap.size w)
 have H : (zv.l0 k a0 l1 0) = some r:=h
 clear h
 have H':=z1.mk H
 clear H
 go_enter Try.func50,Try.ntmps50
 go_wp2
 go_loopg [5] k (fun kq v5 w'=>∃ (x5_1 : Int),v5 = .int .i64 x5_1 ∧ z1 (zv.l0 kq a0 l1 x5_1 = some r) ∧ z1 (kq ≤ k) ∧ z1 (Below w.heap.size w w'))
 case atStart=>exact ⟨(0),zz86,H',⟨Nat.le_refl _⟩,⟨by repeat (first|(with_reducible first|exact HB.out|apply zd|apply z2|apply z9)|exact HB.out)⟩⟩
 case round =>
  clear H'
  (try clear c1);(try clear p2)
  obtain ⟨x5_1,rfl,HA,HK1,HB⟩:=hrel
  cases gk with
  | zero=>exact absurd HA.out (by simp [zv.l0])
  | succ k1 =>
   have H:=HA.out
   clear HA
   simp only [zv.l0] at H
   by_cases c3 : x5_1 < (l1.length : Int)
   rotate_left
   · rw [if_neg c3] at H
     have c3b0 : decide (x5_1 < (l1.length : Int)) = false:=decide_eq_false c3
     clear c3
     obtain rfl:=Option.some.inj H
     go_wp2
     go_ret
     exact ⟨by first|rfl|(simp [zg,zh] <;> rfl)|(simp [*,zg,zh] <;> rfl),by repeat (first|(with_reducible first|exact HB.out|apply zd|apply z2|apply z9)|exact HB.out)⟩
   rw [if_pos c3] at H
   have c3b0 : decide (x5_1 < (l1.length : Int)) = true:=decide_eq_true c3
   clear c3
   by_cases c4 : 0 ≤ x5_1
   rotate_left
   · rw [if_neg c4] at H
     exact absurd H zz93
   rw [if_pos c4] at H
   have c4b0 : decide (0 ≤ x5_1) = true:=decide_eq_true c4
   clear c4
   replace H:=Option.bind_eq_some_iff.mp H
   obtain ⟨t102,A50,H⟩:=H
   replace H : (if t102 = true then (zv.l0 k1 a0 l1 (wrap64 (x5_1 + 1))) else (some false)) = some r:=H
   have A5:=z1.mk A50
   clear A50
   by_cases c6 : t102 = true
   rotate_left
   · replace c6:=Bool.eq_false_iff.mpr c6
     subst c6
     have H1 : (some false) = some r:=by rw [if_neg (show ¬ (false = true) by decide)] at H;exact H
     clear H
     have H:=H1
     clear H1
     obtain rfl:=Option.some.inj H
     have p101 : 0 ≤ (x5_1 : Int):=of_decide_eq_true zz85
     have q101 : x5_1 < (l1.length : Int):=of_decide_eq_true zz85
     obtain ⟨ad101,e101,hx101_0,hx101_1⟩:=z3r HR1.out x5_1 p101 q101
     cases e101
     replace hx101_0:=(HB.out.cell (World.block_lt_of_cell? w _ hx101_0)).trans hx101_0
     replace hx101_1:=(HB.out.cell (World.block_lt_of_cell? w _ hx101_1)).trans hx101_1
     replace p101:=eq_true p101
     replace q101:=eq_true q101
     go_wp2_with (first|((with_reducible refine zi (f:=85) rfl ?_);refine goesL_ (some 17) rfl rfl Try.func85 zz90 rfl #[.int .i64 a0,.agg #[.int .u64 ((z1x l1 x5_1).f0),.int .u64 ((z1x l1 x5_1).f1)]] rfl zz48 ?_;(with_reducible refine (zu.calls k1 a0 ((z1x l1 x5_1).f0) ((z1x l1 x5_1).f1) false _ A5.out).mono ?_);rintro e w8 ⟨rfl,hb⟩;refine ⟨_,rfl,?_⟩;have n0_:=z1.mk (z3 zz49 hb);clear HB;have HB:=n0_;clear n0_;(try clear hb);(try clear hb2);(try clear hk);(try clear hi)))
     go_ret
     exact ⟨by first|rfl|(simp [zg,zh] <;> rfl)|(simp [*,zg,zh] <;> rfl),by repeat (first|(with_reducible first|exact HB.out|apply zd|apply z2|apply z9)|exact HB.out)⟩
   subst c6
   have H1 : (zv.l0 k1 a0 l1 (wrap64 (x5_1 + 1))) = some r:=by rw [if_pos rfl] at H;exact H
   clear H
   have H:=H1
   clear H1
   have H':=z1.mk H
   clear H
   have p101 : 0 ≤ (x5_1 : Int):=of_decide_eq_true zz85
   have q101 : x5_1 < (l1.length : Int):=of_decide_eq_true zz85
   obtain ⟨ad101,e101,hx101_0,hx101_1⟩:=z3r HR1.out x5_1 p101 q101
   cases e101
   replace hx101_0:=(HB.out.cell (World.block_lt_of_cell? w _ hx101_0)).trans hx101_0
   replace hx101_1:=(HB.out.cell (World.block_lt_of_cell? w _ hx101_1)).trans hx101_1
   replace p101:=eq_true p101
   replace q101:=eq_true q101
   go_wp2_with (first|((with_reducible refine zi (f:=85) rfl ?_);refine goesL_ (some 17) rfl rfl Try.func85 zz90 rfl #[.int .i64 a0,.agg #[.int .u64 ((z1x l1 x5_1).f0),.int .u64 ((z1x l1 x5_1).f1)]] rfl zz48 ?_;(with_reducible refine (zu.calls k1 a0 ((z1x l1 x5_1).f0) ((z1x l1 x5_1).f1) true _ A5.out).mono ?_);rintro e w7 ⟨rfl,hb⟩;refine ⟨_,rfl,?_⟩;have n0_:=z1.mk (z3 zz49 hb);clear HB;have HB:=n0_;clear n0_;(try clear hb);(try clear hb2);(try clear hk);(try clear hi)))
   go_roundg k1
   case measure=>have:=HK1.out;omega
   case rel=>exact ⟨(wrap64 (x5_1 + 1)),zz86,H',⟨by have:=HK1.out;omega⟩,⟨by repeat (first|(with_reducible first|exact HB.out|apply zd|apply z2|apply z9)|exact HB.out)⟩⟩
end Go.Proofs.Ytkhmpaooinpfoaa.P

/- Own text: merged by wip/tools/pack.py out of what the law ExprChecks reaches. -/
import Derived.Test.YtngcaphdkgihmaaMExprChecksb
import Derived.Test.YtngcaphdkgihmaaMExprChecksc
namespace Go.Proofs.Ytngcaphdkgihmaa.P
open Go.RowKit Go.Proofs.YtngcaphdkgihmaaW.PrintWords Go.Proofs.YtngcaphdkgihmaaW.PrintLast Go.Proofs.YtngcaphdkgihmaaW.PrintMore
attribute [local go_sem] z17 z19 z1e z1f z12 z13 z18 z1a   -- for this text's walks alone
set_option linter.unusedVariables false
set_option linter.unusedSimpArgs false
attribute [local go_sem high] eqA51
def zM.f (k : Nat)  : Option (Bool):=(zV.f).bind fun t101=>((zz.f k 1 t101 (([(⟨0,2⟩ : S51),(⟨0,2⟩ : S51)] : List (S51)))).bind fun bt107=>((zV.f).bind fun t111=>((zX.f k t111).bind fun t114=>(if t114 = 2 then (if bt107.2.2 = 0 then (some (bt107.1 == 0 && (bt107.2.1 == 2))) else (some false)) else (some false)))))
theorem zM.mono : ∀ k,LeO (zM.f k ) (zM.f (k + 1) ):=by
 intro  k
 unfold zM.f
 repeat' first
  | (with_reducible exact zX.mono _ _)
  | (with_reducible exact zz.mono _ _ _ _)
  | (with_reducible exact LeO.refl _)
  | (with_reducible exact LeO.none _)
  | (with_reducible refine LeO.ite ?_ ?_)
  | (with_reducible refine LeO.bind ?_ (fun _=>?_))
  | exact zX.mono _ _
  | exact zz.mono _ _ _ _
  | exact LeO.none _
  | refine LeO.ite ?_ ?_
  | refine LeO.bind ?_ (fun _=>?_)
set_option maxHeartbeats 8000000 in
set_option maxRecDepth 100000 in
theorem zM.calls (k : Nat)  (r : Bool) (w : World) (h : zM.f k  = some r) :
 Calls Try.prog 42 #[] w fun e w'=>e = .returned (.bool r) ∧ Below w.heap.size w w':=by
 have hu51:=Try.underlying51
 have HB:=z7.mk (Below.refl w.heap.size w)
 have H : ((zV.f).bind fun t101=>((zz.f k 1 t101 (([(⟨0,2⟩ : S51),(⟨0,2⟩ : S51)] : List (S51)))).bind fun bt107=>((zV.f).bind fun t111=>((zX.f k t111).bind fun t114=>(if t114 = 2 then (if bt107.2.2 = 0 then (some (bt107.1 == 0 && (bt107.2.1 == 2))) else (some false)) else (some false)))))) = some r:=h
 clear h
 replace H:=Option.bind_eq_some_iff.mp H
 obtain ⟨t101,A10,H⟩:=H
 replace H : ((zz.f k 1 t101 (([(⟨0,2⟩ : S51),(⟨0,2⟩ : S51)] : List (S51)))).bind fun bt107=>((zV.f).bind fun t111=>((zX.f k t111).bind fun t114=>(if t114 = 2 then (if bt107.2.2 = 0 then (some (bt107.1 == 0 && (bt107.2.1 == 2))) else (some false)) else (some false))))) = some r:=H
 have A1:=z7.mk A10
 clear A10
 obtain ⟨y104,hy104⟩ : ∃ y_ : List (S51),y_ = (([(⟨0,2⟩ : S51),(⟨0,2⟩ : S51)] : List (S51))):=⟨_,rfl⟩
 replace H : ((zz.f k 1 t101 y104).bind fun bt107=>((zV.f).bind fun t111=>((zX.f k t111).bind fun t114=>(if t114 = 2 then (if bt107.2.2 = 0 then (some (bt107.1 == 0 && (bt107.2.1 == 2))) else (some false)) else (some false))))) = some r:=by first|(rw [hy104];with_reducible exact H)|(have H2_:=(Option.bind_some _ _).symm.trans H;rw [hy104];with_reducible exact H2_)|(have H2_:=(Option.bind_some _ _).symm.trans H;with_reducible exact H2_)|with_reducible exact H|(rw [hy104];exact H)|exact H
 have Ny104:=z7.mk hy104
 clear hy104
 replace H:=Option.bind_eq_some_iff.mp H
 obtain ⟨⟨t107,t108,t109⟩,A20,H⟩:=H
 replace H : ((zV.f).bind fun t111=>((zX.f k t111).bind fun t114=>(if t114 = 2 then (if t109 = 0 then (some (t107 == 0 && (t108 == 2))) else (some false)) else (some false)))) = some r:=H
 have A2:=z7.mk A20
 clear A20
 replace H:=Option.bind_eq_some_iff.mp H
 obtain ⟨t111,A30,H⟩:=H
 replace H : ((zX.f k t111).bind fun t114=>(if t114 = 2 then (if t109 = 0 then (some (t107 == 0 && (t108 == 2))) else (some false)) else (some false))) = some r:=H
 have A3:=z7.mk A30
 clear A30
 replace H:=Option.bind_eq_some_iff.mp H
 obtain ⟨t114,A40,H⟩:=H
 replace H : (if t114 = 2 then (if t109 = 0 then (some (t107 == 0 && (t108 == 2))) else (some false)) else (some false)) = some r:=H
 have A4:=z7.mk A40
 clear A40
 by_cases c5 : t114 = 2
 rotate_left
 · rw [if_neg c5] at H
   have c5b0 : (t114 == 2) = false:=beq_eq_false_iff_ne.mpr c5
   have c5b1 : (t114 != 2) = true:=bne_iff_ne.mpr c5
   obtain rfl:=Option.some.inj H
   go_enter Try.func42,Try.ntmps42
   go_wp2_with (first|((with_reducible refine zB (f:=84) rfl ?_);refine goesL_ (some 4) rfl rfl Try.func84 (by kernel_rfl) rfl #[] rfl (by (try simp only [List.map_toArray,List.map_cons,List.map_nil]);first|done|rfl|(simp only [List.length_drop,List.length_take];rfl)) ?_;(with_reducible refine (zV.calls  t101 _ A1.out).mono ?_);rintro e w30 ⟨v102,rfl,ho0,hb⟩;refine ⟨_,rfl,?_⟩;have n0_:=z7.mk (Kd.z1A ho0 (zf (by repeat (first|(with_reducible first|exact HB.out|apply z4|apply z0|apply z3)|exact HB.out))));have n1_:=z7.mk (zg (by repeat (first|(with_reducible first|exact HB.out|apply z4|apply z0|apply z3)|exact HB.out)) hb);clear HB;have HO103:=n0_;have HB:=n1_;clear n0_ n1_;(try clear hb);(try clear hb2);(try clear hk);(try clear hi);(try clear ho0))|((with_reducible refine zG (N:=7) rfl ?_);refine Kd.z4D k51 _ 51 ?hg (N:=7) ?hd (xs:=([(⟨0,2⟩ : S51),(⟨0,2⟩ : S51)] : List (S51))) (inner:=[.int .u64 0,.int .u64 2,.int .u64 0,.int .u64 2]) (ok:=fun _=>True) (okp:=fun _=>True) ?hr ?hp (fun _ hk=>hk) trivial (Below.refl _ _) (Nat.le_refl _) (by simp) ?_;(case hd=>rfl);(case hg=>rfl);(case hr=>first|(go_simp;done)|(go_simp;rfl));(case hp=>exact (Reps.c2 (show Kd.M k51 _ _ _ (⟨0,2⟩ : S51) [.int .u64 0,.int .u64 2] from (z1Q _ _ _ (⟨0,2⟩ : S51) )) (Reps.c2 (show Kd.M k51 _ _ _ (⟨0,2⟩ : S51) [.int .u64 0,.int .u64 2] from (z1Q _ _ _ (⟨0,2⟩ : S51) )) (Reps.none _ _))));intro v105 w31 ho32 hb hg_ hnew_;clear hg_ hnew_;(first|rw [← Ny104.out] at ho32|(simp only [Int.reduceToNat] at ho32;rw [← Ny104.out] at ho32));have n0_:=z7.mk (Kd.zY (by (with_reducible repeat (first|apply Kd.zx|apply Kd.zy|apply Kd.zD));exact HO103.out) hb);have n1_:=z7.mk (Kd.z1A ho32 (zf (by repeat (first|(with_reducible first|exact HB.out|apply z4|apply z0|apply z3)|exact HB.out))));have n2_:=z7.mk (zg (by repeat (first|(with_reducible first|exact HB.out|apply z4|apply z0|apply z3)|exact HB.out)) hb);clear HO103;clear HB;have HO103:=n0_;have HO106:=n1_;have HB:=n2_;clear n0_ n1_ n2_;clear hb ho32;obtain ⟨Ao33,co33,eo33⟩:=Kd.z1q HO103.out;subst eo33;obtain ⟨Ao34,co34,eo34⟩:=Kd.z1q HO106.out;subst eo34)|((with_reducible refine zB (f:=43) rfl ?_);refine goesL_ (some 8) rfl rfl Try.func43 (by kernel_rfl) rfl #[.int .i64 1,.slice Ao33 t101.length co33,.slice Ao34 y104.length co34] rfl (by (try simp only [List.map_toArray,List.map_cons,List.map_nil]);first|done|rfl|(simp only [List.length_drop,List.length_take];rfl)) ?_;(with_reducible refine (zz.calls k 1 _ _ t101 _ _ y104 t107 t108 t109 _ ?side1 ?side2 ?side3 ?side4 A2.out).mono ?_);(case side1=>repeat (first|exact (Kd.zO HO103.out).2.2|(with_reducible refine Kd.z1o ?_ _)|(with_reducible refine Kd.z1p ?_ _)|(with_reducible refine Kd.z1w ?_)));(case side2=>exact (Kd.zO HO103.out).2.1);(case side3=>repeat (first|exact (Kd.zO HO106.out).2.2|(with_reducible refine Kd.z1o ?_ _)|(with_reducible refine Kd.z1p ?_ _)|(with_reducible refine Kd.z1w ?_)));(case side4=>exact (Kd.zO HO106.out).2.1);rintro e w35 ⟨rfl,hb⟩;refine ⟨_,rfl,?_⟩;have n0_:=z7.mk (Kd.zY (by (with_reducible repeat (first|apply Kd.zx|apply Kd.zy|apply Kd.zD));exact HO103.out) hb);have n1_:=z7.mk (Kd.zY (by (with_reducible repeat (first|apply Kd.zx|apply Kd.zy|apply Kd.zD));exact HO106.out) hb);have n2_:=z7.mk (zg (by repeat (first|(with_reducible first|exact HB.out|apply z4|apply z0|apply z3)|exact HB.out)) hb);clear HO103;clear HO106;clear HB;have HO103:=n0_;have HO106:=n1_;have HB:=n2_;clear n0_ n1_ n2_;(try clear hb);(try clear hb2);(try clear hk);(try clear hi))|((with_reducible refine zG (N:=1) rfl ?_);refine zE ?hg (N:=1) ?hd (cs:=#[.int .u64 0,.int .u64 0]) (t:=51) ?hr ?_;(case hd=>rfl);(case hg=>rfl);(case hr=>first|(go_simp;done)|(go_simp;rfl));intro gb110 hg w36 hbox hb;have n0_:=z7.mk (Kd.zY (by (with_reducible repeat (first|apply Kd.zx|apply Kd.zy|apply Kd.zD));exact HO103.out) hb);have n1_:=z7.mk (Kd.zY (Kd.z1S (by (with_reducible repeat (first|apply Kd.zx|apply Kd.zy|apply Kd.zD));exact HO106.out) gb110 (Nat.le_of_eq hg.symm)) hb);have n2_:=z7.mk (zg (by repeat (first|(with_reducible first|exact HB.out|apply z4|apply z0|apply z3)|exact HB.out)) hb);have n3_:=z7.mk (hbox);have n4_:=z7.mk ((by rw [hg];exact (zf (by repeat (first|(with_reducible first|exact HB.out|apply z4|apply z0|apply z3)|exact HB.out))) : w.heap.size ≤ gb110));have n5_:=z7.mk ((by rw [hg];exact (zf (by repeat (first|(with_reducible first|exact HB.out|apply z4|apply z0|apply z3)|exact HB.out))) : w.heap.size ≤ gb110));clear HO103;clear HO106;clear HB;have HO103:=n0_;have HO106:=n1_;have HB:=n2_;have BK110:=n3_;have GW110:=n4_;have GE110:=n5_;clear n0_ n1_ n2_ n3_ n4_ n5_;clear hb hbox hg;have hcz37_0 : w36.cell? ⟨gb110,0,none⟩ = some (.int .u64 0):=(zb BK110.out 0).trans rfl;have hcz37_1 : w36.cell? ⟨gb110,1,none⟩ = some (.int .u64 0):=(zb BK110.out 1).trans rfl;have hfz37_0:=z8 BK110.out 0;have hfz37_1:=z8 BK110.out 1)|((with_reducible refine zB (f:=84) rfl ?_);refine goesL_ (some 11) rfl rfl Try.func84 (by kernel_rfl) rfl #[] rfl (by (try simp only [List.map_toArray,List.map_cons,List.map_nil]);first|done|rfl|(simp only [List.length_drop,List.length_take];rfl)) ?_;(with_reducible refine (zV.calls  t111 _ A3.out).mono ?_);rintro e w38 ⟨v112,rfl,ho0,hb⟩;refine ⟨_,rfl,?_⟩;have n0_:=z7.mk (Kd.z3v (by (with_reducible repeat (first|apply Kd.zx|apply Kd.zy|apply Kd.zD));exact (Kd.z1d (Kd.z1g (p:=⟨gb110,1,none⟩) (Kd.z1g (p:=⟨gb110,0,none⟩) (Kd.z1L HO103.out BK110.out (by decide)) (fun _ hk=>hk.2) (.int .u64 t107)) (fun _ hk=>hk.2) (.int .u64 t108)) (fun _ h_=>h_.1))) (Kd.z4R ho0) hb);have n1_:=z7.mk (Kd.zY (by (with_reducible repeat (first|apply Kd.zx|apply Kd.zy|apply Kd.zD));exact (Kd.z1d (Kd.z1g (p:=⟨gb110,1,none⟩) (Kd.z1g (p:=⟨gb110,0,none⟩) (Kd.z1d HO106.out (fun k_ hk=>(⟨hk,hk.2⟩ : _ ∧ k_ ≠ gb110))) (fun _ hk=>hk.2) (.int .u64 t107)) (fun _ hk=>hk.2) (.int .u64 t108)) (fun _ h_=>h_.1))) hb);have n2_:=z7.mk (Kd.z1A (Kd.z4T ho0 (Kd.R_lt (by (with_reducible repeat (first|apply Kd.zx|apply Kd.zy|apply Kd.zD));exact (Kd.z1d (Kd.z1g (p:=⟨gb110,1,none⟩) (Kd.z1g (p:=⟨gb110,0,none⟩) (Kd.z1L HO103.out BK110.out (by decide)) (fun _ hk=>hk.2) (.int .u64 t107)) (fun _ hk=>hk.2) (.int .u64 t108)) (fun _ h_=>h_.1))))) (zf (by repeat (first|(with_reducible first|exact HB.out|apply z4|apply z0|apply z3|refine z9 ?_ GE110.out)|exact HB.out))));have n3_:=z7.mk (zk (g:=gb110) (o:=.cells #[.int .u64 t107,.int .u64 t108] 51 (0,0)) (by (with_reducible repeat (first|refine z2 ?_ _|refine z5 ?_|refine z1 ?_ _));refine zq (cs:=#[.int .u64 t107,.int .u64 0]) ?_ 1 _ rfl;(with_reducible repeat (first|refine z2 ?_ _|refine z5 ?_|refine z1 ?_ _));refine zq (cs:=#[.int .u64 0,.int .u64 0]) ?_ 0 _ rfl;(with_reducible repeat (first|refine z2 ?_ _|refine z5 ?_|refine z1 ?_ _));exact BK110.out) hb);have n4_:=z7.mk (zg (by repeat (first|(with_reducible first|exact HB.out|apply z4|apply z0|apply z3|refine z9 ?_ GE110.out)|exact HB.out)) hb);clear HO103;clear HO106;clear BK110;clear HB;have HO103:=n0_;have HO106:=n1_;have HO113:=n2_;have BK110:=n3_;have HB:=n4_;clear n0_ n1_ n2_ n3_ n4_;(try clear hb);(try clear hb2);(try clear hk);(try clear hi);(try clear ho0);obtain ⟨Ao39,co39,eo39⟩:=Kd.z1q HO113.out;subst eo39)|((with_reducible refine zB (f:=57) rfl ?_);refine goesL_ (some 12) rfl rfl Try.func57 (by kernel_rfl) rfl #[.slice Ao39 t111.length co39] rfl (by (try simp only [List.map_toArray,List.map_cons,List.map_nil]);first|done|rfl|(simp only [List.length_drop,List.length_take];rfl)) ?_;(with_reducible refine (zX.calls k _ _ t111 t114 _ ?side1 ?side2 A4.out).mono ?_);(case side1=>repeat (first|exact (Kd.zO HO113.out).2.2|(with_reducible refine Kd.z1o ?_ _)|(with_reducible refine Kd.z1p ?_ _)|(with_reducible refine Kd.z1w ?_)));(case side2=>exact (Kd.zO HO113.out).2.1);rintro e w40 ⟨rfl,hb⟩;refine ⟨_,rfl,?_⟩;have n0_:=z7.mk (Kd.zY (by (with_reducible repeat (first|apply Kd.zx|apply Kd.zy|apply Kd.zD));exact HO103.out) hb);have n1_:=z7.mk (Kd.zY (by (with_reducible repeat (first|apply Kd.zx|apply Kd.zy|apply Kd.zD));exact HO106.out) hb);have n2_:=z7.mk (Kd.zY (by (with_reducible repeat (first|apply Kd.zx|apply Kd.zy|apply Kd.zD));exact HO113.out) hb);have n3_:=z7.mk (zk (g:=gb110) (o:=.cells #[.int .u64 t107,.int .u64 t108] 51 (0,0)) (by (with_reducible repeat (first|refine z2 ?_ _|refine z5 ?_|refine z1 ?_ _));exact BK110.out) hb);have n4_:=z7.mk (zg (by repeat (first|(with_reducible first|exact HB.out|apply z4|apply z0|apply z3|refine z9 ?_ GE110.out)|exact HB.out)) hb);clear HO103;clear HO106;clear HO113;clear BK110;clear HB;have HO103:=n0_;have HO106:=n1_;have HO113:=n2_;have BK110:=n3_;have HB:=n4_;clear n0_ n1_ n2_ n3_ n4_;(try clear hb);(try clear hb2);(try clear hk);(try clear hi)))
   go_ret
   exact ⟨by first|rfl|(simp [zl,zm] <;> rfl)|(simp [*,zl,zm] <;> rfl),by repeat (first|(with_reducible first|exact HB.out|apply z4|apply z0|apply z3|refine z9 ?_ GE110.out)|exact HB.out)⟩
 rw [if_pos c5] at H
 have c5b0 : (t114 == 2) = true:=beq_iff_eq.mpr c5
 have c5b1 : (t114 != 2) = false:=bne_eq_false_iff_eq.mpr c5
 clear c5
 by_cases c6 : t109 = 0
 rotate_left
 · rw [if_neg c6] at H
   have c6b0 : (t109 == 0) = false:=beq_eq_false_iff_ne.mpr c6
   have c6b1 : (t109 != 0) = true:=bne_iff_ne.mpr c6
   obtain rfl:=Option.some.inj H
   go_enter Try.func42,Try.ntmps42
   go_wp2_with (first|((with_reducible refine zB (f:=84) rfl ?_);refine goesL_ (some 4) rfl rfl Try.func84 (by kernel_rfl) rfl #[] rfl (by (try simp only [List.map_toArray,List.map_cons,List.map_nil]);first|done|rfl|(simp only [List.length_drop,List.length_take];rfl)) ?_;(with_reducible refine (zV.calls  t101 _ A1.out).mono ?_);rintro e w19 ⟨v102,rfl,ho0,hb⟩;refine ⟨_,rfl,?_⟩;have n0_:=z7.mk (Kd.z1A ho0 (zf (by repeat (first|(with_reducible first|exact HB.out|apply z4|apply z0|apply z3)|exact HB.out))));have n1_:=z7.mk (zg (by repeat (first|(with_reducible first|exact HB.out|apply z4|apply z0|apply z3)|exact HB.out)) hb);clear HB;have HO103:=n0_;have HB:=n1_;clear n0_ n1_;(try clear hb);(try clear hb2);(try clear hk);(try clear hi);(try clear ho0))|((with_reducible refine zG (N:=7) rfl ?_);refine Kd.z4D k51 _ 51 ?hg (N:=7) ?hd (xs:=([(⟨0,2⟩ : S51),(⟨0,2⟩ : S51)] : List (S51))) (inner:=[.int .u64 0,.int .u64 2,.int .u64 0,.int .u64 2]) (ok:=fun _=>True) (okp:=fun _=>True) ?hr ?hp (fun _ hk=>hk) trivial (Below.refl _ _) (Nat.le_refl _) (by simp) ?_;(case hd=>rfl);(case hg=>rfl);(case hr=>first|(go_simp;done)|(go_simp;rfl));(case hp=>exact (Reps.c2 (show Kd.M k51 _ _ _ (⟨0,2⟩ : S51) [.int .u64 0,.int .u64 2] from (z1Q _ _ _ (⟨0,2⟩ : S51) )) (Reps.c2 (show Kd.M k51 _ _ _ (⟨0,2⟩ : S51) [.int .u64 0,.int .u64 2] from (z1Q _ _ _ (⟨0,2⟩ : S51) )) (Reps.none _ _))));intro v105 w20 ho21 hb hg_ hnew_;clear hg_ hnew_;(first|rw [← Ny104.out] at ho21|(simp only [Int.reduceToNat] at ho21;rw [← Ny104.out] at ho21));have n0_:=z7.mk (Kd.zY (by (with_reducible repeat (first|apply Kd.zx|apply Kd.zy|apply Kd.zD));exact HO103.out) hb);have n1_:=z7.mk (Kd.z1A ho21 (zf (by repeat (first|(with_reducible first|exact HB.out|apply z4|apply z0|apply z3)|exact HB.out))));have n2_:=z7.mk (zg (by repeat (first|(with_reducible first|exact HB.out|apply z4|apply z0|apply z3)|exact HB.out)) hb);clear HO103;clear HB;have HO103:=n0_;have HO106:=n1_;have HB:=n2_;clear n0_ n1_ n2_;clear hb ho21;obtain ⟨Ao22,co22,eo22⟩:=Kd.z1q HO103.out;subst eo22;obtain ⟨Ao23,co23,eo23⟩:=Kd.z1q HO106.out;subst eo23)|((with_reducible refine zB (f:=43) rfl ?_);refine goesL_ (some 8) rfl rfl Try.func43 (by kernel_rfl) rfl #[.int .i64 1,.slice Ao22 t101.length co22,.slice Ao23 y104.length co23] rfl (by (try simp only [List.map_toArray,List.map_cons,List.map_nil]);first|done|rfl|(simp only [List.length_drop,List.length_take];rfl)) ?_;(with_reducible refine (zz.calls k 1 _ _ t101 _ _ y104 t107 t108 t109 _ ?side1 ?side2 ?side3 ?side4 A2.out).mono ?_);(case side1=>repeat (first|exact (Kd.zO HO103.out).2.2|(with_reducible refine Kd.z1o ?_ _)|(with_reducible refine Kd.z1p ?_ _)|(with_reducible refine Kd.z1w ?_)));(case side2=>exact (Kd.zO HO103.out).2.1);(case side3=>repeat (first|exact (Kd.zO HO106.out).2.2|(with_reducible refine Kd.z1o ?_ _)|(with_reducible refine Kd.z1p ?_ _)|(with_reducible refine Kd.z1w ?_)));(case side4=>exact (Kd.zO HO106.out).2.1);rintro e w24 ⟨rfl,hb⟩;refine ⟨_,rfl,?_⟩;have n0_:=z7.mk (Kd.zY (by (with_reducible repeat (first|apply Kd.zx|apply Kd.zy|apply Kd.zD));exact HO103.out) hb);have n1_:=z7.mk (Kd.zY (by (with_reducible repeat (first|apply Kd.zx|apply Kd.zy|apply Kd.zD));exact HO106.out) hb);have n2_:=z7.mk (zg (by repeat (first|(with_reducible first|exact HB.out|apply z4|apply z0|apply z3)|exact HB.out)) hb);clear HO103;clear HO106;clear HB;have HO103:=n0_;have HO106:=n1_;have HB:=n2_;clear n0_ n1_ n2_;(try clear hb);(try clear hb2);(try clear hk);(try clear hi))|((with_reducible refine zG (N:=1) rfl ?_);refine zE ?hg (N:=1) ?hd (cs:=#[.int .u64 0,.int .u64 0]) (t:=51) ?hr ?_;(case hd=>rfl);(case hg=>rfl);(case hr=>first|(go_simp;done)|(go_simp;rfl));intro gb110 hg w25 hbox hb;have n0_:=z7.mk (Kd.zY (by (with_reducible repeat (first|apply Kd.zx|apply Kd.zy|apply Kd.zD));exact HO103.out) hb);have n1_:=z7.mk (Kd.zY (Kd.z1S (by (with_reducible repeat (first|apply Kd.zx|apply Kd.zy|apply Kd.zD));exact HO106.out) gb110 (Nat.le_of_eq hg.symm)) hb);have n2_:=z7.mk (zg (by repeat (first|(with_reducible first|exact HB.out|apply z4|apply z0|apply z3)|exact HB.out)) hb);have n3_:=z7.mk (hbox);have n4_:=z7.mk ((by rw [hg];exact (zf (by repeat (first|(with_reducible first|exact HB.out|apply z4|apply z0|apply z3)|exact HB.out))) : w.heap.size ≤ gb110));have n5_:=z7.mk ((by rw [hg];exact (zf (by repeat (first|(with_reducible first|exact HB.out|apply z4|apply z0|apply z3)|exact HB.out))) : w.heap.size ≤ gb110));clear HO103;clear HO106;clear HB;have HO103:=n0_;have HO106:=n1_;have HB:=n2_;have BK110:=n3_;have GW110:=n4_;have GE110:=n5_;clear n0_ n1_ n2_ n3_ n4_ n5_;clear hb hbox hg;have hcz26_0 : w25.cell? ⟨gb110,0,none⟩ = some (.int .u64 0):=(zb BK110.out 0).trans rfl;have hcz26_1 : w25.cell? ⟨gb110,1,none⟩ = some (.int .u64 0):=(zb BK110.out 1).trans rfl;have hfz26_0:=z8 BK110.out 0;have hfz26_1:=z8 BK110.out 1)|((with_reducible refine zB (f:=84) rfl ?_);refine goesL_ (some 11) rfl rfl Try.func84 (by kernel_rfl) rfl #[] rfl (by (try simp only [List.map_toArray,List.map_cons,List.map_nil]);first|done|rfl|(simp only [List.length_drop,List.length_take];rfl)) ?_;(with_reducible refine (zV.calls  t111 _ A3.out).mono ?_);rintro e w27 ⟨v112,rfl,ho0,hb⟩;refine ⟨_,rfl,?_⟩;have n0_:=z7.mk (Kd.z3v (by (with_reducible repeat (first|apply Kd.zx|apply Kd.zy|apply Kd.zD));exact (Kd.z1d (Kd.z1g (p:=⟨gb110,1,none⟩) (Kd.z1g (p:=⟨gb110,0,none⟩) (Kd.z1L HO103.out BK110.out (by decide)) (fun _ hk=>hk.2) (.int .u64 t107)) (fun _ hk=>hk.2) (.int .u64 t108)) (fun _ h_=>h_.1))) (Kd.z4R ho0) hb);have n1_:=z7.mk (Kd.zY (by (with_reducible repeat (first|apply Kd.zx|apply Kd.zy|apply Kd.zD));exact (Kd.z1d (Kd.z1g (p:=⟨gb110,1,none⟩) (Kd.z1g (p:=⟨gb110,0,none⟩) (Kd.z1d HO106.out (fun k_ hk=>(⟨hk,hk.2⟩ : _ ∧ k_ ≠ gb110))) (fun _ hk=>hk.2) (.int .u64 t107)) (fun _ hk=>hk.2) (.int .u64 t108)) (fun _ h_=>h_.1))) hb);have n2_:=z7.mk (Kd.z1A (Kd.z4T ho0 (Kd.R_lt (by (with_reducible repeat (first|apply Kd.zx|apply Kd.zy|apply Kd.zD));exact (Kd.z1d (Kd.z1g (p:=⟨gb110,1,none⟩) (Kd.z1g (p:=⟨gb110,0,none⟩) (Kd.z1L HO103.out BK110.out (by decide)) (fun _ hk=>hk.2) (.int .u64 t107)) (fun _ hk=>hk.2) (.int .u64 t108)) (fun _ h_=>h_.1))))) (zf (by repeat (first|(with_reducible first|exact HB.out|apply z4|apply z0|apply z3|refine z9 ?_ GE110.out)|exact HB.out))));have n3_:=z7.mk (zk (g:=gb110) (o:=.cells #[.int .u64 t107,.int .u64 t108] 51 (0,0)) (by (with_reducible repeat (first|refine z2 ?_ _|refine z5 ?_|refine z1 ?_ _));refine zq (cs:=#[.int .u64 t107,.int .u64 0]) ?_ 1 _ rfl;(with_reducible repeat (first|refine z2 ?_ _|refine z5 ?_|refine z1 ?_ _));refine zq (cs:=#[.int .u64 0,.int .u64 0]) ?_ 0 _ rfl;(with_reducible repeat (first|refine z2 ?_ _|refine z5 ?_|refine z1 ?_ _));exact BK110.out) hb);have n4_:=z7.mk (zg (by repeat (first|(with_reducible first|exact HB.out|apply z4|apply z0|apply z3|refine z9 ?_ GE110.out)|exact HB.out)) hb);clear HO103;clear HO106;clear BK110;clear HB;have HO103:=n0_;have HO106:=n1_;have HO113:=n2_;have BK110:=n3_;have HB:=n4_;clear n0_ n1_ n2_ n3_ n4_;(try clear hb);(try clear hb2);(try clear hk);(try clear hi);(try clear ho0);obtain ⟨Ao28,co28,eo28⟩:=Kd.z1q HO113.out;subst eo28)|((with_reducible refine zB (f:=57) rfl ?_);refine goesL_ (some 12) rfl rfl Try.func57 (by kernel_rfl) rfl #[.slice Ao28 t111.length co28] rfl (by (try simp only [List.map_toArray,List.map_cons,List.map_nil]);first|done|rfl|(simp only [List.length_drop,List.length_take];rfl)) ?_;(with_reducible refine (zX.calls k _ _ t111 t114 _ ?side1 ?side2 A4.out).mono ?_);(case side1=>repeat (first|exact (Kd.zO HO113.out).2.2|(with_reducible refine Kd.z1o ?_ _)|(with_reducible refine Kd.z1p ?_ _)|(with_reducible refine Kd.z1w ?_)));(case side2=>exact (Kd.zO HO113.out).2.1);rintro e w29 ⟨rfl,hb⟩;refine ⟨_,rfl,?_⟩;have n0_:=z7.mk (Kd.zY (by (with_reducible repeat (first|apply Kd.zx|apply Kd.zy|apply Kd.zD));exact HO103.out) hb);have n1_:=z7.mk (Kd.zY (by (with_reducible repeat (first|apply Kd.zx|apply Kd.zy|apply Kd.zD));exact HO106.out) hb);have n2_:=z7.mk (Kd.zY (by (with_reducible repeat (first|apply Kd.zx|apply Kd.zy|apply Kd.zD));exact HO113.out) hb);have n3_:=z7.mk (zk (g:=gb110) (o:=.cells #[.int .u64 t107,.int .u64 t108] 51 (0,0)) (by (with_reducible repeat (first|refine z2 ?_ _|refine z5 ?_|refine z1 ?_ _));exact BK110.out) hb);have n4_:=z7.mk (zg (by repeat (first|(with_reducible first|exact HB.out|apply z4|apply z0|apply z3|refine z9 ?_ GE110.out)|exact HB.out)) hb);clear HO103;clear HO106;clear HO113;clear BK110;clear HB;have HO103:=n0_;have HO106:=n1_;have HO113:=n2_;have BK110:=n3_;have HB:=n4_;clear n0_ n1_ n2_ n3_ n4_;(try clear hb);(try clear hb2);(try clear hk);(try clear hi)))
   go_ret
   exact ⟨by first|rfl|(simp [zl,zm] <;> rfl)|(simp [*,zl,zm] <;> rfl),by repeat (first|(with_reducible first|exact HB.out|apply z4|apply z0|apply z3|refine z9 ?_ GE110.out)|exact HB.out)⟩
 rw [if_pos c6] at H
 have c6b0 : (t109 == 0) = true:=beq_iff_eq.mpr c6
 have c6b1 : (t109 != 0) = false:=bne_eq_false_iff_eq.mpr c6
 clear c6
 obtain rfl:=Option.some.inj H
 go_enter Try.func42,Try.ntmps42
 go_wp2_with (first|((with_reducible refine zB (f:=84) rfl ?_);refine goesL_ (some 4) rfl rfl Try.func84 (by kernel_rfl) rfl #[] rfl (by (try simp only [List.map_toArray,List.map_cons,List.map_nil]);first|done|rfl|(simp only [List.length_drop,List.length_take];rfl)) ?_;(with_reducible refine (zV.calls  t101 _ A1.out).mono ?_);rintro e w7 ⟨v102,rfl,ho0,hb⟩;refine ⟨_,rfl,?_⟩;have n0_:=z7.mk (Kd.z1A ho0 (zf (by repeat (first|(with_reducible first|exact HB.out|apply z4|apply z0|apply z3)|exact HB.out))));have n1_:=z7.mk (zg (by repeat (first|(with_reducible first|exact HB.out|apply z4|apply z0|apply z3)|exact HB.out)) hb);clear HB;have HO103:=n0_;have HB:=n1_;clear n0_ n1_;(try clear hb);(try clear hb2);(try clear hk);(try clear hi);(try clear ho0))|((with_reducible refine zG (N:=7) rfl ?_);refine Kd.z4D k51 _ 51 ?hg (N:=7) ?hd (xs:=([(⟨0,2⟩ : S51),(⟨0,2⟩ : S51)] : List (S51))) (inner:=[.int .u64 0,.int .u64 2,.int .u64 0,.int .u64 2]) (ok:=fun _=>True) (okp:=fun _=>True) ?hr ?hp (fun _ hk=>hk) trivial (Below.refl _ _) (Nat.le_refl _) (by simp) ?_;(case hd=>rfl);(case hg=>rfl);(case hr=>first|(go_simp;done)|(go_simp;rfl));(case hp=>exact (Reps.c2 (show Kd.M k51 _ _ _ (⟨0,2⟩ : S51) [.int .u64 0,.int .u64 2] from (z1Q _ _ _ (⟨0,2⟩ : S51) )) (Reps.c2 (show Kd.M k51 _ _ _ (⟨0,2⟩ : S51) [.int .u64 0,.int .u64 2] from (z1Q _ _ _ (⟨0,2⟩ : S51) )) (Reps.none _ _))));intro v105 w8 ho9 hb hg_ hnew_;clear hg_ hnew_;(first|rw [← Ny104.out] at ho9|(simp only [Int.reduceToNat] at ho9;rw [← Ny104.out] at ho9));have n0_:=z7.mk (Kd.zY (by (with_reducible repeat (first|apply Kd.zx|apply Kd.zy|apply Kd.zD));exact HO103.out) hb);have n1_:=z7.mk (Kd.z1A ho9 (zf (by repeat (first|(with_reducible first|exact HB.out|apply z4|apply z0|apply z3)|exact HB.out))));have n2_:=z7.mk (zg (by repeat (first|(with_reducible first|exact HB.out|apply z4|apply z0|apply z3)|exact HB.out)) hb);clear HO103;clear HB;have HO103:=n0_;have HO106:=n1_;have HB:=n2_;clear n0_ n1_ n2_;clear hb ho9;obtain ⟨Ao10,co10,eo10⟩:=Kd.z1q HO103.out;subst eo10;obtain ⟨Ao11,co11,eo11⟩:=Kd.z1q HO106.out;subst eo11)|((with_reducible refine zB (f:=43) rfl ?_);refine goesL_ (some 8) rfl rfl Try.func43 (by kernel_rfl) rfl #[.int .i64 1,.slice Ao10 t101.length co10,.slice Ao11 y104.length co11] rfl (by (try simp only [List.map_toArray,List.map_cons,List.map_nil]);first|done|rfl|(simp only [List.length_drop,List.length_take];rfl)) ?_;(with_reducible refine (zz.calls k 1 _ _ t101 _ _ y104 t107 t108 t109 _ ?side1 ?side2 ?side3 ?side4 A2.out).mono ?_);(case side1=>repeat (first|exact (Kd.zO HO103.out).2.2|(with_reducible refine Kd.z1o ?_ _)|(with_reducible refine Kd.z1p ?_ _)|(with_reducible refine Kd.z1w ?_)));(case side2=>exact (Kd.zO HO103.out).2.1);(case side3=>repeat (first|exact (Kd.zO HO106.out).2.2|(with_reducible refine Kd.z1o ?_ _)|(with_reducible refine Kd.z1p ?_ _)|(with_reducible refine Kd.z1w ?_)));(case side4=>exact (Kd.zO HO106.out).2.1);rintro e w12 ⟨rfl,hb⟩;refine ⟨_,rfl,?_⟩;have n0_:=z7.mk (Kd.zY (by (with_reducible repeat (first|apply Kd.zx|apply Kd.zy|apply Kd.zD));exact HO103.out) hb);have n1_:=z7.mk (Kd.zY (by (with_reducible repeat (first|apply Kd.zx|apply Kd.zy|apply Kd.zD));exact HO106.out) hb);have n2_:=z7.mk (zg (by repeat (first|(with_reducible first|exact HB.out|apply z4|apply z0|apply z3)|exact HB.out)) hb);clear HO103;clear HO106;clear HB;have HO103:=n0_;have HO106:=n1_;have HB:=n2_;clear n0_ n1_ n2_;(try clear hb);(try clear hb2);(try clear hk);(try clear hi))|((with_reducible refine zG (N:=1) rfl ?_);refine zE ?hg (N:=1) ?hd (cs:=#[.int .u64 0,.int .u64 0]) (t:=51) ?hr ?_;(case hd=>rfl);(case hg=>rfl);(case hr=>first|(go_simp;done)|(go_simp;rfl));intro gb110 hg w13 hbox hb;have n0_:=z7.mk (Kd.zY (by (with_reducible repeat (first|apply Kd.zx|apply Kd.zy|apply Kd.zD));exact HO103.out) hb);have n1_:=z7.mk (Kd.zY (Kd.z1S (by (with_reducible repeat (first|apply Kd.zx|apply Kd.zy|apply Kd.zD));exact HO106.out) gb110 (Nat.le_of_eq hg.symm)) hb);have n2_:=z7.mk (zg (by repeat (first|(with_reducible first|exact HB.out|apply z4|apply z0|apply z3)|exact HB.out)) hb);have n3_:=z7.mk (hbox);have n4_:=z7.mk ((by rw [hg];exact (zf (by repeat (first|(with_reducible first|exact HB.out|apply z4|apply z0|apply z3)|exact HB.out))) : w.heap.size ≤ gb110));have n5_:=z7.mk ((by rw [hg];exact (zf (by repeat (first|(with_reducible first|exact HB.out|apply z4|apply z0|apply z3)|exact HB.out))) : w.heap.size ≤ gb110));clear HO103;clear HO106;clear HB;have HO103:=n0_;have HO106:=n1_;have HB:=n2_;have BK110:=n3_;have GW110:=n4_;have GE110:=n5_;clear n0_ n1_ n2_ n3_ n4_ n5_;clear hb hbox hg;have hcz14_0 : w13.cell? ⟨gb110,0,none⟩ = some (.int .u64 0):=(zb BK110.out 0).trans rfl;have hcz14_1 : w13.cell? ⟨gb110,1,none⟩ = some (.int .u64 0):=(zb BK110.out 1).trans rfl;have hfz14_0:=z8 BK110.out 0;have hfz14_1:=z8 BK110.out 1)|((with_reducible refine zB (f:=84) rfl ?_);refine goesL_ (some 11) rfl rfl Try.func84 (by kernel_rfl) rfl #[] rfl (by (try simp only [List.map_toArray,List.map_cons,List.map_nil]);first|done|rfl|(simp only [List.length_drop,List.length_take];rfl)) ?_;(with_reducible refine (zV.calls  t111 _ A3.out).mono ?_);rintro e w15 ⟨v112,rfl,ho0,hb⟩;refine ⟨_,rfl,?_⟩;have n0_:=z7.mk (Kd.z3v (by (with_reducible repeat (first|apply Kd.zx|apply Kd.zy|apply Kd.zD));exact (Kd.z1d (Kd.z1g (p:=⟨gb110,1,none⟩) (Kd.z1g (p:=⟨gb110,0,none⟩) (Kd.z1L HO103.out BK110.out (by decide)) (fun _ hk=>hk.2) (.int .u64 t107)) (fun _ hk=>hk.2) (.int .u64 t108)) (fun _ h_=>h_.1))) (Kd.z4R ho0) hb);have n1_:=z7.mk (Kd.zY (by (with_reducible repeat (first|apply Kd.zx|apply Kd.zy|apply Kd.zD));exact (Kd.z1d (Kd.z1g (p:=⟨gb110,1,none⟩) (Kd.z1g (p:=⟨gb110,0,none⟩) (Kd.z1d HO106.out (fun k_ hk=>(⟨hk,hk.2⟩ : _ ∧ k_ ≠ gb110))) (fun _ hk=>hk.2) (.int .u64 t107)) (fun _ hk=>hk.2) (.int .u64 t108)) (fun _ h_=>h_.1))) hb);have n2_:=z7.mk (Kd.z1A (Kd.z4T ho0 (Kd.R_lt (by (with_reducible repeat (first|apply Kd.zx|apply Kd.zy|apply Kd.zD));exact (Kd.z1d (Kd.z1g (p:=⟨gb110,1,none⟩) (Kd.z1g (p:=⟨gb110,0,none⟩) (Kd.z1L HO103.out BK110.out (by decide)) (fun _ hk=>hk.2) (.int .u64 t107)) (fun _ hk=>hk.2) (.int .u64 t108)) (fun _ h_=>h_.1))))) (zf (by repeat (first|(with_reducible first|exact HB.out|apply z4|apply z0|apply z3|refine z9 ?_ GE110.out)|exact HB.out))));have n3_:=z7.mk (zk (g:=gb110) (o:=.cells #[.int .u64 t107,.int .u64 t108] 51 (0,0)) (by (with_reducible repeat (first|refine z2 ?_ _|refine z5 ?_|refine z1 ?_ _));refine zq (cs:=#[.int .u64 t107,.int .u64 0]) ?_ 1 _ rfl;(with_reducible repeat (first|refine z2 ?_ _|refine z5 ?_|refine z1 ?_ _));refine zq (cs:=#[.int .u64 0,.int .u64 0]) ?_ 0 _ rfl;(with_reducible repeat (first|refine z2 ?_ _|refine z5 ?_|refine z1 ?_ _));exact BK110.out) hb);have n4_:=z7.mk (zg (by repeat (first|(with_reducible first|exact HB.out|apply z4|apply z0|apply z3|refine z9 ?_ GE110.out)|exact HB.out)) hb);clear HO103;clear HO106;clear BK110;clear HB;have HO103:=n0_;have HO106:=n1_;have HO113:=n2_;have BK110:=n3_;have HB:=n4_;clear n0_ n1_ n2_ n3_ n4_;(try clear hb);(try clear hb2);(try clear hk);(try clear hi);(try clear ho0);obtain ⟨Ao16,co16,eo16⟩:=Kd.z1q HO113.out;subst eo16)|((with_reducible refine zB (f:=57) rfl ?_);refine goesL_ (some 12) rfl rfl Try.func57 (by kernel_rfl) rfl #[.slice Ao16 t111.length co16] rfl (by (try simp only [List.map_toArray,List.map_cons,List.map_nil]);first|done|rfl|(simp only [List.length_drop,List.length_take];rfl)) ?_;(with_reducible refine (zX.calls k _ _ t111 t114 _ ?side1 ?side2 A4.out).mono ?_);(case side1=>repeat (first|exact (Kd.zO HO113.out).2.2|(with_reducible refine Kd.z1o ?_ _)|(with_reducible refine Kd.z1p ?_ _)|(with_reducible refine Kd.z1w ?_)));(case side2=>exact (Kd.zO HO113.out).2.1);rintro e w17 ⟨rfl,hb⟩;refine ⟨_,rfl,?_⟩;have n0_:=z7.mk (Kd.zY (by (with_reducible repeat (first|apply Kd.zx|apply Kd.zy|apply Kd.zD));exact HO103.out) hb);have n1_:=z7.mk (Kd.zY (by (with_reducible repeat (first|apply Kd.zx|apply Kd.zy|apply Kd.zD));exact HO106.out) hb);have n2_:=z7.mk (Kd.zY (by (with_reducible repeat (first|apply Kd.zx|apply Kd.zy|apply Kd.zD));exact HO113.out) hb);have n3_:=z7.mk (zk (g:=gb110) (o:=.cells #[.int .u64 t107,.int .u64 t108] 51 (0,0)) (by (with_reducible repeat (first|refine z2 ?_ _|refine z5 ?_|refine z1 ?_ _));exact BK110.out) hb);have n4_:=z7.mk (zg (by repeat (first|(with_reducible first|exact HB.out|apply z4|apply z0|apply z3|refine z9 ?_ GE110.out)|exact HB.out)) hb);clear HO103;clear HO106;clear HO113;clear BK110;clear HB;have HO103:=n0_;have HO106:=n1_;have HO113:=n2_;have BK110:=n3_;have HB:=n4_;clear n0_ n1_ n2_ n3_ n4_;(try clear hb);(try clear hb2);(try clear hk);(try clear hi);have hcz18_0 : w17.cell? ⟨gb110,0,none⟩ = some (.int .u64 t107):=(zb BK110.out 0).trans rfl;have hcz18_1 : w17.cell? ⟨gb110,1,none⟩ = some (.int .u64 t108):=(zb BK110.out 1).trans rfl;have hfz18_0:=z8 BK110.out 0;have hfz18_1:=z8 BK110.out 1))
 go_ret
 exact ⟨by first|rfl|(simp [zl,zm] <;> rfl)|(simp [*,zl,zm] <;> rfl),by repeat (first|(with_reducible first|exact HB.out|apply z4|apply z0|apply z3|refine z9 ?_ GE110.out)|exact HB.out)⟩
end Go.Proofs.Ytngcaphdkgihmaa.P
namespace Go.Proofs.Ytngcaphdkgihmaa.P
open Go.RowKit Go.Proofs.YtngcaphdkgihmaaW.PrintWords Go.Proofs.YtngcaphdkgihmaaW.PrintLast Go.Proofs.YtngcaphdkgihmaaW.PrintMore
attribute [local go_sem] z17 z19 z1e z1f z12 z13 z18 z1a   -- for this text's walks alone
set_option linter.unusedVariables false
set_option linter.unusedSimpArgs false
def zv.l0 : Nat → List (S87) → List (S114) → Int → Option ((List (S114)))
 | 0,_,_,_=>none
 | k + 1,x0,x3,x4=>if x4 < (x0.length : Int) then (if 0 ≤ x4 then (if x3.length < 3518437208883 then (zv.l0 k x0 (x3 ++ [(⟨(zd x0 x4).f0,(zd x0 x4).f1,(zd x0 x4).f2,(⟨(zd x0 x4).f3.f0,(zd x0 x4).f3.f1⟩ : S61)⟩ : S114)]) (wrap64 (x4 + 1))) else (none)) else (none)) else (some x3)
def zv.f (k : Nat) (l0 : List (S87)) : Option ((List (S114))):=zv.l0 k l0 ([] : List (S114)) 0
theorem zv.z1b : ∀ k,(∀ y0 y1 y2,LeO (zv.l0 k y0 y1 y2) (zv.l0 (k + 1) y0 y1 y2))
 | 0=>fun _ _ _ r h=>by simp [zv.l0] at h
 | k + 1=>by
  have ih0:=zv.z1b k
  · intro y0 y1 y2
    unfold zv.l0
    repeat' first
    | (with_reducible exact ih0 _ _ _)
    | (with_reducible exact LeO.refl _)
    | (with_reducible exact LeO.none _)
    | (with_reducible refine LeO.ite ?_ ?_)
    | (with_reducible refine LeO.bind ?_ (fun _=>?_))
    | exact ih0 _ _ _
    | exact LeO.none _
    | refine LeO.ite ?_ ?_
    | refine LeO.bind ?_ (fun _=>?_)
theorem zv.mono : ∀ a0 k,LeO (zv.f k a0) (zv.f (k + 1) a0):=by
 intro a0 k
 have ih0:=zv.z1b k
 unfold zv.f
 repeat' first
  | (with_reducible exact ih0 _ _ _)
  | (with_reducible exact LeO.refl _)
  | (with_reducible exact LeO.none _)
  | (with_reducible refine LeO.ite ?_ ?_)
  | (with_reducible refine LeO.bind ?_ (fun _=>?_))
  | exact ih0 _ _ _
  | exact LeO.none _
  | refine LeO.ite ?_ ?_
  | refine LeO.bind ?_ (fun _=>?_)
def zv.T5 : Bool × List (List Nat × List Nat):=(true,[([],[]),([],[]),([],[]),([1,2],[1,2]),([3],[3]),([4],[4]),([],[]),([],[]),([6,7],[6,7]),([8],[8]),([9],[9]),([],[]),([],[]),([11,12],[11,12]),([13],[13]),([14],[14]),([],[]),([],[]),([16,17],[16,17]),([18],[18]),([19],[19]),([5,10,15,20],[5,10,15,20]),([21],[21]),([0,22],[0,22]),([23,23,0,1,2,3,4,5,6,7,8,9,10,11,12,13,14,15,16,17,18,19,20,21,22,23],[0,23])])
def zv.B5 : List Nat:=[0,0,0,6,14,30,0,0,192,448,960,0,0,6144,14336,30720,0,0,196608,458752,983040,2097150,4194302,8388607,16777215]
theorem zv.tab5 : rtab .any (opsOf Try.f44 5) = zv.T5:=by kernel_rfl
theorem zv.bits5 : waitsOk zv.T5.2 zv.B5 = true:=by kernel_rfl
set_option maxHeartbeats 8000000 in
set_option maxRecDepth 100000 in
theorem zv.calls (k : Nat) (A0 : Option Addr) (c0 : Nat) (l0 : List (S87)) (r : List (S114)) (w : World) (hr0 : Kd.C k87 w A0 l0.length l0) (hc0 : l0.length ≤ c0) (h : zv.f k l0 = some r) :
 Calls Try.prog 44 #[.slice A0 l0.length c0] w fun e w'=>∃ v0_ : Value,e = .returned (v0_) ∧ Kd.R k114 114 w' w.heap.size (fun _=>True) v0_ r ∧ Below w.heap.size w w':=by
 have hu51:=Try.underlying51
 have hu114:=Try.underlying114
 have HR0:=z7.mk hr0
 have HC0:=z7.mk hc0
 clear hr0 hc0
 have HB:=z7.mk (Below.refl w.heap.size w)
 have H : (zv.l0 k l0 ([] : List (S114)) 0) = some r:=h
 clear h
 have H':=z7.mk H
 clear H
 go_enter Try.func44,Try.ntmps44
 go_wp2
 go_loopg [3,4] k (fun kq v3 v4 w'=>∃ (x3_1 : List (S114)) (x4_1 : Int),v4 = .int .i64 x4_1 ∧ z7 (zv.l0 kq l0 x3_1 x4_1 = some r) ∧ z7 (kq ≤ k) ∧ z7 (Kd.R k114 114 w' w.heap.size (fun _=>True) v3 x3_1) ∧ z7 (Below w.heap.size w w'))
 case atStart=>exact ⟨(([] : List (S114))),(0),(by first|rfl|(simp;done)|(simp [*];done)),H',⟨Nat.le_refl _⟩,⟨by first|exact Kd.z2r _ _ _ _ _|exact Kd.z2W _ _ _ _ _|exact Kd.z30 _ _ _ _ _|exact Kd.z2Y _ _ _ _ _|exact Kd.z2Z _ _ _ _ _⟩,⟨by repeat (first|(with_reducible first|exact HB.out|apply z4|apply z0|apply z3)|exact HB.out)⟩⟩
 case round =>
  clear H'
  obtain ⟨x3_1,x4_1,rfl,HA,HK1,HO_3,HB⟩:=hrel
  cases gk with
  | zero=>exact absurd HA.out (by simp [zv.l0])
  | succ k1 =>
   have H:=HA.out
   clear HA
   simp only [zv.l0] at H
   by_cases c2 : x4_1 < (l0.length : Int)
   rotate_left
   · rw [if_neg c2] at H
     have c2b0 : decide (x4_1 < (l0.length : Int)) = false:=decide_eq_false c2
     clear c2
     obtain rfl:=Option.some.inj H
     go_wp2
     go_ret
     exact ⟨_,by first|rfl|(simp [zl,zm] <;> rfl)|(simp [*,zl,zm] <;> rfl),by (with_reducible repeat (first|apply Kd.zx|apply Kd.zy|apply Kd.zD));exact HO_3.out,by repeat (first|(with_reducible first|exact HB.out|apply z4|apply z0|apply z3)|exact HB.out)⟩
   rw [if_pos c2] at H
   have c2b0 : decide (x4_1 < (l0.length : Int)) = true:=decide_eq_true c2
   clear c2
   by_cases c3 : 0 ≤ x4_1
   rotate_left
   · rw [if_neg c3] at H
     exact absurd H (by simp)
   rw [if_pos c3] at H
   have c3b0 : decide (0 ≤ x4_1) = true:=decide_eq_true c3
   clear c3
   by_cases c4 : x3_1.length < 3518437208883
   rotate_left
   · rw [if_neg c4] at H
     exact absurd H (by simp)
   rw [if_pos c4] at H
   have LMc4:=z7.mk c4
   clear c4
   obtain ⟨y105,hy105⟩ : ∃ y_ : List (S114),y_ = (x3_1 ++ [(⟨(zd l0 x4_1).f0,(zd l0 x4_1).f1,(zd l0 x4_1).f2,(⟨(zd l0 x4_1).f3.f0,(zd l0 x4_1).f3.f1⟩ : S61)⟩ : S114)]):=⟨_,rfl⟩
   replace H : (zv.l0 k1 l0 y105 (wrap64 (x4_1 + 1))) = some r:=by first|(rw [hy105];with_reducible exact H)|(have H2_:=(Option.bind_some _ _).symm.trans H;rw [hy105];with_reducible exact H2_)|(have H2_:=(Option.bind_some _ _).symm.trans H;with_reducible exact H2_)|with_reducible exact H|(rw [hy105];exact H)|exact H
   have Ny105:=z7.mk hy105
   clear hy105
   have H':=z7.mk H
   clear H
   try go_wp2
   have n0_:=z7.mk (Kd.zD HO_3.out)
   have n1_:=z7.mk (z3 HB.out)
   clear HO_3
   clear HB
   have HO_3:=n0_
   have HB:=n1_
   clear n0_ n1_
   have p101 : 0 ≤ (x4_1 : Int):=of_decide_eq_true (by first|(with_reducible assumption)|assumption)
   have q101 : x4_1 < (l0.length : Int):=of_decide_eq_true (by first|(with_reducible assumption)|assumption)
   obtain ⟨ad101,e101,hx101_0,hx101_1,hx101_2,hx101_3,hx101_4⟩:=z1R HR0.out x4_1 p101 q101
   have hw101_4:=hx101_4
   have hw101_3:=hx101_3
   have hw101_2:=hx101_2
   have hw101_1:=hx101_1
   have hw101_0:=hx101_0
   cases e101
   replace hx101_0:=(HB.out.cell (World.block_lt_of_cell? w _ hx101_0)).trans hx101_0
   replace hx101_1:=(HB.out.cell (World.block_lt_of_cell? w _ hx101_1)).trans hx101_1
   replace hx101_2:=(HB.out.cell (World.block_lt_of_cell? w _ hx101_2)).trans hx101_2
   replace hx101_3:=(HB.out.cell (World.block_lt_of_cell? w _ hx101_3)).trans hx101_3
   replace hx101_4:=(HB.out.cell (World.block_lt_of_cell? w _ hx101_4)).trans hx101_4
   replace p101:=eq_true p101
   replace q101:=eq_true q101
   have p102 : 0 ≤ (x4_1 : Int):=of_decide_eq_true (by first|(with_reducible assumption)|assumption)
   have q102 : x4_1 < (l0.length : Int):=of_decide_eq_true (by first|(with_reducible assumption)|assumption)
   obtain ⟨ad102,e102,hx102_0,hx102_1,hx102_2,hx102_3,hx102_4⟩:=z1R HR0.out x4_1 p102 q102
   have hw102_4:=hx102_4
   have hw102_3:=hx102_3
   have hw102_2:=hx102_2
   have hw102_1:=hx102_1
   have hw102_0:=hx102_0
   obtain rfl : ad101 = ad102:=(by injection e102)
   replace hx102_0:=(HB.out.cell (World.block_lt_of_cell? w _ hx102_0)).trans hx102_0
   replace hx102_1:=(HB.out.cell (World.block_lt_of_cell? w _ hx102_1)).trans hx102_1
   replace hx102_2:=(HB.out.cell (World.block_lt_of_cell? w _ hx102_2)).trans hx102_2
   replace hx102_3:=(HB.out.cell (World.block_lt_of_cell? w _ hx102_3)).trans hx102_3
   replace hx102_4:=(HB.out.cell (World.block_lt_of_cell? w _ hx102_4)).trans hx102_4
   replace p102:=eq_true p102
   replace q102:=eq_true q102
   have p103 : 0 ≤ (x4_1 : Int):=of_decide_eq_true (by first|(with_reducible assumption)|assumption)
   have q103 : x4_1 < (l0.length : Int):=of_decide_eq_true (by first|(with_reducible assumption)|assumption)
   obtain ⟨ad103,e103,hx103_0,hx103_1,hx103_2,hx103_3,hx103_4⟩:=z1R HR0.out x4_1 p103 q103
   have hw103_4:=hx103_4
   have hw103_3:=hx103_3
   have hw103_2:=hx103_2
   have hw103_1:=hx103_1
   have hw103_0:=hx103_0
   obtain rfl : ad101 = ad103:=(by injection e103)
   replace hx103_0:=(HB.out.cell (World.block_lt_of_cell? w _ hx103_0)).trans hx103_0
   replace hx103_1:=(HB.out.cell (World.block_lt_of_cell? w _ hx103_1)).trans hx103_1
   replace hx103_2:=(HB.out.cell (World.block_lt_of_cell? w _ hx103_2)).trans hx103_2
   replace hx103_3:=(HB.out.cell (World.block_lt_of_cell? w _ hx103_3)).trans hx103_3
   replace hx103_4:=(HB.out.cell (World.block_lt_of_cell? w _ hx103_4)).trans hx103_4
   replace p103:=eq_true p103
   replace q103:=eq_true q103
   have p104 : 0 ≤ (x4_1 : Int):=of_decide_eq_true (by first|(with_reducible assumption)|assumption)
   have q104 : x4_1 < (l0.length : Int):=of_decide_eq_true (by first|(with_reducible assumption)|assumption)
   obtain ⟨ad104,e104,hx104_0,hx104_1,hx104_2,hx104_3,hx104_4⟩:=z1R HR0.out x4_1 p104 q104
   have hw104_4:=hx104_4
   have hw104_3:=hx104_3
   have hw104_2:=hx104_2
   have hw104_1:=hx104_1
   have hw104_0:=hx104_0
   obtain rfl : ad101 = ad104:=(by injection e104)
   replace hx104_0:=(HB.out.cell (World.block_lt_of_cell? w _ hx104_0)).trans hx104_0
   replace hx104_1:=(HB.out.cell (World.block_lt_of_cell? w _ hx104_1)).trans hx104_1
   replace hx104_2:=(HB.out.cell (World.block_lt_of_cell? w _ hx104_2)).trans hx104_2
   replace hx104_3:=(HB.out.cell (World.block_lt_of_cell? w _ hx104_3)).trans hx104_3
   replace hx104_4:=(HB.out.cell (World.block_lt_of_cell? w _ hx104_4)).trans hx104_4
   replace p104:=eq_true p104
   replace q104:=eq_true q104
   refine start_ (n:=25) (S:=fun w'=>w'.cell? (ad101.add ((x4_1).toNat * 5)) = some (.int .i64 ((zd l0 x4_1).f0)) ∧ w'.cell? ⟨(ad101.add ((x4_1).toNat * 5)).block,(ad101.add ((x4_1).toNat * 5)).off + 1,none⟩ = some (.int .i64 ((zd l0 x4_1).f1)) ∧ w'.cell? ⟨(ad101.add ((x4_1).toNat * 5)).block,(ad101.add ((x4_1).toNat * 5)).off + 2,none⟩ = some (.int .i64 ((zd l0 x4_1).f2)) ∧ w'.cell? ⟨(ad101.add ((x4_1).toNat * 5)).block,(ad101.add ((x4_1).toNat * 5)).off + 3,none⟩ = some (.int .u64 ((zd l0 x4_1).f3.f0)) ∧ w'.cell? ⟨(ad101.add ((x4_1).toNat * 5)).block,(ad101.add ((x4_1).toNat * 5)).off + 4,none⟩ = some (.int .u64 ((zd l0 x4_1).f3.f1)) ∧ w'.cell? (ad101.add ((x4_1).toNat * 5)) = some (.int .i64 ((zd l0 x4_1).f0)) ∧ w'.cell? ⟨(ad101.add ((x4_1).toNat * 5)).block,(ad101.add ((x4_1).toNat * 5)).off + 1,none⟩ = some (.int .i64 ((zd l0 x4_1).f1)) ∧ w'.cell? ⟨(ad101.add ((x4_1).toNat * 5)).block,(ad101.add ((x4_1).toNat * 5)).off + 2,none⟩ = some (.int .i64 ((zd l0 x4_1).f2)) ∧ w'.cell? ⟨(ad101.add ((x4_1).toNat * 5)).block,(ad101.add ((x4_1).toNat * 5)).off + 3,none⟩ = some (.int .u64 ((zd l0 x4_1).f3.f0)) ∧ w'.cell? ⟨(ad101.add ((x4_1).toNat * 5)).block,(ad101.add ((x4_1).toNat * 5)).off + 4,none⟩ = some (.int .u64 ((zd l0 x4_1).f3.f1)) ∧ w'.cell? (ad101.add ((x4_1).toNat * 5)) = some (.int .i64 ((zd l0 x4_1).f0)) ∧ w'.cell? ⟨(ad101.add ((x4_1).toNat * 5)).block,(ad101.add ((x4_1).toNat * 5)).off + 1,none⟩ = some (.int .i64 ((zd l0 x4_1).f1)) ∧ w'.cell? ⟨(ad101.add ((x4_1).toNat * 5)).block,(ad101.add ((x4_1).toNat * 5)).off + 2,none⟩ = some (.int .i64 ((zd l0 x4_1).f2)) ∧ w'.cell? ⟨(ad101.add ((x4_1).toNat * 5)).block,(ad101.add ((x4_1).toNat * 5)).off + 3,none⟩ = some (.int .u64 ((zd l0 x4_1).f3.f0)) ∧ w'.cell? ⟨(ad101.add ((x4_1).toNat * 5)).block,(ad101.add ((x4_1).toNat * 5)).off + 4,none⟩ = some (.int .u64 ((zd l0 x4_1).f3.f1)) ∧ w'.cell? (ad101.add ((x4_1).toNat * 5)) = some (.int .i64 ((zd l0 x4_1).f0)) ∧ w'.cell? ⟨(ad101.add ((x4_1).toNat * 5)).block,(ad101.add ((x4_1).toNat * 5)).off + 1,none⟩ = some (.int .i64 ((zd l0 x4_1).f1)) ∧ w'.cell? ⟨(ad101.add ((x4_1).toNat * 5)).block,(ad101.add ((x4_1).toNat * 5)).off + 2,none⟩ = some (.int .i64 ((zd l0 x4_1).f2)) ∧ w'.cell? ⟨(ad101.add ((x4_1).toNat * 5)).block,(ad101.add ((x4_1).toNat * 5)).off + 3,none⟩ = some (.int .u64 ((zd l0 x4_1).f3.f0)) ∧ w'.cell? ⟨(ad101.add ((x4_1).toNat * 5)).block,(ad101.add ((x4_1).toNat * 5)).off + 4,none⟩ = some (.int .u64 ((zd l0 x4_1).f3.f1))) (ds:=[]) #[false,false,false,false,false,false,false,false,false,false,false,false,false,false,false,false,false,false,false,false,false,false,false,false,false] (by kernel_rfl) rfl rfl ⟨((HB.out.cell (World.block_lt_of_cell? w _ hw101_0)).trans hw101_0),((HB.out.cell (World.block_lt_of_cell? w _ hw101_1)).trans hw101_1),((HB.out.cell (World.block_lt_of_cell? w _ hw101_2)).trans hw101_2),((HB.out.cell (World.block_lt_of_cell? w _ hw101_3)).trans hw101_3),((HB.out.cell (World.block_lt_of_cell? w _ hw101_4)).trans hw101_4),((HB.out.cell (World.block_lt_of_cell? w _ hw102_0)).trans hw102_0),((HB.out.cell (World.block_lt_of_cell? w _ hw102_1)).trans hw102_1),((HB.out.cell (World.block_lt_of_cell? w _ hw102_2)).trans hw102_2),((HB.out.cell (World.block_lt_of_cell? w _ hw102_3)).trans hw102_3),((HB.out.cell (World.block_lt_of_cell? w _ hw102_4)).trans hw102_4),((HB.out.cell (World.block_lt_of_cell? w _ hw103_0)).trans hw103_0),((HB.out.cell (World.block_lt_of_cell? w _ hw103_1)).trans hw103_1),((HB.out.cell (World.block_lt_of_cell? w _ hw103_2)).trans hw103_2),((HB.out.cell (World.block_lt_of_cell? w _ hw103_3)).trans hw103_3),((HB.out.cell (World.block_lt_of_cell? w _ hw103_4)).trans hw103_4),((HB.out.cell (World.block_lt_of_cell? w _ hw104_0)).trans hw104_0),((HB.out.cell (World.block_lt_of_cell? w _ hw104_1)).trans hw104_1),((HB.out.cell (World.block_lt_of_cell? w _ hw104_2)).trans hw104_2),((HB.out.cell (World.block_lt_of_cell? w _ hw104_3)).trans hw104_3),((HB.out.cell (World.block_lt_of_cell? w _ hw104_4)).trans hw104_4)⟩ (fun hHeld=>?_);refine z1K zv.tab5 zv.bits5 (fun HT_ HW_=>?_)
   generalize wr.drew = w5 at HO_3 HB hx101_0 hx101_1 hx101_2 hx101_3 hx101_4 hx102_0 hx102_1 hx102_2 hx102_3 hx102_4 hx103_0 hx103_1 hx103_2 hx103_3 hx103_4 hx104_0 hx104_1 hx104_2 hx104_3 hx104_4 hHeld ⊢
   refine pure_ (i:=0) (N:=some 11) (v:=?_) (a':=?_) #[true,false,false,false,false,false,false,false,false,false,false,false,false,false,false,false,false,false,false,false,false,false,false,false,false] rfl rfl (zU HT_.out (by kernel_rfl)) (fun _ _ _ h=>h) (Or.inl ⟨by rfl,?_⟩) ?_ ?_
   rotate_left
   · intro w'
     go_simp
     with_reducible rfl
   rotate_left
   · simp only [Act.put,List.setIfInBounds_toArray,List.set_cons_zero,List.set_cons_succ,zH,zL]
     rfl
   refine pure_ (i:=1) (N:=some 12) (v:=?_) (a':=?_) #[true,true,false,false,false,false,false,false,false,false,false,false,false,false,false,false,false,false,false,false,false,false,false,false,false] rfl rfl (zU HT_.out (by kernel_rfl)) (fun _ _ _ h=>h) (Or.inl ⟨by rfl,?_⟩) ?_ ?_
   rotate_left
   · intro w'
     go_simp
     with_reducible rfl
   rotate_left
   · simp only [Act.put,List.setIfInBounds_toArray,List.set_cons_zero,List.set_cons_succ,zH,zL]
     rfl
   refine pure_ (i:=2) (N:=some 13) (v:=?_) (a':=?_) #[true,true,true,false,false,false,false,false,false,false,false,false,false,false,false,false,false,false,false,false,false,false,false,false,false] rfl rfl (zU HT_.out (by kernel_rfl)) (fun _ _ _ h=>h) (Or.inl ⟨by rfl,?_⟩) ?_ ?_
   rotate_left
   · intro w'
     go_simp
     with_reducible rfl
   rotate_left
   · simp only [Act.put,List.setIfInBounds_toArray,List.set_cons_zero,List.set_cons_succ,zH,zL]
     rfl
   refine pure_ (i:=3) (N:=some 14) (v:=?_) (a':=?_) #[true,true,true,true,false,false,false,false,false,false,false,false,false,false,false,false,false,false,false,false,false,false,false,false,false] rfl rfl (zU HT_.out (by kernel_rfl)) (fun _ _ _ h=>h) (Or.inl ⟨by rfl,?_⟩) ?_ ?_
   rotate_left
   · intro w'
     go_simp
     with_reducible rfl
   rotate_left
   · simp only [Act.put,List.setIfInBounds_toArray,List.set_cons_zero,List.set_cons_succ,zH,zL]
     rfl
   refine pure_ (i:=4) (N:=some 15) (v:=?_) (a':=?_) #[true,true,true,true,true,false,false,false,false,false,false,false,false,false,false,false,false,false,false,false,false,false,false,false,false] rfl rfl (zU HT_.out (by kernel_rfl)) (fun _ _ _ h=>h) (Or.inl ⟨by rfl,?_⟩) ?_ ?_
   rotate_left
   · intro w'
     go_simp
     with_reducible rfl
   rotate_left
   · simp only [Act.put,List.setIfInBounds_toArray,List.set_cons_zero,List.set_cons_succ,zH,zL]
     rfl
   refine pure_ (i:=6) (N:=some 17) (v:=?_) (a':=?_) #[true,true,true,true,true,false,true,false,false,false,false,false,false,false,false,false,false,false,false,false,false,false,false,false,false] rfl rfl (zU HT_.out (by kernel_rfl)) (fun _ _ _ h=>h) (Or.inl ⟨by rfl,?_⟩) ?_ ?_
   rotate_left
   · intro w'
     go_simp
     with_reducible rfl
   rotate_left
   · simp only [Act.put,List.setIfInBounds_toArray,List.set_cons_zero,List.set_cons_succ,zH,zL]
     rfl
   refine pure_ (i:=7) (N:=some 18) (v:=?_) (a':=?_) #[true,true,true,true,true,false,true,true,false,false,false,false,false,false,false,false,false,false,false,false,false,false,false,false,false] rfl rfl (zU HT_.out (by kernel_rfl)) (fun _ _ _ h=>h) (Or.inl ⟨by rfl,?_⟩) ?_ ?_
   rotate_left
   · intro w'
     go_simp
     with_reducible rfl
   rotate_left
   · simp only [Act.put,List.setIfInBounds_toArray,List.set_cons_zero,List.set_cons_succ,zH,zL]
     rfl
   refine pure_ (i:=8) (N:=some 19) (v:=?_) (a':=?_) #[true,true,true,true,true,false,true,true,true,false,false,false,false,false,false,false,false,false,false,false,false,false,false,false,false] rfl rfl (zU HT_.out (by kernel_rfl)) (fun _ _ _ h=>h) (Or.inl ⟨by rfl,?_⟩) ?_ ?_
   rotate_left
   · intro w'
     go_simp
     with_reducible rfl
   rotate_left
   · simp only [Act.put,List.setIfInBounds_toArray,List.set_cons_zero,List.set_cons_succ,zH,zL]
     rfl
   refine pure_ (i:=9) (N:=some 20) (v:=?_) (a':=?_) #[true,true,true,true,true,false,true,true,true,true,false,false,false,false,false,false,false,false,false,false,false,false,false,false,false] rfl rfl (zU HT_.out (by kernel_rfl)) (fun _ _ _ h=>h) (Or.inl ⟨by rfl,?_⟩) ?_ ?_
   rotate_left
   · intro w'
     go_simp
     with_reducible rfl
   rotate_left
   · simp only [Act.put,List.setIfInBounds_toArray,List.set_cons_zero,List.set_cons_succ,zH,zL]
     rfl
   refine pure_ (i:=11) (N:=some 22) (v:=?_) (a':=?_) #[true,true,true,true,true,false,true,true,true,true,false,true,false,false,false,false,false,false,false,false,false,false,false,false,false] rfl rfl (zU HT_.out (by kernel_rfl)) (fun _ _ _ h=>h) (Or.inl ⟨by rfl,?_⟩) ?_ ?_
   rotate_left
   · intro w'
     go_simp
     with_reducible rfl
   rotate_left
   · simp only [Act.put,List.setIfInBounds_toArray,List.set_cons_zero,List.set_cons_succ,zH,zL]
     rfl
   refine pure_ (i:=12) (N:=some 23) (v:=?_) (a':=?_) #[true,true,true,true,true,false,true,true,true,true,false,true,true,false,false,false,false,false,false,false,false,false,false,false,false] rfl rfl (zU HT_.out (by kernel_rfl)) (fun _ _ _ h=>h) (Or.inl ⟨by rfl,?_⟩) ?_ ?_
   rotate_left
   · intro w'
     go_simp
     with_reducible rfl
   rotate_left
   · simp only [Act.put,List.setIfInBounds_toArray,List.set_cons_zero,List.set_cons_succ,zH,zL]
     rfl
   refine pure_ (i:=13) (N:=some 24) (v:=?_) (a':=?_) #[true,true,true,true,true,false,true,true,true,true,false,true,true,true,false,false,false,false,false,false,false,false,false,false,false] rfl rfl (zU HT_.out (by kernel_rfl)) (fun _ _ _ h=>h) (Or.inl ⟨by rfl,?_⟩) ?_ ?_
   rotate_left
   · intro w'
     go_simp
     with_reducible rfl
   rotate_left
   · simp only [Act.put,List.setIfInBounds_toArray,List.set_cons_zero,List.set_cons_succ,zH,zL]
     rfl
   refine pure_ (i:=14) (N:=some 25) (v:=?_) (a':=?_) #[true,true,true,true,true,false,true,true,true,true,false,true,true,true,true,false,false,false,false,false,false,false,false,false,false] rfl rfl (zU HT_.out (by kernel_rfl)) (fun _ _ _ h=>h) (Or.inl ⟨by rfl,?_⟩) ?_ ?_
   rotate_left
   · intro w'
     go_simp
     with_reducible rfl
   rotate_left
   · simp only [Act.put,List.setIfInBounds_toArray,List.set_cons_zero,List.set_cons_succ,zH,zL]
     rfl
   refine pure_ (i:=16) (N:=some 27) (v:=?_) (a':=?_) #[true,true,true,true,true,false,true,true,true,true,false,true,true,true,true,false,true,false,false,false,false,false,false,false,false] rfl rfl (zU HT_.out (by kernel_rfl)) (fun _ _ _ h=>h) (Or.inl ⟨by rfl,?_⟩) ?_ ?_
   rotate_left
   · intro w'
     go_simp
     with_reducible rfl
   rotate_left
   · simp only [Act.put,List.setIfInBounds_toArray,List.set_cons_zero,List.set_cons_succ,zH,zL]
     rfl
   refine pure_ (i:=17) (N:=some 28) (v:=?_) (a':=?_) #[true,true,true,true,true,false,true,true,true,true,false,true,true,true,true,false,true,true,false,false,false,false,false,false,false] rfl rfl (zU HT_.out (by kernel_rfl)) (fun _ _ _ h=>h) (Or.inl ⟨by rfl,?_⟩) ?_ ?_
   rotate_left
   · intro w'
     go_simp
     with_reducible rfl
   rotate_left
   · simp only [Act.put,List.setIfInBounds_toArray,List.set_cons_zero,List.set_cons_succ,zH,zL]
     rfl
   refine pure_ (i:=18) (N:=some 29) (v:=?_) (a':=?_) #[true,true,true,true,true,false,true,true,true,true,false,true,true,true,true,false,true,true,true,false,false,false,false,false,false] rfl rfl (zU HT_.out (by kernel_rfl)) (fun _ _ _ h=>h) (Or.inl ⟨by rfl,?_⟩) ?_ ?_
   rotate_left
   · intro w'
     go_simp
     with_reducible rfl
   rotate_left
   · simp only [Act.put,List.setIfInBounds_toArray,List.set_cons_zero,List.set_cons_succ,zH,zL]
     rfl
   refine pure_ (i:=19) (N:=some 30) (v:=?_) (a':=?_) #[true,true,true,true,true,false,true,true,true,true,false,true,true,true,true,false,true,true,true,true,false,false,false,false,false] rfl rfl (zU HT_.out (by kernel_rfl)) (fun _ _ _ h=>h) (Or.inl ⟨by rfl,?_⟩) ?_ ?_
   rotate_left
   · intro w'
     go_simp
     with_reducible rfl
   rotate_left
   · simp only [Act.put,List.setIfInBounds_toArray,List.set_cons_zero,List.set_cons_succ,zH,zL]
     rfl
   refine take_ (i:=5) (N:=some 16) (v:=?_) (a':=?_) #[true,true,true,true,true,true,true,true,true,true,false,true,true,true,true,false,true,true,true,true,false,false,false,false,false] rfl rfl (z1c HT_.out HW_.out (by kernel_rfl)) (fun _ _ _ h=>h) (Or.inl ⟨by rfl,?_⟩) hHeld ?_ ?_
   rotate_left
   · rintro w' ⟨s0,s1,s2,s3,s4,s5,s6,s7,s8,s9,s10,s11,s12,s13,s14,s15,s16,s17,s18,s19⟩
     go_simp
     with_reducible rfl
   rotate_left
   · simp only [Act.put,List.setIfInBounds_toArray,List.set_cons_zero,List.set_cons_succ,zH,zL]
     rfl
   refine take_ (i:=10) (N:=some 21) (v:=?_) (a':=?_) #[true,true,true,true,true,true,true,true,true,true,true,true,true,true,true,false,true,true,true,true,false,false,false,false,false] rfl rfl (z1c HT_.out HW_.out (by kernel_rfl)) (fun _ _ _ h=>h) (Or.inl ⟨by rfl,?_⟩) hHeld ?_ ?_
   rotate_left
   · rintro w' ⟨s0,s1,s2,s3,s4,s5,s6,s7,s8,s9,s10,s11,s12,s13,s14,s15,s16,s17,s18,s19⟩
     go_simp
     with_reducible rfl
   rotate_left
   · simp only [Act.put,List.setIfInBounds_toArray,List.set_cons_zero,List.set_cons_succ,zH,zL]
     rfl
   refine take_ (i:=15) (N:=some 26) (v:=?_) (a':=?_) #[true,true,true,true,true,true,true,true,true,true,true,true,true,true,true,true,true,true,true,true,false,false,false,false,false] rfl rfl (z1c HT_.out HW_.out (by kernel_rfl)) (fun _ _ _ h=>h) (Or.inl ⟨by rfl,?_⟩) hHeld ?_ ?_
   rotate_left
   · rintro w' ⟨s0,s1,s2,s3,s4,s5,s6,s7,s8,s9,s10,s11,s12,s13,s14,s15,s16,s17,s18,s19⟩
     go_simp
     with_reducible rfl
   rotate_left
   · simp only [Act.put,List.setIfInBounds_toArray,List.set_cons_zero,List.set_cons_succ,zH,zL]
     rfl
   refine take_ (i:=20) (N:=some 31) (v:=?_) (a':=?_) #[true,true,true,true,true,true,true,true,true,true,true,true,true,true,true,true,true,true,true,true,true,false,false,false,false] rfl rfl (z1c HT_.out HW_.out (by kernel_rfl)) (fun _ _ _ h=>h) (Or.inl ⟨by rfl,?_⟩) hHeld ?_ ?_
   rotate_left
   · rintro w' ⟨s0,s1,s2,s3,s4,s5,s6,s7,s8,s9,s10,s11,s12,s13,s14,s15,s16,s17,s18,s19⟩
     go_simp
     with_reducible rfl
   rotate_left
   · simp only [Act.put,List.setIfInBounds_toArray,List.set_cons_zero,List.set_cons_succ,zH,zL]
     rfl
   refine pure_ (i:=21) (N:=some 32) (v:=?_) (a':=?_) #[true,true,true,true,true,true,true,true,true,true,true,true,true,true,true,true,true,true,true,true,true,true,false,false,false] rfl rfl (zU HT_.out (by kernel_rfl)) (fun _ _ _ h=>h) (Or.inl ⟨by rfl,?_⟩) ?_ ?_
   rotate_left
   · intro w'
     go_simp
     with_reducible rfl
   rotate_left
   · simp only [Act.put,List.setIfInBounds_toArray,List.set_cons_zero,List.set_cons_succ,zH,zL]
     rfl
   refine one_ (i:=22) (N:=some 33) #[true,true,true,true,true,true,true,true,true,true,true,true,true,true,true,true,true,true,true,true,true,true,true,false,false] rfl rfl (z1I HT_.out (by kernel_rfl)) (by decide) (fun K hK=>?_)
   refine value_ (w1:=?_) (v:=?_) (by rfl) rfl ?_ ?_
   rotate_left 2
   · go_simp
     constructor
     · rfl
     · rfl
   refine hK.out _ _ ⟨(World.cell?_alloc_lt _ _ _ (World.block_lt_of_cell? _ _ (((HB.out.cell (World.block_lt_of_cell? w _ hw101_0)).trans hw101_0)))).trans (((HB.out.cell (World.block_lt_of_cell? w _ hw101_0)).trans hw101_0)),(World.cell?_alloc_lt _ _ _ (World.block_lt_of_cell? _ _ (((HB.out.cell (World.block_lt_of_cell? w _ hw101_1)).trans hw101_1)))).trans (((HB.out.cell (World.block_lt_of_cell? w _ hw101_1)).trans hw101_1)),(World.cell?_alloc_lt _ _ _ (World.block_lt_of_cell? _ _ (((HB.out.cell (World.block_lt_of_cell? w _ hw101_2)).trans hw101_2)))).trans (((HB.out.cell (World.block_lt_of_cell? w _ hw101_2)).trans hw101_2)),(World.cell?_alloc_lt _ _ _ (World.block_lt_of_cell? _ _ (((HB.out.cell (World.block_lt_of_cell? w _ hw101_3)).trans hw101_3)))).trans (((HB.out.cell (World.block_lt_of_cell? w _ hw101_3)).trans hw101_3)),(World.cell?_alloc_lt _ _ _ (World.block_lt_of_cell? _ _ (((HB.out.cell (World.block_lt_of_cell? w _ hw101_4)).trans hw101_4)))).trans (((HB.out.cell (World.block_lt_of_cell? w _ hw101_4)).trans hw101_4)),(World.cell?_alloc_lt _ _ _ (World.block_lt_of_cell? _ _ (((HB.out.cell (World.block_lt_of_cell? w _ hw102_0)).trans hw102_0)))).trans (((HB.out.cell (World.block_lt_of_cell? w _ hw102_0)).trans hw102_0)),(World.cell?_alloc_lt _ _ _ (World.block_lt_of_cell? _ _ (((HB.out.cell (World.block_lt_of_cell? w _ hw102_1)).trans hw102_1)))).trans (((HB.out.cell (World.block_lt_of_cell? w _ hw102_1)).trans hw102_1)),(World.cell?_alloc_lt _ _ _ (World.block_lt_of_cell? _ _ (((HB.out.cell (World.block_lt_of_cell? w _ hw102_2)).trans hw102_2)))).trans (((HB.out.cell (World.block_lt_of_cell? w _ hw102_2)).trans hw102_2)),(World.cell?_alloc_lt _ _ _ (World.block_lt_of_cell? _ _ (((HB.out.cell (World.block_lt_of_cell? w _ hw102_3)).trans hw102_3)))).trans (((HB.out.cell (World.block_lt_of_cell? w _ hw102_3)).trans hw102_3)),(World.cell?_alloc_lt _ _ _ (World.block_lt_of_cell? _ _ (((HB.out.cell (World.block_lt_of_cell? w _ hw102_4)).trans hw102_4)))).trans (((HB.out.cell (World.block_lt_of_cell? w _ hw102_4)).trans hw102_4)),(World.cell?_alloc_lt _ _ _ (World.block_lt_of_cell? _ _ (((HB.out.cell (World.block_lt_of_cell? w _ hw103_0)).trans hw103_0)))).trans (((HB.out.cell (World.block_lt_of_cell? w _ hw103_0)).trans hw103_0)),(World.cell?_alloc_lt _ _ _ (World.block_lt_of_cell? _ _ (((HB.out.cell (World.block_lt_of_cell? w _ hw103_1)).trans hw103_1)))).trans (((HB.out.cell (World.block_lt_of_cell? w _ hw103_1)).trans hw103_1)),(World.cell?_alloc_lt _ _ _ (World.block_lt_of_cell? _ _ (((HB.out.cell (World.block_lt_of_cell? w _ hw103_2)).trans hw103_2)))).trans (((HB.out.cell (World.block_lt_of_cell? w _ hw103_2)).trans hw103_2)),(World.cell?_alloc_lt _ _ _ (World.block_lt_of_cell? _ _ (((HB.out.cell (World.block_lt_of_cell? w _ hw103_3)).trans hw103_3)))).trans (((HB.out.cell (World.block_lt_of_cell? w _ hw103_3)).trans hw103_3)),(World.cell?_alloc_lt _ _ _ (World.block_lt_of_cell? _ _ (((HB.out.cell (World.block_lt_of_cell? w _ hw103_4)).trans hw103_4)))).trans (((HB.out.cell (World.block_lt_of_cell? w _ hw103_4)).trans hw103_4)),(World.cell?_alloc_lt _ _ _ (World.block_lt_of_cell? _ _ (((HB.out.cell (World.block_lt_of_cell? w _ hw104_0)).trans hw104_0)))).trans (((HB.out.cell (World.block_lt_of_cell? w _ hw104_0)).trans hw104_0)),(World.cell?_alloc_lt _ _ _ (World.block_lt_of_cell? _ _ (((HB.out.cell (World.block_lt_of_cell? w _ hw104_1)).trans hw104_1)))).trans (((HB.out.cell (World.block_lt_of_cell? w _ hw104_1)).trans hw104_1)),(World.cell?_alloc_lt _ _ _ (World.block_lt_of_cell? _ _ (((HB.out.cell (World.block_lt_of_cell? w _ hw104_2)).trans hw104_2)))).trans (((HB.out.cell (World.block_lt_of_cell? w _ hw104_2)).trans hw104_2)),(World.cell?_alloc_lt _ _ _ (World.block_lt_of_cell? _ _ (((HB.out.cell (World.block_lt_of_cell? w _ hw104_3)).trans hw104_3)))).trans (((HB.out.cell (World.block_lt_of_cell? w _ hw104_3)).trans hw104_3)),(World.cell?_alloc_lt _ _ _ (World.block_lt_of_cell? _ _ (((HB.out.cell (World.block_lt_of_cell? w _ hw104_4)).trans hw104_4)))).trans (((HB.out.cell (World.block_lt_of_cell? w _ hw104_4)).trans hw104_4))⟩ (fun hHeld=>?_)
   clear hK K
   refine norm_ (a':=?_) ?_ ?_
   rotate_left
   · show Act.put _ (some 33) _ = _
     simp only [Act.put,List.setIfInBounds_toArray,List.set_cons_zero,List.set_cons_succ,zH,zL]
     rfl
   refine one_ (i:=23) (N:=some 34) #[true,true,true,true,true,true,true,true,true,true,true,true,true,true,true,true,true,true,true,true,true,true,true,true,false] rfl rfl (z1I HT_.out (by kernel_rfl)) (by decide) (fun K hK=>?_)
   refine Kd.z3u k114 (w0:=w) w.heap.size (by rfl) (.tmp 11) (.tmp 33) 73 114 (.agg #[(.int .i64 0),(.int .i64 0),(.int .i64 0),(.int .u64 0),(.int .u64 0)]) 40 rfl Try.underlying73 info114 rfl (by decide) (by omega) u3 x3_1 (⟨(zd l0 x4_1).f0,(zd l0 x4_1).f1,(zd l0 x4_1).f2,(⟨(zd l0 x4_1).f3.f0,(zd l0 x4_1).f3.f1⟩ : S61)⟩ : S114) [.int .i64 ((zd l0 x4_1).f0),.int .i64 ((zd l0 x4_1).f1),.int .i64 ((zd l0 x4_1).f2),.int .u64 ((zd l0 x4_1).f3.f0),.int .u64 ((zd l0 x4_1).f3.f1)] (fun _=>True) (fun _=>False) rfl rfl ?aP (fun _ hk=>hk.elim) ?aF ?aO ?aB ?aS ?aL ?_
   (case aP=>exact k114_mkM _ _ _ (⟨(zd l0 x4_1).f0,(zd l0 x4_1).f1,(zd l0 x4_1).f2,(⟨(zd l0 x4_1).f3.f0,(zd l0 x4_1).f3.f1⟩ : S61)⟩ : S114))
   (case aB=>exact (by repeat (first|(with_reducible first|exact HB.out|apply z4|apply z0|apply z3)|exact HB.out)))
   (case aF=>exact (fun _ _=>trivial))
   (case aO=>exact (by (with_reducible repeat (first|apply Kd.zx|apply Kd.zy|apply Kd.zD));exact HO_3.out))
   (case aS=>exact (zf (by repeat (first|(with_reducible first|exact HB.out|apply z4|apply z0|apply z3)|exact HB.out))))
   (case aL=>have:=LMc4.out;omega)
   intro v106 w6 ho hb hg hat
   rw [← Ny105.out] at ho
   have n0_:=z7.mk (hb)
   have n1_:=z7.mk (ho)
   clear HB
   clear HO_3
   have HB:=n0_
   have HO107:=n1_
   clear n0_ n1_
   clear ho hb hg hat
   refine hK.out _ _ ⟨((HB.out.cell (World.block_lt_of_cell? w _ hw101_0)).trans hw101_0),((HB.out.cell (World.block_lt_of_cell? w _ hw101_1)).trans hw101_1),((HB.out.cell (World.block_lt_of_cell? w _ hw101_2)).trans hw101_2),((HB.out.cell (World.block_lt_of_cell? w _ hw101_3)).trans hw101_3),((HB.out.cell (World.block_lt_of_cell? w _ hw101_4)).trans hw101_4),((HB.out.cell (World.block_lt_of_cell? w _ hw102_0)).trans hw102_0),((HB.out.cell (World.block_lt_of_cell? w _ hw102_1)).trans hw102_1),((HB.out.cell (World.block_lt_of_cell? w _ hw102_2)).trans hw102_2),((HB.out.cell (World.block_lt_of_cell? w _ hw102_3)).trans hw102_3),((HB.out.cell (World.block_lt_of_cell? w _ hw102_4)).trans hw102_4),((HB.out.cell (World.block_lt_of_cell? w _ hw103_0)).trans hw103_0),((HB.out.cell (World.block_lt_of_cell? w _ hw103_1)).trans hw103_1),((HB.out.cell (World.block_lt_of_cell? w _ hw103_2)).trans hw103_2),((HB.out.cell (World.block_lt_of_cell? w _ hw103_3)).trans hw103_3),((HB.out.cell (World.block_lt_of_cell? w _ hw103_4)).trans hw103_4),((HB.out.cell (World.block_lt_of_cell? w _ hw104_0)).trans hw104_0),((HB.out.cell (World.block_lt_of_cell? w _ hw104_1)).trans hw104_1),((HB.out.cell (World.block_lt_of_cell? w _ hw104_2)).trans hw104_2),((HB.out.cell (World.block_lt_of_cell? w _ hw104_3)).trans hw104_3),((HB.out.cell (World.block_lt_of_cell? w _ hw104_4)).trans hw104_4)⟩ (fun hHeld=>?_)
   clear hK K
   refine norm_ (a':=?_) ?_ ?_
   rotate_left
   · show Act.put _ (some 34) _ = _
     simp only [Act.put,List.setIfInBounds_toArray,List.set_cons_zero,List.set_cons_succ,zH,zL]
     rfl
   refine pure_ (i:=24) (N:=some 3) (v:=?_) (a':=?_) #[true,true,true,true,true,true,true,true,true,true,true,true,true,true,true,true,true,true,true,true,true,true,true,true,true] rfl rfl (zU HT_.out (by kernel_rfl)) (fun _ _ _ h=>h) (Or.inl ⟨by rfl,?_⟩) ?_ ?_
   rotate_left
   · intro w'
     go_simp
     with_reducible rfl
   rotate_left
   · simp only [Act.put,List.setIfInBounds_toArray,List.set_cons_zero,List.set_cons_succ,zH,zL]
     rfl
   refine done_ (z27 HT_.out (by kernel_rfl)) ?_
   try go_wp2
   go_roundg k1
   case measure=>have:=HK1.out;omega
   case rel=>exact ⟨(y105),(wrap64 (x4_1 + 1)),(by first|rfl|(simp;done)|(simp [*];done)),H',⟨by have:=HK1.out;omega⟩,⟨by (with_reducible repeat (first|apply Kd.zx|apply Kd.zy|apply Kd.zD));exact HO107.out⟩,⟨by repeat (first|(with_reducible first|exact HB.out|apply z4|apply z0|apply z3)|exact HB.out)⟩⟩
end Go.Proofs.Ytngcaphdkgihmaa.P
namespace Go.Proofs.Ytngcaphdkgihmaa.P
open Go.RowKit Go.Proofs.YtngcaphdkgihmaaW.PrintWords Go.Proofs.YtngcaphdkgihmaaW.PrintLast Go.Proofs.YtngcaphdkgihmaaW.PrintMore
attribute [local go_sem] z17 z19 z1e z1f z12 z13 z18 z1a   -- for this text's walks alone
set_option linter.unusedVariables false
set_option linter.unusedSimpArgs false
mutual
def ze.l0 : Nat → List (S114) → Int → List Int → Int → Option (Int)
 | 0,_,_,_,_=>none
 | k + 1,x0,x1,x5,x6=>if x6 ≤ x1 then (if 0 ≤ x6 then (if x6 < (x0.length : Int) then (if ((za x0 x6).f0) = 2 then (ze.j1 k x0 x1 x5 x6 1) else (ze.j1 k x0 x1 x5 x6 0)) else (none)) else (none)) else (if 0 ≤ x1 then (if x1 < (x5.length : Int) then (some (rd x5 x1)) else (none)) else (none))
def ze.j1 : Nat → List (S114) → Int → List Int → Int → Int → Option (Int)
 | 0,_,_,_,_,_=>none
 | k + 1,x0,x1,x5,x6,x7=>if 0 ≤ x6 then (if x6 < (x0.length : Int) then (if ((za x0 x6).f0) = 3 then (if 0 ≤ ((za x0 x6).f1) then (if ((za x0 x6).f1) < (x5.length : Int) then (if 0 ≤ ((za x0 x6).f2) then (if ((za x0 x6).f2) < (x5.length : Int) then (if (rd x5 ((za x0 x6).f2)) > (rd x5 ((za x0 x6).f1)) then (if ((za x0 x6).f0) = 4 then (if x5.length < 17592186044416 then (ze.l0 k x0 x1 (x5 ++ [wrap64 ((rd x5 ((za x0 x6).f1)) + (rd x5 ((za x0 x6).f2)))]) (wrap64 (x6 + 1))) else (none)) else (if x5.length < 17592186044416 then (ze.l0 k x0 x1 (x5 ++ [rd x5 ((za x0 x6).f2)]) (wrap64 (x6 + 1))) else (none))) else (if ((za x0 x6).f0) = 4 then (if x5.length < 17592186044416 then (ze.l0 k x0 x1 (x5 ++ [wrap64 ((rd x5 ((za x0 x6).f1)) + (rd x5 ((za x0 x6).f2)))]) (wrap64 (x6 + 1))) else (none)) else (if x5.length < 17592186044416 then (ze.l0 k x0 x1 (x5 ++ [rd x5 ((za x0 x6).f1)]) (wrap64 (x6 + 1))) else (none)))) else (none)) else (none)) else (none)) else (none)) else (if ((za x0 x6).f0) = 4 then (if 0 ≤ ((za x0 x6).f1) then (if ((za x0 x6).f1) < (x5.length : Int) then (if 0 ≤ ((za x0 x6).f2) then (if ((za x0 x6).f2) < (x5.length : Int) then (if x5.length < 17592186044416 then (ze.l0 k x0 x1 (x5 ++ [wrap64 ((rd x5 ((za x0 x6).f1)) + (rd x5 ((za x0 x6).f2)))]) (wrap64 (x6 + 1))) else (none)) else (none)) else (none)) else (none)) else (none)) else (if x5.length < 17592186044416 then (ze.l0 k x0 x1 (x5 ++ [x7]) (wrap64 (x6 + 1))) else (none)))) else (none)) else (none)
end
def ze.f (k : Nat) (l0 : List (S114)) (a1 : Int) : Option (Int):=ze.l0 k l0 a1 ([] : List Int) 0
theorem ze.z1b : ∀ k,(∀ y0 y1 y2 y3,LeO (ze.l0 k y0 y1 y2 y3) (ze.l0 (k + 1) y0 y1 y2 y3)) ∧ (∀ y0 y1 y2 y3 y4,LeO (ze.j1 k y0 y1 y2 y3 y4) (ze.j1 (k + 1) y0 y1 y2 y3 y4))
 | 0=>⟨fun _ _ _ _ r h=>by simp [ze.l0] at h,fun _ _ _ _ _ r h=>by simp [ze.j1] at h⟩
 | k + 1=>by
  obtain ⟨ih0,ih1⟩:=ze.z1b k
  refine ⟨?_,?_⟩
  · intro y0 y1 y2 y3
    unfold ze.l0
    repeat' first
    | (with_reducible exact ih0 _ _ _ _)
    | (with_reducible exact ih1 _ _ _ _ _)
    | (with_reducible exact LeO.refl _)
    | (with_reducible exact LeO.none _)
    | (with_reducible refine LeO.ite ?_ ?_)
    | (with_reducible refine LeO.bind ?_ (fun _=>?_))
    | exact ih0 _ _ _ _
    | exact ih1 _ _ _ _ _
    | exact LeO.none _
    | refine LeO.ite ?_ ?_
    | refine LeO.bind ?_ (fun _=>?_)
  · intro y0 y1 y2 y3 y4
    unfold ze.j1
    repeat' first
    | (with_reducible exact ih0 _ _ _ _)
    | (with_reducible exact ih1 _ _ _ _ _)
    | (with_reducible exact LeO.refl _)
    | (with_reducible exact LeO.none _)
    | (with_reducible refine LeO.ite ?_ ?_)
    | (with_reducible refine LeO.bind ?_ (fun _=>?_))
    | exact ih0 _ _ _ _
    | exact ih1 _ _ _ _ _
    | exact LeO.none _
    | refine LeO.ite ?_ ?_
    | refine LeO.bind ?_ (fun _=>?_)
theorem ze.mono : ∀ a0 a1 k,LeO (ze.f k a0 a1) (ze.f (k + 1) a0 a1):=by
 intro a0 a1 k
 obtain ⟨ih0,ih1⟩:=ze.z1b k
 unfold ze.f
 repeat' first
  | (with_reducible exact ih0 _ _ _ _)
  | (with_reducible exact ih1 _ _ _ _ _)
  | (with_reducible exact LeO.refl _)
  | (with_reducible exact LeO.none _)
  | (with_reducible refine LeO.ite ?_ ?_)
  | (with_reducible refine LeO.bind ?_ (fun _=>?_))
  | exact ih0 _ _ _ _
  | exact ih1 _ _ _ _ _
  | exact LeO.none _
  | refine LeO.ite ?_ ?_
  | refine LeO.bind ?_ (fun _=>?_)
set_option maxHeartbeats 8000000 in
set_option maxRecDepth 100000 in
theorem ze.calls (k : Nat) (A0 : Option Addr) (c0 : Nat) (l0 : List (S114)) (a1 : Int) (r : Int) (w : World) (hr0 : Kd.C k114 w A0 l0.length l0) (hc0 : l0.length ≤ c0) (h : ze.f k l0 a1 = some r) :
 Calls Try.prog 55 #[.slice A0 l0.length c0,.int .i64 a1] w fun e w'=>e = .returned (.int .i64 r) ∧ Below w.heap.size w w':=by
 have HR0:=z7.mk hr0
 have HC0:=z7.mk hc0
 clear hr0 hc0
 have HB:=z7.mk (Below.refl w.heap.size w)
 have H : (ze.l0 k l0 a1 ([] : List Int) 0) = some r:=h
 clear h
 have H':=z7.mk H
 clear H
 go_enter Try.func55,Try.ntmps55
 go_wp2
 repeat (go_quiet (fail);try go_wp2)
 go_loopg [5,6] k (fun kq v5 v6 w'=>∃ (x5_1 : List Int) (x6_1 : Int),v6 = .int .i64 x6_1 ∧ z7 (ze.l0 kq l0 a1 x5_1 x6_1 = some r) ∧ z7 (kq ≤ k) ∧ z7 (Kd.R (Kd.int .i64) 3 w' w.heap.size (fun _=>True) v5 x5_1) ∧ z7 (Below w.heap.size w w'))
 case atStart=>exact ⟨(([] : List Int)),(0),(by first|rfl|(simp;done)|(simp [*];done)),H',⟨Nat.le_refl _⟩,⟨by first|exact Kd.z2r _ _ _ _ _|exact Kd.z2W _ _ _ _ _|exact Kd.z30 _ _ _ _ _|exact Kd.z2Y _ _ _ _ _|exact Kd.z2Z _ _ _ _ _⟩,⟨by repeat (first|(with_reducible first|exact HB.out|apply z4|apply z0|apply z3)|exact HB.out)⟩⟩
 case round =>
  clear H'
  (try clear p2)
  obtain ⟨x5_1,x6_1,rfl,HA,HK1,HO_5,HB⟩:=hrel
  cases gk with
  | zero=>exact absurd HA.out (by simp [ze.l0])
  | succ k1 =>
   have H:=HA.out
   clear HA
   simp only [ze.l0] at H
   by_cases c3 : x6_1 ≤ a1
   rotate_left
   · rw [if_neg c3] at H
     have c3b0 : decide (x6_1 ≤ a1) = false:=decide_eq_false c3
     clear c3
     by_cases c40 : 0 ≤ a1
     rotate_left
     · rw [if_neg c40] at H
       exact absurd H (by simp)
     rw [if_pos c40] at H
     have c40b0 : decide (0 ≤ a1) = true:=decide_eq_true c40
     clear c40
     by_cases c41 : a1 < (x5_1.length : Int)
     rotate_left
     · rw [if_neg c41] at H
       exact absurd H (by simp)
     rw [if_pos c41] at H
     have c41b0 : decide (a1 < (x5_1.length : Int)) = true:=decide_eq_true c41
     clear c41
     obtain rfl:=Option.some.inj H
     obtain ⟨Ao42,co42,eo42⟩:=Kd.z1q HO_5.out
     subst eo42
     have p101 : 0 ≤ (a1 : Int):=of_decide_eq_true (by first|(with_reducible assumption)|assumption)
     have q101 : a1 < (x5_1.length : Int):=of_decide_eq_true (by first|(with_reducible assumption)|assumption)
     obtain ⟨ad101,e101,hx101_0⟩:=Kd.z1x (Kd.zO HO_5.out).2.2 a1 p101 q101
     cases e101
     replace p101:=eq_true p101
     replace q101:=eq_true q101
     go_wp2
     repeat (go_quiet (fail);try go_wp2)
     go_ret
     exact ⟨by first|rfl|(simp [zl,zm] <;> rfl)|(simp [*,zl,zm] <;> rfl),by repeat (first|(with_reducible first|exact HB.out|apply z4|apply z0|apply z3)|exact HB.out)⟩
   rw [if_pos c3] at H
   have c3b0 : decide (x6_1 ≤ a1) = true:=decide_eq_true c3
   clear c3
   by_cases c4 : 0 ≤ x6_1
   rotate_left
   · rw [if_neg c4] at H
     exact absurd H (by simp)
   rw [if_pos c4] at H
   have c4b0 : decide (0 ≤ x6_1) = true:=decide_eq_true c4
   clear c4
   by_cases c5 : x6_1 < (l0.length : Int)
   rotate_left
   · rw [if_neg c5] at H
     exact absurd H (by simp)
   rw [if_pos c5] at H
   have c5b0 : decide (x6_1 < (l0.length : Int)) = true:=decide_eq_true c5
   clear c5
   have HC6:=z7.mk H
   clear H
   have p102 : 0 ≤ (x6_1 : Int):=of_decide_eq_true (by first|(with_reducible assumption)|assumption)
   have q102 : x6_1 < (l0.length : Int):=of_decide_eq_true (by first|(with_reducible assumption)|assumption)
   obtain ⟨ad102,e102,hx102_0,hx102_1,hx102_2,hx102_3,hx102_4⟩:=z16 HR0.out x6_1 p102 q102
   cases e102
   replace hx102_0:=(HB.out.cell (World.block_lt_of_cell? w _ hx102_0)).trans hx102_0
   replace hx102_1:=(HB.out.cell (World.block_lt_of_cell? w _ hx102_1)).trans hx102_1
   replace hx102_2:=(HB.out.cell (World.block_lt_of_cell? w _ hx102_2)).trans hx102_2
   replace hx102_3:=(HB.out.cell (World.block_lt_of_cell? w _ hx102_3)).trans hx102_3
   replace hx102_4:=(HB.out.cell (World.block_lt_of_cell? w _ hx102_4)).trans hx102_4
   replace p102:=eq_true p102
   replace q102:=eq_true q102
   go_upto_if 18 with (fail)
   repeat (go_quiet (fail);go_upto_if 18 with (fail))
   go_cut [7] (fun v7 wc=>∃ (kq : Nat) (x7_5 : Int),v7 = .int .i64 x7_5 ∧ z7 (ze.j1 kq l0 a1 x5_1 x6_1 x7_5 = some r) ∧ z7 (kq ≤ k1) ∧ z7 (Kd.R (Kd.int .i64) 3 wc w.heap.size (fun _=>True) u5 x5_1) ∧ z7 (Below w.heap.size w wc))
   case first =>
    have H:=HC6.out
    clear HC6
    by_cases c7 : ((za l0 x6_1).f0) = 2
    rotate_left
    · rw [if_neg c7] at H
      have c7b0 : (((za l0 x6_1).f0) == 2) = false:=beq_eq_false_iff_ne.mpr c7
      have c7b1 : (((za l0 x6_1).f0) != 2) = true:=bne_iff_ne.mpr c7
      (first|rw [c7b0]|(simp only [zH,zL];rw [c7b0])|skip)
      have H':=z7.mk H
      clear H
      go_wp2
      repeat (go_quiet (fail);try go_wp2)
      go_meet
      case rel=>exact ⟨_,(0),(by first|rfl|(simp;done)|(simp [*];done)),H',⟨by have:=HK1.out;first|omega|exact Nat.le_refl _⟩,⟨by (with_reducible repeat (first|apply Kd.zx|apply Kd.zy|apply Kd.zD));exact HO_5.out⟩,⟨by repeat (first|(with_reducible first|exact HB.out|apply z4|apply z0|apply z3)|exact HB.out)⟩⟩
    rw [if_pos c7] at H
    have c7b0 : (((za l0 x6_1).f0) == 2) = true:=beq_iff_eq.mpr c7
    have c7b1 : (((za l0 x6_1).f0) != 2) = false:=bne_eq_false_iff_eq.mpr c7
    clear c7
    (first|rw [c7b0]|(simp only [zH,zL];rw [c7b0])|skip)
    have H':=z7.mk H
    clear H
    go_wp2
    repeat (go_quiet (fail);try go_wp2)
    go_meet
    case rel=>exact ⟨_,(1),(by first|rfl|(simp;done)|(simp [*];done)),H',⟨by have:=HK1.out;first|omega|exact Nat.le_refl _⟩,⟨by (with_reducible repeat (first|apply Kd.zx|apply Kd.zy|apply Kd.zD));exact HO_5.out⟩,⟨by repeat (first|(with_reducible first|exact HB.out|apply z4|apply z0|apply z3)|exact HB.out)⟩⟩
   case rest =>
    clear HC6
    (try clear p1);(try clear q1);(try clear hx1);(try clear p2);(try clear c3);(try clear c3b0);(try clear c4);(try clear c4b0);(try clear c5);(try clear c5b0);(try clear c7);(try clear c7b0);(try clear c7b1);(try clear hx102_0);(try clear hx102_1);(try clear hx102_2);(try clear hx102_3);(try clear hx102_4);(try clear p102);(try clear p2);(try clear q102)
    obtain ⟨kq,x7_5,rfl,HA,HJ5,HO_5,HB⟩:=hcut
    cases kq with
    | zero=>exact absurd HA.out (by simp [ze.j1])
    | succ kj5 =>
     have H:=HA.out
     clear HA
     simp only [ze.j1] at H
     by_cases c8 : 0 ≤ x6_1
     rotate_left
     · rw [if_neg c8] at H
       exact absurd H (by simp)
     rw [if_pos c8] at H
     have c8b0 : decide (0 ≤ x6_1) = true:=decide_eq_true c8
     clear c8
     by_cases c9 : x6_1 < (l0.length : Int)
     rotate_left
     · rw [if_neg c9] at H
       exact absurd H (by simp)
     rw [if_pos c9] at H
     have c9b0 : decide (x6_1 < (l0.length : Int)) = true:=decide_eq_true c9
     clear c9
     by_cases c10 : ((za l0 x6_1).f0) = 3
     rotate_left
     · rw [if_neg c10] at H
       have c10b0 : (((za l0 x6_1).f0) == 3) = false:=beq_eq_false_iff_ne.mpr c10
       have c10b1 : (((za l0 x6_1).f0) != 3) = true:=bne_iff_ne.mpr c10
       by_cases c30 : ((za l0 x6_1).f0) = 4
       rotate_left
       · rw [if_neg c30] at H
         have c30b0 : (((za l0 x6_1).f0) == 4) = false:=beq_eq_false_iff_ne.mpr c30
         have c30b1 : (((za l0 x6_1).f0) != 4) = true:=bne_iff_ne.mpr c30
         by_cases c38 : x5_1.length < 17592186044416
         rotate_left
         · rw [if_neg c38] at H
           exact absurd H (by simp)
         rw [if_pos c38] at H
         have LMc38:=z7.mk c38
         clear c38
         obtain ⟨y140,hy140⟩ : ∃ y_ : List Int,y_ = (x5_1 ++ [x7_5]):=⟨_,rfl⟩
         replace H : (ze.l0 kj5 l0 a1 y140 (wrap64 (x6_1 + 1))) = some r:=by first|(rw [hy140];with_reducible exact H)|(have H2_:=(Option.bind_some _ _).symm.trans H;rw [hy140];with_reducible exact H2_)|(have H2_:=(Option.bind_some _ _).symm.trans H;with_reducible exact H2_)|with_reducible exact H|(rw [hy140];exact H)|exact H
         have Ny140:=z7.mk hy140
         clear hy140
         have H':=z7.mk H
         clear H
         have p103 : 0 ≤ (x6_1 : Int):=of_decide_eq_true (by first|(with_reducible assumption)|assumption)
         have q103 : x6_1 < (l0.length : Int):=of_decide_eq_true (by first|(with_reducible assumption)|assumption)
         obtain ⟨ad103,e103,hx103_0,hx103_1,hx103_2,hx103_3,hx103_4⟩:=z16 HR0.out x6_1 p103 q103
         obtain rfl : ad102 = ad103:=(by injection e103)
         replace hx103_0:=(HB.out.cell (World.block_lt_of_cell? w _ hx103_0)).trans hx103_0
         replace hx103_1:=(HB.out.cell (World.block_lt_of_cell? w _ hx103_1)).trans hx103_1
         replace hx103_2:=(HB.out.cell (World.block_lt_of_cell? w _ hx103_2)).trans hx103_2
         replace hx103_3:=(HB.out.cell (World.block_lt_of_cell? w _ hx103_3)).trans hx103_3
         replace hx103_4:=(HB.out.cell (World.block_lt_of_cell? w _ hx103_4)).trans hx103_4
         replace p103:=eq_true p103
         replace q103:=eq_true q103
         have p132 : 0 ≤ (x6_1 : Int):=of_decide_eq_true (by first|(with_reducible assumption)|assumption)
         have q132 : x6_1 < (l0.length : Int):=of_decide_eq_true (by first|(with_reducible assumption)|assumption)
         obtain ⟨ad132,e132,hx132_0,hx132_1,hx132_2,hx132_3,hx132_4⟩:=z16 HR0.out x6_1 p132 q132
         obtain rfl : ad102 = ad132:=(by injection e132)
         replace hx132_0:=(HB.out.cell (World.block_lt_of_cell? w _ hx132_0)).trans hx132_0
         replace hx132_1:=(HB.out.cell (World.block_lt_of_cell? w _ hx132_1)).trans hx132_1
         replace hx132_2:=(HB.out.cell (World.block_lt_of_cell? w _ hx132_2)).trans hx132_2
         replace hx132_3:=(HB.out.cell (World.block_lt_of_cell? w _ hx132_3)).trans hx132_3
         replace hx132_4:=(HB.out.cell (World.block_lt_of_cell? w _ hx132_4)).trans hx132_4
         replace p132:=eq_true p132
         replace q132:=eq_true q132
         go_wp2_with (first|((with_reducible refine zW (b:=.append) (xs:=#[.tmp 74,.tmp 76]) rfl ?_);at_builtin;refine Kd.z1h (Kd.int .i64) (w0:=w) w.heap.size rfl (.tmp 74) (.tmp 76) 31 3 (.int .i64 0) 8 rfl Try.underlying31 info3 rfl (by decide) (by omega) u5 x5_1 x7_5 [.int .i64 x7_5] (fun _=>True) (fun _=>False) rfl rfl ?aP (fun _ hk=>hk.elim) ?aF ?aO ?aB ?aS ?aL ?_;(case aP=>exact rfl);(case aB=>exact (by repeat (first|(with_reducible first|exact HB.out|apply z4|apply z0|apply z3)|exact HB.out)));(case aF=>exact (fun _ _=>trivial));(case aO=>exact (by (with_reducible repeat (first|apply Kd.zx|apply Kd.zy|apply Kd.zD));exact HO_5.out));(case aS=>exact (zf (by repeat (first|(with_reducible first|exact HB.out|apply z4|apply z0|apply z3)|exact HB.out))));(case aL=>have:=LMc38.out;omega);intro v141 w39 ho hb hg hat;rw [← Ny140.out] at ho;have n0_:=z7.mk (hb);have n1_:=z7.mk (ho);clear HB;clear HO_5;have HB:=n0_;have HO142:=n1_;clear n0_ n1_;clear ho hb hg hat))
         repeat (go_quiet (first|((with_reducible refine zW (b:=.append) (xs:=#[.tmp 74,.tmp 76]) rfl ?_);at_builtin;refine Kd.z1h (Kd.int .i64) (w0:=w) w.heap.size rfl (.tmp 74) (.tmp 76) 31 3 (.int .i64 0) 8 rfl Try.underlying31 info3 rfl (by decide) (by omega) u5 x5_1 x7_5 [.int .i64 x7_5] (fun _=>True) (fun _=>False) rfl rfl ?aP (fun _ hk=>hk.elim) ?aF ?aO ?aB ?aS ?aL ?_;(case aP=>exact rfl);(case aB=>exact (by repeat (first|(with_reducible first|exact HB.out|apply z4|apply z0|apply z3)|exact HB.out)));(case aF=>exact (fun _ _=>trivial));(case aO=>exact (by (with_reducible repeat (first|apply Kd.zx|apply Kd.zy|apply Kd.zD));exact HO_5.out));(case aS=>exact (zf (by repeat (first|(with_reducible first|exact HB.out|apply z4|apply z0|apply z3)|exact HB.out))));(case aL=>have:=LMc38.out;omega);intro v141 w39 ho hb hg hat;rw [← Ny140.out] at ho;have n0_:=z7.mk (hb);have n1_:=z7.mk (ho);clear HB;clear HO_5;have HB:=n0_;have HO142:=n1_;clear n0_ n1_;clear ho hb hg hat));try go_wp2_with (first|((with_reducible refine zW (b:=.append) (xs:=#[.tmp 74,.tmp 76]) rfl ?_);at_builtin;refine Kd.z1h (Kd.int .i64) (w0:=w) w.heap.size rfl (.tmp 74) (.tmp 76) 31 3 (.int .i64 0) 8 rfl Try.underlying31 info3 rfl (by decide) (by omega) u5 x5_1 x7_5 [.int .i64 x7_5] (fun _=>True) (fun _=>False) rfl rfl ?aP (fun _ hk=>hk.elim) ?aF ?aO ?aB ?aS ?aL ?_;(case aP=>exact rfl);(case aB=>exact (by repeat (first|(with_reducible first|exact HB.out|apply z4|apply z0|apply z3)|exact HB.out)));(case aF=>exact (fun _ _=>trivial));(case aO=>exact (by (with_reducible repeat (first|apply Kd.zx|apply Kd.zy|apply Kd.zD));exact HO_5.out));(case aS=>exact (zf (by repeat (first|(with_reducible first|exact HB.out|apply z4|apply z0|apply z3)|exact HB.out))));(case aL=>have:=LMc38.out;omega);intro v141 w39 ho hb hg hat;rw [← Ny140.out] at ho;have n0_:=z7.mk (hb);have n1_:=z7.mk (ho);clear HB;clear HO_5;have HB:=n0_;have HO142:=n1_;clear n0_ n1_;clear ho hb hg hat)))
         go_roundg kj5
         case measure=>have:=HK1.out;have:=HJ5.out;omega
         case rel=>exact ⟨(y140),(wrap64 (x6_1 + 1)),(by first|rfl|(simp;done)|(simp [*];done)),H',⟨by have:=HK1.out;have:=HJ5.out;omega⟩,⟨by (with_reducible repeat (first|apply Kd.zx|apply Kd.zy|apply Kd.zD));exact HO142.out⟩,⟨by repeat (first|(with_reducible first|exact HB.out|apply z4|apply z0|apply z3)|exact HB.out)⟩⟩
       rw [if_pos c30] at H
       have c30b0 : (((za l0 x6_1).f0) == 4) = true:=beq_iff_eq.mpr c30
       have c30b1 : (((za l0 x6_1).f0) != 4) = false:=bne_eq_false_iff_eq.mpr c30
       clear c30
       by_cases c31 : 0 ≤ ((za l0 x6_1).f1)
       rotate_left
       · rw [if_neg c31] at H
         exact absurd H (by simp)
       rw [if_pos c31] at H
       have c31b0 : decide (0 ≤ ((za l0 x6_1).f1)) = true:=decide_eq_true c31
       clear c31
       by_cases c32 : ((za l0 x6_1).f1) < (x5_1.length : Int)
       rotate_left
       · rw [if_neg c32] at H
         exact absurd H (by simp)
       rw [if_pos c32] at H
       have c32b0 : decide (((za l0 x6_1).f1) < (x5_1.length : Int)) = true:=decide_eq_true c32
       clear c32
       by_cases c33 : 0 ≤ ((za l0 x6_1).f2)
       rotate_left
       · rw [if_neg c33] at H
         exact absurd H (by simp)
       rw [if_pos c33] at H
       have c33b0 : decide (0 ≤ ((za l0 x6_1).f2)) = true:=decide_eq_true c33
       clear c33
       by_cases c34 : ((za l0 x6_1).f2) < (x5_1.length : Int)
       rotate_left
       · rw [if_neg c34] at H
         exact absurd H (by simp)
       rw [if_pos c34] at H
       have c34b0 : decide (((za l0 x6_1).f2) < (x5_1.length : Int)) = true:=decide_eq_true c34
       clear c34
       by_cases c35 : x5_1.length < 17592186044416
       rotate_left
       · rw [if_neg c35] at H
         exact absurd H (by simp)
       rw [if_pos c35] at H
       have LMc35:=z7.mk c35
       clear c35
       obtain ⟨y137,hy137⟩ : ∃ y_ : List Int,y_ = (x5_1 ++ [wrap64 ((rd x5_1 ((za l0 x6_1).f1)) + (rd x5_1 ((za l0 x6_1).f2)))]):=⟨_,rfl⟩
       replace H : (ze.l0 kj5 l0 a1 y137 (wrap64 (x6_1 + 1))) = some r:=by first|(rw [hy137];with_reducible exact H)|(have H2_:=(Option.bind_some _ _).symm.trans H;rw [hy137];with_reducible exact H2_)|(have H2_:=(Option.bind_some _ _).symm.trans H;with_reducible exact H2_)|with_reducible exact H|(rw [hy137];exact H)|exact H
       have Ny137:=z7.mk hy137
       clear hy137
       have H':=z7.mk H
       clear H
       have p103 : 0 ≤ (x6_1 : Int):=of_decide_eq_true (by first|(with_reducible assumption)|assumption)
       have q103 : x6_1 < (l0.length : Int):=of_decide_eq_true (by first|(with_reducible assumption)|assumption)
       obtain ⟨ad103,e103,hx103_0,hx103_1,hx103_2,hx103_3,hx103_4⟩:=z16 HR0.out x6_1 p103 q103
       obtain rfl : ad102 = ad103:=(by injection e103)
       replace hx103_0:=(HB.out.cell (World.block_lt_of_cell? w _ hx103_0)).trans hx103_0
       replace hx103_1:=(HB.out.cell (World.block_lt_of_cell? w _ hx103_1)).trans hx103_1
       replace hx103_2:=(HB.out.cell (World.block_lt_of_cell? w _ hx103_2)).trans hx103_2
       replace hx103_3:=(HB.out.cell (World.block_lt_of_cell? w _ hx103_3)).trans hx103_3
       replace hx103_4:=(HB.out.cell (World.block_lt_of_cell? w _ hx103_4)).trans hx103_4
       replace p103:=eq_true p103
       replace q103:=eq_true q103
       have p132 : 0 ≤ (x6_1 : Int):=of_decide_eq_true (by first|(with_reducible assumption)|assumption)
       have q132 : x6_1 < (l0.length : Int):=of_decide_eq_true (by first|(with_reducible assumption)|assumption)
       obtain ⟨ad132,e132,hx132_0,hx132_1,hx132_2,hx132_3,hx132_4⟩:=z16 HR0.out x6_1 p132 q132
       obtain rfl : ad102 = ad132:=(by injection e132)
       replace hx132_0:=(HB.out.cell (World.block_lt_of_cell? w _ hx132_0)).trans hx132_0
       replace hx132_1:=(HB.out.cell (World.block_lt_of_cell? w _ hx132_1)).trans hx132_1
       replace hx132_2:=(HB.out.cell (World.block_lt_of_cell? w _ hx132_2)).trans hx132_2
       replace hx132_3:=(HB.out.cell (World.block_lt_of_cell? w _ hx132_3)).trans hx132_3
       replace hx132_4:=(HB.out.cell (World.block_lt_of_cell? w _ hx132_4)).trans hx132_4
       replace p132:=eq_true p132
       replace q132:=eq_true q132
       have p133 : 0 ≤ (x6_1 : Int):=of_decide_eq_true (by first|(with_reducible assumption)|assumption)
       have q133 : x6_1 < (l0.length : Int):=of_decide_eq_true (by first|(with_reducible assumption)|assumption)
       obtain ⟨ad133,e133,hx133_0,hx133_1,hx133_2,hx133_3,hx133_4⟩:=z16 HR0.out x6_1 p133 q133
       obtain rfl : ad102 = ad133:=(by injection e133)
       replace hx133_0:=(HB.out.cell (World.block_lt_of_cell? w _ hx133_0)).trans hx133_0
       replace hx133_1:=(HB.out.cell (World.block_lt_of_cell? w _ hx133_1)).trans hx133_1
       replace hx133_2:=(HB.out.cell (World.block_lt_of_cell? w _ hx133_2)).trans hx133_2
       replace hx133_3:=(HB.out.cell (World.block_lt_of_cell? w _ hx133_3)).trans hx133_3
       replace hx133_4:=(HB.out.cell (World.block_lt_of_cell? w _ hx133_4)).trans hx133_4
       replace p133:=eq_true p133
       replace q133:=eq_true q133
       obtain ⟨Ao36,co36,eo36⟩:=Kd.z1q HO_5.out
       subst eo36
       have p134 : 0 ≤ (((za l0 x6_1).f1) : Int):=of_decide_eq_true (by first|(with_reducible assumption)|assumption)
       have q134 : ((za l0 x6_1).f1) < (x5_1.length : Int):=of_decide_eq_true (by first|(with_reducible assumption)|assumption)
       obtain ⟨ad134,e134,hx134_0⟩:=Kd.z1x (Kd.zO HO_5.out).2.2 ((za l0 x6_1).f1) p134 q134
       cases e134
       replace p134:=eq_true p134
       replace q134:=eq_true q134
       have p135 : 0 ≤ (x6_1 : Int):=of_decide_eq_true (by first|(with_reducible assumption)|assumption)
       have q135 : x6_1 < (l0.length : Int):=of_decide_eq_true (by first|(with_reducible assumption)|assumption)
       obtain ⟨ad135,e135,hx135_0,hx135_1,hx135_2,hx135_3,hx135_4⟩:=z16 HR0.out x6_1 p135 q135
       obtain rfl : ad102 = ad135:=(by injection e135)
       replace hx135_0:=(HB.out.cell (World.block_lt_of_cell? w _ hx135_0)).trans hx135_0
       replace hx135_1:=(HB.out.cell (World.block_lt_of_cell? w _ hx135_1)).trans hx135_1
       replace hx135_2:=(HB.out.cell (World.block_lt_of_cell? w _ hx135_2)).trans hx135_2
       replace hx135_3:=(HB.out.cell (World.block_lt_of_cell? w _ hx135_3)).trans hx135_3
       replace hx135_4:=(HB.out.cell (World.block_lt_of_cell? w _ hx135_4)).trans hx135_4
       replace p135:=eq_true p135
       replace q135:=eq_true q135
       have p136 : 0 ≤ (((za l0 x6_1).f2) : Int):=of_decide_eq_true (by first|(with_reducible assumption)|assumption)
       have q136 : ((za l0 x6_1).f2) < (x5_1.length : Int):=of_decide_eq_true (by first|(with_reducible assumption)|assumption)
       obtain ⟨ad136,e136,hx136_0⟩:=Kd.z1x (Kd.zO HO_5.out).2.2 ((za l0 x6_1).f2) p136 q136
       obtain rfl : ad134 = ad136:=(by injection e136)
       replace p136:=eq_true p136
       replace q136:=eq_true q136
       go_wp2_with (first|((with_reducible refine zW (b:=.append) (xs:=#[.tmp 74,.tmp 76]) rfl ?_);at_builtin;refine Kd.z1h (Kd.int .i64) (w0:=w) w.heap.size rfl (.tmp 74) (.tmp 76) 31 3 (.int .i64 0) 8 rfl Try.underlying31 info3 rfl (by decide) (by omega) (.slice (some ad134) x5_1.length co36) x5_1 (wrap64 ((rd x5_1 ((za l0 x6_1).f1)) + (rd x5_1 ((za l0 x6_1).f2)))) [.int .i64 (wrap64 ((rd x5_1 ((za l0 x6_1).f1)) + (rd x5_1 ((za l0 x6_1).f2))))] (fun _=>True) (fun _=>False) rfl rfl ?aP (fun _ hk=>hk.elim) ?aF ?aO ?aB ?aS ?aL ?_;(case aP=>exact rfl);(case aB=>exact (by repeat (first|(with_reducible first|exact HB.out|apply z4|apply z0|apply z3)|exact HB.out)));(case aF=>exact (fun _ _=>trivial));(case aO=>exact (by (with_reducible repeat (first|apply Kd.zx|apply Kd.zy|apply Kd.zD));exact HO_5.out));(case aS=>exact (zf (by repeat (first|(with_reducible first|exact HB.out|apply z4|apply z0|apply z3)|exact HB.out))));(case aL=>have:=LMc35.out;omega);intro v138 w37 ho hb hg hat;rw [← Ny137.out] at ho;have n0_:=z7.mk (hb);have n1_:=z7.mk (ho);clear HB;clear HO_5;have HB:=n0_;have HO139:=n1_;clear n0_ n1_;clear ho hb hg hat))
       repeat (go_quiet (first|((with_reducible refine zW (b:=.append) (xs:=#[.tmp 74,.tmp 76]) rfl ?_);at_builtin;refine Kd.z1h (Kd.int .i64) (w0:=w) w.heap.size rfl (.tmp 74) (.tmp 76) 31 3 (.int .i64 0) 8 rfl Try.underlying31 info3 rfl (by decide) (by omega) (.slice (some ad134) x5_1.length co36) x5_1 (wrap64 ((rd x5_1 ((za l0 x6_1).f1)) + (rd x5_1 ((za l0 x6_1).f2)))) [.int .i64 (wrap64 ((rd x5_1 ((za l0 x6_1).f1)) + (rd x5_1 ((za l0 x6_1).f2))))] (fun _=>True) (fun _=>False) rfl rfl ?aP (fun _ hk=>hk.elim) ?aF ?aO ?aB ?aS ?aL ?_;(case aP=>exact rfl);(case aB=>exact (by repeat (first|(with_reducible first|exact HB.out|apply z4|apply z0|apply z3)|exact HB.out)));(case aF=>exact (fun _ _=>trivial));(case aO=>exact (by (with_reducible repeat (first|apply Kd.zx|apply Kd.zy|apply Kd.zD));exact HO_5.out));(case aS=>exact (zf (by repeat (first|(with_reducible first|exact HB.out|apply z4|apply z0|apply z3)|exact HB.out))));(case aL=>have:=LMc35.out;omega);intro v138 w37 ho hb hg hat;rw [← Ny137.out] at ho;have n0_:=z7.mk (hb);have n1_:=z7.mk (ho);clear HB;clear HO_5;have HB:=n0_;have HO139:=n1_;clear n0_ n1_;clear ho hb hg hat));try go_wp2_with (first|((with_reducible refine zW (b:=.append) (xs:=#[.tmp 74,.tmp 76]) rfl ?_);at_builtin;refine Kd.z1h (Kd.int .i64) (w0:=w) w.heap.size rfl (.tmp 74) (.tmp 76) 31 3 (.int .i64 0) 8 rfl Try.underlying31 info3 rfl (by decide) (by omega) (.slice (some ad134) x5_1.length co36) x5_1 (wrap64 ((rd x5_1 ((za l0 x6_1).f1)) + (rd x5_1 ((za l0 x6_1).f2)))) [.int .i64 (wrap64 ((rd x5_1 ((za l0 x6_1).f1)) + (rd x5_1 ((za l0 x6_1).f2))))] (fun _=>True) (fun _=>False) rfl rfl ?aP (fun _ hk=>hk.elim) ?aF ?aO ?aB ?aS ?aL ?_;(case aP=>exact rfl);(case aB=>exact (by repeat (first|(with_reducible first|exact HB.out|apply z4|apply z0|apply z3)|exact HB.out)));(case aF=>exact (fun _ _=>trivial));(case aO=>exact (by (with_reducible repeat (first|apply Kd.zx|apply Kd.zy|apply Kd.zD));exact HO_5.out));(case aS=>exact (zf (by repeat (first|(with_reducible first|exact HB.out|apply z4|apply z0|apply z3)|exact HB.out))));(case aL=>have:=LMc35.out;omega);intro v138 w37 ho hb hg hat;rw [← Ny137.out] at ho;have n0_:=z7.mk (hb);have n1_:=z7.mk (ho);clear HB;clear HO_5;have HB:=n0_;have HO139:=n1_;clear n0_ n1_;clear ho hb hg hat)))
       go_roundg kj5
       case measure=>have:=HK1.out;have:=HJ5.out;omega
       case rel=>exact ⟨(y137),(wrap64 (x6_1 + 1)),(by first|rfl|(simp;done)|(simp [*];done)),H',⟨by have:=HK1.out;have:=HJ5.out;omega⟩,⟨by (with_reducible repeat (first|apply Kd.zx|apply Kd.zy|apply Kd.zD));exact HO139.out⟩,⟨by repeat (first|(with_reducible first|exact HB.out|apply z4|apply z0|apply z3)|exact HB.out)⟩⟩
     rw [if_pos c10] at H
     have c10b0 : (((za l0 x6_1).f0) == 3) = true:=beq_iff_eq.mpr c10
     have c10b1 : (((za l0 x6_1).f0) != 3) = false:=bne_eq_false_iff_eq.mpr c10
     clear c10
     by_cases c11 : 0 ≤ ((za l0 x6_1).f1)
     rotate_left
     · rw [if_neg c11] at H
       exact absurd H (by simp)
     rw [if_pos c11] at H
     have c11b0 : decide (0 ≤ ((za l0 x6_1).f1)) = true:=decide_eq_true c11
     clear c11
     by_cases c12 : ((za l0 x6_1).f1) < (x5_1.length : Int)
     rotate_left
     · rw [if_neg c12] at H
       exact absurd H (by simp)
     rw [if_pos c12] at H
     have c12b0 : decide (((za l0 x6_1).f1) < (x5_1.length : Int)) = true:=decide_eq_true c12
     clear c12
     by_cases c13 : 0 ≤ ((za l0 x6_1).f2)
     rotate_left
     · rw [if_neg c13] at H
       exact absurd H (by simp)
     rw [if_pos c13] at H
     have c13b0 : decide (0 ≤ ((za l0 x6_1).f2)) = true:=decide_eq_true c13
     clear c13
     by_cases c14 : ((za l0 x6_1).f2) < (x5_1.length : Int)
     rotate_left
     · rw [if_neg c14] at H
       exact absurd H (by simp)
     rw [if_pos c14] at H
     have c14b0 : decide (((za l0 x6_1).f2) < (x5_1.length : Int)) = true:=decide_eq_true c14
     clear c14
     by_cases c15 : (rd x5_1 ((za l0 x6_1).f2)) > (rd x5_1 ((za l0 x6_1).f1))
     rotate_left
     · rw [if_neg c15] at H
       have c15b0 : decide ((rd x5_1 ((za l0 x6_1).f1)) < (rd x5_1 ((za l0 x6_1).f2))) = false:=decide_eq_false c15
       clear c15
       by_cases c23 : ((za l0 x6_1).f0) = 4
       rotate_left
       · rw [if_neg c23] at H
         have c23b0 : (((za l0 x6_1).f0) == 4) = false:=beq_eq_false_iff_ne.mpr c23
         have c23b1 : (((za l0 x6_1).f0) != 4) = true:=bne_iff_ne.mpr c23
         by_cases c27 : x5_1.length < 17592186044416
         rotate_left
         · rw [if_neg c27] at H
           exact absurd H (by simp)
         rw [if_pos c27] at H
         have LMc27:=z7.mk c27
         clear c27
         obtain ⟨y129,hy129⟩ : ∃ y_ : List Int,y_ = (x5_1 ++ [rd x5_1 ((za l0 x6_1).f1)]):=⟨_,rfl⟩
         replace H : (ze.l0 kj5 l0 a1 y129 (wrap64 (x6_1 + 1))) = some r:=by first|(rw [hy129];with_reducible exact H)|(have H2_:=(Option.bind_some _ _).symm.trans H;rw [hy129];with_reducible exact H2_)|(have H2_:=(Option.bind_some _ _).symm.trans H;with_reducible exact H2_)|with_reducible exact H|(rw [hy129];exact H)|exact H
         have Ny129:=z7.mk hy129
         clear hy129
         have H':=z7.mk H
         clear H
         have p103 : 0 ≤ (x6_1 : Int):=of_decide_eq_true (by first|(with_reducible assumption)|assumption)
         have q103 : x6_1 < (l0.length : Int):=of_decide_eq_true (by first|(with_reducible assumption)|assumption)
         obtain ⟨ad103,e103,hx103_0,hx103_1,hx103_2,hx103_3,hx103_4⟩:=z16 HR0.out x6_1 p103 q103
         obtain rfl : ad102 = ad103:=(by injection e103)
         replace hx103_0:=(HB.out.cell (World.block_lt_of_cell? w _ hx103_0)).trans hx103_0
         replace hx103_1:=(HB.out.cell (World.block_lt_of_cell? w _ hx103_1)).trans hx103_1
         replace hx103_2:=(HB.out.cell (World.block_lt_of_cell? w _ hx103_2)).trans hx103_2
         replace hx103_3:=(HB.out.cell (World.block_lt_of_cell? w _ hx103_3)).trans hx103_3
         replace hx103_4:=(HB.out.cell (World.block_lt_of_cell? w _ hx103_4)).trans hx103_4
         replace p103:=eq_true p103
         replace q103:=eq_true q103
         have p104 : 0 ≤ (x6_1 : Int):=of_decide_eq_true (by first|(with_reducible assumption)|assumption)
         have q104 : x6_1 < (l0.length : Int):=of_decide_eq_true (by first|(with_reducible assumption)|assumption)
         obtain ⟨ad104,e104,hx104_0,hx104_1,hx104_2,hx104_3,hx104_4⟩:=z16 HR0.out x6_1 p104 q104
         obtain rfl : ad102 = ad104:=(by injection e104)
         replace hx104_0:=(HB.out.cell (World.block_lt_of_cell? w _ hx104_0)).trans hx104_0
         replace hx104_1:=(HB.out.cell (World.block_lt_of_cell? w _ hx104_1)).trans hx104_1
         replace hx104_2:=(HB.out.cell (World.block_lt_of_cell? w _ hx104_2)).trans hx104_2
         replace hx104_3:=(HB.out.cell (World.block_lt_of_cell? w _ hx104_3)).trans hx104_3
         replace hx104_4:=(HB.out.cell (World.block_lt_of_cell? w _ hx104_4)).trans hx104_4
         replace p104:=eq_true p104
         replace q104:=eq_true q104
         obtain ⟨Ao28,co28,eo28⟩:=Kd.z1q HO_5.out
         subst eo28
         have p105 : 0 ≤ (((za l0 x6_1).f1) : Int):=of_decide_eq_true (by first|(with_reducible assumption)|assumption)
         have q105 : ((za l0 x6_1).f1) < (x5_1.length : Int):=of_decide_eq_true (by first|(with_reducible assumption)|assumption)
         obtain ⟨ad105,e105,hx105_0⟩:=Kd.z1x (Kd.zO HO_5.out).2.2 ((za l0 x6_1).f1) p105 q105
         cases e105
         replace p105:=eq_true p105
         replace q105:=eq_true q105
         have p106 : 0 ≤ (x6_1 : Int):=of_decide_eq_true (by first|(with_reducible assumption)|assumption)
         have q106 : x6_1 < (l0.length : Int):=of_decide_eq_true (by first|(with_reducible assumption)|assumption)
         obtain ⟨ad106,e106,hx106_0,hx106_1,hx106_2,hx106_3,hx106_4⟩:=z16 HR0.out x6_1 p106 q106
         obtain rfl : ad102 = ad106:=(by injection e106)
         replace hx106_0:=(HB.out.cell (World.block_lt_of_cell? w _ hx106_0)).trans hx106_0
         replace hx106_1:=(HB.out.cell (World.block_lt_of_cell? w _ hx106_1)).trans hx106_1
         replace hx106_2:=(HB.out.cell (World.block_lt_of_cell? w _ hx106_2)).trans hx106_2
         replace hx106_3:=(HB.out.cell (World.block_lt_of_cell? w _ hx106_3)).trans hx106_3
         replace hx106_4:=(HB.out.cell (World.block_lt_of_cell? w _ hx106_4)).trans hx106_4
         replace p106:=eq_true p106
         replace q106:=eq_true q106
         have p107 : 0 ≤ (((za l0 x6_1).f2) : Int):=of_decide_eq_true (by first|(with_reducible assumption)|assumption)
         have q107 : ((za l0 x6_1).f2) < (x5_1.length : Int):=of_decide_eq_true (by first|(with_reducible assumption)|assumption)
         obtain ⟨ad107,e107,hx107_0⟩:=Kd.z1x (Kd.zO HO_5.out).2.2 ((za l0 x6_1).f2) p107 q107
         obtain rfl : ad105 = ad107:=(by injection e107)
         replace p107:=eq_true p107
         replace q107:=eq_true q107
         have p121 : 0 ≤ (x6_1 : Int):=of_decide_eq_true (by first|(with_reducible assumption)|assumption)
         have q121 : x6_1 < (l0.length : Int):=of_decide_eq_true (by first|(with_reducible assumption)|assumption)
         obtain ⟨ad121,e121,hx121_0,hx121_1,hx121_2,hx121_3,hx121_4⟩:=z16 HR0.out x6_1 p121 q121
         obtain rfl : ad102 = ad121:=(by injection e121)
         replace hx121_0:=(HB.out.cell (World.block_lt_of_cell? w _ hx121_0)).trans hx121_0
         replace hx121_1:=(HB.out.cell (World.block_lt_of_cell? w _ hx121_1)).trans hx121_1
         replace hx121_2:=(HB.out.cell (World.block_lt_of_cell? w _ hx121_2)).trans hx121_2
         replace hx121_3:=(HB.out.cell (World.block_lt_of_cell? w _ hx121_3)).trans hx121_3
         replace hx121_4:=(HB.out.cell (World.block_lt_of_cell? w _ hx121_4)).trans hx121_4
         replace p121:=eq_true p121
         replace q121:=eq_true q121
         go_wp2_with (first|((with_reducible refine zW (b:=.append) (xs:=#[.tmp 74,.tmp 76]) rfl ?_);at_builtin;refine Kd.z1h (Kd.int .i64) (w0:=w) w.heap.size rfl (.tmp 74) (.tmp 76) 31 3 (.int .i64 0) 8 rfl Try.underlying31 info3 rfl (by decide) (by omega) (.slice (some ad105) x5_1.length co28) x5_1 (rd x5_1 ((za l0 x6_1).f1)) [.int .i64 (rd x5_1 ((za l0 x6_1).f1))] (fun _=>True) (fun _=>False) rfl rfl ?aP (fun _ hk=>hk.elim) ?aF ?aO ?aB ?aS ?aL ?_;(case aP=>exact rfl);(case aB=>exact (by repeat (first|(with_reducible first|exact HB.out|apply z4|apply z0|apply z3)|exact HB.out)));(case aF=>exact (fun _ _=>trivial));(case aO=>exact (by (with_reducible repeat (first|apply Kd.zx|apply Kd.zy|apply Kd.zD));exact HO_5.out));(case aS=>exact (zf (by repeat (first|(with_reducible first|exact HB.out|apply z4|apply z0|apply z3)|exact HB.out))));(case aL=>have:=LMc27.out;omega);intro v130 w29 ho hb hg hat;rw [← Ny129.out] at ho;have n0_:=z7.mk (hb);have n1_:=z7.mk (ho);clear HB;clear HO_5;have HB:=n0_;have HO131:=n1_;clear n0_ n1_;clear ho hb hg hat))
         repeat (go_quiet (first|((with_reducible refine zW (b:=.append) (xs:=#[.tmp 74,.tmp 76]) rfl ?_);at_builtin;refine Kd.z1h (Kd.int .i64) (w0:=w) w.heap.size rfl (.tmp 74) (.tmp 76) 31 3 (.int .i64 0) 8 rfl Try.underlying31 info3 rfl (by decide) (by omega) (.slice (some ad105) x5_1.length co28) x5_1 (rd x5_1 ((za l0 x6_1).f1)) [.int .i64 (rd x5_1 ((za l0 x6_1).f1))] (fun _=>True) (fun _=>False) rfl rfl ?aP (fun _ hk=>hk.elim) ?aF ?aO ?aB ?aS ?aL ?_;(case aP=>exact rfl);(case aB=>exact (by repeat (first|(with_reducible first|exact HB.out|apply z4|apply z0|apply z3)|exact HB.out)));(case aF=>exact (fun _ _=>trivial));(case aO=>exact (by (with_reducible repeat (first|apply Kd.zx|apply Kd.zy|apply Kd.zD));exact HO_5.out));(case aS=>exact (zf (by repeat (first|(with_reducible first|exact HB.out|apply z4|apply z0|apply z3)|exact HB.out))));(case aL=>have:=LMc27.out;omega);intro v130 w29 ho hb hg hat;rw [← Ny129.out] at ho;have n0_:=z7.mk (hb);have n1_:=z7.mk (ho);clear HB;clear HO_5;have HB:=n0_;have HO131:=n1_;clear n0_ n1_;clear ho hb hg hat));try go_wp2_with (first|((with_reducible refine zW (b:=.append) (xs:=#[.tmp 74,.tmp 76]) rfl ?_);at_builtin;refine Kd.z1h (Kd.int .i64) (w0:=w) w.heap.size rfl (.tmp 74) (.tmp 76) 31 3 (.int .i64 0) 8 rfl Try.underlying31 info3 rfl (by decide) (by omega) (.slice (some ad105) x5_1.length co28) x5_1 (rd x5_1 ((za l0 x6_1).f1)) [.int .i64 (rd x5_1 ((za l0 x6_1).f1))] (fun _=>True) (fun _=>False) rfl rfl ?aP (fun _ hk=>hk.elim) ?aF ?aO ?aB ?aS ?aL ?_;(case aP=>exact rfl);(case aB=>exact (by repeat (first|(with_reducible first|exact HB.out|apply z4|apply z0|apply z3)|exact HB.out)));(case aF=>exact (fun _ _=>trivial));(case aO=>exact (by (with_reducible repeat (first|apply Kd.zx|apply Kd.zy|apply Kd.zD));exact HO_5.out));(case aS=>exact (zf (by repeat (first|(with_reducible first|exact HB.out|apply z4|apply z0|apply z3)|exact HB.out))));(case aL=>have:=LMc27.out;omega);intro v130 w29 ho hb hg hat;rw [← Ny129.out] at ho;have n0_:=z7.mk (hb);have n1_:=z7.mk (ho);clear HB;clear HO_5;have HB:=n0_;have HO131:=n1_;clear n0_ n1_;clear ho hb hg hat)))
         go_roundg kj5
         case measure=>have:=HK1.out;have:=HJ5.out;omega
         case rel=>exact ⟨(y129),(wrap64 (x6_1 + 1)),(by first|rfl|(simp;done)|(simp [*];done)),H',⟨by have:=HK1.out;have:=HJ5.out;omega⟩,⟨by (with_reducible repeat (first|apply Kd.zx|apply Kd.zy|apply Kd.zD));exact HO131.out⟩,⟨by repeat (first|(with_reducible first|exact HB.out|apply z4|apply z0|apply z3)|exact HB.out)⟩⟩
       rw [if_pos c23] at H
       have c23b0 : (((za l0 x6_1).f0) == 4) = true:=beq_iff_eq.mpr c23
       have c23b1 : (((za l0 x6_1).f0) != 4) = false:=bne_eq_false_iff_eq.mpr c23
       clear c23
       by_cases c24 : x5_1.length < 17592186044416
       rotate_left
       · rw [if_neg c24] at H
         exact absurd H (by simp)
       rw [if_pos c24] at H
       have LMc24:=z7.mk c24
       clear c24
       obtain ⟨y126,hy126⟩ : ∃ y_ : List Int,y_ = (x5_1 ++ [wrap64 ((rd x5_1 ((za l0 x6_1).f1)) + (rd x5_1 ((za l0 x6_1).f2)))]):=⟨_,rfl⟩
       replace H : (ze.l0 kj5 l0 a1 y126 (wrap64 (x6_1 + 1))) = some r:=by first|(rw [hy126];with_reducible exact H)|(have H2_:=(Option.bind_some _ _).symm.trans H;rw [hy126];with_reducible exact H2_)|(have H2_:=(Option.bind_some _ _).symm.trans H;with_reducible exact H2_)|with_reducible exact H|(rw [hy126];exact H)|exact H
       have Ny126:=z7.mk hy126
       clear hy126
       have H':=z7.mk H
       clear H
       have p103 : 0 ≤ (x6_1 : Int):=of_decide_eq_true (by first|(with_reducible assumption)|assumption)
       have q103 : x6_1 < (l0.length : Int):=of_decide_eq_true (by first|(with_reducible assumption)|assumption)
       obtain ⟨ad103,e103,hx103_0,hx103_1,hx103_2,hx103_3,hx103_4⟩:=z16 HR0.out x6_1 p103 q103
       obtain rfl : ad102 = ad103:=(by injection e103)
       replace hx103_0:=(HB.out.cell (World.block_lt_of_cell? w _ hx103_0)).trans hx103_0
       replace hx103_1:=(HB.out.cell (World.block_lt_of_cell? w _ hx103_1)).trans hx103_1
       replace hx103_2:=(HB.out.cell (World.block_lt_of_cell? w _ hx103_2)).trans hx103_2
       replace hx103_3:=(HB.out.cell (World.block_lt_of_cell? w _ hx103_3)).trans hx103_3
       replace hx103_4:=(HB.out.cell (World.block_lt_of_cell? w _ hx103_4)).trans hx103_4
       replace p103:=eq_true p103
       replace q103:=eq_true q103
       have p104 : 0 ≤ (x6_1 : Int):=of_decide_eq_true (by first|(with_reducible assumption)|assumption)
       have q104 : x6_1 < (l0.length : Int):=of_decide_eq_true (by first|(with_reducible assumption)|assumption)
       obtain ⟨ad104,e104,hx104_0,hx104_1,hx104_2,hx104_3,hx104_4⟩:=z16 HR0.out x6_1 p104 q104
       obtain rfl : ad102 = ad104:=(by injection e104)
       replace hx104_0:=(HB.out.cell (World.block_lt_of_cell? w _ hx104_0)).trans hx104_0
       replace hx104_1:=(HB.out.cell (World.block_lt_of_cell? w _ hx104_1)).trans hx104_1
       replace hx104_2:=(HB.out.cell (World.block_lt_of_cell? w _ hx104_2)).trans hx104_2
       replace hx104_3:=(HB.out.cell (World.block_lt_of_cell? w _ hx104_3)).trans hx104_3
       replace hx104_4:=(HB.out.cell (World.block_lt_of_cell? w _ hx104_4)).trans hx104_4
       replace p104:=eq_true p104
       replace q104:=eq_true q104
       obtain ⟨Ao25,co25,eo25⟩:=Kd.z1q HO_5.out
       subst eo25
       have p105 : 0 ≤ (((za l0 x6_1).f1) : Int):=of_decide_eq_true (by first|(with_reducible assumption)|assumption)
       have q105 : ((za l0 x6_1).f1) < (x5_1.length : Int):=of_decide_eq_true (by first|(with_reducible assumption)|assumption)
       obtain ⟨ad105,e105,hx105_0⟩:=Kd.z1x (Kd.zO HO_5.out).2.2 ((za l0 x6_1).f1) p105 q105
       cases e105
       replace p105:=eq_true p105
       replace q105:=eq_true q105
       have p106 : 0 ≤ (x6_1 : Int):=of_decide_eq_true (by first|(with_reducible assumption)|assumption)
       have q106 : x6_1 < (l0.length : Int):=of_decide_eq_true (by first|(with_reducible assumption)|assumption)
       obtain ⟨ad106,e106,hx106_0,hx106_1,hx106_2,hx106_3,hx106_4⟩:=z16 HR0.out x6_1 p106 q106
       obtain rfl : ad102 = ad106:=(by injection e106)
       replace hx106_0:=(HB.out.cell (World.block_lt_of_cell? w _ hx106_0)).trans hx106_0
       replace hx106_1:=(HB.out.cell (World.block_lt_of_cell? w _ hx106_1)).trans hx106_1
       replace hx106_2:=(HB.out.cell (World.block_lt_of_cell? w _ hx106_2)).trans hx106_2
       replace hx106_3:=(HB.out.cell (World.block_lt_of_cell? w _ hx106_3)).trans hx106_3
       replace hx106_4:=(HB.out.cell (World.block_lt_of_cell? w _ hx106_4)).trans hx106_4
       replace p106:=eq_true p106
       replace q106:=eq_true q106
       have p107 : 0 ≤ (((za l0 x6_1).f2) : Int):=of_decide_eq_true (by first|(with_reducible assumption)|assumption)
       have q107 : ((za l0 x6_1).f2) < (x5_1.length : Int):=of_decide_eq_true (by first|(with_reducible assumption)|assumption)
       obtain ⟨ad107,e107,hx107_0⟩:=Kd.z1x (Kd.zO HO_5.out).2.2 ((za l0 x6_1).f2) p107 q107
       obtain rfl : ad105 = ad107:=(by injection e107)
       replace p107:=eq_true p107
       replace q107:=eq_true q107
       have p121 : 0 ≤ (x6_1 : Int):=of_decide_eq_true (by first|(with_reducible assumption)|assumption)
       have q121 : x6_1 < (l0.length : Int):=of_decide_eq_true (by first|(with_reducible assumption)|assumption)
       obtain ⟨ad121,e121,hx121_0,hx121_1,hx121_2,hx121_3,hx121_4⟩:=z16 HR0.out x6_1 p121 q121
       obtain rfl : ad102 = ad121:=(by injection e121)
       replace hx121_0:=(HB.out.cell (World.block_lt_of_cell? w _ hx121_0)).trans hx121_0
       replace hx121_1:=(HB.out.cell (World.block_lt_of_cell? w _ hx121_1)).trans hx121_1
       replace hx121_2:=(HB.out.cell (World.block_lt_of_cell? w _ hx121_2)).trans hx121_2
       replace hx121_3:=(HB.out.cell (World.block_lt_of_cell? w _ hx121_3)).trans hx121_3
       replace hx121_4:=(HB.out.cell (World.block_lt_of_cell? w _ hx121_4)).trans hx121_4
       replace p121:=eq_true p121
       replace q121:=eq_true q121
       have p122 : 0 ≤ (x6_1 : Int):=of_decide_eq_true (by first|(with_reducible assumption)|assumption)
       have q122 : x6_1 < (l0.length : Int):=of_decide_eq_true (by first|(with_reducible assumption)|assumption)
       obtain ⟨ad122,e122,hx122_0,hx122_1,hx122_2,hx122_3,hx122_4⟩:=z16 HR0.out x6_1 p122 q122
       obtain rfl : ad102 = ad122:=(by injection e122)
       replace hx122_0:=(HB.out.cell (World.block_lt_of_cell? w _ hx122_0)).trans hx122_0
       replace hx122_1:=(HB.out.cell (World.block_lt_of_cell? w _ hx122_1)).trans hx122_1
       replace hx122_2:=(HB.out.cell (World.block_lt_of_cell? w _ hx122_2)).trans hx122_2
       replace hx122_3:=(HB.out.cell (World.block_lt_of_cell? w _ hx122_3)).trans hx122_3
       replace hx122_4:=(HB.out.cell (World.block_lt_of_cell? w _ hx122_4)).trans hx122_4
       replace p122:=eq_true p122
       replace q122:=eq_true q122
       have p123 : 0 ≤ (((za l0 x6_1).f1) : Int):=of_decide_eq_true (by first|(with_reducible assumption)|assumption)
       have q123 : ((za l0 x6_1).f1) < (x5_1.length : Int):=of_decide_eq_true (by first|(with_reducible assumption)|assumption)
       obtain ⟨ad123,e123,hx123_0⟩:=Kd.z1x (Kd.zO HO_5.out).2.2 ((za l0 x6_1).f1) p123 q123
       obtain rfl : ad105 = ad123:=(by injection e123)
       replace p123:=eq_true p123
       replace q123:=eq_true q123
       have p124 : 0 ≤ (x6_1 : Int):=of_decide_eq_true (by first|(with_reducible assumption)|assumption)
       have q124 : x6_1 < (l0.length : Int):=of_decide_eq_true (by first|(with_reducible assumption)|assumption)
       obtain ⟨ad124,e124,hx124_0,hx124_1,hx124_2,hx124_3,hx124_4⟩:=z16 HR0.out x6_1 p124 q124
       obtain rfl : ad102 = ad124:=(by injection e124)
       replace hx124_0:=(HB.out.cell (World.block_lt_of_cell? w _ hx124_0)).trans hx124_0
       replace hx124_1:=(HB.out.cell (World.block_lt_of_cell? w _ hx124_1)).trans hx124_1
       replace hx124_2:=(HB.out.cell (World.block_lt_of_cell? w _ hx124_2)).trans hx124_2
       replace hx124_3:=(HB.out.cell (World.block_lt_of_cell? w _ hx124_3)).trans hx124_3
       replace hx124_4:=(HB.out.cell (World.block_lt_of_cell? w _ hx124_4)).trans hx124_4
       replace p124:=eq_true p124
       replace q124:=eq_true q124
       have p125 : 0 ≤ (((za l0 x6_1).f2) : Int):=of_decide_eq_true (by first|(with_reducible assumption)|assumption)
       have q125 : ((za l0 x6_1).f2) < (x5_1.length : Int):=of_decide_eq_true (by first|(with_reducible assumption)|assumption)
       obtain ⟨ad125,e125,hx125_0⟩:=Kd.z1x (Kd.zO HO_5.out).2.2 ((za l0 x6_1).f2) p125 q125
       obtain rfl : ad105 = ad125:=(by injection e125)
       replace p125:=eq_true p125
       replace q125:=eq_true q125
       go_wp2_with (first|((with_reducible refine zW (b:=.append) (xs:=#[.tmp 74,.tmp 76]) rfl ?_);at_builtin;refine Kd.z1h (Kd.int .i64) (w0:=w) w.heap.size rfl (.tmp 74) (.tmp 76) 31 3 (.int .i64 0) 8 rfl Try.underlying31 info3 rfl (by decide) (by omega) (.slice (some ad105) x5_1.length co25) x5_1 (wrap64 ((rd x5_1 ((za l0 x6_1).f1)) + (rd x5_1 ((za l0 x6_1).f2)))) [.int .i64 (wrap64 ((rd x5_1 ((za l0 x6_1).f1)) + (rd x5_1 ((za l0 x6_1).f2))))] (fun _=>True) (fun _=>False) rfl rfl ?aP (fun _ hk=>hk.elim) ?aF ?aO ?aB ?aS ?aL ?_;(case aP=>exact rfl);(case aB=>exact (by repeat (first|(with_reducible first|exact HB.out|apply z4|apply z0|apply z3)|exact HB.out)));(case aF=>exact (fun _ _=>trivial));(case aO=>exact (by (with_reducible repeat (first|apply Kd.zx|apply Kd.zy|apply Kd.zD));exact HO_5.out));(case aS=>exact (zf (by repeat (first|(with_reducible first|exact HB.out|apply z4|apply z0|apply z3)|exact HB.out))));(case aL=>have:=LMc24.out;omega);intro v127 w26 ho hb hg hat;rw [← Ny126.out] at ho;have n0_:=z7.mk (hb);have n1_:=z7.mk (ho);clear HB;clear HO_5;have HB:=n0_;have HO128:=n1_;clear n0_ n1_;clear ho hb hg hat))
       repeat (go_quiet (first|((with_reducible refine zW (b:=.append) (xs:=#[.tmp 74,.tmp 76]) rfl ?_);at_builtin;refine Kd.z1h (Kd.int .i64) (w0:=w) w.heap.size rfl (.tmp 74) (.tmp 76) 31 3 (.int .i64 0) 8 rfl Try.underlying31 info3 rfl (by decide) (by omega) (.slice (some ad105) x5_1.length co25) x5_1 (wrap64 ((rd x5_1 ((za l0 x6_1).f1)) + (rd x5_1 ((za l0 x6_1).f2)))) [.int .i64 (wrap64 ((rd x5_1 ((za l0 x6_1).f1)) + (rd x5_1 ((za l0 x6_1).f2))))] (fun _=>True) (fun _=>False) rfl rfl ?aP (fun _ hk=>hk.elim) ?aF ?aO ?aB ?aS ?aL ?_;(case aP=>exact rfl);(case aB=>exact (by repeat (first|(with_reducible first|exact HB.out|apply z4|apply z0|apply z3)|exact HB.out)));(case aF=>exact (fun _ _=>trivial));(case aO=>exact (by (with_reducible repeat (first|apply Kd.zx|apply Kd.zy|apply Kd.zD));exact HO_5.out));(case aS=>exact (zf (by repeat (first|(with_reducible first|exact HB.out|apply z4|apply z0|apply z3)|exact HB.out))));(case aL=>have:=LMc24.out;omega);intro v127 w26 ho hb hg hat;rw [← Ny126.out] at ho;have n0_:=z7.mk (hb);have n1_:=z7.mk (ho);clear HB;clear HO_5;have HB:=n0_;have HO128:=n1_;clear n0_ n1_;clear ho hb hg hat));try go_wp2_with (first|((with_reducible refine zW (b:=.append) (xs:=#[.tmp 74,.tmp 76]) rfl ?_);at_builtin;refine Kd.z1h (Kd.int .i64) (w0:=w) w.heap.size rfl (.tmp 74) (.tmp 76) 31 3 (.int .i64 0) 8 rfl Try.underlying31 info3 rfl (by decide) (by omega) (.slice (some ad105) x5_1.length co25) x5_1 (wrap64 ((rd x5_1 ((za l0 x6_1).f1)) + (rd x5_1 ((za l0 x6_1).f2)))) [.int .i64 (wrap64 ((rd x5_1 ((za l0 x6_1).f1)) + (rd x5_1 ((za l0 x6_1).f2))))] (fun _=>True) (fun _=>False) rfl rfl ?aP (fun _ hk=>hk.elim) ?aF ?aO ?aB ?aS ?aL ?_;(case aP=>exact rfl);(case aB=>exact (by repeat (first|(with_reducible first|exact HB.out|apply z4|apply z0|apply z3)|exact HB.out)));(case aF=>exact (fun _ _=>trivial));(case aO=>exact (by (with_reducible repeat (first|apply Kd.zx|apply Kd.zy|apply Kd.zD));exact HO_5.out));(case aS=>exact (zf (by repeat (first|(with_reducible first|exact HB.out|apply z4|apply z0|apply z3)|exact HB.out))));(case aL=>have:=LMc24.out;omega);intro v127 w26 ho hb hg hat;rw [← Ny126.out] at ho;have n0_:=z7.mk (hb);have n1_:=z7.mk (ho);clear HB;clear HO_5;have HB:=n0_;have HO128:=n1_;clear n0_ n1_;clear ho hb hg hat)))
       go_roundg kj5
       case measure=>have:=HK1.out;have:=HJ5.out;omega
       case rel=>exact ⟨(y126),(wrap64 (x6_1 + 1)),(by first|rfl|(simp;done)|(simp [*];done)),H',⟨by have:=HK1.out;have:=HJ5.out;omega⟩,⟨by (with_reducible repeat (first|apply Kd.zx|apply Kd.zy|apply Kd.zD));exact HO128.out⟩,⟨by repeat (first|(with_reducible first|exact HB.out|apply z4|apply z0|apply z3)|exact HB.out)⟩⟩
     rw [if_pos c15] at H
     have c15b0 : decide ((rd x5_1 ((za l0 x6_1).f1)) < (rd x5_1 ((za l0 x6_1).f2))) = true:=decide_eq_true c15
     clear c15
     by_cases c16 : ((za l0 x6_1).f0) = 4
     rotate_left
     · rw [if_neg c16] at H
       have c16b0 : (((za l0 x6_1).f0) == 4) = false:=beq_eq_false_iff_ne.mpr c16
       have c16b1 : (((za l0 x6_1).f0) != 4) = true:=bne_iff_ne.mpr c16
       by_cases c20 : x5_1.length < 17592186044416
       rotate_left
       · rw [if_neg c20] at H
         exact absurd H (by simp)
       rw [if_pos c20] at H
       have LMc20:=z7.mk c20
       clear c20
       obtain ⟨y118,hy118⟩ : ∃ y_ : List Int,y_ = (x5_1 ++ [rd x5_1 ((za l0 x6_1).f2)]):=⟨_,rfl⟩
       replace H : (ze.l0 kj5 l0 a1 y118 (wrap64 (x6_1 + 1))) = some r:=by first|(rw [hy118];with_reducible exact H)|(have H2_:=(Option.bind_some _ _).symm.trans H;rw [hy118];with_reducible exact H2_)|(have H2_:=(Option.bind_some _ _).symm.trans H;with_reducible exact H2_)|with_reducible exact H|(rw [hy118];exact H)|exact H
       have Ny118:=z7.mk hy118
       clear hy118
       have H':=z7.mk H
       clear H
       have p103 : 0 ≤ (x6_1 : Int):=of_decide_eq_true (by first|(with_reducible assumption)|assumption)
       have q103 : x6_1 < (l0.length : Int):=of_decide_eq_true (by first|(with_reducible assumption)|assumption)
       obtain ⟨ad103,e103,hx103_0,hx103_1,hx103_2,hx103_3,hx103_4⟩:=z16 HR0.out x6_1 p103 q103
       obtain rfl : ad102 = ad103:=(by injection e103)
       replace hx103_0:=(HB.out.cell (World.block_lt_of_cell? w _ hx103_0)).trans hx103_0
       replace hx103_1:=(HB.out.cell (World.block_lt_of_cell? w _ hx103_1)).trans hx103_1
       replace hx103_2:=(HB.out.cell (World.block_lt_of_cell? w _ hx103_2)).trans hx103_2
       replace hx103_3:=(HB.out.cell (World.block_lt_of_cell? w _ hx103_3)).trans hx103_3
       replace hx103_4:=(HB.out.cell (World.block_lt_of_cell? w _ hx103_4)).trans hx103_4
       replace p103:=eq_true p103
       replace q103:=eq_true q103
       have p104 : 0 ≤ (x6_1 : Int):=of_decide_eq_true (by first|(with_reducible assumption)|assumption)
       have q104 : x6_1 < (l0.length : Int):=of_decide_eq_true (by first|(with_reducible assumption)|assumption)
       obtain ⟨ad104,e104,hx104_0,hx104_1,hx104_2,hx104_3,hx104_4⟩:=z16 HR0.out x6_1 p104 q104
       obtain rfl : ad102 = ad104:=(by injection e104)
       replace hx104_0:=(HB.out.cell (World.block_lt_of_cell? w _ hx104_0)).trans hx104_0
       replace hx104_1:=(HB.out.cell (World.block_lt_of_cell? w _ hx104_1)).trans hx104_1
       replace hx104_2:=(HB.out.cell (World.block_lt_of_cell? w _ hx104_2)).trans hx104_2
       replace hx104_3:=(HB.out.cell (World.block_lt_of_cell? w _ hx104_3)).trans hx104_3
       replace hx104_4:=(HB.out.cell (World.block_lt_of_cell? w _ hx104_4)).trans hx104_4
       replace p104:=eq_true p104
       replace q104:=eq_true q104
       obtain ⟨Ao21,co21,eo21⟩:=Kd.z1q HO_5.out
       subst eo21
       have p105 : 0 ≤ (((za l0 x6_1).f1) : Int):=of_decide_eq_true (by first|(with_reducible assumption)|assumption)
       have q105 : ((za l0 x6_1).f1) < (x5_1.length : Int):=of_decide_eq_true (by first|(with_reducible assumption)|assumption)
       obtain ⟨ad105,e105,hx105_0⟩:=Kd.z1x (Kd.zO HO_5.out).2.2 ((za l0 x6_1).f1) p105 q105
       cases e105
       replace p105:=eq_true p105
       replace q105:=eq_true q105
       have p106 : 0 ≤ (x6_1 : Int):=of_decide_eq_true (by first|(with_reducible assumption)|assumption)
       have q106 : x6_1 < (l0.length : Int):=of_decide_eq_true (by first|(with_reducible assumption)|assumption)
       obtain ⟨ad106,e106,hx106_0,hx106_1,hx106_2,hx106_3,hx106_4⟩:=z16 HR0.out x6_1 p106 q106
       obtain rfl : ad102 = ad106:=(by injection e106)
       replace hx106_0:=(HB.out.cell (World.block_lt_of_cell? w _ hx106_0)).trans hx106_0
       replace hx106_1:=(HB.out.cell (World.block_lt_of_cell? w _ hx106_1)).trans hx106_1
       replace hx106_2:=(HB.out.cell (World.block_lt_of_cell? w _ hx106_2)).trans hx106_2
       replace hx106_3:=(HB.out.cell (World.block_lt_of_cell? w _ hx106_3)).trans hx106_3
       replace hx106_4:=(HB.out.cell (World.block_lt_of_cell? w _ hx106_4)).trans hx106_4
       replace p106:=eq_true p106
       replace q106:=eq_true q106
       have p107 : 0 ≤ (((za l0 x6_1).f2) : Int):=of_decide_eq_true (by first|(with_reducible assumption)|assumption)
       have q107 : ((za l0 x6_1).f2) < (x5_1.length : Int):=of_decide_eq_true (by first|(with_reducible assumption)|assumption)
       obtain ⟨ad107,e107,hx107_0⟩:=Kd.z1x (Kd.zO HO_5.out).2.2 ((za l0 x6_1).f2) p107 q107
       obtain rfl : ad105 = ad107:=(by injection e107)
       replace p107:=eq_true p107
       replace q107:=eq_true q107
       have p108 : 0 ≤ (x6_1 : Int):=of_decide_eq_true (by first|(with_reducible assumption)|assumption)
       have q108 : x6_1 < (l0.length : Int):=of_decide_eq_true (by first|(with_reducible assumption)|assumption)
       obtain ⟨ad108,e108,hx108_0,hx108_1,hx108_2,hx108_3,hx108_4⟩:=z16 HR0.out x6_1 p108 q108
       obtain rfl : ad102 = ad108:=(by injection e108)
       replace hx108_0:=(HB.out.cell (World.block_lt_of_cell? w _ hx108_0)).trans hx108_0
       replace hx108_1:=(HB.out.cell (World.block_lt_of_cell? w _ hx108_1)).trans hx108_1
       replace hx108_2:=(HB.out.cell (World.block_lt_of_cell? w _ hx108_2)).trans hx108_2
       replace hx108_3:=(HB.out.cell (World.block_lt_of_cell? w _ hx108_3)).trans hx108_3
       replace hx108_4:=(HB.out.cell (World.block_lt_of_cell? w _ hx108_4)).trans hx108_4
       replace p108:=eq_true p108
       replace q108:=eq_true q108
       have p109 : 0 ≤ (((za l0 x6_1).f2) : Int):=of_decide_eq_true (by first|(with_reducible assumption)|assumption)
       have q109 : ((za l0 x6_1).f2) < (x5_1.length : Int):=of_decide_eq_true (by first|(with_reducible assumption)|assumption)
       obtain ⟨ad109,e109,hx109_0⟩:=Kd.z1x (Kd.zO HO_5.out).2.2 ((za l0 x6_1).f2) p109 q109
       obtain rfl : ad105 = ad109:=(by injection e109)
       replace p109:=eq_true p109
       replace q109:=eq_true q109
       have p110 : 0 ≤ (x6_1 : Int):=of_decide_eq_true (by first|(with_reducible assumption)|assumption)
       have q110 : x6_1 < (l0.length : Int):=of_decide_eq_true (by first|(with_reducible assumption)|assumption)
       obtain ⟨ad110,e110,hx110_0,hx110_1,hx110_2,hx110_3,hx110_4⟩:=z16 HR0.out x6_1 p110 q110
       obtain rfl : ad102 = ad110:=(by injection e110)
       replace hx110_0:=(HB.out.cell (World.block_lt_of_cell? w _ hx110_0)).trans hx110_0
       replace hx110_1:=(HB.out.cell (World.block_lt_of_cell? w _ hx110_1)).trans hx110_1
       replace hx110_2:=(HB.out.cell (World.block_lt_of_cell? w _ hx110_2)).trans hx110_2
       replace hx110_3:=(HB.out.cell (World.block_lt_of_cell? w _ hx110_3)).trans hx110_3
       replace hx110_4:=(HB.out.cell (World.block_lt_of_cell? w _ hx110_4)).trans hx110_4
       replace p110:=eq_true p110
       replace q110:=eq_true q110
       go_wp2_with (first|((with_reducible refine zW (b:=.append) (xs:=#[.tmp 74,.tmp 76]) rfl ?_);at_builtin;refine Kd.z1h (Kd.int .i64) (w0:=w) w.heap.size rfl (.tmp 74) (.tmp 76) 31 3 (.int .i64 0) 8 rfl Try.underlying31 info3 rfl (by decide) (by omega) (.slice (some ad105) x5_1.length co21) x5_1 (rd x5_1 ((za l0 x6_1).f2)) [.int .i64 (rd x5_1 ((za l0 x6_1).f2))] (fun _=>True) (fun _=>False) rfl rfl ?aP (fun _ hk=>hk.elim) ?aF ?aO ?aB ?aS ?aL ?_;(case aP=>exact rfl);(case aB=>exact (by repeat (first|(with_reducible first|exact HB.out|apply z4|apply z0|apply z3)|exact HB.out)));(case aF=>exact (fun _ _=>trivial));(case aO=>exact (by (with_reducible repeat (first|apply Kd.zx|apply Kd.zy|apply Kd.zD));exact HO_5.out));(case aS=>exact (zf (by repeat (first|(with_reducible first|exact HB.out|apply z4|apply z0|apply z3)|exact HB.out))));(case aL=>have:=LMc20.out;omega);intro v119 w22 ho hb hg hat;rw [← Ny118.out] at ho;have n0_:=z7.mk (hb);have n1_:=z7.mk (ho);clear HB;clear HO_5;have HB:=n0_;have HO120:=n1_;clear n0_ n1_;clear ho hb hg hat))
       repeat (go_quiet (first|((with_reducible refine zW (b:=.append) (xs:=#[.tmp 74,.tmp 76]) rfl ?_);at_builtin;refine Kd.z1h (Kd.int .i64) (w0:=w) w.heap.size rfl (.tmp 74) (.tmp 76) 31 3 (.int .i64 0) 8 rfl Try.underlying31 info3 rfl (by decide) (by omega) (.slice (some ad105) x5_1.length co21) x5_1 (rd x5_1 ((za l0 x6_1).f2)) [.int .i64 (rd x5_1 ((za l0 x6_1).f2))] (fun _=>True) (fun _=>False) rfl rfl ?aP (fun _ hk=>hk.elim) ?aF ?aO ?aB ?aS ?aL ?_;(case aP=>exact rfl);(case aB=>exact (by repeat (first|(with_reducible first|exact HB.out|apply z4|apply z0|apply z3)|exact HB.out)));(case aF=>exact (fun _ _=>trivial));(case aO=>exact (by (with_reducible repeat (first|apply Kd.zx|apply Kd.zy|apply Kd.zD));exact HO_5.out));(case aS=>exact (zf (by repeat (first|(with_reducible first|exact HB.out|apply z4|apply z0|apply z3)|exact HB.out))));(case aL=>have:=LMc20.out;omega);intro v119 w22 ho hb hg hat;rw [← Ny118.out] at ho;have n0_:=z7.mk (hb);have n1_:=z7.mk (ho);clear HB;clear HO_5;have HB:=n0_;have HO120:=n1_;clear n0_ n1_;clear ho hb hg hat));try go_wp2_with (first|((with_reducible refine zW (b:=.append) (xs:=#[.tmp 74,.tmp 76]) rfl ?_);at_builtin;refine Kd.z1h (Kd.int .i64) (w0:=w) w.heap.size rfl (.tmp 74) (.tmp 76) 31 3 (.int .i64 0) 8 rfl Try.underlying31 info3 rfl (by decide) (by omega) (.slice (some ad105) x5_1.length co21) x5_1 (rd x5_1 ((za l0 x6_1).f2)) [.int .i64 (rd x5_1 ((za l0 x6_1).f2))] (fun _=>True) (fun _=>False) rfl rfl ?aP (fun _ hk=>hk.elim) ?aF ?aO ?aB ?aS ?aL ?_;(case aP=>exact rfl);(case aB=>exact (by repeat (first|(with_reducible first|exact HB.out|apply z4|apply z0|apply z3)|exact HB.out)));(case aF=>exact (fun _ _=>trivial));(case aO=>exact (by (with_reducible repeat (first|apply Kd.zx|apply Kd.zy|apply Kd.zD));exact HO_5.out));(case aS=>exact (zf (by repeat (first|(with_reducible first|exact HB.out|apply z4|apply z0|apply z3)|exact HB.out))));(case aL=>have:=LMc20.out;omega);intro v119 w22 ho hb hg hat;rw [← Ny118.out] at ho;have n0_:=z7.mk (hb);have n1_:=z7.mk (ho);clear HB;clear HO_5;have HB:=n0_;have HO120:=n1_;clear n0_ n1_;clear ho hb hg hat)))
       go_roundg kj5
       case measure=>have:=HK1.out;have:=HJ5.out;omega
       case rel=>exact ⟨(y118),(wrap64 (x6_1 + 1)),(by first|rfl|(simp;done)|(simp [*];done)),H',⟨by have:=HK1.out;have:=HJ5.out;omega⟩,⟨by (with_reducible repeat (first|apply Kd.zx|apply Kd.zy|apply Kd.zD));exact HO120.out⟩,⟨by repeat (first|(with_reducible first|exact HB.out|apply z4|apply z0|apply z3)|exact HB.out)⟩⟩
     rw [if_pos c16] at H
     have c16b0 : (((za l0 x6_1).f0) == 4) = true:=beq_iff_eq.mpr c16
     have c16b1 : (((za l0 x6_1).f0) != 4) = false:=bne_eq_false_iff_eq.mpr c16
     clear c16
     by_cases c17 : x5_1.length < 17592186044416
     rotate_left
     · rw [if_neg c17] at H
       exact absurd H (by simp)
     rw [if_pos c17] at H
     have LMc17:=z7.mk c17
     clear c17
     obtain ⟨y115,hy115⟩ : ∃ y_ : List Int,y_ = (x5_1 ++ [wrap64 ((rd x5_1 ((za l0 x6_1).f1)) + (rd x5_1 ((za l0 x6_1).f2)))]):=⟨_,rfl⟩
     replace H : (ze.l0 kj5 l0 a1 y115 (wrap64 (x6_1 + 1))) = some r:=by first|(rw [hy115];with_reducible exact H)|(have H2_:=(Option.bind_some _ _).symm.trans H;rw [hy115];with_reducible exact H2_)|(have H2_:=(Option.bind_some _ _).symm.trans H;with_reducible exact H2_)|with_reducible exact H|(rw [hy115];exact H)|exact H
     have Ny115:=z7.mk hy115
     clear hy115
     have H':=z7.mk H
     clear H
     have p103 : 0 ≤ (x6_1 : Int):=of_decide_eq_true (by first|(with_reducible assumption)|assumption)
     have q103 : x6_1 < (l0.length : Int):=of_decide_eq_true (by first|(with_reducible assumption)|assumption)
     obtain ⟨ad103,e103,hx103_0,hx103_1,hx103_2,hx103_3,hx103_4⟩:=z16 HR0.out x6_1 p103 q103
     obtain rfl : ad102 = ad103:=(by injection e103)
     replace hx103_0:=(HB.out.cell (World.block_lt_of_cell? w _ hx103_0)).trans hx103_0
     replace hx103_1:=(HB.out.cell (World.block_lt_of_cell? w _ hx103_1)).trans hx103_1
     replace hx103_2:=(HB.out.cell (World.block_lt_of_cell? w _ hx103_2)).trans hx103_2
     replace hx103_3:=(HB.out.cell (World.block_lt_of_cell? w _ hx103_3)).trans hx103_3
     replace hx103_4:=(HB.out.cell (World.block_lt_of_cell? w _ hx103_4)).trans hx103_4
     replace p103:=eq_true p103
     replace q103:=eq_true q103
     have p104 : 0 ≤ (x6_1 : Int):=of_decide_eq_true (by first|(with_reducible assumption)|assumption)
     have q104 : x6_1 < (l0.length : Int):=of_decide_eq_true (by first|(with_reducible assumption)|assumption)
     obtain ⟨ad104,e104,hx104_0,hx104_1,hx104_2,hx104_3,hx104_4⟩:=z16 HR0.out x6_1 p104 q104
     obtain rfl : ad102 = ad104:=(by injection e104)
     replace hx104_0:=(HB.out.cell (World.block_lt_of_cell? w _ hx104_0)).trans hx104_0
     replace hx104_1:=(HB.out.cell (World.block_lt_of_cell? w _ hx104_1)).trans hx104_1
     replace hx104_2:=(HB.out.cell (World.block_lt_of_cell? w _ hx104_2)).trans hx104_2
     replace hx104_3:=(HB.out.cell (World.block_lt_of_cell? w _ hx104_3)).trans hx104_3
     replace hx104_4:=(HB.out.cell (World.block_lt_of_cell? w _ hx104_4)).trans hx104_4
     replace p104:=eq_true p104
     replace q104:=eq_true q104
     obtain ⟨Ao18,co18,eo18⟩:=Kd.z1q HO_5.out
     subst eo18
     have p105 : 0 ≤ (((za l0 x6_1).f1) : Int):=of_decide_eq_true (by first|(with_reducible assumption)|assumption)
     have q105 : ((za l0 x6_1).f1) < (x5_1.length : Int):=of_decide_eq_true (by first|(with_reducible assumption)|assumption)
     obtain ⟨ad105,e105,hx105_0⟩:=Kd.z1x (Kd.zO HO_5.out).2.2 ((za l0 x6_1).f1) p105 q105
     cases e105
     replace p105:=eq_true p105
     replace q105:=eq_true q105
     have p106 : 0 ≤ (x6_1 : Int):=of_decide_eq_true (by first|(with_reducible assumption)|assumption)
     have q106 : x6_1 < (l0.length : Int):=of_decide_eq_true (by first|(with_reducible assumption)|assumption)
     obtain ⟨ad106,e106,hx106_0,hx106_1,hx106_2,hx106_3,hx106_4⟩:=z16 HR0.out x6_1 p106 q106
     obtain rfl : ad102 = ad106:=(by injection e106)
     replace hx106_0:=(HB.out.cell (World.block_lt_of_cell? w _ hx106_0)).trans hx106_0
     replace hx106_1:=(HB.out.cell (World.block_lt_of_cell? w _ hx106_1)).trans hx106_1
     replace hx106_2:=(HB.out.cell (World.block_lt_of_cell? w _ hx106_2)).trans hx106_2
     replace hx106_3:=(HB.out.cell (World.block_lt_of_cell? w _ hx106_3)).trans hx106_3
     replace hx106_4:=(HB.out.cell (World.block_lt_of_cell? w _ hx106_4)).trans hx106_4
     replace p106:=eq_true p106
     replace q106:=eq_true q106
     have p107 : 0 ≤ (((za l0 x6_1).f2) : Int):=of_decide_eq_true (by first|(with_reducible assumption)|assumption)
     have q107 : ((za l0 x6_1).f2) < (x5_1.length : Int):=of_decide_eq_true (by first|(with_reducible assumption)|assumption)
     obtain ⟨ad107,e107,hx107_0⟩:=Kd.z1x (Kd.zO HO_5.out).2.2 ((za l0 x6_1).f2) p107 q107
     obtain rfl : ad105 = ad107:=(by injection e107)
     replace p107:=eq_true p107
     replace q107:=eq_true q107
     have p108 : 0 ≤ (x6_1 : Int):=of_decide_eq_true (by first|(with_reducible assumption)|assumption)
     have q108 : x6_1 < (l0.length : Int):=of_decide_eq_true (by first|(with_reducible assumption)|assumption)
     obtain ⟨ad108,e108,hx108_0,hx108_1,hx108_2,hx108_3,hx108_4⟩:=z16 HR0.out x6_1 p108 q108
     obtain rfl : ad102 = ad108:=(by injection e108)
     replace hx108_0:=(HB.out.cell (World.block_lt_of_cell? w _ hx108_0)).trans hx108_0
     replace hx108_1:=(HB.out.cell (World.block_lt_of_cell? w _ hx108_1)).trans hx108_1
     replace hx108_2:=(HB.out.cell (World.block_lt_of_cell? w _ hx108_2)).trans hx108_2
     replace hx108_3:=(HB.out.cell (World.block_lt_of_cell? w _ hx108_3)).trans hx108_3
     replace hx108_4:=(HB.out.cell (World.block_lt_of_cell? w _ hx108_4)).trans hx108_4
     replace p108:=eq_true p108
     replace q108:=eq_true q108
     have p109 : 0 ≤ (((za l0 x6_1).f2) : Int):=of_decide_eq_true (by first|(with_reducible assumption)|assumption)
     have q109 : ((za l0 x6_1).f2) < (x5_1.length : Int):=of_decide_eq_true (by first|(with_reducible assumption)|assumption)
     obtain ⟨ad109,e109,hx109_0⟩:=Kd.z1x (Kd.zO HO_5.out).2.2 ((za l0 x6_1).f2) p109 q109
     obtain rfl : ad105 = ad109:=(by injection e109)
     replace p109:=eq_true p109
     replace q109:=eq_true q109
     have p110 : 0 ≤ (x6_1 : Int):=of_decide_eq_true (by first|(with_reducible assumption)|assumption)
     have q110 : x6_1 < (l0.length : Int):=of_decide_eq_true (by first|(with_reducible assumption)|assumption)
     obtain ⟨ad110,e110,hx110_0,hx110_1,hx110_2,hx110_3,hx110_4⟩:=z16 HR0.out x6_1 p110 q110
     obtain rfl : ad102 = ad110:=(by injection e110)
     replace hx110_0:=(HB.out.cell (World.block_lt_of_cell? w _ hx110_0)).trans hx110_0
     replace hx110_1:=(HB.out.cell (World.block_lt_of_cell? w _ hx110_1)).trans hx110_1
     replace hx110_2:=(HB.out.cell (World.block_lt_of_cell? w _ hx110_2)).trans hx110_2
     replace hx110_3:=(HB.out.cell (World.block_lt_of_cell? w _ hx110_3)).trans hx110_3
     replace hx110_4:=(HB.out.cell (World.block_lt_of_cell? w _ hx110_4)).trans hx110_4
     replace p110:=eq_true p110
     replace q110:=eq_true q110
     have p111 : 0 ≤ (x6_1 : Int):=of_decide_eq_true (by first|(with_reducible assumption)|assumption)
     have q111 : x6_1 < (l0.length : Int):=of_decide_eq_true (by first|(with_reducible assumption)|assumption)
     obtain ⟨ad111,e111,hx111_0,hx111_1,hx111_2,hx111_3,hx111_4⟩:=z16 HR0.out x6_1 p111 q111
     obtain rfl : ad102 = ad111:=(by injection e111)
     replace hx111_0:=(HB.out.cell (World.block_lt_of_cell? w _ hx111_0)).trans hx111_0
     replace hx111_1:=(HB.out.cell (World.block_lt_of_cell? w _ hx111_1)).trans hx111_1
     replace hx111_2:=(HB.out.cell (World.block_lt_of_cell? w _ hx111_2)).trans hx111_2
     replace hx111_3:=(HB.out.cell (World.block_lt_of_cell? w _ hx111_3)).trans hx111_3
     replace hx111_4:=(HB.out.cell (World.block_lt_of_cell? w _ hx111_4)).trans hx111_4
     replace p111:=eq_true p111
     replace q111:=eq_true q111
     have p112 : 0 ≤ (((za l0 x6_1).f1) : Int):=of_decide_eq_true (by first|(with_reducible assumption)|assumption)
     have q112 : ((za l0 x6_1).f1) < (x5_1.length : Int):=of_decide_eq_true (by first|(with_reducible assumption)|assumption)
     obtain ⟨ad112,e112,hx112_0⟩:=Kd.z1x (Kd.zO HO_5.out).2.2 ((za l0 x6_1).f1) p112 q112
     obtain rfl : ad105 = ad112:=(by injection e112)
     replace p112:=eq_true p112
     replace q112:=eq_true q112
     have p113 : 0 ≤ (x6_1 : Int):=of_decide_eq_true (by first|(with_reducible assumption)|assumption)
     have q113 : x6_1 < (l0.length : Int):=of_decide_eq_true (by first|(with_reducible assumption)|assumption)
     obtain ⟨ad113,e113,hx113_0,hx113_1,hx113_2,hx113_3,hx113_4⟩:=z16 HR0.out x6_1 p113 q113
     obtain rfl : ad102 = ad113:=(by injection e113)
     replace hx113_0:=(HB.out.cell (World.block_lt_of_cell? w _ hx113_0)).trans hx113_0
     replace hx113_1:=(HB.out.cell (World.block_lt_of_cell? w _ hx113_1)).trans hx113_1
     replace hx113_2:=(HB.out.cell (World.block_lt_of_cell? w _ hx113_2)).trans hx113_2
     replace hx113_3:=(HB.out.cell (World.block_lt_of_cell? w _ hx113_3)).trans hx113_3
     replace hx113_4:=(HB.out.cell (World.block_lt_of_cell? w _ hx113_4)).trans hx113_4
     replace p113:=eq_true p113
     replace q113:=eq_true q113
     have p114 : 0 ≤ (((za l0 x6_1).f2) : Int):=of_decide_eq_true (by first|(with_reducible assumption)|assumption)
     have q114 : ((za l0 x6_1).f2) < (x5_1.length : Int):=of_decide_eq_true (by first|(with_reducible assumption)|assumption)
     obtain ⟨ad114,e114,hx114_0⟩:=Kd.z1x (Kd.zO HO_5.out).2.2 ((za l0 x6_1).f2) p114 q114
     obtain rfl : ad105 = ad114:=(by injection e114)
     replace p114:=eq_true p114
     replace q114:=eq_true q114
     go_wp2_with (first|((with_reducible refine zW (b:=.append) (xs:=#[.tmp 74,.tmp 76]) rfl ?_);at_builtin;refine Kd.z1h (Kd.int .i64) (w0:=w) w.heap.size rfl (.tmp 74) (.tmp 76) 31 3 (.int .i64 0) 8 rfl Try.underlying31 info3 rfl (by decide) (by omega) (.slice (some ad105) x5_1.length co18) x5_1 (wrap64 ((rd x5_1 ((za l0 x6_1).f1)) + (rd x5_1 ((za l0 x6_1).f2)))) [.int .i64 (wrap64 ((rd x5_1 ((za l0 x6_1).f1)) + (rd x5_1 ((za l0 x6_1).f2))))] (fun _=>True) (fun _=>False) rfl rfl ?aP (fun _ hk=>hk.elim) ?aF ?aO ?aB ?aS ?aL ?_;(case aP=>exact rfl);(case aB=>exact (by repeat (first|(with_reducible first|exact HB.out|apply z4|apply z0|apply z3)|exact HB.out)));(case aF=>exact (fun _ _=>trivial));(case aO=>exact (by (with_reducible repeat (first|apply Kd.zx|apply Kd.zy|apply Kd.zD));exact HO_5.out));(case aS=>exact (zf (by repeat (first|(with_reducible first|exact HB.out|apply z4|apply z0|apply z3)|exact HB.out))));(case aL=>have:=LMc17.out;omega);intro v116 w19 ho hb hg hat;rw [← Ny115.out] at ho;have n0_:=z7.mk (hb);have n1_:=z7.mk (ho);clear HB;clear HO_5;have HB:=n0_;have HO117:=n1_;clear n0_ n1_;clear ho hb hg hat))
     repeat (go_quiet (first|((with_reducible refine zW (b:=.append) (xs:=#[.tmp 74,.tmp 76]) rfl ?_);at_builtin;refine Kd.z1h (Kd.int .i64) (w0:=w) w.heap.size rfl (.tmp 74) (.tmp 76) 31 3 (.int .i64 0) 8 rfl Try.underlying31 info3 rfl (by decide) (by omega) (.slice (some ad105) x5_1.length co18) x5_1 (wrap64 ((rd x5_1 ((za l0 x6_1).f1)) + (rd x5_1 ((za l0 x6_1).f2)))) [.int .i64 (wrap64 ((rd x5_1 ((za l0 x6_1).f1)) + (rd x5_1 ((za l0 x6_1).f2))))] (fun _=>True) (fun _=>False) rfl rfl ?aP (fun _ hk=>hk.elim) ?aF ?aO ?aB ?aS ?aL ?_;(case aP=>exact rfl);(case aB=>exact (by repeat (first|(with_reducible first|exact HB.out|apply z4|apply z0|apply z3)|exact HB.out)));(case aF=>exact (fun _ _=>trivial));(case aO=>exact (by (with_reducible repeat (first|apply Kd.zx|apply Kd.zy|apply Kd.zD));exact HO_5.out));(case aS=>exact (zf (by repeat (first|(with_reducible first|exact HB.out|apply z4|apply z0|apply z3)|exact HB.out))));(case aL=>have:=LMc17.out;omega);intro v116 w19 ho hb hg hat;rw [← Ny115.out] at ho;have n0_:=z7.mk (hb);have n1_:=z7.mk (ho);clear HB;clear HO_5;have HB:=n0_;have HO117:=n1_;clear n0_ n1_;clear ho hb hg hat));try go_wp2_with (first|((with_reducible refine zW (b:=.append) (xs:=#[.tmp 74,.tmp 76]) rfl ?_);at_builtin;refine Kd.z1h (Kd.int .i64) (w0:=w) w.heap.size rfl (.tmp 74) (.tmp 76) 31 3 (.int .i64 0) 8 rfl Try.underlying31 info3 rfl (by decide) (by omega) (.slice (some ad105) x5_1.length co18) x5_1 (wrap64 ((rd x5_1 ((za l0 x6_1).f1)) + (rd x5_1 ((za l0 x6_1).f2)))) [.int .i64 (wrap64 ((rd x5_1 ((za l0 x6_1).f1)) + (rd x5_1 ((za l0 x6_1).f2))))] (fun _=>True) (fun _=>False) rfl rfl ?aP (fun _ hk=>hk.elim) ?aF ?aO ?aB ?aS ?aL ?_;(case aP=>exact rfl);(case aB=>exact (by repeat (first|(with_reducible first|exact HB.out|apply z4|apply z0|apply z3)|exact HB.out)));(case aF=>exact (fun _ _=>trivial));(case aO=>exact (by (with_reducible repeat (first|apply Kd.zx|apply Kd.zy|apply Kd.zD));exact HO_5.out));(case aS=>exact (zf (by repeat (first|(with_reducible first|exact HB.out|apply z4|apply z0|apply z3)|exact HB.out))));(case aL=>have:=LMc17.out;omega);intro v116 w19 ho hb hg hat;rw [← Ny115.out] at ho;have n0_:=z7.mk (hb);have n1_:=z7.mk (ho);clear HB;clear HO_5;have HB:=n0_;have HO117:=n1_;clear n0_ n1_;clear ho hb hg hat)))
     go_roundg kj5
     case measure=>have:=HK1.out;have:=HJ5.out;omega
     case rel=>exact ⟨(y115),(wrap64 (x6_1 + 1)),(by first|rfl|(simp;done)|(simp [*];done)),H',⟨by have:=HK1.out;have:=HJ5.out;omega⟩,⟨by (with_reducible repeat (first|apply Kd.zx|apply Kd.zy|apply Kd.zD));exact HO117.out⟩,⟨by repeat (first|(with_reducible first|exact HB.out|apply z4|apply z0|apply z3)|exact HB.out)⟩⟩
end Go.Proofs.Ytngcaphdkgihmaa.P
namespace Go.Proofs.Ytngcaphdkgihmaa.P
open Go.RowKit Go.Proofs.YtngcaphdkgihmaaW.PrintWords Go.Proofs.YtngcaphdkgihmaaW.PrintLast Go.Proofs.YtngcaphdkgihmaaW.PrintMore
attribute [local go_sem] z17 z19 z1e z1f z12 z13 z18 z1a   -- for this text's walks alone
set_option linter.unusedVariables false
set_option linter.unusedSimpArgs false
theorem eqA61 (d : Nat) (w : World) (x0 y0 : Int) (x1 y1 : Int) :
 (Op.equalIn (d + 2) 61 (.agg #[.int .u64 x0,.int .u64 x1]) (.agg #[.int .u64 y0,.int .u64 y1])).run Try.prog w = .ok (x0 == y0 && (x1 == y1)) w:=by
 refine eqA_of Try.underlying61 (by kernel_rfl) ?_
 refine z4h (by rfl) (by go_simp;rfl) (by go_simp;rfl) (by go_simp) ?_
 exact z4i (by rfl) (by go_simp;rfl) (by go_simp;rfl) (by go_simp)
end Go.Proofs.Ytngcaphdkgihmaa.P
namespace Go.Proofs.Ytngcaphdkgihmaa.P
open Go.RowKit Go.Proofs.YtngcaphdkgihmaaW.PrintWords Go.Proofs.YtngcaphdkgihmaaW.PrintLast Go.Proofs.YtngcaphdkgihmaaW.PrintMore
attribute [local go_sem] z17 z19 z1e z1f z12 z13 z18 z1a   -- for this text's walks alone
set_option linter.unusedVariables false
set_option linter.unusedSimpArgs false
def z1r.f (a0_0 : Int) (a0_1 : Int) (a1 : Int) : Option (Int):=if a1 ≥ 64 then (if 0 ≤ (IntKind.u64.wrap (wrap64 (a1 - 64))) then (some (Go.bits .and .u64 (shr .u64 a0_0 (IntKind.u64.wrap (wrap64 (a1 - 64)))) 1)) else (none)) else (if 0 ≤ (IntKind.u64.wrap (a1)) then (some (Go.bits .and .u64 (shr .u64 a0_1 (IntKind.u64.wrap (a1))) 1)) else (none))
set_option maxHeartbeats 8000000 in
set_option maxRecDepth 100000 in
theorem z1r.calls (a0_0 : Int) (a0_1 : Int) (a1 : Int) (r : Int) (w : World) (h : z1r.f a0_0 a0_1 a1 = some r) :
 Calls Try.prog 81 #[.agg #[.int .u64 a0_0,.int .u64 a0_1],.int .i64 a1] w fun e w'=>e = .returned (.int .u64 r) ∧ Below w.heap.size w w':=by
 have hu61:=Try.underlying61
 have HB:=z7.mk (Below.refl w.heap.size w)
 have H : (if a1 ≥ 64 then (if 0 ≤ (IntKind.u64.wrap (wrap64 (a1 - 64))) then (some (Go.bits .and .u64 (shr .u64 a0_0 (IntKind.u64.wrap (wrap64 (a1 - 64)))) 1)) else (none)) else (if 0 ≤ (IntKind.u64.wrap (a1)) then (some (Go.bits .and .u64 (shr .u64 a0_1 (IntKind.u64.wrap (a1))) 1)) else (none))) = some r:=h
 clear h
 by_cases c3 : a1 ≥ 64
 · rw [if_pos c3] at H
   have c3b0 : decide (64 ≤ a1) = true:=decide_eq_true c3
   clear c3
   obtain ⟨ji4,hji4⟩ : ∃ j_ : Int,(IntKind.u64.wrap (wrap64 (a1 - 64))) = j_:=⟨_,rfl⟩
   replace H : (if 0 ≤ (ji4) then (some (Go.bits .and .u64 (shr .u64 a0_0 (ji4)) 1)) else (none)) = some r:=by first|(rw [hji4] at H;exact H)|(simp only [hji4] at H ⊢;exact H)
   by_cases c5 : 0 ≤ (ji4)
   rotate_left
   · rw [if_neg c5] at H
     exact absurd H (by simp)
   rw [if_pos c5] at H
   have c5b0:=eq_true c5
   have c5b1 : decide (0 ≤ (ji4)) = true:=decide_eq_true c5
   clear c5
   obtain ⟨ji6,hji6⟩ : ∃ j_ : Int,(shr .u64 a0_0 (ji4)) = j_:=⟨_,rfl⟩
   replace H : (some (Go.bits .and .u64 (ji6) 1)) = some r:=by first|(rw [hji6] at H;exact H)|(simp only [hji6] at H ⊢;exact H)
   have hji6_ : (a0_0 / 2 ^ min (ji4).toNat 64) = ji6:=hji6
   have hji6z : (ji4) ≤ 64 → (a0_0 / 2 ^ (ji4).toNat) = ji6:=z24 hji6
   obtain rfl:=Option.some.inj H
   go_enter Try.func81,Try.ntmps81
   go_wp2_with (first|((with_reducible refine zG (N:=2) rfl ?_);refine zE ?hg (N:=2) ?hd (cs:=#[.int .u64 a0_0,.int .u64 a0_1]) (t:=61) ?hr ?_;(case hd=>rfl);(case hg=>rfl);(case hr=>first|(go_simp;done)|(go_simp;rfl));intro gb101 hg w7 hbox hb;have n0_:=z7.mk (zg (by repeat (first|(with_reducible first|exact HB.out|apply z4|apply z0|apply z3)|exact HB.out)) hb);have n1_:=z7.mk (hbox);have n2_:=z7.mk ((by rw [hg];exact (zf (by repeat (first|(with_reducible first|exact HB.out|apply z4|apply z0|apply z3)|exact HB.out))) : w.heap.size ≤ gb101));have n3_:=z7.mk ((by rw [hg];exact (zf (by repeat (first|(with_reducible first|exact HB.out|apply z4|apply z0|apply z3)|exact HB.out))) : w.heap.size ≤ gb101));clear HB;have HB:=n0_;have BK101:=n1_;have GW101:=n2_;have GE101:=n3_;clear n0_ n1_ n2_ n3_;clear hb hbox hg;have hcz8_0 : w7.cell? ⟨gb101,0,none⟩ = some (.int .u64 a0_0):=(zb BK101.out 0).trans rfl;have hcz8_1 : w7.cell? ⟨gb101,1,none⟩ = some (.int .u64 a0_1):=(zb BK101.out 1).trans rfl;have hfz8_0:=z8 BK101.out 0;have hfz8_1:=z8 BK101.out 1))
   go_ret
   exact ⟨by first|rfl|(simp [zl,zm] <;> rfl)|(simp only [← hji4,← hji6];first|rfl|(simp [zl,zm] <;> rfl))|(simp [*,zl,zm] <;> rfl),by repeat (first|(with_reducible first|exact HB.out|apply z4|apply z0|apply z3|refine z9 ?_ GE101.out)|exact HB.out)⟩
 rw [if_neg c3] at H
 have c3b0 : decide (64 ≤ a1) = false:=decide_eq_false c3
 clear c3
 obtain ⟨ji9,hji9⟩ : ∃ j_ : Int,(IntKind.u64.wrap (a1)) = j_:=⟨_,rfl⟩
 replace H : (if 0 ≤ (ji9) then (some (Go.bits .and .u64 (shr .u64 a0_1 (ji9)) 1)) else (none)) = some r:=by first|(rw [hji9] at H;exact H)|(simp only [hji9] at H ⊢;exact H)
 by_cases c10 : 0 ≤ (ji9)
 rotate_left
 · rw [if_neg c10] at H
   exact absurd H (by simp)
 rw [if_pos c10] at H
 have c10b0:=eq_true c10
 have c10b1 : decide (0 ≤ (ji9)) = true:=decide_eq_true c10
 clear c10
 obtain ⟨ji11,hji11⟩ : ∃ j_ : Int,(shr .u64 a0_1 (ji9)) = j_:=⟨_,rfl⟩
 replace H : (some (Go.bits .and .u64 (ji11) 1)) = some r:=by first|(rw [hji11] at H;exact H)|(simp only [hji11] at H ⊢;exact H)
 have hji11_ : (a0_1 / 2 ^ min (ji9).toNat 64) = ji11:=hji11
 have hji11z : (ji9) ≤ 64 → (a0_1 / 2 ^ (ji9).toNat) = ji11:=z24 hji11
 obtain rfl:=Option.some.inj H
 go_enter Try.func81,Try.ntmps81
 go_wp2_with (first|((with_reducible refine zG (N:=2) rfl ?_);refine zE ?hg (N:=2) ?hd (cs:=#[.int .u64 a0_0,.int .u64 a0_1]) (t:=61) ?hr ?_;(case hd=>rfl);(case hg=>rfl);(case hr=>first|(go_simp;done)|(go_simp;rfl));intro gb101 hg w12 hbox hb;have n0_:=z7.mk (zg (by repeat (first|(with_reducible first|exact HB.out|apply z4|apply z0|apply z3)|exact HB.out)) hb);have n1_:=z7.mk (hbox);have n2_:=z7.mk ((by rw [hg];exact (zf (by repeat (first|(with_reducible first|exact HB.out|apply z4|apply z0|apply z3)|exact HB.out))) : w.heap.size ≤ gb101));have n3_:=z7.mk ((by rw [hg];exact (zf (by repeat (first|(with_reducible first|exact HB.out|apply z4|apply z0|apply z3)|exact HB.out))) : w.heap.size ≤ gb101));clear HB;have HB:=n0_;have BK101:=n1_;have GW101:=n2_;have GE101:=n3_;clear n0_ n1_ n2_ n3_;clear hb hbox hg;have hcz13_0 : w12.cell? ⟨gb101,0,none⟩ = some (.int .u64 a0_0):=(zb BK101.out 0).trans rfl;have hcz13_1 : w12.cell? ⟨gb101,1,none⟩ = some (.int .u64 a0_1):=(zb BK101.out 1).trans rfl;have hfz13_0:=z8 BK101.out 0;have hfz13_1:=z8 BK101.out 1))
 go_ret
 exact ⟨by first|rfl|(simp [zl,zm] <;> rfl)|(simp only [← hji9,← hji11];first|rfl|(simp [zl,zm] <;> rfl))|(simp [*,zl,zm] <;> rfl),by repeat (first|(with_reducible first|exact HB.out|apply z4|apply z0|apply z3|refine z9 ?_ GE101.out)|exact HB.out)⟩
end Go.Proofs.Ytngcaphdkgihmaa.P
namespace Go.Proofs.Ytngcaphdkgihmaa.P
open Go.RowKit Go.Proofs.YtngcaphdkgihmaaW.PrintWords Go.Proofs.YtngcaphdkgihmaaW.PrintLast Go.Proofs.YtngcaphdkgihmaaW.PrintMore
attribute [local go_sem] z17 z19 z1e z1f z12 z13 z18 z1a   -- for this text's walks alone
set_option linter.unusedVariables false
set_option linter.unusedSimpArgs false
mutual
def zo.j0 : Nat → Int → List Int → Bool → Int → Int → Option (Bool)
 | 0,_,_,_,_,_=>none
 | k + 1,x0,x5,x13,x102000,x102001=>if x13 = true then (some false) else (if 0 ≤ x0 then (if x0 < (x5.length : Int) then (zo.l0 k (rd x5 x0) x102000 x102001) else (none)) else (none))
def zo.l0 : Nat → Int → Int → Int → Option (Bool)
 | 0,_,_,_=>none
 | k + 1,x6,x102000,x102001=>if x6 < 128 then ((z1r.f x102000 x102001 x6).bind fun t106=>(if t106 = 1 then (some false) else (zo.l0 k (wrap64 (x6 + 1)) x102000 x102001))) else (some true)
end
def zo.f (k : Nat) (a0 : Int) (a1_0 : Int) (a1_1 : Int) : Option (Bool):=(some (([1,2,4,8,16,32,64,128] : List Int) : List Int)).bind fun y102=>(if a0 < 0 then (zo.j0 k a0 y102 true a1_0 a1_1) else (zo.j0 k a0 y102 (decide (a0 > 7)) a1_0 a1_1))
theorem zo.z1b : ∀ k,(∀ y0 y1 y2 y3 y4,LeO (zo.j0 k y0 y1 y2 y3 y4) (zo.j0 (k + 1) y0 y1 y2 y3 y4)) ∧ (∀ y0 y1 y2,LeO (zo.l0 k y0 y1 y2) (zo.l0 (k + 1) y0 y1 y2))
 | 0=>⟨fun _ _ _ _ _ r h=>by simp [zo.j0] at h,fun _ _ _ r h=>by simp [zo.l0] at h⟩
 | k + 1=>by
  obtain ⟨ih0,ih1⟩:=zo.z1b k
  refine ⟨?_,?_⟩
  · intro y0 y1 y2 y3 y4
    unfold zo.j0
    repeat' first
    | (with_reducible exact ih0 _ _ _ _ _)
    | (with_reducible exact ih1 _ _ _)
    | (with_reducible exact LeO.refl _)
    | (with_reducible exact LeO.none _)
    | (with_reducible refine LeO.ite ?_ ?_)
    | (with_reducible refine LeO.bind ?_ (fun _=>?_))
    | exact ih0 _ _ _ _ _
    | exact ih1 _ _ _
    | exact LeO.none _
    | refine LeO.ite ?_ ?_
    | refine LeO.bind ?_ (fun _=>?_)
  · intro y0 y1 y2
    unfold zo.l0
    repeat' first
    | (with_reducible exact ih0 _ _ _ _ _)
    | (with_reducible exact ih1 _ _ _)
    | (with_reducible exact LeO.refl _)
    | (with_reducible exact LeO.none _)
    | (with_reducible refine LeO.ite ?_ ?_)
    | (with_reducible refine LeO.bind ?_ (fun _=>?_))
    | exact ih0 _ _ _ _ _
    | exact ih1 _ _ _
    | exact LeO.none _
    | refine LeO.ite ?_ ?_
    | refine LeO.bind ?_ (fun _=>?_)
theorem zo.mono : ∀ a0 a1 a2 k,LeO (zo.f k a0 a1 a2) (zo.f (k + 1) a0 a1 a2):=by
 intro a0 a1 a2 k
 obtain ⟨ih0,ih1⟩:=zo.z1b k
 unfold zo.f
 repeat' first
  | (with_reducible exact ih0 _ _ _ _ _)
  | (with_reducible exact ih1 _ _ _)
  | (with_reducible exact LeO.refl _)
  | (with_reducible exact LeO.none _)
  | (with_reducible refine LeO.ite ?_ ?_)
  | (with_reducible refine LeO.bind ?_ (fun _=>?_))
  | exact ih0 _ _ _ _ _
  | exact ih1 _ _ _
  | exact LeO.none _
  | refine LeO.ite ?_ ?_
  | refine LeO.bind ?_ (fun _=>?_)
set_option maxHeartbeats 8000000 in
set_option maxRecDepth 100000 in
theorem zo.calls (k : Nat) (a0 : Int) (a1_0 : Int) (a1_1 : Int) (r : Bool) (w : World) (h : zo.f k a0 a1_0 a1_1 = some r) :
 Calls Try.prog 39 #[.int .i64 a0,.agg #[.int .u64 a1_0,.int .u64 a1_1]] w fun e w'=>e = .returned (.bool r) ∧ Below w.heap.size w w':=by
 have hu61:=Try.underlying61
 have HB:=z7.mk (Below.refl w.heap.size w)
 have H : ((some (([1,2,4,8,16,32,64,128] : List Int) : List Int)).bind fun y102=>(if a0 < 0 then (zo.j0 k a0 y102 true a1_0 a1_1) else (zo.j0 k a0 y102 (decide (a0 > 7)) a1_0 a1_1))) = some r:=h
 clear h
 obtain ⟨y102,hy102⟩ : ∃ y_ : List Int,y_ = (([1,2,4,8,16,32,64,128] : List Int)):=⟨_,rfl⟩
 replace H : (if a0 < 0 then (zo.j0 k a0 y102 true a1_0 a1_1) else (zo.j0 k a0 y102 (decide (a0 > 7)) a1_0 a1_1)) = some r:=by first|(rw [hy102];with_reducible exact H)|(have H2_:=(Option.bind_some _ _).symm.trans H;rw [hy102];with_reducible exact H2_)|(have H2_:=(Option.bind_some _ _).symm.trans H;with_reducible exact H2_)|with_reducible exact H|(rw [hy102];exact H)|exact H
 have Ny102:=z7.mk hy102
 clear hy102
 have HC3:=z7.mk H
 clear H
 go_enter Try.func39,Try.ntmps39
 go_upto_region 2 with (first|((with_reducible refine zG (N:=3) rfl ?_);refine zE ?hg (N:=3) ?hd (cs:=#[.int .u64 a1_0,.int .u64 a1_1]) (t:=61) ?hr ?_;(case hd=>rfl);(case hg=>rfl);(case hr=>first|(go_simp;done)|(go_simp;rfl));intro gb101 hg w4 hbox hb;have n0_:=z7.mk (zg (by repeat (first|(with_reducible first|exact HB.out|apply z4|apply z0|apply z3)|exact HB.out)) hb);have n1_:=z7.mk (hbox);have n2_:=z7.mk ((by rw [hg];exact (zf (by repeat (first|(with_reducible first|exact HB.out|apply z4|apply z0|apply z3)|exact HB.out))) : w.heap.size ≤ gb101));have n3_:=z7.mk ((by rw [hg];exact (zf (by repeat (first|(with_reducible first|exact HB.out|apply z4|apply z0|apply z3)|exact HB.out))) : w.heap.size ≤ gb101));clear HB;have HB:=n0_;have BK101:=n1_;have GW101:=n2_;have GE101:=n3_;clear n0_ n1_ n2_ n3_;clear hb hbox hg)|((with_reducible refine zG (N:=7) rfl ?_);refine Kd.z4D (Kd.int .i64) _ 3 ?hg (N:=7) ?hd (xs:=([1,2,4,8,16,32,64,128] : List Int)) (inner:=[.int .i64 1,.int .i64 2,.int .i64 4,.int .i64 8,.int .i64 16,.int .i64 32,.int .i64 64,.int .i64 128]) (ok:=fun _=>True) (okp:=fun _=>True) ?hr ?hp (fun _ hk=>hk) trivial (Below.refl _ _) (Nat.le_refl _) (by simp) ?_;(case hd=>rfl);(case hg=>rfl);(case hr=>first|(go_simp;done)|(go_simp;rfl));(case hp=>exact (Reps.one (show Kd.M (Kd.int .i64) _ _ _ 1 [.int .i64 1] from rfl) (Reps.one (show Kd.M (Kd.int .i64) _ _ _ 2 [.int .i64 2] from rfl) (Reps.one (show Kd.M (Kd.int .i64) _ _ _ 4 [.int .i64 4] from rfl) (Reps.one (show Kd.M (Kd.int .i64) _ _ _ 8 [.int .i64 8] from rfl) (Reps.one (show Kd.M (Kd.int .i64) _ _ _ 16 [.int .i64 16] from rfl) (Reps.one (show Kd.M (Kd.int .i64) _ _ _ 32 [.int .i64 32] from rfl) (Reps.one (show Kd.M (Kd.int .i64) _ _ _ 64 [.int .i64 64] from rfl) (Reps.one (show Kd.M (Kd.int .i64) _ _ _ 128 [.int .i64 128] from rfl) (Reps.none _ _))))))))));intro v103 w5 ho6 hb hg_ hnew_;clear hg_ hnew_;(first|rw [← Ny102.out] at ho6|(simp only [Int.reduceToNat] at ho6;rw [← Ny102.out] at ho6));have n0_:=z7.mk (Kd.z1A ho6 (zf (by repeat (first|(with_reducible first|exact HB.out|apply z4|apply z0|apply z3|refine z9 ?_ GE101.out)|exact HB.out))));have n1_:=z7.mk (zk (g:=gb101) (o:=.cells #[.int .u64 a1_0,.int .u64 a1_1] 61 (0,0)) (by (with_reducible repeat (first|refine z2 ?_ _|refine z5 ?_|refine z1 ?_ _));exact BK101.out) hb);have n2_:=z7.mk (zg (by repeat (first|(with_reducible first|exact HB.out|apply z4|apply z0|apply z3|refine z9 ?_ GE101.out)|exact HB.out)) hb);clear BK101;clear HB;have HO104:=n0_;have BK101:=n1_;have HB:=n2_;clear n0_ n1_ n2_;clear hb ho6))
 (try simp only [Act.put,List.setIfInBounds_toArray,List.set_cons_zero,List.set_cons_succ])
 go_cut [13] (fun v13 wc=>∃ (kq : Nat) (x13_2 : Bool),v13 = .bool x13_2 ∧ z7 (zo.j0 kq a0 y102 x13_2 a1_0 a1_1 = some r) ∧ z7 (kq ≤ k) ∧ z7 (Kd.R (Kd.int .i64) 3 wc w.heap.size (fun _=>True) v103 y102) ∧ z7 (wc.heap[gb101]? = some (.cells #[.int .u64 a1_0,.int .u64 a1_1] 61 (0,0))) ∧ z7 (Below w.heap.size w wc))
 case first =>
  have H:=HC3.out
  clear HC3
  by_cases c7 : a0 < 0
  rotate_left
  · rw [if_neg c7] at H
    have c7b0 : decide (a0 < 0) = false:=decide_eq_false c7
    clear c7
    (first|rw [c7b0]|(simp only [zH,zL];rw [c7b0])|skip)
    have H':=z7.mk H
    clear H
    go_wp2
    go_meet
    case rel=>exact ⟨_,(decide (a0 > 7)),(by first|rfl|(simp;done)|(simp [*];done)),H',⟨by first|omega|exact Nat.le_refl _⟩,⟨by (with_reducible repeat (first|apply Kd.zx|apply Kd.zy|apply Kd.zD));exact HO104.out⟩,⟨by (with_reducible repeat (first|refine z2 ?_ _|refine z5 ?_|refine z1 ?_ _));exact BK101.out⟩,⟨by repeat (first|(with_reducible first|exact HB.out|apply z4|apply z0|apply z3|refine z9 ?_ GE101.out)|exact HB.out)⟩⟩
  rw [if_pos c7] at H
  have c7b0 : decide (a0 < 0) = true:=decide_eq_true c7
  clear c7
  (first|rw [c7b0]|(simp only [zH,zL];rw [c7b0])|skip)
  have H':=z7.mk H
  clear H
  go_wp2
  go_meet
  case rel=>exact ⟨_,(true),(by first|rfl|(simp;done)|(simp [*];done)),H',⟨by first|omega|exact Nat.le_refl _⟩,⟨by (with_reducible repeat (first|apply Kd.zx|apply Kd.zy|apply Kd.zD));exact HO104.out⟩,⟨by (with_reducible repeat (first|refine z2 ?_ _|refine z5 ?_|refine z1 ?_ _));exact BK101.out⟩,⟨by repeat (first|(with_reducible first|exact HB.out|apply z4|apply z0|apply z3|refine z9 ?_ GE101.out)|exact HB.out)⟩⟩
 case rest =>
  clear HC3
  (try clear p2);(try clear c3);(try clear c7);(try clear c7b0)
  obtain ⟨kq,x13_2,rfl,HA,HJ2,HO_5,BK101,HB⟩:=hcut
  cases kq with
  | zero=>exact absurd HA.out (by simp [zo.j0])
  | succ kj2 =>
   have H:=HA.out
   clear HA
   simp only [zo.j0] at H
   by_cases c8 : x13_2 = true
   · subst c8
     have H1 : (some false) = some r:=by rw [if_pos rfl] at H;exact H
     clear H
     have H:=H1
     clear H1
     obtain rfl:=Option.some.inj H
     go_wp2
     go_ret
     exact ⟨by first|rfl|(simp [zl,zm] <;> rfl)|(simp [*,zl,zm] <;> rfl),by repeat (first|(with_reducible first|exact HB.out|apply z4|apply z0|apply z3|refine z9 ?_ GE101.out)|exact HB.out)⟩
   replace c8:=Bool.eq_false_iff.mpr c8
   subst c8
   have H1 : (if 0 ≤ a0 then (if a0 < (y102.length : Int) then (zo.l0 kj2 (rd y102 a0) a1_0 a1_1) else (none)) else (none)) = some r:=by rw [if_neg (show ¬ (false = true) by decide)] at H;exact H
   clear H
   have H:=H1
   clear H1
   by_cases c9 : 0 ≤ a0
   rotate_left
   · rw [if_neg c9] at H
     exact absurd H (by simp)
   rw [if_pos c9] at H
   have c9b0 : decide (0 ≤ a0) = true:=decide_eq_true c9
   clear c9
   by_cases c10 : a0 < (y102.length : Int)
   rotate_left
   · rw [if_neg c10] at H
     exact absurd H (by simp)
   rw [if_pos c10] at H
   have c10b0 : decide (a0 < (y102.length : Int)) = true:=decide_eq_true c10
   clear c10
   have H':=z7.mk H
   clear H
   obtain ⟨Ao11,co11,eo11⟩:=Kd.z1q HO_5.out
   subst eo11
   have p105 : 0 ≤ (a0 : Int):=of_decide_eq_true (by first|(with_reducible assumption)|assumption)
   have q105 : a0 < (y102.length : Int):=of_decide_eq_true (by first|(with_reducible assumption)|assumption)
   obtain ⟨ad105,e105,hx105_0⟩:=Kd.z1x (Kd.zO HO_5.out).2.2 a0 p105 q105
   cases e105
   replace p105:=eq_true p105
   replace q105:=eq_true q105
   go_wp2
   go_loopg [6] kj2 (fun kq v6 w'=>∃ (x6_2 : Int),v6 = .int .i64 x6_2 ∧ z7 (zo.l0 kq x6_2 a1_0 a1_1 = some r) ∧ z7 (kq ≤ kj2) ∧ z7 (w'.heap[gb101]? = some (.cells #[.int .u64 a1_0,.int .u64 a1_1] 61 (0,0))) ∧ z7 (Below w.heap.size w w'))
   case atStart=>exact ⟨(rd y102 a0),(by first|rfl|(simp;done)|(simp [*];done)),H',⟨Nat.le_refl _⟩,⟨by (with_reducible repeat (first|refine z2 ?_ _|refine z5 ?_|refine z1 ?_ _));exact BK101.out⟩,⟨by repeat (first|(with_reducible first|exact HB.out|apply z4|apply z0|apply z3|refine z9 ?_ GE101.out)|exact HB.out)⟩⟩
   case round =>
    clear H'
    (try clear c1);(try clear p1);(try clear q1);(try clear hx1);(try clear p2);(try clear c3);(try clear c7);(try clear c7b0);(try clear c8);(try clear c9);(try clear c9b0);(try clear c10);(try clear c10b0);(try clear p10);(try clear q10);(try clear hx10);(try clear hx105_0);(try clear p105);(try clear p2);(try clear q105)
    obtain ⟨x6_2,rfl,HA,HK2,BK101,HB⟩:=hrel
    cases gk with
    | zero=>exact absurd HA.out (by simp [zo.l0])
    | succ k2 =>
     have H:=HA.out
     clear HA
     simp only [zo.l0] at H
     by_cases c12 : x6_2 < 128
     rotate_left
     · rw [if_neg c12] at H
       have c12b0 : decide (x6_2 < 128) = false:=decide_eq_false c12
       clear c12
       obtain rfl:=Option.some.inj H
       go_wp2
       go_ret
       exact ⟨by first|rfl|(simp [zl,zm] <;> rfl)|(simp [*,zl,zm] <;> rfl),by repeat (first|(with_reducible first|exact HB.out|apply z4|apply z0|apply z3|refine z9 ?_ GE101.out)|exact HB.out)⟩
     rw [if_pos c12] at H
     have c12b0 : decide (x6_2 < 128) = true:=decide_eq_true c12
     clear c12
     replace H:=Option.bind_eq_some_iff.mp H
     obtain ⟨t106,A130,H⟩:=H
     replace H : (if t106 = 1 then (some false) else (zo.l0 k2 (wrap64 (x6_2 + 1)) a1_0 a1_1)) = some r:=H
     have A13:=z7.mk A130
     clear A130
     by_cases c14 : t106 = 1
     · rw [if_pos c14] at H
       have c14b0 : (t106 == 1) = true:=beq_iff_eq.mpr c14
       have c14b1 : (t106 != 1) = false:=bne_eq_false_iff_eq.mpr c14
       clear c14
       obtain rfl:=Option.some.inj H
       have hcz15_0 : wr.cell? ⟨gb101,0,none⟩ = some (.int .u64 a1_0):=(zb BK101.out 0).trans rfl
       have hcz15_1 : wr.cell? ⟨gb101,1,none⟩ = some (.int .u64 a1_1):=(zb BK101.out 1).trans rfl
       have hfz15_0:=z8 BK101.out 0
       have hfz15_1:=z8 BK101.out 1
       go_wp2_with (first|((with_reducible refine zB (f:=81) rfl ?_);refine goesL_ (some 24) rfl rfl Try.func81 (by kernel_rfl) rfl #[.agg #[.int .u64 a1_0,.int .u64 a1_1],.int .i64 x6_2] rfl (by (try simp only [List.map_toArray,List.map_cons,List.map_nil]);first|done|rfl|(simp only [List.length_drop,List.length_take];rfl)) ?_;(with_reducible refine (z1r.calls a1_0 a1_1 x6_2 t106 _ A13.out).mono ?_);rintro e w16 ⟨rfl,hb⟩;refine ⟨_,rfl,?_⟩;have n0_:=z7.mk (zk (g:=gb101) (o:=.cells #[.int .u64 a1_0,.int .u64 a1_1] 61 (0,0)) (by (with_reducible repeat (first|refine z2 ?_ _|refine z5 ?_|refine z1 ?_ _));exact BK101.out) hb);have n1_:=z7.mk (zg (by repeat (first|(with_reducible first|exact HB.out|apply z4|apply z0|apply z3|refine z9 ?_ GE101.out)|exact HB.out)) hb);clear BK101;clear HB;have BK101:=n0_;have HB:=n1_;clear n0_ n1_;(try clear hb);(try clear hb2);(try clear hk);(try clear hi)))
       go_ret
       exact ⟨by first|rfl|(simp [zl,zm] <;> rfl)|(simp [*,zl,zm] <;> rfl),by repeat (first|(with_reducible first|exact HB.out|apply z4|apply z0|apply z3|refine z9 ?_ GE101.out)|exact HB.out)⟩
     rw [if_neg c14] at H
     have c14b0 : (t106 == 1) = false:=beq_eq_false_iff_ne.mpr c14
     have c14b1 : (t106 != 1) = true:=bne_iff_ne.mpr c14
     have H':=z7.mk H
     clear H
     have hcz17_0 : wr.cell? ⟨gb101,0,none⟩ = some (.int .u64 a1_0):=(zb BK101.out 0).trans rfl
     have hcz17_1 : wr.cell? ⟨gb101,1,none⟩ = some (.int .u64 a1_1):=(zb BK101.out 1).trans rfl
     have hfz17_0:=z8 BK101.out 0
     have hfz17_1:=z8 BK101.out 1
     go_wp2_with (first|((with_reducible refine zB (f:=81) rfl ?_);refine goesL_ (some 24) rfl rfl Try.func81 (by kernel_rfl) rfl #[.agg #[.int .u64 a1_0,.int .u64 a1_1],.int .i64 x6_2] rfl (by (try simp only [List.map_toArray,List.map_cons,List.map_nil]);first|done|rfl|(simp only [List.length_drop,List.length_take];rfl)) ?_;(with_reducible refine (z1r.calls a1_0 a1_1 x6_2 t106 _ A13.out).mono ?_);rintro e w18 ⟨rfl,hb⟩;refine ⟨_,rfl,?_⟩;have n0_:=z7.mk (zk (g:=gb101) (o:=.cells #[.int .u64 a1_0,.int .u64 a1_1] 61 (0,0)) (by (with_reducible repeat (first|refine z2 ?_ _|refine z5 ?_|refine z1 ?_ _));exact BK101.out) hb);have n1_:=z7.mk (zg (by repeat (first|(with_reducible first|exact HB.out|apply z4|apply z0|apply z3|refine z9 ?_ GE101.out)|exact HB.out)) hb);clear BK101;clear HB;have BK101:=n0_;have HB:=n1_;clear n0_ n1_;(try clear hb);(try clear hb2);(try clear hk);(try clear hi)))
     go_roundg k2
     case measure=>have:=HJ2.out;have:=HK2.out;omega
     case rel=>exact ⟨(wrap64 (x6_2 + 1)),(by first|rfl|(simp;done)|(simp [*];done)),H',⟨by have:=HJ2.out;have:=HK2.out;omega⟩,⟨by (with_reducible repeat (first|refine z2 ?_ _|refine z5 ?_|refine z1 ?_ _));exact BK101.out⟩,⟨by repeat (first|(with_reducible first|exact HB.out|apply z4|apply z0|apply z3|refine z9 ?_ GE101.out)|exact HB.out)⟩⟩
end Go.Proofs.Ytngcaphdkgihmaa.P

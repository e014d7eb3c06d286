/- Own text: merged by wip/tools/pack.py out of what the law WeaveBits reaches. -/
import Derived.Deep.Slices
import Derived.OpenShut
import Derived.ProofKit
import Derived.Laws.BitsLemmas
import Derived.Test.YtngcaphdkgihmaaMWeaveBitsa
import Derived.Test.YtngcaphdkgihmaaMWeaveBitsb
namespace Go.Proofs.Ytngcaphdkgihmaa.P
open Go.RowKit Go.Proofs.YtngcaphdkgihmaaW.PrintWords Go.Proofs.YtngcaphdkgihmaaW.PrintLast Go.Proofs.YtngcaphdkgihmaaW.PrintMore
attribute [local go_sem] zU zW z15 z16 zQ zR zV zX   -- for this text's walks alone
set_option linter.unusedVariables false
set_option linter.unusedSimpArgs false
def zG.l0 : Nat → List Bool → Int → Int → Int → Int → Option (List Bool)
 | 0,_,_,_,_,_=>none
 | k + 1,x5,x13,x14,x102000,x102001=>if x14 < x13 then ((z11.f k x14).bind fun bt103=>(if x5.length < 140737488355328 then (zG.l0 k (x5 ++ [((Go.bits .or .u64 (Go.bits .and .u64 x102001 bt103.2) (Go.bits .and .u64 x102000 bt103.1)) != 0)]) x13 (wrap64 (x14 + 1)) x102000 x102001) else (none))) else (some x5)
def zG.f (k : Nat) (a0 : Int) (a1_0 : Int) (a1_1 : Int) : Option (List Bool):=(zL.f k a0 a1_0 a1_1).bind fun t102=>(if t102 = true then (if 0 ≤ a0 then (zG.l0 k ([] : List Bool) (shl .i64 1 a0) 0 a1_0 a1_1) else (none)) else (some ([] : List Bool)))
theorem zG.z12 : ∀ k,(∀ y0 y1 y2 y3 y4,LeO (zG.l0 k y0 y1 y2 y3 y4) (zG.l0 (k + 1) y0 y1 y2 y3 y4))
 | 0=>fun _ _ _ _ _ r h=>by simp [zG.l0] at h
 | k + 1=>by
  have ih0:=zG.z12 k
  · intro y0 y1 y2 y3 y4
    unfold zG.l0
    repeat' first
    | (with_reducible exact ih0 _ _ _ _ _)
    | (with_reducible exact zL.mono _ _ _ _)
    | (with_reducible exact z11.mono _ _)
    | (with_reducible exact LeO.refl _)
    | (with_reducible exact LeO.none _)
    | (with_reducible refine LeO.ite ?_ ?_)
    | (with_reducible refine LeO.bind ?_ (fun _=>?_))
    | exact ih0 _ _ _ _ _
    | exact zL.mono _ _ _ _
    | exact z11.mono _ _
    | exact LeO.none _
    | refine LeO.ite ?_ ?_
    | refine LeO.bind ?_ (fun _=>?_)
theorem zG.mono : ∀ a0 a1 a2 k,LeO (zG.f k a0 a1 a2) (zG.f (k + 1) a0 a1 a2):=by
 intro a0 a1 a2 k
 have ih0:=zG.z12 k
 unfold zG.f
 repeat' first
  | (with_reducible exact ih0 _ _ _ _ _)
  | (with_reducible exact zL.mono _ _ _ _)
  | (with_reducible exact z11.mono _ _)
  | (with_reducible exact LeO.refl _)
  | (with_reducible exact LeO.none _)
  | (with_reducible refine LeO.ite ?_ ?_)
  | (with_reducible refine LeO.bind ?_ (fun _=>?_))
  | exact ih0 _ _ _ _ _
  | exact zL.mono _ _ _ _
  | exact z11.mono _ _
  | exact LeO.none _
  | refine LeO.ite ?_ ?_
  | refine LeO.bind ?_ (fun _=>?_)
set_option maxHeartbeats 8000000 in
set_option maxRecDepth 100000 in
theorem zG.calls (k : Nat) (a0 : Int) (a1_0 : Int) (a1_1 : Int) (r : List Bool) (w : World) (h : zG.f k a0 a1_0 a1_1 = some r) :
 Calls Try.prog 29 #[.int .i64 a0,.agg #[.int .u64 a1_0,.int .u64 a1_1]] w fun e w'=>∃ v0_ : Value,e = .returned (v0_) ∧ Kd.R Kd.bool 4 w' w.heap.size (fun _=>True) v0_ r ∧ Below w.heap.size w w':=by
 have hu51:=Try.underlying51
 have HB:=z3.mk (Below.refl w.heap.size w)
 have H : ((zL.f k a0 a1_0 a1_1).bind fun t102=>(if t102 = true then (if 0 ≤ a0 then (zG.l0 k ([] : List Bool) (shl .i64 1 a0) 0 a1_0 a1_1) else (none)) else (some ([] : List Bool)))) = some r:=h
 clear h
 replace H:=Option.bind_eq_some_iff.mp H
 obtain ⟨t102,A30,H⟩:=H
 replace H : (if t102 = true then (if 0 ≤ a0 then (zG.l0 k ([] : List Bool) (shl .i64 1 a0) 0 a1_0 a1_1) else (none)) else (some ([] : List Bool))) = some r:=H
 have A3:=z3.mk A30
 clear A30
 by_cases c4 : t102 = true
 rotate_left
 · replace c4:=Bool.eq_false_iff.mpr c4
   subst c4
   have H1 : (some ([] : List Bool)) = some r:=by rw [if_neg (show ¬ (false = true) by decide)] at H;exact H
   clear H
   have H:=H1
   clear H1
   obtain rfl:=Option.some.inj H
   go_enter Try.func29,Try.ntmps29
   go_wp2_with (first|((with_reducible refine zA (N:=3) rfl ?_);refine zB ?hg (N:=3) ?hd (cs:=#[.int .u64 a1_0,.int .u64 a1_1]) (t:=51) ?hr ?_;(case hd=>rfl);(case hg=>rfl);(case hr=>first|(go_simp;done)|(go_simp;rfl));intro gb101 hg w19 hbox hb;have n0_:=z3.mk (za (by repeat (first|(with_reducible first|exact HB.out|apply z2|apply z0|apply z1)|exact HB.out)) hb);have n1_:=z3.mk (hbox);have n2_:=z3.mk ((by rw [hg];exact (zc (by repeat (first|(with_reducible first|exact HB.out|apply z2|apply z0|apply z1)|exact HB.out))) : w.heap.size ≤ gb101));have n3_:=z3.mk ((by rw [hg];exact (zc (by repeat (first|(with_reducible first|exact HB.out|apply z2|apply z0|apply z1)|exact HB.out))) : w.heap.size ≤ gb101));clear HB;have HB:=n0_;have BK101:=n1_;have GW101:=n2_;have GE101:=n3_;clear n0_ n1_ n2_ n3_;clear hb hbox hg;have hcz20_0 : w19.cell? ⟨gb101,0,none⟩ = some (.int .u64 a1_0):=(ze BK101.out 0).trans rfl;have hcz20_1 : w19.cell? ⟨gb101,1,none⟩ = some (.int .u64 a1_1):=(ze BK101.out 1).trans rfl;have hfz20_0:=zd BK101.out 0;have hfz20_1:=zd BK101.out 1)|((with_reducible refine zq (f:=67) rfl ?_);refine goesL_ (some 10) rfl rfl Try.func67 (by kernel_rfl) rfl #[.int .i64 a0,.agg #[.int .u64 a1_0,.int .u64 a1_1]] rfl (by (try simp only [List.map_toArray,List.map_cons,List.map_nil]);first|done|rfl|(simp only [List.length_drop,List.length_take];rfl)) ?_;(with_reducible refine (zL.calls k a0 a1_0 a1_1 false _ A3.out).mono ?_);rintro e w21 ⟨rfl,hb⟩;refine ⟨_,rfl,?_⟩;have n0_:=z3.mk (zk (g:=gb101) (o:=.cells #[.int .u64 a1_0,.int .u64 a1_1] 51 (0,0)) (by (with_reducible repeat (first|refine z5 ?_ _|refine z7 ?_|refine z4 ?_ _));exact BK101.out) hb);have n1_:=z3.mk (za (by repeat (first|(with_reducible first|exact HB.out|apply z2|apply z0|apply z1|refine z6 ?_ GE101.out)|exact HB.out)) hb);clear BK101;clear HB;have BK101:=n0_;have HB:=n1_;clear n0_ n1_;(try clear hb);(try clear hb2);(try clear hk);(try clear hi)))
   go_ret
   exact ⟨_,by first|rfl|(simp [zf,zg] <;> rfl)|(simp [*,zf,zg] <;> rfl),by first|exact Kd.z1G _ _ _ _ _|exact Kd.z1P _ _ _ _ _|exact Kd.z1S _ _ _ _ _|exact Kd.z1Q _ _ _ _ _|exact Kd.z1R _ _ _ _ _,by repeat (first|(with_reducible first|exact HB.out|apply z2|apply z0|apply z1|refine z6 ?_ GE101.out)|exact HB.out)⟩
 subst c4
 have H1 : (if 0 ≤ a0 then (zG.l0 k ([] : List Bool) (shl .i64 1 a0) 0 a1_0 a1_1) else (none)) = some r:=by rw [if_pos rfl] at H;exact H
 clear H
 have H:=H1
 clear H1
 by_cases c5 : 0 ≤ a0
 rotate_left
 · rw [if_neg c5] at H
   exact absurd H (by simp)
 rw [if_pos c5] at H
 have c5b0:=eq_true c5
 have c5b1 : decide (0 ≤ a0) = true:=decide_eq_true c5
 clear c5
 obtain ⟨ji6,hji6⟩ : ∃ j_ : Int,(shl .i64 1 a0) = j_:=⟨_,rfl⟩
 replace H : (zG.l0 k ([] : List Bool) ji6 0 a1_0 a1_1) = some r:=by first|(rw [hji6] at H;exact H)|(simp only [hji6] at H ⊢;exact H)
 (try rw [hji6] at A3)
 have hji6_ : (IntKind.i64.wrap (1 * 2 ^ min a0.toNat 64)) = ji6:=hji6
 have hji6z : a0 ≤ 64 → (IntKind.i64.wrap (1 * 2 ^ a0.toNat)) = ji6:=z19 hji6
 have hji6u : (IntKind.i64.wrap (2 ^ min a0.toNat 64)) = ji6:=by have h_:=hji6_;rw [Int.one_mul] at h_;exact h_
 have hji6v : a0 ≤ 64 → (IntKind.i64.wrap (2 ^ a0.toNat)) = ji6:=fun hle_=>by have h_:=hji6z hle_;rw [Int.one_mul] at h_;exact h_
 have hji6y : (wrap64 (1 * 2 ^ min a0.toNat 64)) = ji6:=(zC _).symm.trans hji6_
 have hji6x : a0 ≤ 64 → (wrap64 (1 * 2 ^ a0.toNat)) = ji6:=fun h_=>(zC _).symm.trans (hji6z h_)
 have H':=z3.mk H
 clear H
 go_enter Try.func29,Try.ntmps29
 go_wp2_with (first|((with_reducible refine zA (N:=3) rfl ?_);refine zB ?hg (N:=3) ?hd (cs:=#[.int .u64 a1_0,.int .u64 a1_1]) (t:=51) ?hr ?_;(case hd=>rfl);(case hg=>rfl);(case hr=>first|(go_simp;done)|(go_simp;rfl));intro gb101 hg w7 hbox hb;have n0_:=z3.mk (za (by repeat (first|(with_reducible first|exact HB.out|apply z2|apply z0|apply z1)|exact HB.out)) hb);have n1_:=z3.mk (hbox);have n2_:=z3.mk ((by rw [hg];exact (zc (by repeat (first|(with_reducible first|exact HB.out|apply z2|apply z0|apply z1)|exact HB.out))) : w.heap.size ≤ gb101));have n3_:=z3.mk ((by rw [hg];exact (zc (by repeat (first|(with_reducible first|exact HB.out|apply z2|apply z0|apply z1)|exact HB.out))) : w.heap.size ≤ gb101));clear HB;have HB:=n0_;have BK101:=n1_;have GW101:=n2_;have GE101:=n3_;clear n0_ n1_ n2_ n3_;clear hb hbox hg;have hcz8_0 : w7.cell? ⟨gb101,0,none⟩ = some (.int .u64 a1_0):=(ze BK101.out 0).trans rfl;have hcz8_1 : w7.cell? ⟨gb101,1,none⟩ = some (.int .u64 a1_1):=(ze BK101.out 1).trans rfl;have hfz8_0:=zd BK101.out 0;have hfz8_1:=zd BK101.out 1)|((with_reducible refine zq (f:=67) rfl ?_);refine goesL_ (some 10) rfl rfl Try.func67 (by kernel_rfl) rfl #[.int .i64 a0,.agg #[.int .u64 a1_0,.int .u64 a1_1]] rfl (by (try simp only [List.map_toArray,List.map_cons,List.map_nil]);first|done|rfl|(simp only [List.length_drop,List.length_take];rfl)) ?_;(with_reducible refine (zL.calls k a0 a1_0 a1_1 true _ A3.out).mono ?_);rintro e w9 ⟨rfl,hb⟩;refine ⟨_,rfl,?_⟩;have n0_:=z3.mk (zk (g:=gb101) (o:=.cells #[.int .u64 a1_0,.int .u64 a1_1] 51 (0,0)) (by (with_reducible repeat (first|refine z5 ?_ _|refine z7 ?_|refine z4 ?_ _));exact BK101.out) hb);have n1_:=z3.mk (za (by repeat (first|(with_reducible first|exact HB.out|apply z2|apply z0|apply z1|refine z6 ?_ GE101.out)|exact HB.out)) hb);clear BK101;clear HB;have BK101:=n0_;have HB:=n1_;clear n0_ n1_;(try clear hb);(try clear hb2);(try clear hk);(try clear hi)))
 go_loopg [5,14] k (fun kq v5 v14 w'=>∃ (x5_1 : List Bool) (x14_1 : Int),v14 = .int .i64 x14_1 ∧ z3 (zG.l0 kq x5_1 ji6 x14_1 a1_0 a1_1 = some r) ∧ z3 (kq ≤ k) ∧ z3 (Kd.R Kd.bool 4 w' w.heap.size (fun _=>True) v5 x5_1) ∧ z3 (w'.heap[gb101]? = some (.cells #[.int .u64 a1_0,.int .u64 a1_1] 51 (0,0))) ∧ z3 (Below w.heap.size w w'))
 case atStart=>exact ⟨(([] : List Bool)),(0),(by first|rfl|(simp;done)|(simp [*];done)),H',⟨Nat.le_refl _⟩,⟨by first|exact Kd.z1G _ _ _ _ _|exact Kd.z1P _ _ _ _ _|exact Kd.z1S _ _ _ _ _|exact Kd.z1Q _ _ _ _ _|exact Kd.z1R _ _ _ _ _⟩,⟨by (with_reducible repeat (first|refine z5 ?_ _|refine z7 ?_|refine z4 ?_ _));exact BK101.out⟩,⟨by repeat (first|(with_reducible first|exact HB.out|apply z2|apply z0|apply z1|refine z6 ?_ GE101.out)|exact HB.out)⟩⟩
 case round =>
  clear H'
  (try clear c2);(try clear p2);(try clear c4);(try clear c5);(try clear c5b0);(try clear c5b1);(try clear c6);(try clear p6);(try clear hcz8_0);(try clear hcz8_1);(try clear hfz8_0);(try clear hfz8_1)
  obtain ⟨x5_1,x14_1,rfl,HA,HK1,HO_5,BK101,HB⟩:=hrel
  cases gk with
  | zero=>exact absurd HA.out (by simp [zG.l0])
  | succ k1 =>
   have H:=HA.out
   clear HA
   simp only [zG.l0] at H
   by_cases c10 : x14_1 < ji6
   rotate_left
   · rw [if_neg c10] at H
     have c10b0 : decide (x14_1 < ji6) = false:=decide_eq_false c10
     clear c10
     obtain rfl:=Option.some.inj H
     go_wp2
     go_ret
     exact ⟨_,by first|rfl|(simp [zf,zg] <;> rfl)|(simp only [← hji6];first|rfl|(simp [zf,zg] <;> rfl))|(simp [*,zf,zg] <;> rfl),by (with_reducible repeat (first|apply Kd.zl|apply Kd.zm|apply Kd.zw));exact HO_5.out,by repeat (first|(with_reducible first|exact HB.out|apply z2|apply z0|apply z1|refine z6 ?_ GE101.out)|exact HB.out)⟩
   rw [if_pos c10] at H
   have c10b0 : decide (x14_1 < ji6) = true:=decide_eq_true c10
   clear c10
   replace H:=Option.bind_eq_some_iff.mp H
   obtain ⟨⟨t103,t104⟩,A110,H⟩:=H
   replace H : (if x5_1.length < 140737488355328 then (zG.l0 k1 (x5_1 ++ [((Go.bits .or .u64 (Go.bits .and .u64 a1_1 t104) (Go.bits .and .u64 a1_0 t103)) != 0)]) ji6 (wrap64 (x14_1 + 1)) a1_0 a1_1) else (none)) = some r:=H
   have A11:=z3.mk A110
   clear A110
   by_cases c12 : x5_1.length < 140737488355328
   rotate_left
   · rw [if_neg c12] at H
     exact absurd H (by simp)
   rw [if_pos c12] at H
   have LMc12:=z3.mk c12
   clear c12
   obtain ⟨y106,hy106⟩ : ∃ y_ : List Bool,y_ = (x5_1 ++ [((Go.bits .or .u64 (Go.bits .and .u64 a1_1 t104) (Go.bits .and .u64 a1_0 t103)) != 0)]):=⟨_,rfl⟩
   replace H : (zG.l0 k1 y106 ji6 (wrap64 (x14_1 + 1)) a1_0 a1_1) = some r:=by first|(rw [hy106];with_reducible exact H)|(have H2_:=(Option.bind_some _ _).symm.trans H;rw [hy106];with_reducible exact H2_)|(have H2_:=(Option.bind_some _ _).symm.trans H;with_reducible exact H2_)|with_reducible exact H|(rw [hy106];exact H)|exact H
   have Ny106:=z3.mk hy106
   clear hy106
   have H':=z3.mk H
   clear H
   go_wp2_with (first|((with_reducible refine zq (f:=68) rfl ?_);refine goesL_ (some 18) rfl rfl Try.func68 (by kernel_rfl) rfl #[.int .i64 x14_1] rfl (by (try simp only [List.map_toArray,List.map_cons,List.map_nil]);first|done|rfl|(simp only [List.length_drop,List.length_take];rfl)) ?_;(with_reducible refine (z11.calls k1 x14_1 t103 t104 _ A11.out).mono ?_);rintro e w13 ⟨rfl,hb⟩;refine ⟨_,rfl,?_⟩;have n0_:=z3.mk (Kd.zz (by (with_reducible repeat (first|apply Kd.zl|apply Kd.zm|apply Kd.zw));exact HO_5.out) hb);have n1_:=z3.mk (zk (g:=gb101) (o:=.cells #[.int .u64 a1_0,.int .u64 a1_1] 51 (0,0)) (by (with_reducible repeat (first|refine z5 ?_ _|refine z7 ?_|refine z4 ?_ _));exact BK101.out) hb);have n2_:=z3.mk (za (by repeat (first|(with_reducible first|exact HB.out|apply z2|apply z0|apply z1|refine z6 ?_ GE101.out)|exact HB.out)) hb);clear HO_5;clear BK101;clear HB;have HO_5:=n0_;have BK101:=n1_;have HB:=n2_;clear n0_ n1_ n2_;(try clear hb);(try clear hb2);(try clear hk);(try clear hi))|((with_reducible refine zA (N:=7) rfl ?_);refine zB ?hg (N:=7) ?hd (cs:=#[.int .u64 0,.int .u64 0]) (t:=51) ?hr ?_;(case hd=>rfl);(case hg=>rfl);(case hr=>first|(go_simp;done)|(go_simp;rfl));intro gb105 hg w14 hbox hb;have n0_:=z3.mk (Kd.zz (by (with_reducible repeat (first|apply Kd.zl|apply Kd.zm|apply Kd.zw));exact HO_5.out) hb);have n1_:=z3.mk (zk (g:=gb101) (o:=.cells #[.int .u64 a1_0,.int .u64 a1_1] 51 (0,0)) (by (with_reducible repeat (first|refine z5 ?_ _|refine z7 ?_|refine z4 ?_ _));exact BK101.out) hb);have n2_:=z3.mk (za (by repeat (first|(with_reducible first|exact HB.out|apply z2|apply z0|apply z1|refine z6 ?_ GE101.out)|exact HB.out)) hb);have n3_:=z3.mk (hbox);have n4_:=z3.mk ((by rw [hg];exact (zc (by repeat (first|(with_reducible first|exact HB.out|apply z2|apply z0|apply z1|refine z6 ?_ GE101.out)|exact HB.out))) : w.heap.size ≤ gb105));have n5_:=z3.mk ((by rw [hg];exact (zc (by repeat (first|(with_reducible first|exact HB.out|apply z2|apply z0|apply z1|refine z6 ?_ GE101.out)|exact HB.out))) : w.heap.size ≤ gb105));have n6_:=z3.mk ((by rw [hg];exact Nat.ne_of_lt (zS (g:=gb101) (o:=.cells #[.int .u64 a1_0,.int .u64 a1_1] 51 (0,0)) (by (with_reducible repeat (first|refine z5 ?_ _|refine z7 ?_|refine z4 ?_ _));exact BK101.out)) : gb101 ≠ gb105));have n7_:=z3.mk ((by rw [hg];exact Nat.ne_of_gt (zS (g:=gb101) (o:=.cells #[.int .u64 a1_0,.int .u64 a1_1] 51 (0,0)) (by (with_reducible repeat (first|refine z5 ?_ _|refine z7 ?_|refine z4 ?_ _));exact BK101.out)) : gb105 ≠ gb101));clear HO_5;clear BK101;clear HB;have HO_5:=n0_;have BK101:=n1_;have HB:=n2_;have BK105:=n3_;have GW105:=n4_;have GE105:=n5_;have NB101_105:=n6_;have NB105_101:=n7_;clear n0_ n1_ n2_ n3_ n4_ n5_ n6_ n7_;clear hb hbox hg;have hnb15:=NB105_101.out;have hnc15:=NB101_105.out;have hcz16_0 : w14.cell? ⟨gb105,0,none⟩ = some (.int .u64 0):=(ze BK105.out 0).trans rfl;have hcz16_1 : w14.cell? ⟨gb105,1,none⟩ = some (.int .u64 0):=(ze BK105.out 1).trans rfl;have hfz16_0:=zd BK105.out 0;have hfz16_1:=zd BK105.out 1;have hcz17_0 : w14.cell? ⟨gb101,0,none⟩ = some (.int .u64 a1_0):=(ze BK101.out 0).trans rfl;have hcz17_1 : w14.cell? ⟨gb101,1,none⟩ = some (.int .u64 a1_1):=(ze BK101.out 1).trans rfl;have hfz17_0:=zd BK101.out 0;have hfz17_1:=zd BK101.out 1)|((with_reducible refine z1u (b:=.append) (xs:=#[.tmp 19,.tmp 32]) rfl ?_);at_builtin;refine Kd.z1Y Kd.bool (w0:=w) w.heap.size rfl (.tmp 19) (.tmp 32) 24 4 (.bool false) 1 rfl Try.underlying24 info4 rfl (by decide) (by omega) u5 x5_1 ((Go.bits .or .u64 (Go.bits .and .u64 a1_1 t104) (Go.bits .and .u64 a1_0 t103)) != 0) [.bool ((Go.bits .or .u64 (Go.bits .and .u64 a1_1 t104) (Go.bits .and .u64 a1_0 t103)) != 0)] (fun _=>True) (fun _=>False) rfl (by first|(go_simp;done)|(go_simp;rfl)) ?aP (fun _ hk=>hk.elim) ?aF ?aO ?aB ?aS ?aL ?_;(case aP=>exact rfl);(case aB=>exact (by repeat (first|(with_reducible first|exact HB.out|apply z2|apply z0|apply z1|refine z6 ?_ GE101.out|refine z6 ?_ GE105.out)|exact HB.out)));(case aF=>exact (fun _ _=>trivial));(case aO=>exact (by (with_reducible repeat (first|apply Kd.zl|apply Kd.zm|apply Kd.zw));exact Kd.z1f (Kd.z2j (p:=⟨gb105,1,none⟩) (Kd.z2j (p:=⟨gb105,0,none⟩) (Kd.R_types HO_5.out BK105.out (by decide)) (fun _ hk=>hk.2) (.int .u64 t103)) (fun _ hk=>hk.2) (.int .u64 t104)) (fun _ hk=>trivial)));(case aS=>exact (zc (by repeat (first|(with_reducible first|exact HB.out|apply z2|apply z0|apply z1|refine z6 ?_ GE101.out|refine z6 ?_ GE105.out)|exact HB.out))));(case aL=>have:=LMc12.out;omega);intro v107 w18 ho hb hg hat;rw [← Ny106.out] at ho;have n0_:=z3.mk (z1N (g:=gb101) (o:=.cells #[.int .u64 a1_0,.int .u64 a1_1] 51 (0,0)) (by (with_reducible repeat (first|refine z5 ?_ _|refine z7 ?_|refine z4 ?_ _));refine z1m ?_ NB101_105.out _;(with_reducible repeat (first|refine z5 ?_ _|refine z7 ?_|refine z4 ?_ _));refine z1m ?_ NB101_105.out _;(with_reducible repeat (first|refine z5 ?_ _|refine z7 ?_|refine z4 ?_ _));exact BK101.out) hg (Kd.R_ne HO_5.out BK101.out (by decide)));have n1_:=z3.mk (z1N (g:=gb105) (o:=.cells #[.int .u64 t103,.int .u64 t104] 51 (0,0)) (by (with_reducible repeat (first|refine z5 ?_ _|refine z7 ?_|refine z4 ?_ _));refine zH (cs:=#[.int .u64 t103,.int .u64 0]) ?_ 1 _ rfl;(with_reducible repeat (first|refine z5 ?_ _|refine z7 ?_|refine z4 ?_ _));refine zH (cs:=#[.int .u64 0,.int .u64 0]) ?_ 0 _ rfl;(with_reducible repeat (first|refine z5 ?_ _|refine z7 ?_|refine z4 ?_ _));exact BK105.out) hg (Kd.R_ne HO_5.out BK105.out (by decide)));have n2_:=z3.mk (hb);have n3_:=z3.mk (ho);clear BK101;clear BK105;clear HB;clear HO_5;have BK101:=n0_;have BK105:=n1_;have HB:=n2_;have HO108:=n3_;clear n0_ n1_ n2_ n3_;clear ho hb hg hat))
   go_roundg k1
   case measure=>have:=HK1.out;omega
   case rel=>exact ⟨(y106),(wrap64 (x14_1 + 1)),(by first|rfl|(simp;done)|(simp [*];done)),H',⟨by have:=HK1.out;omega⟩,⟨by (with_reducible repeat (first|apply Kd.zl|apply Kd.zm|apply Kd.zw));exact HO108.out⟩,⟨by (with_reducible repeat (first|refine z5 ?_ _|refine z7 ?_|refine z4 ?_ _));exact BK101.out⟩,⟨by repeat (first|(with_reducible first|exact HB.out|apply z2|apply z0|apply z1|refine z6 ?_ GE101.out|refine z6 ?_ GE105.out)|exact HB.out)⟩⟩
end Go.Proofs.Ytngcaphdkgihmaa.P
namespace Go.Proofs.Ytngcaphdkgihmaa.P
open Go.RowKit Go.Proofs.YtngcaphdkgihmaaW.PrintWords Go.Proofs.YtngcaphdkgihmaaW.PrintLast Go.Proofs.YtngcaphdkgihmaaW.PrintMore
attribute [local go_sem] zU zW z15 z16 zQ zR zV zX   -- for this text's walks alone
set_option linter.unusedVariables false
set_option linter.unusedSimpArgs false
mutual
def z9.j0 : Nat → Int → List Bool → List (S51) → Int → Bool → Option (Bool)
 | 0,_,_,_,_,_=>none
 | k + 1,x0,x1,x5,x6,x26=>if x26 = true then ((zj.f k).bind fun t106=>(if t106 = true then (if x6 = 1 then (some ((x5.length : Int) == 0)) else (some false)) else (some false))) else ((some (([1,2,4,8,16,32,64,128] : List Int) : List Int)).bind fun y107=>(if 0 ≤ x0 then (if x0 < (y107.length : Int) then (if (rd y107 x0) = 0 then (none) else (if ((x1.length : Int) % (rd y107 x0)) = 0 then (if x6 = 0 then (z9.j1 k x0 x1 x5 (rd y107 x0) ((x5.length : Int) != (wrap64 ((x1.length : Int) / (rd y107 x0))))) else (z9.j1 k x0 x1 x5 (rd y107 x0) true)) else ((zj.f k).bind fun t111=>(if t111 = true then (if x6 = 6 then (some ((x5.length : Int) == 0)) else (some false)) else (some false))))) else (none)) else (none)))
def z9.j1 : Nat → Int → List Bool → List (S51) → Int → Bool → Option (Bool)
 | 0,_,_,_,_,_=>none
 | k + 1,x0,x1,x5,x7,x66=>if x66 = true then (some false) else (z9.l0 k x0 x1 x5 x7 0)
def z9.l0 : Nat → Int → List Bool → List (S51) → Int → Int → Option (Bool)
 | 0,_,_,_,_,_=>none
 | k + 1,x0,x1,x5,x7,x8=>if x8 < (x5.length : Int) then (if 0 ≤ x8 then ((zG.f k x0 ((zu x5 x8).f0) ((zu x5 x8).f1)).bind fun t114=>(if (t114.length : Int) = x7 then (z9.l1 k x0 x1 x5 x7 x8 t114 0) else (some false))) else (none)) else ((zj.f k).bind fun t112=>(some t112))
def z9.l1 : Nat → Int → List Bool → List (S51) → Int → Int → List Bool → Int → Option (Bool)
 | 0,_,_,_,_,_,_,_=>none
 | k + 1,x0,x1,x5,x7,x8,x9,x10=>if x10 < x7 then (if 0 ≤ x10 then (if x10 < (x9.length : Int) then (if 0 ≤ (wrap64 ((wrap64 (x8 * x7)) + x10)) then (if (wrap64 ((wrap64 (x8 * x7)) + x10)) < (x1.length : Int) then (if ((rdOf false x9 x10) != (rdOf false x1 (wrap64 ((wrap64 (x8 * x7)) + x10)))) = true then (some false) else (z9.l1 k x0 x1 x5 x7 x8 x9 (wrap64 (x10 + 1)))) else (none)) else (none)) else (none)) else (none)) else (z9.l0 k x0 x1 x5 x7 (wrap64 (x8 + 1)))
end
def z9.f (k : Nat) (a0 : Int) (l1 : List Bool) : Option (Bool):=if (l1.length : Int) > 300 then ((zj.f k).bind fun t101=>(some t101)) else ((zE.f k a0 l1).bind fun bt102=>(if a0 < 0 then (z9.j0 k a0 l1 bt102.1 bt102.2 true) else (z9.j0 k a0 l1 bt102.1 bt102.2 (decide (a0 > 7)))))
theorem z9.z12 : ∀ k,(∀ y0 y1 y2 y3 y4,LeO (z9.j0 k y0 y1 y2 y3 y4) (z9.j0 (k + 1) y0 y1 y2 y3 y4)) ∧ (∀ y0 y1 y2 y3 y4,LeO (z9.j1 k y0 y1 y2 y3 y4) (z9.j1 (k + 1) y0 y1 y2 y3 y4)) ∧ (∀ y0 y1 y2 y3 y4,LeO (z9.l0 k y0 y1 y2 y3 y4) (z9.l0 (k + 1) y0 y1 y2 y3 y4)) ∧ (∀ y0 y1 y2 y3 y4 y5 y6,LeO (z9.l1 k y0 y1 y2 y3 y4 y5 y6) (z9.l1 (k + 1) y0 y1 y2 y3 y4 y5 y6))
 | 0=>⟨fun _ _ _ _ _ r h=>by simp [z9.j0] at h,fun _ _ _ _ _ r h=>by simp [z9.j1] at h,fun _ _ _ _ _ r h=>by simp [z9.l0] at h,fun _ _ _ _ _ _ _ r h=>by simp [z9.l1] at h⟩
 | k + 1=>by
  obtain ⟨ih0,ih1,ih2,ih3⟩:=z9.z12 k
  refine ⟨?_,?_,?_,?_⟩
  · intro y0 y1 y2 y3 y4
    unfold z9.j0
    repeat' first
    | (with_reducible exact ih0 _ _ _ _ _)
    | (with_reducible exact ih1 _ _ _ _ _)
    | (with_reducible exact ih2 _ _ _ _ _)
    | (with_reducible exact ih3 _ _ _ _ _ _ _)
    | (with_reducible exact zj.mono _)
    | (with_reducible exact zG.mono _ _ _ _)
    | (with_reducible exact zE.mono _ _ _)
    | (with_reducible exact LeO.refl _)
    | (with_reducible exact LeO.none _)
    | (with_reducible refine LeO.ite ?_ ?_)
    | (with_reducible refine LeO.bind ?_ (fun _=>?_))
    | exact ih0 _ _ _ _ _
    | exact ih1 _ _ _ _ _
    | exact ih2 _ _ _ _ _
    | exact ih3 _ _ _ _ _ _ _
    | exact zj.mono _
    | exact zG.mono _ _ _ _
    | exact zE.mono _ _ _
    | exact LeO.none _
    | refine LeO.ite ?_ ?_
    | refine LeO.bind ?_ (fun _=>?_)
  · intro y0 y1 y2 y3 y4
    unfold z9.j1
    repeat' first
    | (with_reducible exact ih0 _ _ _ _ _)
    | (with_reducible exact ih1 _ _ _ _ _)
    | (with_reducible exact ih2 _ _ _ _ _)
    | (with_reducible exact ih3 _ _ _ _ _ _ _)
    | (with_reducible exact zj.mono _)
    | (with_reducible exact zG.mono _ _ _ _)
    | (with_reducible exact zE.mono _ _ _)
    | (with_reducible exact LeO.refl _)
    | (with_reducible exact LeO.none _)
    | (with_reducible refine LeO.ite ?_ ?_)
    | (with_reducible refine LeO.bind ?_ (fun _=>?_))
    | exact ih0 _ _ _ _ _
    | exact ih1 _ _ _ _ _
    | exact ih2 _ _ _ _ _
    | exact ih3 _ _ _ _ _ _ _
    | exact zj.mono _
    | exact zG.mono _ _ _ _
    | exact zE.mono _ _ _
    | exact LeO.none _
    | refine LeO.ite ?_ ?_
    | refine LeO.bind ?_ (fun _=>?_)
  · intro y0 y1 y2 y3 y4
    unfold z9.l0
    repeat' first
    | (with_reducible exact ih0 _ _ _ _ _)
    | (with_reducible exact ih1 _ _ _ _ _)
    | (with_reducible exact ih2 _ _ _ _ _)
    | (with_reducible exact ih3 _ _ _ _ _ _ _)
    | (with_reducible exact zj.mono _)
    | (with_reducible exact zG.mono _ _ _ _)
    | (with_reducible exact zE.mono _ _ _)
    | (with_reducible exact LeO.refl _)
    | (with_reducible exact LeO.none _)
    | (with_reducible refine LeO.ite ?_ ?_)
    | (with_reducible refine LeO.bind ?_ (fun _=>?_))
    | exact ih0 _ _ _ _ _
    | exact ih1 _ _ _ _ _
    | exact ih2 _ _ _ _ _
    | exact ih3 _ _ _ _ _ _ _
    | exact zj.mono _
    | exact zG.mono _ _ _ _
    | exact zE.mono _ _ _
    | exact LeO.none _
    | refine LeO.ite ?_ ?_
    | refine LeO.bind ?_ (fun _=>?_)
  · intro y0 y1 y2 y3 y4 y5 y6
    unfold z9.l1
    repeat' first
    | (with_reducible exact ih0 _ _ _ _ _)
    | (with_reducible exact ih1 _ _ _ _ _)
    | (with_reducible exact ih2 _ _ _ _ _)
    | (with_reducible exact ih3 _ _ _ _ _ _ _)
    | (with_reducible exact zj.mono _)
    | (with_reducible exact zG.mono _ _ _ _)
    | (with_reducible exact zE.mono _ _ _)
    | (with_reducible exact LeO.refl _)
    | (with_reducible exact LeO.none _)
    | (with_reducible refine LeO.ite ?_ ?_)
    | (with_reducible refine LeO.bind ?_ (fun _=>?_))
    | exact ih0 _ _ _ _ _
    | exact ih1 _ _ _ _ _
    | exact ih2 _ _ _ _ _
    | exact ih3 _ _ _ _ _ _ _
    | exact zj.mono _
    | exact zG.mono _ _ _ _
    | exact zE.mono _ _ _
    | exact LeO.none _
    | refine LeO.ite ?_ ?_
    | refine LeO.bind ?_ (fun _=>?_)
theorem z9.mono : ∀ a0 a1 k,LeO (z9.f k a0 a1) (z9.f (k + 1) a0 a1):=by
 intro a0 a1 k
 obtain ⟨ih0,ih1,ih2,ih3⟩:=z9.z12 k
 unfold z9.f
 repeat' first
  | (with_reducible exact ih0 _ _ _ _ _)
  | (with_reducible exact ih1 _ _ _ _ _)
  | (with_reducible exact ih2 _ _ _ _ _)
  | (with_reducible exact ih3 _ _ _ _ _ _ _)
  | (with_reducible exact zj.mono _)
  | (with_reducible exact zG.mono _ _ _ _)
  | (with_reducible exact zE.mono _ _ _)
  | (with_reducible exact LeO.refl _)
  | (with_reducible exact LeO.none _)
  | (with_reducible refine LeO.ite ?_ ?_)
  | (with_reducible refine LeO.bind ?_ (fun _=>?_))
  | exact ih0 _ _ _ _ _
  | exact ih1 _ _ _ _ _
  | exact ih2 _ _ _ _ _
  | exact ih3 _ _ _ _ _ _ _
  | exact zj.mono _
  | exact zG.mono _ _ _ _
  | exact zE.mono _ _ _
  | exact LeO.none _
  | refine LeO.ite ?_ ?_
  | refine LeO.bind ?_ (fun _=>?_)
set_option maxHeartbeats 8000000 in
set_option maxRecDepth 100000 in
theorem z9.calls (k : Nat) (a0 : Int) (A1 : Option Addr) (c1 : Nat) (l1 : List Bool) (r : Bool) (w : World) (hr1 : Kd.C Kd.bool w A1 l1.length l1) (hc1 : l1.length ≤ c1) (h : z9.f k a0 l1 = some r) :
 Calls Try.prog 6 #[.int .i64 a0,.slice A1 l1.length c1] w fun e w'=>e = .returned (.bool r) ∧ Below w.heap.size w w':=by
 have hu51:=Try.underlying51
 have HR1:=z3.mk hr1
 have HC1:=z3.mk hc1
 clear hr1 hc1
 have HB:=z3.mk (Below.refl w.heap.size w)
 have H : (if (l1.length : Int) > 300 then ((zj.f k).bind fun t101=>(some t101)) else ((zE.f k a0 l1).bind fun bt102=>(if a0 < 0 then (z9.j0 k a0 l1 bt102.1 bt102.2 true) else (z9.j0 k a0 l1 bt102.1 bt102.2 (decide (a0 > 7)))))) = some r:=h
 clear h
 by_cases c3 : (l1.length : Int) > 300
 · rw [if_pos c3] at H
   have c3b0 : decide (300 < (l1.length : Int)) = true:=decide_eq_true c3
   have c3b1 : decide (300 < l1.length) = true:=decide_eq_true (by omega)
   clear c3
   replace H:=Option.bind_eq_some_iff.mp H
   obtain ⟨t101,A40,H⟩:=H
   replace H : (some t101) = some r:=H
   have A4:=z3.mk A40
   clear A40
   obtain rfl:=Option.some.inj H
   go_enter Try.func6,Try.ntmps6
   go_wp2_with (first|(go_at_call 23;(with_reducible refine (zj.calls k  t101 _ A4.out).mono ?_);rintro e w5 ⟨rfl,hb⟩;have n0_:=z3.mk (za (by repeat (first|(with_reducible first|exact HB.out|apply z2|apply z0|apply z1)|exact HB.out)) hb);clear HB;have HB:=n0_;clear n0_;(try clear hb);(try clear hb2);(try clear hk);(try clear hi)))
   repeat (go_quiet (first|(go_at_call 23;(with_reducible refine (zj.calls k  t101 _ A4.out).mono ?_);rintro e w5 ⟨rfl,hb⟩;have n0_:=z3.mk (za (by repeat (first|(with_reducible first|exact HB.out|apply z2|apply z0|apply z1)|exact HB.out)) hb);clear HB;have HB:=n0_;clear n0_;(try clear hb);(try clear hb2);(try clear hk);(try clear hi)));try go_wp2_with (first|(go_at_call 23;(with_reducible refine (zj.calls k  t101 _ A4.out).mono ?_);rintro e w5 ⟨rfl,hb⟩;have n0_:=z3.mk (za (by repeat (first|(with_reducible first|exact HB.out|apply z2|apply z0|apply z1)|exact HB.out)) hb);clear HB;have HB:=n0_;clear n0_;(try clear hb);(try clear hb2);(try clear hk);(try clear hi))))
   go_ret
   exact ⟨by first|rfl|(simp [zf,zg] <;> rfl)|(simp [*,zf,zg] <;> rfl),by repeat (first|(with_reducible first|exact HB.out|apply z2|apply z0|apply z1)|exact HB.out)⟩
 rw [if_neg c3] at H
 have c3b0 : decide (300 < (l1.length : Int)) = false:=decide_eq_false c3
 have c3b1 : decide (300 < l1.length) = false:=decide_eq_false (by omega)
 clear c3
 replace H:=Option.bind_eq_some_iff.mp H
 obtain ⟨⟨t102,t103⟩,A60,H⟩:=H
 replace H : (if a0 < 0 then (z9.j0 k a0 l1 t102 t103 true) else (z9.j0 k a0 l1 t102 t103 (decide (a0 > 7)))) = some r:=H
 have A6:=z3.mk A60
 clear A60
 have HC7:=z3.mk H
 clear H
 go_enter Try.func6,Try.ntmps6
 go_upto_region 4 with (first|(go_at_call 28;(with_reducible refine (zE.calls k a0 _ _ l1 t102 t103 _ ?side1 ?side2 A6.out).mono ?_);(case side1=>repeat (first|exact HR1.out|(with_reducible refine Kd.z1p ?_ _)|(with_reducible refine Kd.z1q ?_ _)|(with_reducible refine Kd.z1z ?_)));(case side2=>exact HC1.out);rintro e w8 ⟨v104,rfl,ho0,hb⟩;have n0_:=z3.mk (Kd.z17 ho0 (zc (by repeat (first|(with_reducible first|exact HB.out|apply z2|apply z0|apply z1)|exact HB.out))));have n1_:=z3.mk (za (by repeat (first|(with_reducible first|exact HB.out|apply z2|apply z0|apply z1)|exact HB.out)) hb);clear HB;have HO105:=n0_;have HB:=n1_;clear n0_ n1_;(try clear hb);(try clear hb2);(try clear hk);(try clear hi);(try clear ho0)))
 repeat (go_quiet (first|(go_at_call 28;(with_reducible refine (zE.calls k a0 _ _ l1 t102 t103 _ ?side1 ?side2 A6.out).mono ?_);(case side1=>repeat (first|exact HR1.out|(with_reducible refine Kd.z1p ?_ _)|(with_reducible refine Kd.z1q ?_ _)|(with_reducible refine Kd.z1z ?_)));(case side2=>exact HC1.out);rintro e w8 ⟨v104,rfl,ho0,hb⟩;have n0_:=z3.mk (Kd.z17 ho0 (zc (by repeat (first|(with_reducible first|exact HB.out|apply z2|apply z0|apply z1)|exact HB.out))));have n1_:=z3.mk (za (by repeat (first|(with_reducible first|exact HB.out|apply z2|apply z0|apply z1)|exact HB.out)) hb);clear HB;have HO105:=n0_;have HB:=n1_;clear n0_ n1_;(try clear hb);(try clear hb2);(try clear hk);(try clear hi);(try clear ho0)));go_upto_region 4 with (first|(go_at_call 28;(with_reducible refine (zE.calls k a0 _ _ l1 t102 t103 _ ?side1 ?side2 A6.out).mono ?_);(case side1=>repeat (first|exact HR1.out|(with_reducible refine Kd.z1p ?_ _)|(with_reducible refine Kd.z1q ?_ _)|(with_reducible refine Kd.z1z ?_)));(case side2=>exact HC1.out);rintro e w8 ⟨v104,rfl,ho0,hb⟩;have n0_:=z3.mk (Kd.z17 ho0 (zc (by repeat (first|(with_reducible first|exact HB.out|apply z2|apply z0|apply z1)|exact HB.out))));have n1_:=z3.mk (za (by repeat (first|(with_reducible first|exact HB.out|apply z2|apply z0|apply z1)|exact HB.out)) hb);clear HB;have HO105:=n0_;have HB:=n1_;clear n0_ n1_;(try clear hb);(try clear hb2);(try clear hk);(try clear hi);(try clear ho0))))
 (try simp only [Act.put,List.setIfInBounds_toArray,List.set_cons_zero,List.set_cons_succ])
 go_cut [26] (fun v26 wc=>∃ (kq : Nat) (x26_6 : Bool),v26 = .bool x26_6 ∧ z3 (z9.j0 kq a0 l1 t102 t103 x26_6 = some r) ∧ z3 (kq ≤ k) ∧ z3 (Kd.R k51 51 wc w.heap.size (fun _=>True) v104 t102) ∧ z3 (Below w.heap.size w wc))
 case first =>
  have H:=HC7.out
  clear HC7
  by_cases c9 : a0 < 0
  rotate_left
  · rw [if_neg c9] at H
    have c9b0 : decide (a0 < 0) = false:=decide_eq_false c9
    clear c9
    (first|rw [c9b0]|(simp only [zC,zK];rw [c9b0])|skip)
    have H':=z3.mk H
    clear H
    go_wp2
    repeat (go_quiet (fail);try go_wp2)
    go_meet
    case rel=>exact ⟨_,(decide (a0 > 7)),(by first|rfl|(simp;done)|(simp [*];done)),H',⟨by first|omega|exact Nat.le_refl _⟩,⟨by (with_reducible repeat (first|apply Kd.zl|apply Kd.zm|apply Kd.zw));exact HO105.out⟩,⟨by repeat (first|(with_reducible first|exact HB.out|apply z2|apply z0|apply z1)|exact HB.out)⟩⟩
  rw [if_pos c9] at H
  have c9b0 : decide (a0 < 0) = true:=decide_eq_true c9
  clear c9
  (first|rw [c9b0]|(simp only [zC,zK];rw [c9b0])|skip)
  have H':=z3.mk H
  clear H
  go_wp2
  repeat (go_quiet (fail);try go_wp2)
  go_meet
  case rel=>exact ⟨_,(true),(by first|rfl|(simp;done)|(simp [*];done)),H',⟨by first|omega|exact Nat.le_refl _⟩,⟨by (with_reducible repeat (first|apply Kd.zl|apply Kd.zm|apply Kd.zw));exact HO105.out⟩,⟨by repeat (first|(with_reducible first|exact HB.out|apply z2|apply z0|apply z1)|exact HB.out)⟩⟩
 case rest =>
  clear HC7
  (try clear c1);(try clear p2);(try clear c3);(try clear c3b0);(try clear c3b1);(try clear c6);(try clear c9);(try clear c9b0)
  obtain ⟨kq,x26_6,rfl,HA,HJ6,HO_5,HB⟩:=hcut
  cases kq with
  | zero=>exact absurd HA.out (by simp [z9.j0])
  | succ kj6 =>
   have H:=HA.out
   clear HA
   simp only [z9.j0] at H
   by_cases c10 : x26_6 = true
   · subst c10
     have H1 : ((zj.f kj6).bind fun t106=>(if t106 = true then (if t103 = 1 then (some ((t102.length : Int) == 0)) else (some false)) else (some false))) = some r:=by rw [if_pos rfl] at H;exact H
     clear H
     have H:=H1
     clear H1
     replace H:=Option.bind_eq_some_iff.mp H
     obtain ⟨t106,A110,H⟩:=H
     replace H : (if t106 = true then (if t103 = 1 then (some ((t102.length : Int) == 0)) else (some false)) else (some false)) = some r:=H
     have A11:=z3.mk A110
     clear A110
     by_cases c12 : t106 = true
     rotate_left
     · replace c12:=Bool.eq_false_iff.mpr c12
       subst c12
       have H1 : (some false) = some r:=by rw [if_neg (show ¬ (false = true) by decide)] at H;exact H
       clear H
       have H:=H1
       clear H1
       obtain rfl:=Option.some.inj H
       go_wp2_with (first|(go_at_call 23;(with_reducible refine (zj.calls kj6  false _ A11.out).mono ?_);rintro e w17 ⟨rfl,hb⟩;have n0_:=z3.mk (Kd.zz (by (with_reducible repeat (first|apply Kd.zl|apply Kd.zm|apply Kd.zw));exact HO_5.out) hb);have n1_:=z3.mk (za (by repeat (first|(with_reducible first|exact HB.out|apply z2|apply z0|apply z1)|exact HB.out)) hb);clear HO_5;clear HB;have HO_5:=n0_;have HB:=n1_;clear n0_ n1_;(try clear hb);(try clear hb2);(try clear hk);(try clear hi)))
       repeat (go_quiet (first|(go_at_call 23;(with_reducible refine (zj.calls kj6  false _ A11.out).mono ?_);rintro e w17 ⟨rfl,hb⟩;have n0_:=z3.mk (Kd.zz (by (with_reducible repeat (first|apply Kd.zl|apply Kd.zm|apply Kd.zw));exact HO_5.out) hb);have n1_:=z3.mk (za (by repeat (first|(with_reducible first|exact HB.out|apply z2|apply z0|apply z1)|exact HB.out)) hb);clear HO_5;clear HB;have HO_5:=n0_;have HB:=n1_;clear n0_ n1_;(try clear hb);(try clear hb2);(try clear hk);(try clear hi)));try go_wp2_with (first|(go_at_call 23;(with_reducible refine (zj.calls kj6  false _ A11.out).mono ?_);rintro e w17 ⟨rfl,hb⟩;have n0_:=z3.mk (Kd.zz (by (with_reducible repeat (first|apply Kd.zl|apply Kd.zm|apply Kd.zw));exact HO_5.out) hb);have n1_:=z3.mk (za (by repeat (first|(with_reducible first|exact HB.out|apply z2|apply z0|apply z1)|exact HB.out)) hb);clear HO_5;clear HB;have HO_5:=n0_;have HB:=n1_;clear n0_ n1_;(try clear hb);(try clear hb2);(try clear hk);(try clear hi))))
       go_ret
       exact ⟨by first|rfl|(simp [zf,zg] <;> rfl)|(simp [*,zf,zg] <;> rfl),by repeat (first|(with_reducible first|exact HB.out|apply z2|apply z0|apply z1)|exact HB.out)⟩
     subst c12
     have H1 : (if t103 = 1 then (some ((t102.length : Int) == 0)) else (some false)) = some r:=by rw [if_pos rfl] at H;exact H
     clear H
     have H:=H1
     clear H1
     by_cases c13 : t103 = 1
     rotate_left
     · rw [if_neg c13] at H
       have c13b0 : (t103 == 1) = false:=beq_eq_false_iff_ne.mpr c13
       have c13b1 : (t103 != 1) = true:=bne_iff_ne.mpr c13
       obtain rfl:=Option.some.inj H
       go_wp2_with (first|(go_at_call 23;(with_reducible refine (zj.calls kj6  true _ A11.out).mono ?_);rintro e w16 ⟨rfl,hb⟩;have n0_:=z3.mk (Kd.zz (by (with_reducible repeat (first|apply Kd.zl|apply Kd.zm|apply Kd.zw));exact HO_5.out) hb);have n1_:=z3.mk (za (by repeat (first|(with_reducible first|exact HB.out|apply z2|apply z0|apply z1)|exact HB.out)) hb);clear HO_5;clear HB;have HO_5:=n0_;have HB:=n1_;clear n0_ n1_;(try clear hb);(try clear hb2);(try clear hk);(try clear hi)))
       repeat (go_quiet (first|(go_at_call 23;(with_reducible refine (zj.calls kj6  true _ A11.out).mono ?_);rintro e w16 ⟨rfl,hb⟩;have n0_:=z3.mk (Kd.zz (by (with_reducible repeat (first|apply Kd.zl|apply Kd.zm|apply Kd.zw));exact HO_5.out) hb);have n1_:=z3.mk (za (by repeat (first|(with_reducible first|exact HB.out|apply z2|apply z0|apply z1)|exact HB.out)) hb);clear HO_5;clear HB;have HO_5:=n0_;have HB:=n1_;clear n0_ n1_;(try clear hb);(try clear hb2);(try clear hk);(try clear hi)));try go_wp2_with (first|(go_at_call 23;(with_reducible refine (zj.calls kj6  true _ A11.out).mono ?_);rintro e w16 ⟨rfl,hb⟩;have n0_:=z3.mk (Kd.zz (by (with_reducible repeat (first|apply Kd.zl|apply Kd.zm|apply Kd.zw));exact HO_5.out) hb);have n1_:=z3.mk (za (by repeat (first|(with_reducible first|exact HB.out|apply z2|apply z0|apply z1)|exact HB.out)) hb);clear HO_5;clear HB;have HO_5:=n0_;have HB:=n1_;clear n0_ n1_;(try clear hb);(try clear hb2);(try clear hk);(try clear hi))))
       go_ret
       exact ⟨by first|rfl|(simp [zf,zg] <;> rfl)|(simp [*,zf,zg] <;> rfl),by repeat (first|(with_reducible first|exact HB.out|apply z2|apply z0|apply z1)|exact HB.out)⟩
     rw [if_pos c13] at H
     have c13b0 : (t103 == 1) = true:=beq_iff_eq.mpr c13
     have c13b1 : (t103 != 1) = false:=bne_eq_false_iff_eq.mpr c13
     clear c13
     obtain rfl:=Option.some.inj H
     go_wp2_with (first|(go_at_call 23;(with_reducible refine (zj.calls kj6  true _ A11.out).mono ?_);rintro e w14 ⟨rfl,hb⟩;have n0_:=z3.mk (Kd.zz (by (with_reducible repeat (first|apply Kd.zl|apply Kd.zm|apply Kd.zw));exact HO_5.out) hb);have n1_:=z3.mk (za (by repeat (first|(with_reducible first|exact HB.out|apply z2|apply z0|apply z1)|exact HB.out)) hb);clear HO_5;clear HB;have HO_5:=n0_;have HB:=n1_;clear n0_ n1_;(try clear hb);(try clear hb2);(try clear hk);(try clear hi);obtain ⟨Ao15,co15,eo15⟩:=Kd.z10 HO_5.out;subst eo15))
     repeat (go_quiet (first|(go_at_call 23;(with_reducible refine (zj.calls kj6  true _ A11.out).mono ?_);rintro e w14 ⟨rfl,hb⟩;have n0_:=z3.mk (Kd.zz (by (with_reducible repeat (first|apply Kd.zl|apply Kd.zm|apply Kd.zw));exact HO_5.out) hb);have n1_:=z3.mk (za (by repeat (first|(with_reducible first|exact HB.out|apply z2|apply z0|apply z1)|exact HB.out)) hb);clear HO_5;clear HB;have HO_5:=n0_;have HB:=n1_;clear n0_ n1_;(try clear hb);(try clear hb2);(try clear hk);(try clear hi);obtain ⟨Ao15,co15,eo15⟩:=Kd.z10 HO_5.out;subst eo15));try go_wp2_with (first|(go_at_call 23;(with_reducible refine (zj.calls kj6  true _ A11.out).mono ?_);rintro e w14 ⟨rfl,hb⟩;have n0_:=z3.mk (Kd.zz (by (with_reducible repeat (first|apply Kd.zl|apply Kd.zm|apply Kd.zw));exact HO_5.out) hb);have n1_:=z3.mk (za (by repeat (first|(with_reducible first|exact HB.out|apply z2|apply z0|apply z1)|exact HB.out)) hb);clear HO_5;clear HB;have HO_5:=n0_;have HB:=n1_;clear n0_ n1_;(try clear hb);(try clear hb2);(try clear hk);(try clear hi);obtain ⟨Ao15,co15,eo15⟩:=Kd.z10 HO_5.out;subst eo15)))
     go_ret
     exact ⟨by first|rfl|(simp [zf,zg] <;> rfl)|(simp [*,zf,zg] <;> rfl),by repeat (first|(with_reducible first|exact HB.out|apply z2|apply z0|apply z1)|exact HB.out)⟩
   replace c10:=Bool.eq_false_iff.mpr c10
   subst c10
   have H1 : ((some (([1,2,4,8,16,32,64,128] : List Int) : List Int)).bind fun y107=>(if 0 ≤ a0 then (if a0 < (y107.length : Int) then (if (rd y107 a0) = 0 then (none) else (if ((l1.length : Int) % (rd y107 a0)) = 0 then (if t103 = 0 then (z9.j1 kj6 a0 l1 t102 (rd y107 a0) ((t102.length : Int) != (wrap64 ((l1.length : Int) / (rd y107 a0))))) else (z9.j1 kj6 a0 l1 t102 (rd y107 a0) true)) else ((zj.f kj6).bind fun t111=>(if t111 = true then (if t103 = 6 then (some ((t102.length : Int) == 0)) else (some false)) else (some false))))) else (none)) else (none))) = some r:=by rw [if_neg (show ¬ (false = true) by decide)] at H;exact H
   clear H
   have H:=H1
   clear H1
   obtain ⟨y107,hy107⟩ : ∃ y_ : List Int,y_ = (([1,2,4,8,16,32,64,128] : List Int)):=⟨_,rfl⟩
   replace H : (if 0 ≤ a0 then (if a0 < (y107.length : Int) then (if (rd y107 a0) = 0 then (none) else (if ((l1.length : Int) % (rd y107 a0)) = 0 then (if t103 = 0 then (z9.j1 kj6 a0 l1 t102 (rd y107 a0) ((t102.length : Int) != (wrap64 ((l1.length : Int) / (rd y107 a0))))) else (z9.j1 kj6 a0 l1 t102 (rd y107 a0) true)) else ((zj.f kj6).bind fun t111=>(if t111 = true then (if t103 = 6 then (some ((t102.length : Int) == 0)) else (some false)) else (some false))))) else (none)) else (none)) = some r:=by first|(rw [hy107];with_reducible exact H)|(have H2_:=(Option.bind_some _ _).symm.trans H;rw [hy107];with_reducible exact H2_)|(have H2_:=(Option.bind_some _ _).symm.trans H;with_reducible exact H2_)|with_reducible exact H|(rw [hy107];exact H)|exact H
   have Ny107:=z3.mk hy107
   clear hy107
   by_cases c18 : 0 ≤ a0
   rotate_left
   · rw [if_neg c18] at H
     exact absurd H (by simp)
   rw [if_pos c18] at H
   have c18b0 : decide (0 ≤ a0) = true:=decide_eq_true c18
   clear c18
   by_cases c19 : a0 < (y107.length : Int)
   rotate_left
   · rw [if_neg c19] at H
     exact absurd H (by simp)
   rw [if_pos c19] at H
   have c19b0 : decide (a0 < (y107.length : Int)) = true:=decide_eq_true c19
   clear c19
   by_cases c20 : (rd y107 a0) = 0
   · rw [if_pos c20] at H
     exact absurd H (by simp)
   rw [if_neg c20] at H
   have c20b0 : ((rd y107 a0) == 0) = false:=beq_eq_false_iff_ne.mpr c20
   have c20b1 : ((rd y107 a0) != 0) = true:=bne_iff_ne.mpr c20
   by_cases c21 : ((l1.length : Int) % (rd y107 a0)) = 0
   rotate_left
   · rw [if_neg c21] at H
     have c21b0 : (((l1.length : Int) % (rd y107 a0)) == 0) = false:=beq_eq_false_iff_ne.mpr c21
     have c21b1 : (((l1.length : Int) % (rd y107 a0)) != 0) = true:=bne_iff_ne.mpr c21
     replace H:=Option.bind_eq_some_iff.mp H
     obtain ⟨t111,A490,H⟩:=H
     replace H : (if t111 = true then (if t103 = 6 then (some ((t102.length : Int) == 0)) else (some false)) else (some false)) = some r:=H
     have A49:=z3.mk A490
     clear A490
     by_cases c50 : t111 = true
     rotate_left
     · replace c50:=Bool.eq_false_iff.mpr c50
       subst c50
       have H1 : (some false) = some r:=by rw [if_neg (show ¬ (false = true) by decide)] at H;exact H
       clear H
       have H:=H1
       clear H1
       obtain rfl:=Option.some.inj H
       go_wp2_with (first|((with_reducible refine zA (N:=37) rfl ?_);(try (refine z1c (by rfl) ?_;dsimp only));refine Kd.z24 (Kd.int .i64) _ 3 ?hg (N:=37) ?hd (xs:=([1,2,4,8,16,32,64,128] : List Int)) (inner:=[.int .i64 1,.int .i64 2,.int .i64 4,.int .i64 8,.int .i64 16,.int .i64 32,.int .i64 64,.int .i64 128]) (ok:=fun _=>True) (okp:=fun _=>True) ?hr ?hp (fun _ hk=>hk) trivial (Below.refl _ _) (Nat.le_refl _) (by simp) ?_;(case hd=>rfl);(case hg=>rfl);(case hr=>first|(go_simp;done)|(go_simp;rfl));(case hp=>exact (Reps.one (show Kd.M (Kd.int .i64) _ _ _ 1 [.int .i64 1] from rfl) (Reps.one (show Kd.M (Kd.int .i64) _ _ _ 2 [.int .i64 2] from rfl) (Reps.one (show Kd.M (Kd.int .i64) _ _ _ 4 [.int .i64 4] from rfl) (Reps.one (show Kd.M (Kd.int .i64) _ _ _ 8 [.int .i64 8] from rfl) (Reps.one (show Kd.M (Kd.int .i64) _ _ _ 16 [.int .i64 16] from rfl) (Reps.one (show Kd.M (Kd.int .i64) _ _ _ 32 [.int .i64 32] from rfl) (Reps.one (show Kd.M (Kd.int .i64) _ _ _ 64 [.int .i64 64] from rfl) (Reps.one (show Kd.M (Kd.int .i64) _ _ _ 128 [.int .i64 128] from rfl) (Reps.none _ _))))))))));intro v108 w61 ho62 hb hg_ hnew_;clear hg_ hnew_;(first|rw [← Ny107.out] at ho62|(simp only [Int.reduceToNat] at ho62;rw [← Ny107.out] at ho62));have n0_:=z3.mk (Kd.zz (by (with_reducible repeat (first|apply Kd.zl|apply Kd.zm|apply Kd.zw));exact HO_5.out) hb);have n1_:=z3.mk (Kd.z17 ho62 (zc (by repeat (first|(with_reducible first|exact HB.out|apply z2|apply z0|apply z1)|exact HB.out))));have n2_:=z3.mk (za (by repeat (first|(with_reducible first|exact HB.out|apply z2|apply z0|apply z1)|exact HB.out)) hb);clear HO_5;clear HB;have HO_5:=n0_;have HO109:=n1_;have HB:=n2_;clear n0_ n1_ n2_;clear hb ho62;obtain ⟨Ao63,co63,eo63⟩:=Kd.z10 HO109.out;subst eo63;have p110 : 0 ≤ (a0 : Int):=of_decide_eq_true (by first|(with_reducible assumption)|assumption);have q110 : a0 < (y107.length : Int):=of_decide_eq_true (by first|(with_reducible assumption)|assumption);obtain ⟨ad110,e110,hx110_0⟩:=Kd.z1U (Kd.zN HO109.out).2.2 a0 p110 q110;cases e110;replace p110:=eq_true p110;replace q110:=eq_true q110)|(go_at_call 23;(with_reducible refine (zj.calls kj6  false _ A49.out).mono ?_);rintro e w64 ⟨rfl,hb⟩;have n0_:=z3.mk (Kd.zz (by (with_reducible repeat (first|apply Kd.zl|apply Kd.zm|apply Kd.zw));exact HO_5.out) hb);have n1_:=z3.mk (Kd.zz (by (with_reducible repeat (first|apply Kd.zl|apply Kd.zm|apply Kd.zw));exact HO109.out) hb);have n2_:=z3.mk (za (by repeat (first|(with_reducible first|exact HB.out|apply z2|apply z0|apply z1)|exact HB.out)) hb);clear HO_5;clear HO109;clear HB;have HO_5:=n0_;have HO109:=n1_;have HB:=n2_;clear n0_ n1_ n2_;(try clear hb);(try clear hb2);(try clear hk);(try clear hi)))
       repeat (go_quiet (first|((with_reducible refine zA (N:=37) rfl ?_);(try (refine z1c (by rfl) ?_;dsimp only));refine Kd.z24 (Kd.int .i64) _ 3 ?hg (N:=37) ?hd (xs:=([1,2,4,8,16,32,64,128] : List Int)) (inner:=[.int .i64 1,.int .i64 2,.int .i64 4,.int .i64 8,.int .i64 16,.int .i64 32,.int .i64 64,.int .i64 128]) (ok:=fun _=>True) (okp:=fun _=>True) ?hr ?hp (fun _ hk=>hk) trivial (Below.refl _ _) (Nat.le_refl _) (by simp) ?_;(case hd=>rfl);(case hg=>rfl);(case hr=>first|(go_simp;done)|(go_simp;rfl));(case hp=>exact (Reps.one (show Kd.M (Kd.int .i64) _ _ _ 1 [.int .i64 1] from rfl) (Reps.one (show Kd.M (Kd.int .i64) _ _ _ 2 [.int .i64 2] from rfl) (Reps.one (show Kd.M (Kd.int .i64) _ _ _ 4 [.int .i64 4] from rfl) (Reps.one (show Kd.M (Kd.int .i64) _ _ _ 8 [.int .i64 8] from rfl) (Reps.one (show Kd.M (Kd.int .i64) _ _ _ 16 [.int .i64 16] from rfl) (Reps.one (show Kd.M (Kd.int .i64) _ _ _ 32 [.int .i64 32] from rfl) (Reps.one (show Kd.M (Kd.int .i64) _ _ _ 64 [.int .i64 64] from rfl) (Reps.one (show Kd.M (Kd.int .i64) _ _ _ 128 [.int .i64 128] from rfl) (Reps.none _ _))))))))));intro v108 w61 ho62 hb hg_ hnew_;clear hg_ hnew_;(first|rw [← Ny107.out] at ho62|(simp only [Int.reduceToNat] at ho62;rw [← Ny107.out] at ho62));have n0_:=z3.mk (Kd.zz (by (with_reducible repeat (first|apply Kd.zl|apply Kd.zm|apply Kd.zw));exact HO_5.out) hb);have n1_:=z3.mk (Kd.z17 ho62 (zc (by repeat (first|(with_reducible first|exact HB.out|apply z2|apply z0|apply z1)|exact HB.out))));have n2_:=z3.mk (za (by repeat (first|(with_reducible first|exact HB.out|apply z2|apply z0|apply z1)|exact HB.out)) hb);clear HO_5;clear HB;have HO_5:=n0_;have HO109:=n1_;have HB:=n2_;clear n0_ n1_ n2_;clear hb ho62;obtain ⟨Ao63,co63,eo63⟩:=Kd.z10 HO109.out;subst eo63;have p110 : 0 ≤ (a0 : Int):=of_decide_eq_true (by first|(with_reducible assumption)|assumption);have q110 : a0 < (y107.length : Int):=of_decide_eq_true (by first|(with_reducible assumption)|assumption);obtain ⟨ad110,e110,hx110_0⟩:=Kd.z1U (Kd.zN HO109.out).2.2 a0 p110 q110;cases e110;replace p110:=eq_true p110;replace q110:=eq_true q110)|(go_at_call 23;(with_reducible refine (zj.calls kj6  false _ A49.out).mono ?_);rintro e w64 ⟨rfl,hb⟩;have n0_:=z3.mk (Kd.zz (by (with_reducible repeat (first|apply Kd.zl|apply Kd.zm|apply Kd.zw));exact HO_5.out) hb);have n1_:=z3.mk (Kd.zz (by (with_reducible repeat (first|apply Kd.zl|apply Kd.zm|apply Kd.zw));exact HO109.out) hb);have n2_:=z3.mk (za (by repeat (first|(with_reducible first|exact HB.out|apply z2|apply z0|apply z1)|exact HB.out)) hb);clear HO_5;clear HO109;clear HB;have HO_5:=n0_;have HO109:=n1_;have HB:=n2_;clear n0_ n1_ n2_;(try clear hb);(try clear hb2);(try clear hk);(try clear hi)));try go_wp2_with (first|((with_reducible refine zA (N:=37) rfl ?_);(try (refine z1c (by rfl) ?_;dsimp only));refine Kd.z24 (Kd.int .i64) _ 3 ?hg (N:=37) ?hd (xs:=([1,2,4,8,16,32,64,128] : List Int)) (inner:=[.int .i64 1,.int .i64 2,.int .i64 4,.int .i64 8,.int .i64 16,.int .i64 32,.int .i64 64,.int .i64 128]) (ok:=fun _=>True) (okp:=fun _=>True) ?hr ?hp (fun _ hk=>hk) trivial (Below.refl _ _) (Nat.le_refl _) (by simp) ?_;(case hd=>rfl);(case hg=>rfl);(case hr=>first|(go_simp;done)|(go_simp;rfl));(case hp=>exact (Reps.one (show Kd.M (Kd.int .i64) _ _ _ 1 [.int .i64 1] from rfl) (Reps.one (show Kd.M (Kd.int .i64) _ _ _ 2 [.int .i64 2] from rfl) (Reps.one (show Kd.M (Kd.int .i64) _ _ _ 4 [.int .i64 4] from rfl) (Reps.one (show Kd.M (Kd.int .i64) _ _ _ 8 [.int .i64 8] from rfl) (Reps.one (show Kd.M (Kd.int .i64) _ _ _ 16 [.int .i64 16] from rfl) (Reps.one (show Kd.M (Kd.int .i64) _ _ _ 32 [.int .i64 32] from rfl) (Reps.one (show Kd.M (Kd.int .i64) _ _ _ 64 [.int .i64 64] from rfl) (Reps.one (show Kd.M (Kd.int .i64) _ _ _ 128 [.int .i64 128] from rfl) (Reps.none _ _))))))))));intro v108 w61 ho62 hb hg_ hnew_;clear hg_ hnew_;(first|rw [← Ny107.out] at ho62|(simp only [Int.reduceToNat] at ho62;rw [← Ny107.out] at ho62));have n0_:=z3.mk (Kd.zz (by (with_reducible repeat (first|apply Kd.zl|apply Kd.zm|apply Kd.zw));exact HO_5.out) hb);have n1_:=z3.mk (Kd.z17 ho62 (zc (by repeat (first|(with_reducible first|exact HB.out|apply z2|apply z0|apply z1)|exact HB.out))));have n2_:=z3.mk (za (by repeat (first|(with_reducible first|exact HB.out|apply z2|apply z0|apply z1)|exact HB.out)) hb);clear HO_5;clear HB;have HO_5:=n0_;have HO109:=n1_;have HB:=n2_;clear n0_ n1_ n2_;clear hb ho62;obtain ⟨Ao63,co63,eo63⟩:=Kd.z10 HO109.out;subst eo63;have p110 : 0 ≤ (a0 : Int):=of_decide_eq_true (by first|(with_reducible assumption)|assumption);have q110 : a0 < (y107.length : Int):=of_decide_eq_true (by first|(with_reducible assumption)|assumption);obtain ⟨ad110,e110,hx110_0⟩:=Kd.z1U (Kd.zN HO109.out).2.2 a0 p110 q110;cases e110;replace p110:=eq_true p110;replace q110:=eq_true q110)|(go_at_call 23;(with_reducible refine (zj.calls kj6  false _ A49.out).mono ?_);rintro e w64 ⟨rfl,hb⟩;have n0_:=z3.mk (Kd.zz (by (with_reducible repeat (first|apply Kd.zl|apply Kd.zm|apply Kd.zw));exact HO_5.out) hb);have n1_:=z3.mk (Kd.zz (by (with_reducible repeat (first|apply Kd.zl|apply Kd.zm|apply Kd.zw));exact HO109.out) hb);have n2_:=z3.mk (za (by repeat (first|(with_reducible first|exact HB.out|apply z2|apply z0|apply z1)|exact HB.out)) hb);clear HO_5;clear HO109;clear HB;have HO_5:=n0_;have HO109:=n1_;have HB:=n2_;clear n0_ n1_ n2_;(try clear hb);(try clear hb2);(try clear hk);(try clear hi))))
       go_ret
       exact ⟨by first|rfl|(simp [zf,zg] <;> rfl)|(simp [*,zf,zg] <;> rfl),by repeat (first|(with_reducible first|exact HB.out|apply z2|apply z0|apply z1)|exact HB.out)⟩
     subst c50
     have H1 : (if t103 = 6 then (some ((t102.length : Int) == 0)) else (some false)) = some r:=by rw [if_pos rfl] at H;exact H
     clear H
     have H:=H1
     clear H1
     by_cases c51 : t103 = 6
     rotate_left
     · rw [if_neg c51] at H
       have c51b0 : (t103 == 6) = false:=beq_eq_false_iff_ne.mpr c51
       have c51b1 : (t103 != 6) = true:=bne_iff_ne.mpr c51
       obtain rfl:=Option.some.inj H
       go_wp2_with (first|((with_reducible refine zA (N:=37) rfl ?_);(try (refine z1c (by rfl) ?_;dsimp only));refine Kd.z24 (Kd.int .i64) _ 3 ?hg (N:=37) ?hd (xs:=([1,2,4,8,16,32,64,128] : List Int)) (inner:=[.int .i64 1,.int .i64 2,.int .i64 4,.int .i64 8,.int .i64 16,.int .i64 32,.int .i64 64,.int .i64 128]) (ok:=fun _=>True) (okp:=fun _=>True) ?hr ?hp (fun _ hk=>hk) trivial (Below.refl _ _) (Nat.le_refl _) (by simp) ?_;(case hd=>rfl);(case hg=>rfl);(case hr=>first|(go_simp;done)|(go_simp;rfl));(case hp=>exact (Reps.one (show Kd.M (Kd.int .i64) _ _ _ 1 [.int .i64 1] from rfl) (Reps.one (show Kd.M (Kd.int .i64) _ _ _ 2 [.int .i64 2] from rfl) (Reps.one (show Kd.M (Kd.int .i64) _ _ _ 4 [.int .i64 4] from rfl) (Reps.one (show Kd.M (Kd.int .i64) _ _ _ 8 [.int .i64 8] from rfl) (Reps.one (show Kd.M (Kd.int .i64) _ _ _ 16 [.int .i64 16] from rfl) (Reps.one (show Kd.M (Kd.int .i64) _ _ _ 32 [.int .i64 32] from rfl) (Reps.one (show Kd.M (Kd.int .i64) _ _ _ 64 [.int .i64 64] from rfl) (Reps.one (show Kd.M (Kd.int .i64) _ _ _ 128 [.int .i64 128] from rfl) (Reps.none _ _))))))))));intro v108 w57 ho58 hb hg_ hnew_;clear hg_ hnew_;(first|rw [← Ny107.out] at ho58|(simp only [Int.reduceToNat] at ho58;rw [← Ny107.out] at ho58));have n0_:=z3.mk (Kd.zz (by (with_reducible repeat (first|apply Kd.zl|apply Kd.zm|apply Kd.zw));exact HO_5.out) hb);have n1_:=z3.mk (Kd.z17 ho58 (zc (by repeat (first|(with_reducible first|exact HB.out|apply z2|apply z0|apply z1)|exact HB.out))));have n2_:=z3.mk (za (by repeat (first|(with_reducible first|exact HB.out|apply z2|apply z0|apply z1)|exact HB.out)) hb);clear HO_5;clear HB;have HO_5:=n0_;have HO109:=n1_;have HB:=n2_;clear n0_ n1_ n2_;clear hb ho58;obtain ⟨Ao59,co59,eo59⟩:=Kd.z10 HO109.out;subst eo59;have p110 : 0 ≤ (a0 : Int):=of_decide_eq_true (by first|(with_reducible assumption)|assumption);have q110 : a0 < (y107.length : Int):=of_decide_eq_true (by first|(with_reducible assumption)|assumption);obtain ⟨ad110,e110,hx110_0⟩:=Kd.z1U (Kd.zN HO109.out).2.2 a0 p110 q110;cases e110;replace p110:=eq_true p110;replace q110:=eq_true q110)|(go_at_call 23;(with_reducible refine (zj.calls kj6  true _ A49.out).mono ?_);rintro e w60 ⟨rfl,hb⟩;have n0_:=z3.mk (Kd.zz (by (with_reducible repeat (first|apply Kd.zl|apply Kd.zm|apply Kd.zw));exact HO_5.out) hb);have n1_:=z3.mk (Kd.zz (by (with_reducible repeat (first|apply Kd.zl|apply Kd.zm|apply Kd.zw));exact HO109.out) hb);have n2_:=z3.mk (za (by repeat (first|(with_reducible first|exact HB.out|apply z2|apply z0|apply z1)|exact HB.out)) hb);clear HO_5;clear HO109;clear HB;have HO_5:=n0_;have HO109:=n1_;have HB:=n2_;clear n0_ n1_ n2_;(try clear hb);(try clear hb2);(try clear hk);(try clear hi)))
       repeat (go_quiet (first|((with_reducible refine zA (N:=37) rfl ?_);(try (refine z1c (by rfl) ?_;dsimp only));refine Kd.z24 (Kd.int .i64) _ 3 ?hg (N:=37) ?hd (xs:=([1,2,4,8,16,32,64,128] : List Int)) (inner:=[.int .i64 1,.int .i64 2,.int .i64 4,.int .i64 8,.int .i64 16,.int .i64 32,.int .i64 64,.int .i64 128]) (ok:=fun _=>True) (okp:=fun _=>True) ?hr ?hp (fun _ hk=>hk) trivial (Below.refl _ _) (Nat.le_refl _) (by simp) ?_;(case hd=>rfl);(case hg=>rfl);(case hr=>first|(go_simp;done)|(go_simp;rfl));(case hp=>exact (Reps.one (show Kd.M (Kd.int .i64) _ _ _ 1 [.int .i64 1] from rfl) (Reps.one (show Kd.M (Kd.int .i64) _ _ _ 2 [.int .i64 2] from rfl) (Reps.one (show Kd.M (Kd.int .i64) _ _ _ 4 [.int .i64 4] from rfl) (Reps.one (show Kd.M (Kd.int .i64) _ _ _ 8 [.int .i64 8] from rfl) (Reps.one (show Kd.M (Kd.int .i64) _ _ _ 16 [.int .i64 16] from rfl) (Reps.one (show Kd.M (Kd.int .i64) _ _ _ 32 [.int .i64 32] from rfl) (Reps.one (show Kd.M (Kd.int .i64) _ _ _ 64 [.int .i64 64] from rfl) (Reps.one (show Kd.M (Kd.int .i64) _ _ _ 128 [.int .i64 128] from rfl) (Reps.none _ _))))))))));intro v108 w57 ho58 hb hg_ hnew_;clear hg_ hnew_;(first|rw [← Ny107.out] at ho58|(simp only [Int.reduceToNat] at ho58;rw [← Ny107.out] at ho58));have n0_:=z3.mk (Kd.zz (by (with_reducible repeat (first|apply Kd.zl|apply Kd.zm|apply Kd.zw));exact HO_5.out) hb);have n1_:=z3.mk (Kd.z17 ho58 (zc (by repeat (first|(with_reducible first|exact HB.out|apply z2|apply z0|apply z1)|exact HB.out))));have n2_:=z3.mk (za (by repeat (first|(with_reducible first|exact HB.out|apply z2|apply z0|apply z1)|exact HB.out)) hb);clear HO_5;clear HB;have HO_5:=n0_;have HO109:=n1_;have HB:=n2_;clear n0_ n1_ n2_;clear hb ho58;obtain ⟨Ao59,co59,eo59⟩:=Kd.z10 HO109.out;subst eo59;have p110 : 0 ≤ (a0 : Int):=of_decide_eq_true (by first|(with_reducible assumption)|assumption);have q110 : a0 < (y107.length : Int):=of_decide_eq_true (by first|(with_reducible assumption)|assumption);obtain ⟨ad110,e110,hx110_0⟩:=Kd.z1U (Kd.zN HO109.out).2.2 a0 p110 q110;cases e110;replace p110:=eq_true p110;replace q110:=eq_true q110)|(go_at_call 23;(with_reducible refine (zj.calls kj6  true _ A49.out).mono ?_);rintro e w60 ⟨rfl,hb⟩;have n0_:=z3.mk (Kd.zz (by (with_reducible repeat (first|apply Kd.zl|apply Kd.zm|apply Kd.zw));exact HO_5.out) hb);have n1_:=z3.mk (Kd.zz (by (with_reducible repeat (first|apply Kd.zl|apply Kd.zm|apply Kd.zw));exact HO109.out) hb);have n2_:=z3.mk (za (by repeat (first|(with_reducible first|exact HB.out|apply z2|apply z0|apply z1)|exact HB.out)) hb);clear HO_5;clear HO109;clear HB;have HO_5:=n0_;have HO109:=n1_;have HB:=n2_;clear n0_ n1_ n2_;(try clear hb);(try clear hb2);(try clear hk);(try clear hi)));try go_wp2_with (first|((with_reducible refine zA (N:=37) rfl ?_);(try (refine z1c (by rfl) ?_;dsimp only));refine Kd.z24 (Kd.int .i64) _ 3 ?hg (N:=37) ?hd (xs:=([1,2,4,8,16,32,64,128] : List Int)) (inner:=[.int .i64 1,.int .i64 2,.int .i64 4,.int .i64 8,.int .i64 16,.int .i64 32,.int .i64 64,.int .i64 128]) (ok:=fun _=>True) (okp:=fun _=>True) ?hr ?hp (fun _ hk=>hk) trivial (Below.refl _ _) (Nat.le_refl _) (by simp) ?_;(case hd=>rfl);(case hg=>rfl);(case hr=>first|(go_simp;done)|(go_simp;rfl));(case hp=>exact (Reps.one (show Kd.M (Kd.int .i64) _ _ _ 1 [.int .i64 1] from rfl) (Reps.one (show Kd.M (Kd.int .i64) _ _ _ 2 [.int .i64 2] from rfl) (Reps.one (show Kd.M (Kd.int .i64) _ _ _ 4 [.int .i64 4] from rfl) (Reps.one (show Kd.M (Kd.int .i64) _ _ _ 8 [.int .i64 8] from rfl) (Reps.one (show Kd.M (Kd.int .i64) _ _ _ 16 [.int .i64 16] from rfl) (Reps.one (show Kd.M (Kd.int .i64) _ _ _ 32 [.int .i64 32] from rfl) (Reps.one (show Kd.M (Kd.int .i64) _ _ _ 64 [.int .i64 64] from rfl) (Reps.one (show Kd.M (Kd.int .i64) _ _ _ 128 [.int .i64 128] from rfl) (Reps.none _ _))))))))));intro v108 w57 ho58 hb hg_ hnew_;clear hg_ hnew_;(first|rw [← Ny107.out] at ho58|(simp only [Int.reduceToNat] at ho58;rw [← Ny107.out] at ho58));have n0_:=z3.mk (Kd.zz (by (with_reducible repeat (first|apply Kd.zl|apply Kd.zm|apply Kd.zw));exact HO_5.out) hb);have n1_:=z3.mk (Kd.z17 ho58 (zc (by repeat (first|(with_reducible first|exact HB.out|apply z2|apply z0|apply z1)|exact HB.out))));have n2_:=z3.mk (za (by repeat (first|(with_reducible first|exact HB.out|apply z2|apply z0|apply z1)|exact HB.out)) hb);clear HO_5;clear HB;have HO_5:=n0_;have HO109:=n1_;have HB:=n2_;clear n0_ n1_ n2_;clear hb ho58;obtain ⟨Ao59,co59,eo59⟩:=Kd.z10 HO109.out;subst eo59;have p110 : 0 ≤ (a0 : Int):=of_decide_eq_true (by first|(with_reducible assumption)|assumption);have q110 : a0 < (y107.length : Int):=of_decide_eq_true (by first|(with_reducible assumption)|assumption);obtain ⟨ad110,e110,hx110_0⟩:=Kd.z1U (Kd.zN HO109.out).2.2 a0 p110 q110;cases e110;replace p110:=eq_true p110;replace q110:=eq_true q110)|(go_at_call 23;(with_reducible refine (zj.calls kj6  true _ A49.out).mono ?_);rintro e w60 ⟨rfl,hb⟩;have n0_:=z3.mk (Kd.zz (by (with_reducible repeat (first|apply Kd.zl|apply Kd.zm|apply Kd.zw));exact HO_5.out) hb);have n1_:=z3.mk (Kd.zz (by (with_reducible repeat (first|apply Kd.zl|apply Kd.zm|apply Kd.zw));exact HO109.out) hb);have n2_:=z3.mk (za (by repeat (first|(with_reducible first|exact HB.out|apply z2|apply z0|apply z1)|exact HB.out)) hb);clear HO_5;clear HO109;clear HB;have HO_5:=n0_;have HO109:=n1_;have HB:=n2_;clear n0_ n1_ n2_;(try clear hb);(try clear hb2);(try clear hk);(try clear hi))))
       go_ret
       exact ⟨by first|rfl|(simp [zf,zg] <;> rfl)|(simp [*,zf,zg] <;> rfl),by repeat (first|(with_reducible first|exact HB.out|apply z2|apply z0|apply z1)|exact HB.out)⟩
     rw [if_pos c51] at H
     have c51b0 : (t103 == 6) = true:=beq_iff_eq.mpr c51
     have c51b1 : (t103 != 6) = false:=bne_eq_false_iff_eq.mpr c51
     clear c51
     obtain rfl:=Option.some.inj H
     go_wp2_with (first|((with_reducible refine zA (N:=37) rfl ?_);(try (refine z1c (by rfl) ?_;dsimp only));refine Kd.z24 (Kd.int .i64) _ 3 ?hg (N:=37) ?hd (xs:=([1,2,4,8,16,32,64,128] : List Int)) (inner:=[.int .i64 1,.int .i64 2,.int .i64 4,.int .i64 8,.int .i64 16,.int .i64 32,.int .i64 64,.int .i64 128]) (ok:=fun _=>True) (okp:=fun _=>True) ?hr ?hp (fun _ hk=>hk) trivial (Below.refl _ _) (Nat.le_refl _) (by simp) ?_;(case hd=>rfl);(case hg=>rfl);(case hr=>first|(go_simp;done)|(go_simp;rfl));(case hp=>exact (Reps.one (show Kd.M (Kd.int .i64) _ _ _ 1 [.int .i64 1] from rfl) (Reps.one (show Kd.M (Kd.int .i64) _ _ _ 2 [.int .i64 2] from rfl) (Reps.one (show Kd.M (Kd.int .i64) _ _ _ 4 [.int .i64 4] from rfl) (Reps.one (show Kd.M (Kd.int .i64) _ _ _ 8 [.int .i64 8] from rfl) (Reps.one (show Kd.M (Kd.int .i64) _ _ _ 16 [.int .i64 16] from rfl) (Reps.one (show Kd.M (Kd.int .i64) _ _ _ 32 [.int .i64 32] from rfl) (Reps.one (show Kd.M (Kd.int .i64) _ _ _ 64 [.int .i64 64] from rfl) (Reps.one (show Kd.M (Kd.int .i64) _ _ _ 128 [.int .i64 128] from rfl) (Reps.none _ _))))))))));intro v108 w52 ho53 hb hg_ hnew_;clear hg_ hnew_;(first|rw [← Ny107.out] at ho53|(simp only [Int.reduceToNat] at ho53;rw [← Ny107.out] at ho53));have n0_:=z3.mk (Kd.zz (by (with_reducible repeat (first|apply Kd.zl|apply Kd.zm|apply Kd.zw));exact HO_5.out) hb);have n1_:=z3.mk (Kd.z17 ho53 (zc (by repeat (first|(with_reducible first|exact HB.out|apply z2|apply z0|apply z1)|exact HB.out))));have n2_:=z3.mk (za (by repeat (first|(with_reducible first|exact HB.out|apply z2|apply z0|apply z1)|exact HB.out)) hb);clear HO_5;clear HB;have HO_5:=n0_;have HO109:=n1_;have HB:=n2_;clear n0_ n1_ n2_;clear hb ho53;obtain ⟨Ao54,co54,eo54⟩:=Kd.z10 HO109.out;subst eo54;have p110 : 0 ≤ (a0 : Int):=of_decide_eq_true (by first|(with_reducible assumption)|assumption);have q110 : a0 < (y107.length : Int):=of_decide_eq_true (by first|(with_reducible assumption)|assumption);obtain ⟨ad110,e110,hx110_0⟩:=Kd.z1U (Kd.zN HO109.out).2.2 a0 p110 q110;cases e110;replace p110:=eq_true p110;replace q110:=eq_true q110)|(go_at_call 23;(with_reducible refine (zj.calls kj6  true _ A49.out).mono ?_);rintro e w55 ⟨rfl,hb⟩;have n0_:=z3.mk (Kd.zz (by (with_reducible repeat (first|apply Kd.zl|apply Kd.zm|apply Kd.zw));exact HO_5.out) hb);have n1_:=z3.mk (Kd.zz (by (with_reducible repeat (first|apply Kd.zl|apply Kd.zm|apply Kd.zw));exact HO109.out) hb);have n2_:=z3.mk (za (by repeat (first|(with_reducible first|exact HB.out|apply z2|apply z0|apply z1)|exact HB.out)) hb);clear HO_5;clear HO109;clear HB;have HO_5:=n0_;have HO109:=n1_;have HB:=n2_;clear n0_ n1_ n2_;(try clear hb);(try clear hb2);(try clear hk);(try clear hi);obtain ⟨Ao56,co56,eo56⟩:=Kd.z10 HO_5.out;subst eo56))
     repeat (go_quiet (first|((with_reducible refine zA (N:=37) rfl ?_);(try (refine z1c (by rfl) ?_;dsimp only));refine Kd.z24 (Kd.int .i64) _ 3 ?hg (N:=37) ?hd (xs:=([1,2,4,8,16,32,64,128] : List Int)) (inner:=[.int .i64 1,.int .i64 2,.int .i64 4,.int .i64 8,.int .i64 16,.int .i64 32,.int .i64 64,.int .i64 128]) (ok:=fun _=>True) (okp:=fun _=>True) ?hr ?hp (fun _ hk=>hk) trivial (Below.refl _ _) (Nat.le_refl _) (by simp) ?_;(case hd=>rfl);(case hg=>rfl);(case hr=>first|(go_simp;done)|(go_simp;rfl));(case hp=>exact (Reps.one (show Kd.M (Kd.int .i64) _ _ _ 1 [.int .i64 1] from rfl) (Reps.one (show Kd.M (Kd.int .i64) _ _ _ 2 [.int .i64 2] from rfl) (Reps.one (show Kd.M (Kd.int .i64) _ _ _ 4 [.int .i64 4] from rfl) (Reps.one (show Kd.M (Kd.int .i64) _ _ _ 8 [.int .i64 8] from rfl) (Reps.one (show Kd.M (Kd.int .i64) _ _ _ 16 [.int .i64 16] from rfl) (Reps.one (show Kd.M (Kd.int .i64) _ _ _ 32 [.int .i64 32] from rfl) (Reps.one (show Kd.M (Kd.int .i64) _ _ _ 64 [.int .i64 64] from rfl) (Reps.one (show Kd.M (Kd.int .i64) _ _ _ 128 [.int .i64 128] from rfl) (Reps.none _ _))))))))));intro v108 w52 ho53 hb hg_ hnew_;clear hg_ hnew_;(first|rw [← Ny107.out] at ho53|(simp only [Int.reduceToNat] at ho53;rw [← Ny107.out] at ho53));have n0_:=z3.mk (Kd.zz (by (with_reducible repeat (first|apply Kd.zl|apply Kd.zm|apply Kd.zw));exact HO_5.out) hb);have n1_:=z3.mk (Kd.z17 ho53 (zc (by repeat (first|(with_reducible first|exact HB.out|apply z2|apply z0|apply z1)|exact HB.out))));have n2_:=z3.mk (za (by repeat (first|(with_reducible first|exact HB.out|apply z2|apply z0|apply z1)|exact HB.out)) hb);clear HO_5;clear HB;have HO_5:=n0_;have HO109:=n1_;have HB:=n2_;clear n0_ n1_ n2_;clear hb ho53;obtain ⟨Ao54,co54,eo54⟩:=Kd.z10 HO109.out;subst eo54;have p110 : 0 ≤ (a0 : Int):=of_decide_eq_true (by first|(with_reducible assumption)|assumption);have q110 : a0 < (y107.length : Int):=of_decide_eq_true (by first|(with_reducible assumption)|assumption);obtain ⟨ad110,e110,hx110_0⟩:=Kd.z1U (Kd.zN HO109.out).2.2 a0 p110 q110;cases e110;replace p110:=eq_true p110;replace q110:=eq_true q110)|(go_at_call 23;(with_reducible refine (zj.calls kj6  true _ A49.out).mono ?_);rintro e w55 ⟨rfl,hb⟩;have n0_:=z3.mk (Kd.zz (by (with_reducible repeat (first|apply Kd.zl|apply Kd.zm|apply Kd.zw));exact HO_5.out) hb);have n1_:=z3.mk (Kd.zz (by (with_reducible repeat (first|apply Kd.zl|apply Kd.zm|apply Kd.zw));exact HO109.out) hb);have n2_:=z3.mk (za (by repeat (first|(with_reducible first|exact HB.out|apply z2|apply z0|apply z1)|exact HB.out)) hb);clear HO_5;clear HO109;clear HB;have HO_5:=n0_;have HO109:=n1_;have HB:=n2_;clear n0_ n1_ n2_;(try clear hb);(try clear hb2);(try clear hk);(try clear hi);obtain ⟨Ao56,co56,eo56⟩:=Kd.z10 HO_5.out;subst eo56));try go_wp2_with (first|((with_reducible refine zA (N:=37) rfl ?_);(try (refine z1c (by rfl) ?_;dsimp only));refine Kd.z24 (Kd.int .i64) _ 3 ?hg (N:=37) ?hd (xs:=([1,2,4,8,16,32,64,128] : List Int)) (inner:=[.int .i64 1,.int .i64 2,.int .i64 4,.int .i64 8,.int .i64 16,.int .i64 32,.int .i64 64,.int .i64 128]) (ok:=fun _=>True) (okp:=fun _=>True) ?hr ?hp (fun _ hk=>hk) trivial (Below.refl _ _) (Nat.le_refl _) (by simp) ?_;(case hd=>rfl);(case hg=>rfl);(case hr=>first|(go_simp;done)|(go_simp;rfl));(case hp=>exact (Reps.one (show Kd.M (Kd.int .i64) _ _ _ 1 [.int .i64 1] from rfl) (Reps.one (show Kd.M (Kd.int .i64) _ _ _ 2 [.int .i64 2] from rfl) (Reps.one (show Kd.M (Kd.int .i64) _ _ _ 4 [.int .i64 4] from rfl) (Reps.one (show Kd.M (Kd.int .i64) _ _ _ 8 [.int .i64 8] from rfl) (Reps.one (show Kd.M (Kd.int .i64) _ _ _ 16 [.int .i64 16] from rfl) (Reps.one (show Kd.M (Kd.int .i64) _ _ _ 32 [.int .i64 32] from rfl) (Reps.one (show Kd.M (Kd.int .i64) _ _ _ 64 [.int .i64 64] from rfl) (Reps.one (show Kd.M (Kd.int .i64) _ _ _ 128 [.int .i64 128] from rfl) (Reps.none _ _))))))))));intro v108 w52 ho53 hb hg_ hnew_;clear hg_ hnew_;(first|rw [← Ny107.out] at ho53|(simp only [Int.reduceToNat] at ho53;rw [← Ny107.out] at ho53));have n0_:=z3.mk (Kd.zz (by (with_reducible repeat (first|apply Kd.zl|apply Kd.zm|apply Kd.zw));exact HO_5.out) hb);have n1_:=z3.mk (Kd.z17 ho53 (zc (by repeat (first|(with_reducible first|exact HB.out|apply z2|apply z0|apply z1)|exact HB.out))));have n2_:=z3.mk (za (by repeat (first|(with_reducible first|exact HB.out|apply z2|apply z0|apply z1)|exact HB.out)) hb);clear HO_5;clear HB;have HO_5:=n0_;have HO109:=n1_;have HB:=n2_;clear n0_ n1_ n2_;clear hb ho53;obtain ⟨Ao54,co54,eo54⟩:=Kd.z10 HO109.out;subst eo54;have p110 : 0 ≤ (a0 : Int):=of_decide_eq_true (by first|(with_reducible assumption)|assumption);have q110 : a0 < (y107.length : Int):=of_decide_eq_true (by first|(with_reducible assumption)|assumption);obtain ⟨ad110,e110,hx110_0⟩:=Kd.z1U (Kd.zN HO109.out).2.2 a0 p110 q110;cases e110;replace p110:=eq_true p110;replace q110:=eq_true q110)|(go_at_call 23;(with_reducible refine (zj.calls kj6  true _ A49.out).mono ?_);rintro e w55 ⟨rfl,hb⟩;have n0_:=z3.mk (Kd.zz (by (with_reducible repeat (first|apply Kd.zl|apply Kd.zm|apply Kd.zw));exact HO_5.out) hb);have n1_:=z3.mk (Kd.zz (by (with_reducible repeat (first|apply Kd.zl|apply Kd.zm|apply Kd.zw));exact HO109.out) hb);have n2_:=z3.mk (za (by repeat (first|(with_reducible first|exact HB.out|apply z2|apply z0|apply z1)|exact HB.out)) hb);clear HO_5;clear HO109;clear HB;have HO_5:=n0_;have HO109:=n1_;have HB:=n2_;clear n0_ n1_ n2_;(try clear hb);(try clear hb2);(try clear hk);(try clear hi);obtain ⟨Ao56,co56,eo56⟩:=Kd.z10 HO_5.out;subst eo56)))
     go_ret
     exact ⟨by first|rfl|(simp [zf,zg] <;> rfl)|(simp [*,zf,zg] <;> rfl),by repeat (first|(with_reducible first|exact HB.out|apply z2|apply z0|apply z1)|exact HB.out)⟩
   rw [if_pos c21] at H
   have c21b0 : (((l1.length : Int) % (rd y107 a0)) == 0) = true:=beq_iff_eq.mpr c21
   have c21b1 : (((l1.length : Int) % (rd y107 a0)) != 0) = false:=bne_eq_false_iff_eq.mpr c21
   clear c21
   have HC22:=z3.mk H
   clear H
   go_upto_region 9 with (first|((with_reducible refine zA (N:=37) rfl ?_);(try (refine z1c (by rfl) ?_;dsimp only));refine Kd.z24 (Kd.int .i64) _ 3 ?hg (N:=37) ?hd (xs:=([1,2,4,8,16,32,64,128] : List Int)) (inner:=[.int .i64 1,.int .i64 2,.int .i64 4,.int .i64 8,.int .i64 16,.int .i64 32,.int .i64 64,.int .i64 128]) (ok:=fun _=>True) (okp:=fun _=>True) ?hr ?hp (fun _ hk=>hk) trivial (Below.refl _ _) (Nat.le_refl _) (by simp) ?_;(case hd=>rfl);(case hg=>rfl);(case hr=>first|(go_simp;done)|(go_simp;rfl));(case hp=>exact (Reps.one (show Kd.M (Kd.int .i64) _ _ _ 1 [.int .i64 1] from rfl) (Reps.one (show Kd.M (Kd.int .i64) _ _ _ 2 [.int .i64 2] from rfl) (Reps.one (show Kd.M (Kd.int .i64) _ _ _ 4 [.int .i64 4] from rfl) (Reps.one (show Kd.M (Kd.int .i64) _ _ _ 8 [.int .i64 8] from rfl) (Reps.one (show Kd.M (Kd.int .i64) _ _ _ 16 [.int .i64 16] from rfl) (Reps.one (show Kd.M (Kd.int .i64) _ _ _ 32 [.int .i64 32] from rfl) (Reps.one (show Kd.M (Kd.int .i64) _ _ _ 64 [.int .i64 64] from rfl) (Reps.one (show Kd.M (Kd.int .i64) _ _ _ 128 [.int .i64 128] from rfl) (Reps.none _ _))))))))));intro v108 w23 ho24 hb hg_ hnew_;clear hg_ hnew_;(first|rw [← Ny107.out] at ho24|(simp only [Int.reduceToNat] at ho24;rw [← Ny107.out] at ho24));have n0_:=z3.mk (Kd.zz (by (with_reducible repeat (first|apply Kd.zl|apply Kd.zm|apply Kd.zw));exact HO_5.out) hb);have n1_:=z3.mk (Kd.z17 ho24 (zc (by repeat (first|(with_reducible first|exact HB.out|apply z2|apply z0|apply z1)|exact HB.out))));have n2_:=z3.mk (za (by repeat (first|(with_reducible first|exact HB.out|apply z2|apply z0|apply z1)|exact HB.out)) hb);clear HO_5;clear HB;have HO_5:=n0_;have HO109:=n1_;have HB:=n2_;clear n0_ n1_ n2_;clear hb ho24;obtain ⟨Ao25,co25,eo25⟩:=Kd.z10 HO109.out;subst eo25;have p110 : 0 ≤ (a0 : Int):=of_decide_eq_true (by first|(with_reducible assumption)|assumption);have q110 : a0 < (y107.length : Int):=of_decide_eq_true (by first|(with_reducible assumption)|assumption);obtain ⟨ad110,e110,hx110_0⟩:=Kd.z1U (Kd.zN HO109.out).2.2 a0 p110 q110;cases e110;replace p110:=eq_true p110;replace q110:=eq_true q110))
   repeat (go_quiet (first|((with_reducible refine zA (N:=37) rfl ?_);(try (refine z1c (by rfl) ?_;dsimp only));refine Kd.z24 (Kd.int .i64) _ 3 ?hg (N:=37) ?hd (xs:=([1,2,4,8,16,32,64,128] : List Int)) (inner:=[.int .i64 1,.int .i64 2,.int .i64 4,.int .i64 8,.int .i64 16,.int .i64 32,.int .i64 64,.int .i64 128]) (ok:=fun _=>True) (okp:=fun _=>True) ?hr ?hp (fun _ hk=>hk) trivial (Below.refl _ _) (Nat.le_refl _) (by simp) ?_;(case hd=>rfl);(case hg=>rfl);(case hr=>first|(go_simp;done)|(go_simp;rfl));(case hp=>exact (Reps.one (show Kd.M (Kd.int .i64) _ _ _ 1 [.int .i64 1] from rfl) (Reps.one (show Kd.M (Kd.int .i64) _ _ _ 2 [.int .i64 2] from rfl) (Reps.one (show Kd.M (Kd.int .i64) _ _ _ 4 [.int .i64 4] from rfl) (Reps.one (show Kd.M (Kd.int .i64) _ _ _ 8 [.int .i64 8] from rfl) (Reps.one (show Kd.M (Kd.int .i64) _ _ _ 16 [.int .i64 16] from rfl) (Reps.one (show Kd.M (Kd.int .i64) _ _ _ 32 [.int .i64 32] from rfl) (Reps.one (show Kd.M (Kd.int .i64) _ _ _ 64 [.int .i64 64] from rfl) (Reps.one (show Kd.M (Kd.int .i64) _ _ _ 128 [.int .i64 128] from rfl) (Reps.none _ _))))))))));intro v108 w23 ho24 hb hg_ hnew_;clear hg_ hnew_;(first|rw [← Ny107.out] at ho24|(simp only [Int.reduceToNat] at ho24;rw [← Ny107.out] at ho24));have n0_:=z3.mk (Kd.zz (by (with_reducible repeat (first|apply Kd.zl|apply Kd.zm|apply Kd.zw));exact HO_5.out) hb);have n1_:=z3.mk (Kd.z17 ho24 (zc (by repeat (first|(with_reducible first|exact HB.out|apply z2|apply z0|apply z1)|exact HB.out))));have n2_:=z3.mk (za (by repeat (first|(with_reducible first|exact HB.out|apply z2|apply z0|apply z1)|exact HB.out)) hb);clear HO_5;clear HB;have HO_5:=n0_;have HO109:=n1_;have HB:=n2_;clear n0_ n1_ n2_;clear hb ho24;obtain ⟨Ao25,co25,eo25⟩:=Kd.z10 HO109.out;subst eo25;have p110 : 0 ≤ (a0 : Int):=of_decide_eq_true (by first|(with_reducible assumption)|assumption);have q110 : a0 < (y107.length : Int):=of_decide_eq_true (by first|(with_reducible assumption)|assumption);obtain ⟨ad110,e110,hx110_0⟩:=Kd.z1U (Kd.zN HO109.out).2.2 a0 p110 q110;cases e110;replace p110:=eq_true p110;replace q110:=eq_true q110));go_upto_region 9 with (first|((with_reducible refine zA (N:=37) rfl ?_);(try (refine z1c (by rfl) ?_;dsimp only));refine Kd.z24 (Kd.int .i64) _ 3 ?hg (N:=37) ?hd (xs:=([1,2,4,8,16,32,64,128] : List Int)) (inner:=[.int .i64 1,.int .i64 2,.int .i64 4,.int .i64 8,.int .i64 16,.int .i64 32,.int .i64 64,.int .i64 128]) (ok:=fun _=>True) (okp:=fun _=>True) ?hr ?hp (fun _ hk=>hk) trivial (Below.refl _ _) (Nat.le_refl _) (by simp) ?_;(case hd=>rfl);(case hg=>rfl);(case hr=>first|(go_simp;done)|(go_simp;rfl));(case hp=>exact (Reps.one (show Kd.M (Kd.int .i64) _ _ _ 1 [.int .i64 1] from rfl) (Reps.one (show Kd.M (Kd.int .i64) _ _ _ 2 [.int .i64 2] from rfl) (Reps.one (show Kd.M (Kd.int .i64) _ _ _ 4 [.int .i64 4] from rfl) (Reps.one (show Kd.M (Kd.int .i64) _ _ _ 8 [.int .i64 8] from rfl) (Reps.one (show Kd.M (Kd.int .i64) _ _ _ 16 [.int .i64 16] from rfl) (Reps.one (show Kd.M (Kd.int .i64) _ _ _ 32 [.int .i64 32] from rfl) (Reps.one (show Kd.M (Kd.int .i64) _ _ _ 64 [.int .i64 64] from rfl) (Reps.one (show Kd.M (Kd.int .i64) _ _ _ 128 [.int .i64 128] from rfl) (Reps.none _ _))))))))));intro v108 w23 ho24 hb hg_ hnew_;clear hg_ hnew_;(first|rw [← Ny107.out] at ho24|(simp only [Int.reduceToNat] at ho24;rw [← Ny107.out] at ho24));have n0_:=z3.mk (Kd.zz (by (with_reducible repeat (first|apply Kd.zl|apply Kd.zm|apply Kd.zw));exact HO_5.out) hb);have n1_:=z3.mk (Kd.z17 ho24 (zc (by repeat (first|(with_reducible first|exact HB.out|apply z2|apply z0|apply z1)|exact HB.out))));have n2_:=z3.mk (za (by repeat (first|(with_reducible first|exact HB.out|apply z2|apply z0|apply z1)|exact HB.out)) hb);clear HO_5;clear HB;have HO_5:=n0_;have HO109:=n1_;have HB:=n2_;clear n0_ n1_ n2_;clear hb ho24;obtain ⟨Ao25,co25,eo25⟩:=Kd.z10 HO109.out;subst eo25;have p110 : 0 ≤ (a0 : Int):=of_decide_eq_true (by first|(with_reducible assumption)|assumption);have q110 : a0 < (y107.length : Int):=of_decide_eq_true (by first|(with_reducible assumption)|assumption);obtain ⟨ad110,e110,hx110_0⟩:=Kd.z1U (Kd.zN HO109.out).2.2 a0 p110 q110;cases e110;replace p110:=eq_true p110;replace q110:=eq_true q110)))
   (try simp only [Act.put,List.setIfInBounds_toArray,List.set_cons_zero,List.set_cons_succ])
   go_cut [66] (fun v66 wc=>∃ (kq : Nat) (x66_21 : Bool),v66 = .bool x66_21 ∧ z3 (z9.j1 kq a0 l1 t102 (rd y107 a0) x66_21 = some r) ∧ z3 (kq ≤ kj6) ∧ z3 (Kd.R k51 51 wc w.heap.size (fun _=>True) v104 t102) ∧ z3 (Below w.heap.size w wc))
   case first =>
    have H:=HC22.out
    clear HC22
    by_cases c26 : t103 = 0
    rotate_left
    · rw [if_neg c26] at H
      have c26b0 : (t103 == 0) = false:=beq_eq_false_iff_ne.mpr c26
      have c26b1 : (t103 != 0) = true:=bne_iff_ne.mpr c26
      (first|rw [c26b0]|(simp only [zC,zK];rw [c26b0])|skip)
      have H':=z3.mk H
      clear H
      go_wp2
      repeat (go_quiet (fail);try go_wp2)
      go_meet
      case rel=>exact ⟨_,(true),(by first|rfl|(simp;done)|(simp [*];done)),H',⟨by have:=HJ6.out;first|omega|exact Nat.le_refl _⟩,⟨by (with_reducible repeat (first|apply Kd.zl|apply Kd.zm|apply Kd.zw));exact HO_5.out⟩,⟨by repeat (first|(with_reducible first|exact HB.out|apply z2|apply z0|apply z1)|exact HB.out)⟩⟩
    rw [if_pos c26] at H
    have c26b0 : (t103 == 0) = true:=beq_iff_eq.mpr c26
    have c26b1 : (t103 != 0) = false:=bne_eq_false_iff_eq.mpr c26
    clear c26
    (first|rw [c26b0]|(simp only [zC,zK];rw [c26b0])|skip)
    have H':=z3.mk H
    clear H
    obtain ⟨Ao27,co27,eo27⟩:=Kd.z10 HO_5.out
    subst eo27
    go_wp2
    repeat (go_quiet (fail);try go_wp2)
    go_meet
    case rel=>exact ⟨_,(((t102.length : Int) != (wrap64 ((l1.length : Int) / (rd y107 a0))))),(by first|rfl|(simp;done)|(simp [*];done)),H',⟨by have:=HJ6.out;first|omega|exact Nat.le_refl _⟩,⟨by (with_reducible repeat (first|apply Kd.zl|apply Kd.zm|apply Kd.zw));exact HO_5.out⟩,⟨by repeat (first|(with_reducible first|exact HB.out|apply z2|apply z0|apply z1)|exact HB.out)⟩⟩
   case rest =>
    clear HC22
    (try clear c1);(try clear p1);(try clear q1);(try clear hx1);(try clear c2);(try clear p2);(try clear c3);(try clear c3b0);(try clear c3b1);(try clear c6);(try clear p6);(try clear c9);(try clear c9b0);(try clear c10);(try clear p11);(try clear q11);(try clear hx11);(try clear c12);(try clear c13);(try clear c13b0);(try clear c13b1);(try clear c18);(try clear c18b0);(try clear c19);(try clear c19b0);(try clear c20);(try clear c20b0);(try clear c20b1);(try clear c21);(try clear c21b0);(try clear c21b1);(try clear c26);(try clear c26b0);(try clear c26b1);(try clear hx110_0);(try clear p110);(try clear p2);(try clear q110)
    obtain ⟨kq,x66_21,rfl,HA,HJ21,HO_5,HB⟩:=hcut
    cases kq with
    | zero=>exact absurd HA.out (by simp [z9.j1])
    | succ kj21 =>
     have H:=HA.out
     clear HA
     simp only [z9.j1] at H
     by_cases c28 : x66_21 = true
     · subst c28
       have H1 : (some false) = some r:=by rw [if_pos rfl] at H;exact H
       clear H
       have H:=H1
       clear H1
       obtain rfl:=Option.some.inj H
       go_wp2
       repeat (go_quiet (fail);try go_wp2)
       go_ret
       exact ⟨by first|rfl|(simp [zf,zg] <;> rfl)|(simp [*,zf,zg] <;> rfl),by repeat (first|(with_reducible first|exact HB.out|apply z2|apply z0|apply z1)|exact HB.out)⟩
     replace c28:=Bool.eq_false_iff.mpr c28
     subst c28
     have H1 : (z9.l0 kj21 a0 l1 t102 (rd y107 a0) 0) = some r:=by rw [if_neg (show ¬ (false = true) by decide)] at H;exact H
     clear H
     have H:=H1
     clear H1
     have H':=z3.mk H
     clear H
     go_wp2
     repeat (go_quiet (fail);try go_wp2)
     go_loopg [8] kj21 (fun kq v8 w'=>∃ (x8_3 : Int),v8 = .int .i64 x8_3 ∧ z3 (z9.l0 kq a0 l1 t102 (rd y107 a0) x8_3 = some r) ∧ z3 (kq ≤ kj21) ∧ z3 (Kd.R k51 51 w' w.heap.size (fun _=>True) v104 t102) ∧ z3 (Below w.heap.size w w'))
     case atStart=>exact ⟨(0),(by first|rfl|(simp;done)|(simp [*];done)),H',⟨Nat.le_refl _⟩,⟨by (with_reducible repeat (first|apply Kd.zl|apply Kd.zm|apply Kd.zw));exact HO_5.out⟩,⟨by repeat (first|(with_reducible first|exact HB.out|apply z2|apply z0|apply z1)|exact HB.out)⟩⟩
     case round =>
      clear H'
      (try clear c1);(try clear p1);(try clear q1);(try clear hx1);(try clear c2);(try clear p2);(try clear c3);(try clear c3b0);(try clear c3b1);(try clear c6);(try clear p6);(try clear c9);(try clear c9b0);(try clear c10);(try clear p11);(try clear q11);(try clear hx11);(try clear c12);(try clear c13);(try clear c13b0);(try clear c13b1);(try clear c18);(try clear c18b0);(try clear c19);(try clear c19b0);(try clear c20);(try clear c20b0);(try clear c20b1);(try clear c21);(try clear c21b0);(try clear c21b1);(try clear c26);(try clear c26b0);(try clear c26b1);(try clear c28);(try clear hx110_0);(try clear p1);(try clear p11);(try clear p110);(try clear p2);(try clear p6);(try clear q1);(try clear q11);(try clear q110)
      obtain ⟨x8_3,rfl,HA,HK3,HO_5,HB⟩:=hrel
      cases gk with
      | zero=>exact absurd HA.out (by simp [z9.l0])
      | succ k3 =>
       have H:=HA.out
       clear HA
       simp only [z9.l0] at H
       by_cases c29 : x8_3 < (t102.length : Int)
       rotate_left
       · rw [if_neg c29] at H
         have c29b0 : decide (x8_3 < (t102.length : Int)) = false:=decide_eq_false c29
         clear c29
         replace H:=Option.bind_eq_some_iff.mp H
         obtain ⟨t112,A460,H⟩:=H
         replace H : (some t112) = some r:=H
         have A46:=z3.mk A460
         clear A460
         obtain rfl:=Option.some.inj H
         obtain ⟨Ao47,co47,eo47⟩:=Kd.z10 HO_5.out
         subst eo47
         go_wp2_with (first|(go_at_call 23;(with_reducible refine (zj.calls k3  t112 _ A46.out).mono ?_);rintro e w48 ⟨rfl,hb⟩;have n0_:=z3.mk (Kd.zz (by (with_reducible repeat (first|apply Kd.zl|apply Kd.zm|apply Kd.zw));exact HO_5.out) hb);have n1_:=z3.mk (za (by repeat (first|(with_reducible first|exact HB.out|apply z2|apply z0|apply z1)|exact HB.out)) hb);clear HO_5;clear HB;have HO_5:=n0_;have HB:=n1_;clear n0_ n1_;(try clear hb);(try clear hb2);(try clear hk);(try clear hi)))
         repeat (go_quiet (first|(go_at_call 23;(with_reducible refine (zj.calls k3  t112 _ A46.out).mono ?_);rintro e w48 ⟨rfl,hb⟩;have n0_:=z3.mk (Kd.zz (by (with_reducible repeat (first|apply Kd.zl|apply Kd.zm|apply Kd.zw));exact HO_5.out) hb);have n1_:=z3.mk (za (by repeat (first|(with_reducible first|exact HB.out|apply z2|apply z0|apply z1)|exact HB.out)) hb);clear HO_5;clear HB;have HO_5:=n0_;have HB:=n1_;clear n0_ n1_;(try clear hb);(try clear hb2);(try clear hk);(try clear hi)));try go_wp2_with (first|(go_at_call 23;(with_reducible refine (zj.calls k3  t112 _ A46.out).mono ?_);rintro e w48 ⟨rfl,hb⟩;have n0_:=z3.mk (Kd.zz (by (with_reducible repeat (first|apply Kd.zl|apply Kd.zm|apply Kd.zw));exact HO_5.out) hb);have n1_:=z3.mk (za (by repeat (first|(with_reducible first|exact HB.out|apply z2|apply z0|apply z1)|exact HB.out)) hb);clear HO_5;clear HB;have HO_5:=n0_;have HB:=n1_;clear n0_ n1_;(try clear hb);(try clear hb2);(try clear hk);(try clear hi))))
         go_ret
         exact ⟨by first|rfl|(simp [zf,zg] <;> rfl)|(simp [*,zf,zg] <;> rfl),by repeat (first|(with_reducible first|exact HB.out|apply z2|apply z0|apply z1)|exact HB.out)⟩
       rw [if_pos c29] at H
       have c29b0 : decide (x8_3 < (t102.length : Int)) = true:=decide_eq_true c29
       clear c29
       by_cases c30 : 0 ≤ x8_3
       rotate_left
       · rw [if_neg c30] at H
         exact absurd H (by simp)
       rw [if_pos c30] at H
       have c30b0 : decide (0 ≤ x8_3) = true:=decide_eq_true c30
       clear c30
       replace H:=Option.bind_eq_some_iff.mp H
       obtain ⟨t114,A310,H⟩:=H
       replace H : (if (t114.length : Int) = (rd y107 a0) then (z9.l1 k3 a0 l1 t102 (rd y107 a0) x8_3 t114 0) else (some false)) = some r:=H
       have A31:=z3.mk A310
       clear A310
       by_cases c32 : (t114.length : Int) = (rd y107 a0)
       rotate_left
       · rw [if_neg c32] at H
         have c32b0 : ((t114.length : Int) == (rd y107 a0)) = false:=beq_eq_false_iff_ne.mpr c32
         have c32b1 : ((t114.length : Int) != (rd y107 a0)) = true:=bne_iff_ne.mpr c32
         obtain rfl:=Option.some.inj H
         obtain ⟨Ao43,co43,eo43⟩:=Kd.z10 HO_5.out
         subst eo43
         have p113 : 0 ≤ (x8_3 : Int):=of_decide_eq_true (by first|(with_reducible assumption)|assumption)
         have q113 : x8_3 < (t102.length : Int):=of_decide_eq_true (by first|(with_reducible assumption)|assumption)
         obtain ⟨ad113,e113,hx113_0,hx113_1⟩:=z29 (Kd.zN HO_5.out).2.2 x8_3 p113 q113
         cases e113
         replace p113:=eq_true p113
         replace q113:=eq_true q113
         go_wp2_with (first|(go_at_call 29;(with_reducible refine (zG.calls k3 a0 ((zu t102 x8_3).f0) ((zu t102 x8_3).f1) t114 _ A31.out).mono ?_);rintro e w44 ⟨v115,rfl,ho0,hb⟩;have n0_:=z3.mk (Kd.zz (by (with_reducible repeat (first|apply Kd.zl|apply Kd.zm|apply Kd.zw));exact HO_5.out) hb);have n1_:=z3.mk (Kd.z17 ho0 (zc (by repeat (first|(with_reducible first|exact HB.out|apply z2|apply z0|apply z1)|exact HB.out))));have n2_:=z3.mk (za (by repeat (first|(with_reducible first|exact HB.out|apply z2|apply z0|apply z1)|exact HB.out)) hb);clear HO_5;clear HB;have HO_5:=n0_;have HO116:=n1_;have HB:=n2_;clear n0_ n1_ n2_;(try clear hb);(try clear hb2);(try clear hk);(try clear hi);(try clear ho0);obtain ⟨Ao45,co45,eo45⟩:=Kd.z10 HO116.out;subst eo45))
         repeat (go_quiet (first|(go_at_call 29;(with_reducible refine (zG.calls k3 a0 ((zu t102 x8_3).f0) ((zu t102 x8_3).f1) t114 _ A31.out).mono ?_);rintro e w44 ⟨v115,rfl,ho0,hb⟩;have n0_:=z3.mk (Kd.zz (by (with_reducible repeat (first|apply Kd.zl|apply Kd.zm|apply Kd.zw));exact HO_5.out) hb);have n1_:=z3.mk (Kd.z17 ho0 (zc (by repeat (first|(with_reducible first|exact HB.out|apply z2|apply z0|apply z1)|exact HB.out))));have n2_:=z3.mk (za (by repeat (first|(with_reducible first|exact HB.out|apply z2|apply z0|apply z1)|exact HB.out)) hb);clear HO_5;clear HB;have HO_5:=n0_;have HO116:=n1_;have HB:=n2_;clear n0_ n1_ n2_;(try clear hb);(try clear hb2);(try clear hk);(try clear hi);(try clear ho0);obtain ⟨Ao45,co45,eo45⟩:=Kd.z10 HO116.out;subst eo45));try go_wp2_with (first|(go_at_call 29;(with_reducible refine (zG.calls k3 a0 ((zu t102 x8_3).f0) ((zu t102 x8_3).f1) t114 _ A31.out).mono ?_);rintro e w44 ⟨v115,rfl,ho0,hb⟩;have n0_:=z3.mk (Kd.zz (by (with_reducible repeat (first|apply Kd.zl|apply Kd.zm|apply Kd.zw));exact HO_5.out) hb);have n1_:=z3.mk (Kd.z17 ho0 (zc (by repeat (first|(with_reducible first|exact HB.out|apply z2|apply z0|apply z1)|exact HB.out))));have n2_:=z3.mk (za (by repeat (first|(with_reducible first|exact HB.out|apply z2|apply z0|apply z1)|exact HB.out)) hb);clear HO_5;clear HB;have HO_5:=n0_;have HO116:=n1_;have HB:=n2_;clear n0_ n1_ n2_;(try clear hb);(try clear hb2);(try clear hk);(try clear hi);(try clear ho0);obtain ⟨Ao45,co45,eo45⟩:=Kd.z10 HO116.out;subst eo45)))
         go_ret
         exact ⟨by first|rfl|(simp [zf,zg] <;> rfl)|(simp [*,zf,zg] <;> rfl),by repeat (first|(with_reducible first|exact HB.out|apply z2|apply z0|apply z1)|exact HB.out)⟩
       rw [if_pos c32] at H
       have c32b0 : ((t114.length : Int) == (rd y107 a0)) = true:=beq_iff_eq.mpr c32
       have c32b1 : ((t114.length : Int) != (rd y107 a0)) = false:=bne_eq_false_iff_eq.mpr c32
       clear c32
       have H':=z3.mk H
       clear H
       obtain ⟨Ao33,co33,eo33⟩:=Kd.z10 HO_5.out
       subst eo33
       have p113 : 0 ≤ (x8_3 : Int):=of_decide_eq_true (by first|(with_reducible assumption)|assumption)
       have q113 : x8_3 < (t102.length : Int):=of_decide_eq_true (by first|(with_reducible assumption)|assumption)
       obtain ⟨ad113,e113,hx113_0,hx113_1⟩:=z29 (Kd.zN HO_5.out).2.2 x8_3 p113 q113
       cases e113
       replace p113:=eq_true p113
       replace q113:=eq_true q113
       go_wp2_with (first|(go_at_call 29;(with_reducible refine (zG.calls k3 a0 ((zu t102 x8_3).f0) ((zu t102 x8_3).f1) t114 _ A31.out).mono ?_);rintro e w34 ⟨v115,rfl,ho0,hb⟩;have n0_:=z3.mk (Kd.zz (by (with_reducible repeat (first|apply Kd.zl|apply Kd.zm|apply Kd.zw));exact HO_5.out) hb);have n1_:=z3.mk (Kd.z17 ho0 (zc (by repeat (first|(with_reducible first|exact HB.out|apply z2|apply z0|apply z1)|exact HB.out))));have n2_:=z3.mk (za (by repeat (first|(with_reducible first|exact HB.out|apply z2|apply z0|apply z1)|exact HB.out)) hb);clear HO_5;clear HB;have HO_5:=n0_;have HO116:=n1_;have HB:=n2_;clear n0_ n1_ n2_;(try clear hb);(try clear hb2);(try clear hk);(try clear hi);(try clear ho0);obtain ⟨Ao35,co35,eo35⟩:=Kd.z10 HO116.out;subst eo35))
       repeat (go_quiet (first|(go_at_call 29;(with_reducible refine (zG.calls k3 a0 ((zu t102 x8_3).f0) ((zu t102 x8_3).f1) t114 _ A31.out).mono ?_);rintro e w34 ⟨v115,rfl,ho0,hb⟩;have n0_:=z3.mk (Kd.zz (by (with_reducible repeat (first|apply Kd.zl|apply Kd.zm|apply Kd.zw));exact HO_5.out) hb);have n1_:=z3.mk (Kd.z17 ho0 (zc (by repeat (first|(with_reducible first|exact HB.out|apply z2|apply z0|apply z1)|exact HB.out))));have n2_:=z3.mk (za (by repeat (first|(with_reducible first|exact HB.out|apply z2|apply z0|apply z1)|exact HB.out)) hb);clear HO_5;clear HB;have HO_5:=n0_;have HO116:=n1_;have HB:=n2_;clear n0_ n1_ n2_;(try clear hb);(try clear hb2);(try clear hk);(try clear hi);(try clear ho0);obtain ⟨Ao35,co35,eo35⟩:=Kd.z10 HO116.out;subst eo35));try go_wp2_with (first|(go_at_call 29;(with_reducible refine (zG.calls k3 a0 ((zu t102 x8_3).f0) ((zu t102 x8_3).f1) t114 _ A31.out).mono ?_);rintro e w34 ⟨v115,rfl,ho0,hb⟩;have n0_:=z3.mk (Kd.zz (by (with_reducible repeat (first|apply Kd.zl|apply Kd.zm|apply Kd.zw));exact HO_5.out) hb);have n1_:=z3.mk (Kd.z17 ho0 (zc (by repeat (first|(with_reducible first|exact HB.out|apply z2|apply z0|apply z1)|exact HB.out))));have n2_:=z3.mk (za (by repeat (first|(with_reducible first|exact HB.out|apply z2|apply z0|apply z1)|exact HB.out)) hb);clear HO_5;clear HB;have HO_5:=n0_;have HO116:=n1_;have HB:=n2_;clear n0_ n1_ n2_;(try clear hb);(try clear hb2);(try clear hk);(try clear hi);(try clear ho0);obtain ⟨Ao35,co35,eo35⟩:=Kd.z10 HO116.out;subst eo35)))
       go_loopg [10] k3 (fun kq v10 w'=>∃ (x10_4 : Int),v10 = .int .i64 x10_4 ∧ z3 (z9.l1 kq a0 l1 t102 (rd y107 a0) x8_3 t114 x10_4 = some r) ∧ z3 (kq ≤ k3) ∧ z3 (Kd.R k51 51 w' w.heap.size (fun _=>True) (.slice (some ad113) t102.length co33) t102) ∧ z3 (Kd.R Kd.bool 4 w' w.heap.size (fun _=>True) (.slice Ao35 t114.length co35) t114) ∧ z3 (Below w.heap.size w w'))
       case atStart=>exact ⟨(0),(by first|rfl|(simp;done)|(simp [*];done)),H',⟨Nat.le_refl _⟩,⟨by (with_reducible repeat (first|apply Kd.zl|apply Kd.zm|apply Kd.zw));exact HO_5.out⟩,⟨by (with_reducible repeat (first|apply Kd.zl|apply Kd.zm|apply Kd.zw));exact HO116.out⟩,⟨by repeat (first|(with_reducible first|exact HB.out|apply z2|apply z0|apply z1)|exact HB.out)⟩⟩
       case round =>
        clear H'
        (try clear c1);(try clear p1);(try clear q1);(try clear hx1);(try clear c2);(try clear p2);(try clear c3);(try clear c3b0);(try clear c3b1);(try clear c6);(try clear p6);(try clear c9);(try clear c9b0);(try clear c10);(try clear p11);(try clear q11);(try clear hx11);(try clear c12);(try clear c13);(try clear c13b0);(try clear c13b1);(try clear c18);(try clear c18b0);(try clear c19);(try clear c19b0);(try clear c20);(try clear c20b0);(try clear c20b1);(try clear c21);(try clear c21b0);(try clear c21b1);(try clear c26);(try clear c26b0);(try clear c26b1);(try clear c28);(try clear c29);(try clear c29b0);(try clear c30);(try clear c30b0);(try clear c32);(try clear c32b0);(try clear c32b1);(try clear hx110_0);(try clear hx113_0);(try clear hx113_1);(try clear p1);(try clear p11);(try clear p110);(try clear p113);(try clear p2);(try clear p6);(try clear q1);(try clear q11);(try clear q110);(try clear q113)
        obtain ⟨x10_4,rfl,HA,HK4,HO_5,HO_9,HB⟩:=hrel
        cases gk with
        | zero=>exact absurd HA.out (by simp [z9.l1])
        | succ k4 =>
         have H:=HA.out
         clear HA
         simp only [z9.l1] at H
         by_cases c36 : x10_4 < (rd y107 a0)
         rotate_left
         · rw [if_neg c36] at H
           have c36b0 : decide (x10_4 < (rd y107 a0)) = false:=decide_eq_false c36
           clear c36
           have H':=z3.mk H
           clear H
           go_wp2
           repeat (go_quiet (fail);try go_wp2)
           go_roundg k4
           case measure=>have:=HJ6.out;have:=HJ21.out;have:=HK3.out;have:=HK4.out;omega
           case rel=>exact ⟨(wrap64 (x8_3 + 1)),(by first|rfl|(simp;done)|(simp [*];done)),H',⟨by have:=HJ6.out;have:=HJ21.out;have:=HK3.out;have:=HK4.out;omega⟩,⟨by (with_reducible repeat (first|apply Kd.zl|apply Kd.zm|apply Kd.zw));exact HO_5.out⟩,⟨by repeat (first|(with_reducible first|exact HB.out|apply z2|apply z0|apply z1)|exact HB.out)⟩⟩
         rw [if_pos c36] at H
         have c36b0 : decide (x10_4 < (rd y107 a0)) = true:=decide_eq_true c36
         clear c36
         by_cases c37 : 0 ≤ x10_4
         rotate_left
         · rw [if_neg c37] at H
           exact absurd H (by simp)
         rw [if_pos c37] at H
         have c37b0 : decide (0 ≤ x10_4) = true:=decide_eq_true c37
         clear c37
         by_cases c38 : x10_4 < (t114.length : Int)
         rotate_left
         · rw [if_neg c38] at H
           exact absurd H (by simp)
         rw [if_pos c38] at H
         have c38b0 : decide (x10_4 < (t114.length : Int)) = true:=decide_eq_true c38
         clear c38
         obtain ⟨ji39,hji39⟩ : ∃ j_ : Int,(wrap64 ((wrap64 (x8_3 * (rd y107 a0))) + x10_4)) = j_:=⟨_,rfl⟩
         replace H : (if 0 ≤ (ji39) then (if (ji39) < (l1.length : Int) then (if ((rdOf false t114 x10_4) != (rdOf false l1 (ji39))) = true then (some false) else (z9.l1 k4 a0 l1 t102 (rd y107 a0) x8_3 t114 (wrap64 (x10_4 + 1)))) else (none)) else (none)) = some r:=by first|(rw [hji39] at H;exact H)|(simp only [hji39] at H ⊢;exact H)
         have hji39w : (IntKind.i64.wrap ((wrap64 (x8_3 * (rd y107 a0))) + x10_4)) = ji39:=(zC _).trans hji39
         by_cases c40 : 0 ≤ (ji39)
         rotate_left
         · rw [if_neg c40] at H
           exact absurd H (by simp)
         rw [if_pos c40] at H
         have c40b0 : decide (0 ≤ (ji39)) = true:=decide_eq_true c40
         clear c40
         by_cases c41 : (ji39) < (l1.length : Int)
         rotate_left
         · rw [if_neg c41] at H
           exact absurd H (by simp)
         rw [if_pos c41] at H
         have c41b0 : decide ((ji39) < (l1.length : Int)) = true:=decide_eq_true c41
         clear c41
         by_cases c42 : ((rdOf false t114 x10_4) != (rdOf false l1 (ji39))) = true
         · rw [if_pos c42] at H
           have c42b0 : ((rdOf false t114 x10_4) != (rdOf false l1 (ji39))) = true:=c42
           (try (have c42b1 : decide ((rdOf false t114 x10_4) = (rdOf false l1 (ji39))) = false:=by simpa using c42))
           (try (have c42b2 : ((rdOf false t114 x10_4) == (rdOf false l1 (ji39))) = false:=by simpa using c42))
           (try (have c42b3 : ¬ ((rdOf false t114 x10_4) = (rdOf false l1 (ji39))):=by simpa using c42))
           clear c42
           obtain rfl:=Option.some.inj H
           have p117 : 0 ≤ (x10_4 : Int):=of_decide_eq_true (by first|(with_reducible assumption)|assumption)
           have q117 : x10_4 < (t114.length : Int):=of_decide_eq_true (by first|(with_reducible assumption)|assumption)
           obtain ⟨ad117,e117,hx117_0⟩:=Kd.z2O (Kd.zN HO_9.out).2.2 x10_4 p117 q117
           cases e117
           replace p117:=eq_true p117
           replace q117:=eq_true q117
           have p118 : 0 ≤ ((ji39) : Int):=of_decide_eq_true (by first|(with_reducible assumption)|assumption)
           have q118 : (ji39) < (l1.length : Int):=of_decide_eq_true (by first|(with_reducible assumption)|assumption)
           obtain ⟨ad118,e118,hx118_0⟩:=Kd.z2O HR1.out (ji39) p118 q118
           cases e118
           replace hx118_0:=(HB.out.cell (World.block_lt_of_cell? w _ hx118_0)).trans hx118_0
           replace p118:=eq_true p118
           replace q118:=eq_true q118
           go_wp2
           repeat (go_quiet (fail);try go_wp2)
           go_ret
           exact ⟨by first|rfl|(simp [zf,zg] <;> rfl)|(simp only [← hji39];first|rfl|(simp [zf,zg] <;> rfl))|(simp [*,zf,zg] <;> rfl),by repeat (first|(with_reducible first|exact HB.out|apply z2|apply z0|apply z1)|exact HB.out)⟩
         rw [if_neg c42] at H
         have c42b0 : ((rdOf false t114 x10_4) != (rdOf false l1 (ji39))) = false:=by simpa using c42
         (try (have c42b1 : decide ((rdOf false t114 x10_4) = (rdOf false l1 (ji39))) = true:=by simpa using c42))
         (try (have c42b2 : ((rdOf false t114 x10_4) == (rdOf false l1 (ji39))) = true:=by simpa using c42))
         clear c42
         have H':=z3.mk H
         clear H
         have p117 : 0 ≤ (x10_4 : Int):=of_decide_eq_true (by first|(with_reducible assumption)|assumption)
         have q117 : x10_4 < (t114.length : Int):=of_decide_eq_true (by first|(with_reducible assumption)|assumption)
         obtain ⟨ad117,e117,hx117_0⟩:=Kd.z2O (Kd.zN HO_9.out).2.2 x10_4 p117 q117
         cases e117
         replace p117:=eq_true p117
         replace q117:=eq_true q117
         have p118 : 0 ≤ ((ji39) : Int):=of_decide_eq_true (by first|(with_reducible assumption)|assumption)
         have q118 : (ji39) < (l1.length : Int):=of_decide_eq_true (by first|(with_reducible assumption)|assumption)
         obtain ⟨ad118,e118,hx118_0⟩:=Kd.z2O HR1.out (ji39) p118 q118
         cases e118
         replace hx118_0:=(HB.out.cell (World.block_lt_of_cell? w _ hx118_0)).trans hx118_0
         replace p118:=eq_true p118
         replace q118:=eq_true q118
         go_wp2
         repeat (go_quiet (fail);try go_wp2)
         go_roundg k4
         case measure=>have:=HJ6.out;have:=HJ21.out;have:=HK3.out;have:=HK4.out;omega
         case rel=>exact ⟨(wrap64 (x10_4 + 1)),(by first|rfl|(simp;done)|(simp [*];done)),H',⟨by have:=HJ6.out;have:=HJ21.out;have:=HK3.out;have:=HK4.out;omega⟩,⟨by (with_reducible repeat (first|apply Kd.zl|apply Kd.zm|apply Kd.zw));exact HO_5.out⟩,⟨by (with_reducible repeat (first|apply Kd.zl|apply Kd.zm|apply Kd.zw));exact HO_9.out⟩,⟨by repeat (first|(with_reducible first|exact HB.out|apply z2|apply z0|apply z1)|exact HB.out)⟩⟩
end Go.Proofs.Ytngcaphdkgihmaa.P
/- What the arguments of a law read as: for each type that can be told, any reading of it is one of a value of its kind, with its numbers in their ranges. Own text. -/
namespace Go.Proofs.Ytngcaphdkgihmaa.Reads
open Go.ChangeShapes Go.WideShapes Go.ChangeAt Go.RowKit Go.Deep Go.Proofs.YtngcaphdkgihmaaW.PrintWords
set_option linter.unusedVariables false

/-- Whatever is read at type t is of kind d, and good. -/
def ReadsAs {α : Type} (P : Program) (t : TypeId) (d : Kd α) (good : α → Prop) : Prop :=
  ∀ {H : Type} (enc : TypeId × Value → H) (w : World) (base : Nat) (spare : Nat → Bool) (held : Bool) (fuel : Nat) (cs : List Value) (x : DataW H × List MemPlace), DataW.trod enc P w base spare held fuel t cs = some x → ∃ a, d.K w a cs ∧ good a

theorem op_int {P : Program} {t : TypeId} {k : IntKind} (ht : P.underlying t = some (.int k)) : ReadsAs P t (Kd.int k) (fun n => (Lit.int k n).wf = true) := by
  intro H enc w base spare held fuel cs x h
  obtain ⟨n, rfl, _, hw⟩ := DataW.trod_int ht h
  exact ⟨n, rfl, hw⟩
theorem op_bool {P : Program} {t : TypeId} (ht : P.underlying t = some .bool) : ReadsAs P t Kd.bool (fun _ => True) := by
  intro H enc w base spare held fuel cs x h
  obtain ⟨n, rfl, _⟩ := DataW.trod_bool ht h
  exact ⟨n, rfl, trivial⟩
theorem z4q (a : Addr) (i j : Nat) : (a.add i).add j = a.add (i + j) := Go.Deep.add_add a i j
theorem op_slice {α : Type} {P : Program} {t e : TypeId} {d : Kd α} {good : α → Prop} (ht : P.underlying t = some (.slice e)) (hc : P.cellsOf e = d.sz) (he : ReadsAs P e d good) : ReadsAs P t (Kd.slice e d) (fun l => (∀ x ∈ l, good x) ∧ l.length ≤ maxLen) := by
  intro H enc w base spare held fuel cs x h
  rcases open_slice ht h with ⟨rfl, _⟩ | ⟨a, len, cap, m, n, D, Pl, rfl, hb, hl, hm, hmm, rfl, hx⟩
  · exact ⟨[], ⟨none, 0, rfl, Nat.le_refl _, Kd.C_nil d w⟩, ⟨by simp, Nat.zero_le _⟩⟩
  · have hlm : len ≤ m := by rw [hmm]; split <;> omega
    have hex : ∀ i, i < len → ∃ y : α, ∃ c, c.length = d.sz ∧ d.K w y c ∧ good y ∧ ∀ j u, c[j]? = some u → w.cell? (a.add (i * d.sz + j)) = some u := by
      intro i hi
      obtain ⟨cs', h1, h2⟩ := hx i (by omega)
      obtain ⟨_, hlen, hcell⟩ := World.cells?_some h1
      obtain ⟨y, hK, hg⟩ := he enc w base spare held n cs' _ h2
      refine ⟨y, cs', by rw [hlen, hc], hK, hg, fun j u hu => ?_⟩
      have hj : j < P.cellsOf e := by rw [← hlen]; exact (List.getElem?_eq_some_iff.1 hu).1
      have := hcell j hj
      rw [z4q] at this
      rw [← hc, this]; exact hu
    have hmax : len ≤ 9223372036854775807 := by
      have h9 : len ≤ maxLen := by omega
      simpa [maxLen] using h9
    have hlen : (List.ofFn (fun i : Fin len => Classical.choose (hex i.1 i.2))).length = len := List.length_ofFn
    refine ⟨List.ofFn (fun i : Fin len => Classical.choose (hex i.1 i.2)), ⟨some a, cap, by rw [hlen], by rw [hlen]; exact hl, rfl, by rw [hlen]; exact hmax, fun _ => ⟨a, rfl, ?_⟩⟩, ?_, by rw [hlen]; omega⟩
    · intro j p hp
      obtain ⟨hj, hpj⟩ := List.getElem?_eq_some_iff.1 hp
      rw [List.length_ofFn] at hj
      rw [List.getElem_ofFn] at hpj
      obtain ⟨c, h1, h2, _, h4⟩ := Classical.choose_spec (hex j hj)
      exact ⟨c, h1, by rw [← hpj]; exact h2, h4⟩
    · intro y hy
      obtain ⟨i, rfl⟩ := List.mem_ofFn.1 hy
      obtain ⟨c, _, _, h3, _⟩ := Classical.choose_spec (hex i.1 i.2)
      exact h3

/-- Fields that lie one behind the other. -/
def ReadsFs {α : Type} (P : Program) (fs : List Field) (off : Nat) (d : Kd α) (good : α → Prop) : Prop :=
  ∀ {H : Type} (enc : TypeId × Value → H) (w : World) (base : Nat) (spare : Nat → Bool) (held : Bool) (n : Nat) (cs : List Value), cs.length = d.sz →
    (∀ f ∈ fs, off ≤ f.offset ∧ ∃ x, DataW.trod enc P w base spare held n f.type ((cs.drop (f.offset - off)).take (P.cellsOf f.type)) = some x) → ∃ a, d.K w a cs ∧ good a
theorem opfs_last {α : Type} {P : Program} {f : Field} {off : Nat} {d : Kd α} {good : α → Prop} (hs : P.cellsOf f.type = d.sz) (ho : f.offset = off) (he : ReadsAs P f.type d good) : ReadsFs P [f] off d good := by
  intro H enc w base spare held n cs hl h
  obtain ⟨_, x, hx⟩ := h f (by simp)
  rw [ho, Nat.sub_self, List.drop_zero, hs, ← hl, List.take_length] at hx
  exact he enc w base spare held n cs x hx
theorem opfs_cons {α β : Type} {P : Program} {f : Field} {fs : List Field} {off : Nat} {d : Kd α} {d' : Kd β} {good : α → Prop} {good' : β → Prop} (hs : P.cellsOf f.type = d.sz) (ho : f.offset = off) (he : ReadsAs P f.type d good)
    (hr : ReadsFs P fs (off + d.sz) d' good') (hoff : ∀ g ∈ fs, off + d.sz ≤ g.offset) : ReadsFs P (f :: fs) off (Kd.pair d d') (fun x => good x.1 ∧ good' x.2) := by
  intro H enc w base spare held n cs hl h
  have hl' : cs.length = d.sz + d'.sz := hl
  obtain ⟨_, x, hx⟩ := h f (by simp)
  rw [ho, Nat.sub_self, List.drop_zero, hs] at hx
  obtain ⟨a, hK, hg⟩ := he enc w base spare held n _ x hx
  obtain ⟨b, hK', hg'⟩ := hr enc w base spare held n (cs.drop d.sz) (by rw [List.length_drop]; omega) (fun g hgm => by
    obtain ⟨_, y, hy⟩ := h g (by simp [hgm])
    have ho' := hoff g hgm
    refine ⟨ho', y, ?_⟩
    rw [List.drop_drop, show d.sz + (g.offset - (off + d.sz)) = g.offset - off by omega]
    exact hy)
  exact ⟨(a, b), ⟨cs.take d.sz, cs.drop d.sz, (List.take_append_drop _ _).symm, hK, hK'⟩, hg, hg'⟩
theorem op_struct {α β : Type} {P : Program} {t : TypeId} {fs : Array Field} {l : List Field} {d : Kd α} {good : α → Prop} (f : β → α) (hsurj : ∀ a, ∃ b, f b = a) (ht : P.underlying t = some (.struct fs)) (hfl : fs.toList = l) (hs : P.cellsOf t = d.sz) (h : ReadsFs P l 0 d good) :
    ReadsAs P t (Kd.iso d f) (fun b => good (f b)) := by
  intro H enc w base spare held fuel cs x hx
  obtain ⟨xs, n, rfl, _, hlen, hxs, hall⟩ := DataW.trod_struct ht hx
  obtain ⟨a, hK, hg⟩ := h enc w base spare held n cs (by rw [hlen, hs]) (fun g hgm => by
    rw [← hfl] at hgm
    obtain ⟨i, hi, rfl⟩ := List.mem_iff_getElem.1 hgm
    have h1 := hall i fs.toList[i] (by simp at hi ⊢)
    have hi' : i < xs.length := by rw [hxs]; simpa using hi
    refine ⟨Nat.zero_le _, xs[i], ?_⟩
    rw [Nat.sub_zero, h1, List.getElem?_eq_getElem hi'])
  obtain ⟨b, rfl⟩ := hsurj a
  exact ⟨b, hK, hg⟩

/-- Elements of an array, one behind the other. -/
def ReadsAr {α : Type} (P : Program) (e : TypeId) (m : Nat) (d : Kd α) (good : α → Prop) : Prop :=
  ∀ {H : Type} (enc : TypeId × Value → H) (w : World) (base : Nat) (spare : Nat → Bool) (held : Bool) (n : Nat) (cs : List Value), cs.length = d.sz →
    (∀ i, i < m → ∃ x, DataW.trod enc P w base spare held n e ((cs.drop (i * P.cellsOf e)).take (P.cellsOf e)) = some x) → ∃ a, d.K w a cs ∧ good a
theorem opas_last {α : Type} {P : Program} {e : TypeId} {d : Kd α} {good : α → Prop} (hs : P.cellsOf e = d.sz) (he : ReadsAs P e d good) : ReadsAr P e 1 d good := by
  intro H enc w base spare held n cs hl h
  obtain ⟨x, hx⟩ := h 0 (by omega)
  rw [Nat.zero_mul, List.drop_zero, hs, ← hl, List.take_length] at hx
  exact he enc w base spare held n cs x hx
theorem opas_cons {α β : Type} {P : Program} {e : TypeId} {m : Nat} {d : Kd α} {d' : Kd β} {good : α → Prop} {good' : β → Prop} (hs : P.cellsOf e = d.sz) (he : ReadsAs P e d good) (hr : ReadsAr P e m d' good') :
    ReadsAr P e (m + 1) (Kd.pair d d') (fun x => good x.1 ∧ good' x.2) := by
  intro H enc w base spare held n cs hl h
  have hl' : cs.length = d.sz + d'.sz := hl
  obtain ⟨x, hx⟩ := h 0 (by omega)
  rw [Nat.zero_mul, List.drop_zero, hs] at hx
  obtain ⟨a, hK, hg⟩ := he enc w base spare held n _ x hx
  obtain ⟨b, hK', hg'⟩ := hr enc w base spare held n (cs.drop d.sz) (by rw [List.length_drop]; omega) (fun i hi => by
    obtain ⟨y, hy⟩ := h (i + 1) (by omega)
    refine ⟨y, ?_⟩
    rw [List.drop_drop, show d.sz + i * P.cellsOf e = (i + 1) * P.cellsOf e by rw [hs, Nat.add_mul]; omega]
    exact hy)
  exact ⟨(a, b), ⟨cs.take d.sz, cs.drop d.sz, (List.take_append_drop _ _).symm, hK, hK'⟩, hg, hg'⟩
theorem op_array {α β : Type} {P : Program} {t e : TypeId} {m : Nat} {d : Kd α} {good : α → Prop} (f : β → α) (hsurj : ∀ a, ∃ b, f b = a) (ht : P.underlying t = some (.array m e)) (hs : P.cellsOf t = d.sz) (h : ReadsAr P e m d good) :
    ReadsAs P t (Kd.iso d f) (fun b => good (f b)) := by
  intro H enc w base spare held fuel cs x hx
  obtain ⟨xs, n, rfl, _, hlen, hxs, hall⟩ := DataW.trod_array ht hx
  obtain ⟨a, hK, hg⟩ := h enc w base spare held n cs (by rw [hlen, hs]) (fun i hi => by
    have hi' : i < xs.length := by omega
    exact ⟨xs[i], by rw [hall i hi, List.getElem?_eq_getElem hi']⟩)
  obtain ⟨b, rfl⟩ := hsurj a
  exact ⟨b, hK, hg⟩
theorem z4c {P : Program} {w : World} {r : Reach} {base : Nat} {t e : TypeId} {m : Nat} {v : Value} (ht : P.underlying t = some (.array m e)) (h : Value.okWide P w r base t v) : ∃ cs, v = .agg cs ∧ cs.size = P.cellsOf t := by
  simp only [Value.okWide, ht] at h
  cases v <;> simp_all

/-- An argument that is a slice. -/
theorem z5m {α : Type} {P : Program} {H : Type} {enc : TypeId × Value → H} {W : World} {base : Nat} {spare : Nat → Bool} {held : Bool} {t e : TypeId} {d : Kd α} {good : List α → Prop} {v : Value} {dd : DataW H} {ps : List MemPlace}
    (hop : ReadsAs P t (Kd.slice e d) good) {e' : TypeId} (ht : P.underlying t = some (.slice e')) {r : Reach} {b : Nat} (hv : Value.okWide P W r b t v) (h : DataW.Trod enc P W base spare held t v dd ps) :
    ∃ (l : List α) (A : Option Addr) (c : Nat), v = .slice A l.length c ∧ l.length ≤ c ∧ Kd.C d W A l.length l ∧ good l := by
  obtain ⟨A, len, cap, rfl⟩ := okWide_slice ht hv
  obtain ⟨fuel, hf⟩ := h
  obtain ⟨l, ⟨A', c, hcs, hl, hC⟩, hg⟩ := hop enc W base spare held fuel _ _ hf
  simp [Value.cells] at hcs
  obtain ⟨rfl, rfl, rfl⟩ := hcs
  exact ⟨l, A, cap, rfl, hl, hC, hg⟩
theorem arg_int {P : Program} {H : Type} {enc : TypeId × Value → H} {W : World} {base : Nat} {spare : Nat → Bool} {held : Bool} {t : TypeId} {k : IntKind} {v : Value} {dd : DataW H} {ps : List MemPlace}
    (ht : P.underlying t = some (.int k)) {r : Reach} {b : Nat} (hv : Value.okWide P W r b t v) (h : DataW.Trod enc P W base spare held t v dd ps) :
    ∃ n, v = .int k n ∧ (Lit.int k n).wf = true := by
  obtain ⟨n, rfl⟩ := okWide_int ht hv
  obtain ⟨fuel, hf⟩ := h
  obtain ⟨l, hcs, hg⟩ := op_int ht enc W base spare held fuel _ _ hf
  have : n = l := by
    have h1 : ([Value.int k n] : List Value) = [.int k l] := hcs
    simpa using h1
  subst this
  exact ⟨n, rfl, hg⟩
theorem arg_bool {P : Program} {W : World} {t : TypeId} {v : Value} (ht : P.underlying t = some .bool) {r : Reach} {b : Nat} (hv : Value.okWide P W r b t v) : ∃ n, v = .bool n := okWide_bool ht hv
/-- An argument that is a struct: its cells. -/
theorem arg_struct {α : Type} {P : Program} {H : Type} {enc : TypeId × Value → H} {W : World} {base : Nat} {spare : Nat → Bool} {held : Bool} {t : TypeId} {fs : Array Field} {d : Kd α} {good : α → Prop} {v : Value} {dd : DataW H} {ps : List MemPlace}
    (hop : ReadsAs P t d good) (ht : P.underlying t = some (.struct fs)) {r : Reach} {b : Nat} (hv : Value.okWide P W r b t v) (h : DataW.Trod enc P W base spare held t v dd ps) :
    ∃ (a : α) (cs : List Value), v = .agg cs.toArray ∧ d.K W a cs ∧ good a := by
  obtain ⟨cs, rfl, _⟩ := okWide_struct ht hv
  obtain ⟨fuel, hf⟩ := h
  obtain ⟨a, hK, hg⟩ := hop enc W base spare held fuel _ _ hf
  exact ⟨a, cs.toList, by simp, hK, hg⟩
/-- An argument that is an array: its cells. -/
theorem arg_array {α : Type} {P : Program} {H : Type} {enc : TypeId × Value → H} {W : World} {base : Nat} {spare : Nat → Bool} {held : Bool} {t e : TypeId} {m : Nat} {d : Kd α} {good : α → Prop} {v : Value} {dd : DataW H} {ps : List MemPlace}
    (hop : ReadsAs P t d good) (ht : P.underlying t = some (.array m e)) {r : Reach} {b : Nat} (hv : Value.okWide P W r b t v) (h : DataW.Trod enc P W base spare held t v dd ps) :
    ∃ (a : α) (cs : List Value), v = .agg cs.toArray ∧ d.K W a cs ∧ good a := by
  obtain ⟨cs, rfl, _⟩ := z4c ht hv
  obtain ⟨fuel, hf⟩ := h
  obtain ⟨a, hK, hg⟩ := hop enc W base spare held fuel _ _ hf
  exact ⟨a, cs.toList, by simp, hK, hg⟩
end Go.Proofs.Ytngcaphdkgihmaa.Reads
-- Own text: the statement that is left of the law WeaveBits, and what a reading of its arguments is.
namespace Go.Proofs.Ytngcaphdkgihmaa.Stated.weaveBits
open Go.RowKit Go.Proofs.YtngcaphdkgihmaaW.PrintWords Go.Proofs.Ytngcaphdkgihmaa.P Go.Proofs.Ytngcaphdkgihmaa.Reads
def Pure : Prop := ∀ (x0 : Int) (x1 : List Bool), ((Lit.int .i64 x0).wf = true) → (((∀ x_ ∈ x1, True) ∧ x1.length ≤ maxLen)) → ∃ k, z9.f k x0 x1 = some true
end Go.Proofs.Ytngcaphdkgihmaa.Stated.weaveBits
/- Rounds: what is told by enough of them; and the arithmetic of whole numbers as the printed functions spell it. Own text. -/
namespace Go.Proofs.YtngcaphdkgihmaaW.PrintWords
set_option linter.unusedVariables false
set_option linter.unusedSimpArgs false
namespace Ev
variable {α β : Type}
theorem ret (r : α) : Ev (fun _ => some r) r := ⟨0, fun _ _ => rfl⟩
theorem ret' {a r : α} (h : a = r) : Ev (fun _ => some a) r := h ▸ Ev.ret a
theorem const {o : Option α} {r : α} (h : o = some r) : Ev (fun _ => o) r := ⟨0, fun _ _ => h⟩
theorem pos {c : Prop} [Decidable c] {f g : Nat → Option α} {r : α} (h : c) (k : Ev f r) : Ev (fun n => if c then f n else g n) r := by
  simp only [if_pos h]; exact k
theorem neg {c : Prop} [Decidable c] {f g : Nat → Option α} {r : α} (h : ¬ c) (k : Ev g r) : Ev (fun n => if c then f n else g n) r := by
  simp only [if_neg h]; exact k
theorem bnd {g : Nat → Option α} {f : Nat → α → Option β} {a : α} {r : β} (h : Ev g a) (k : Ev (fun n => f n a) r) : Ev (fun n => (g n).bind (f n)) r := Ev.bind h k
theorem bnd0 {o : Option α} {f : Nat → α → Option β} {a : α} {r : β} (h : o = some a) (k : Ev (fun n => f n a) r) : Ev (fun n => o.bind (f n)) r := Ev.bind (Ev.const h) k
theorem uniq {g : Nat → Option α} {a b : α} (h : Ev g a) (k : Ev g b) : a = b := by
  obtain ⟨K, hK⟩ := h; obtain ⟨L, hL⟩ := k
  have := hK (max K L) (Nat.le_max_left _ _); rw [hL _ (Nat.le_max_right _ _)] at this
  exact (Option.some.inj this).symm
theorem eqn {g : Nat → Option α} {a b : α} (h : Ev g a) (e : a = b) : Ev g b := e ▸ h
end Ev
end Go.Proofs.YtngcaphdkgihmaaW.PrintWords
namespace Go.Proofs.Ytngcaphdkgihmaa.Ar
open Go.RowKit Go.Proofs.YtngcaphdkgihmaaW.PrintWords Go.Proofs.YtngcaphdkgihmaaW.PrintMore
set_option linter.unusedVariables false
set_option linter.unusedSimpArgs false
theorem z5x {x : Int} (h0 : -9223372036854775808 ≤ x) (h1 : x ≤ 9223372036854775807) : IntKind.i64.wrap x = x := by rw [IntKind.wrap_i64]; omega
theorem z1J {x : Int} (h0 : -9223372036854775808 ≤ x) (h1 : x ≤ 9223372036854775807) : wrap64 x = x := by unfold wrap64; omega
theorem z1v {i L : Nat} (h : i < L) (hL : L ≤ 4611686018427387904) : wrap64 ((i : Int) + 1) = ((i + 1 : Nat) : Int) := by rw [z1J (by omega) (by omega)]; omega
theorem z3o {i j : Nat} (h : i ≤ 2305843009213693952) (h' : j ≤ 2305843009213693952) : wrap64 ((i : Int) + (j : Int)) = ((i + j : Nat) : Int) := by rw [z1J (by omega) (by omega)]; omega
theorem z5S {i j : Nat} (h : j ≤ i) (h' : i ≤ 4611686018427387904) : wrap64 ((i : Int) - (j : Int)) = ((i - j : Nat) : Int) := by rw [z1J (by omega) (by omega)]; omega
theorem z2b {x : Int} (h0 : 0 ≤ x) (h1 : x < 18446744073709551616) : IntKind.u64.wrap x = x := by
  simp [IntKind.wrap, IntKind.bits, IntKind.signed]; omega
theorem z3k (w : Nat) (h : w ≤ 62) : shl .i64 1 (w : Int) = ((2 ^ w : Nat) : Int) := by
  unfold shl
  have h64 : IntKind.i64.bits = 64 := rfl
  rw [h64, Int.toNat_natCast, Nat.min_eq_left (by omega), Int.one_mul]
  have hp : (2 : Nat) ^ w ≤ 2 ^ 62 := Nat.pow_le_pow_right (by decide) h
  have hc : ((2 : Int) ^ w) = ((2 ^ w : Nat) : Int) := by simp
  rw [hc]
  have h62 : (2 : Nat) ^ 62 = 4611686018427387904 := by decide
  generalize 2 ^ w = p at hp ⊢
  exact z5x (by omega) (by omega)
theorem z26 (w : Nat) (h : w ≤ 63) : shl .u64 1 (w : Int) = ((2 ^ w : Nat) : Int) := by
  unfold shl
  have h64 : IntKind.u64.bits = 64 := rfl
  rw [h64, Int.toNat_natCast, Nat.min_eq_left (by omega), Int.one_mul]
  have hp : (2 : Nat) ^ w ≤ 2 ^ 63 := Nat.pow_le_pow_right (by decide) h
  have hc : ((2 : Int) ^ w) = ((2 ^ w : Nat) : Int) := by simp
  rw [hc]
  have h63 : (2 : Nat) ^ 63 = 9223372036854775808 := by decide
  generalize 2 ^ w = p at hp ⊢
  exact z2b (by omega) (by omega)
theorem z2u (a w : Nat) (h : w ≤ 64) : shr .u64 (a : Int) (w : Int) = ((a / 2 ^ w : Nat) : Int) := by
  unfold shr
  have h64 : IntKind.u64.bits = 64 := rfl
  rw [h64, Int.toNat_natCast, Nat.min_eq_left h]; simp
theorem shr_i64 (a w : Nat) (h : w ≤ 64) : shr .i64 (a : Int) (w : Int) = ((a / 2 ^ w : Nat) : Int) := by
  unfold shr
  have h64 : IntKind.i64.bits = 64 := rfl
  rw [h64, Int.toNat_natCast, Nat.min_eq_left h]; simp
theorem z3O (op : BinOp) (a b : Nat) (ha : a < 2 ^ 64) (hb : b < 2 ^ 64) :
    (op = .and → Go.bits op .u64 a b = ((a &&& b : Nat) : Int)) ∧ (op = .or → Go.bits op .u64 a b = ((a ||| b : Nat) : Int)) ∧ (op = .xor → Go.bits op .u64 a b = ((a ^^^ b : Nat) : Int)) := by
  have ha' : a % 2 ^ IntKind.u64.bits = a := Nat.mod_eq_of_lt ha
  have hb' : b % 2 ^ IntKind.u64.bits = b := Nat.mod_eq_of_lt hb
  refine ⟨?_, ?_, ?_⟩ <;> rintro rfl <;> simp only [Go.bits, BitVec.ofInt_natCast, BitVec.toNat_and, BitVec.toNat_or, BitVec.toNat_xor, BitVec.toNat_ofNat, ha', hb']
  · exact z2b (Int.natCast_nonneg _) (by have := Nat.and_lt_two_pow a hb; omega)
  · exact z2b (Int.natCast_nonneg _) (by have := Nat.or_lt_two_pow ha hb; omega)
  · exact z2b (Int.natCast_nonneg _) (by have := Nat.xor_lt_two_pow ha hb; omega)
theorem z1T (a b : Nat) (ha : a < 2 ^ 64) (hb : b < 2 ^ 64) : Go.bits .and .u64 a b = ((a &&& b : Nat) : Int) := (z3O .and a b ha hb).1 rfl
theorem z3B (a b : Nat) (ha : a < 2 ^ 64) (hb : b < 2 ^ 64) : Go.bits .or .u64 a b = ((a ||| b : Nat) : Int) := (z3O .or a b ha hb).2.1 rfl
theorem z1A (a b : Nat) (ha : a < 2 ^ 64) (hb : b < 2 ^ 64) : Go.bits .xor .u64 a b = ((a ^^^ b : Nat) : Int) := (z3O .xor a b ha hb).2.2 rfl
theorem z43 (x w : Nat) (hx : x < 2 ^ 63) (hw : w ≤ 62) : Go.bits .and .i64 (x : Int) (((2 ^ w : Nat) : Int) - 1) = ((x % 2 ^ w : Nat) : Int) := by
  have := Go.bits_mask .i64 63 (by decide) (fun n h0 h1 => z5x (by omega) (by omega)) w (by omega) (x : Int) (by omega) (by exact_mod_cast hx)
  have hc : (((2 ^ w : Nat) : Int) - 1) = 2 ^ w - 1 := by simp
  rw [hc, this]; simp
theorem two_pow_le {w : Nat} (h : w ≤ 6) : 2 ^ w ≤ 64 := Nat.pow_le_pow_right (n := 2) (by decide) h
theorem wf_i64 {x : Int} (h : (Lit.int .i64 x).wf = true) : -9223372036854775808 ≤ x ∧ x ≤ 9223372036854775807 := by
  simp only [Lit.wf, IntKind.min, IntKind.max, IntKind.signed, IntKind.bits, Bool.and_eq_true, decide_eq_true_eq] at h; simp at h; omega
theorem wf_u64 {x : Int} (h : (Lit.int .u64 x).wf = true) : 0 ≤ x ∧ x < 18446744073709551616 := by
  simp only [Lit.wf, IntKind.min, IntKind.max, IntKind.signed, IntKind.bits, Bool.and_eq_true, decide_eq_true_eq] at h; simp at h; omega
theorem z4s {α : Type} (d : α) (l : List α) (i : Nat) : rdOf d l (i : Int) = l.getD i d := by unfold rdOf; rw [Int.toNat_natCast]
end Go.Proofs.Ytngcaphdkgihmaa.Ar
/- The tower of fields of characteristic two, as pairs of pairs of bits: its laws. Own text; nothing of the program in it. -/
namespace Go.Proofs.Ytngcaphdkgihmaa.Tw
set_option linter.unusedVariables false
set_option linter.unusedSimpArgs false

/-- Level n: a bit, or two halves: the higher one and the lower one. -/
def T : Nat → Type
  | 0 => Bool
  | n + 1 => T n × T n
def zero : (n : Nat) → T n
  | 0 => false
  | n + 1 => (zero n, zero n)
def one : (n : Nat) → T n
  | 0 => true
  | n + 1 => (zero n, one n)
/-- The generator. -/
def gen : (n : Nat) → T n
  | 0 => true
  | n + 1 => (one n, zero n)
def add : {n : Nat} → T n → T n → T n
  | 0, a, b => Bool.xor a b
  | _ + 1, a, b => (add a.1 b.1, add a.2 b.2)
def mul : {n : Nat} → T n → T n → T n
  | 0, a, b => Bool.and a b
  | n + 1, a, b => (add (add (mul a.1 b.2) (mul a.2 b.1)) (mul (gen n) (mul a.1 b.1)), add (mul a.2 b.2) (mul a.1 b.1))
instance {n : Nat} : Add (T n) := ⟨add⟩
instance {n : Nat} : Mul (T n) := ⟨mul⟩
instance {n : Nat} : Zero (T n) := ⟨zero n⟩
instance {n : Nat} : One (T n) := ⟨one n⟩
instance : {n : Nat} → DecidableEq (T n)
  | 0 => inferInstanceAs (DecidableEq Bool)
  | n + 1 => let _ : DecidableEq (T n) := instDecidableEqT; inferInstanceAs (DecidableEq (T n × T n))
theorem z38 {n : Nat} (a b : T (n + 1)) : (a + b).1 = a.1 + b.1 := rfl
theorem z3M {n : Nat} (a b : T (n + 1)) : (a + b).2 = a.2 + b.2 := rfl
theorem z1K {n : Nat} (a b : T (n + 1)) : (a * b).1 = (a.1 * b.2 + a.2 * b.1) + gen n * (a.1 * b.1) := rfl
theorem z1L {n : Nat} (a b : T (n + 1)) : (a * b).2 = a.2 * b.2 + a.1 * b.1 := rfl
theorem z32 {n : Nat} : (0 : T (n + 1)).1 = 0 := rfl
theorem z33 {n : Nat} : (0 : T (n + 1)).2 = 0 := rfl
theorem z3S {n : Nat} : (1 : T (n + 1)).1 = 0 := rfl
theorem z3T {n : Nat} : (1 : T (n + 1)).2 = 1 := rfl
theorem z2m {n : Nat} : (gen (n + 1)).1 = 1 := rfl
theorem z2n {n : Nat} : (gen (n + 1)).2 = 0 := rfl
theorem z4F : gen 0 = 1 := rfl
/-- The element of two halves. -/
def mk {n : Nat} (a b : T n) : T (n + 1) := (a, b)
theorem z1V {n : Nat} (a b : T n) : (mk a b).1 = a := rfl
theorem z20 {n : Nat} (a b : T n) : (mk a b).2 = b := rfl
theorem ext {n : Nat} {a b : T (n + 1)} (h1 : a.1 = b.1) (h2 : a.2 = b.2) : a = b := Prod.ext h1 h2

theorem add_comm : {n : Nat} → (a b : T n) → a + b = b + a
  | 0, a, b => Bool.xor_comm a b
  | n + 1, a, b => ext (add_comm a.1 b.1) (add_comm a.2 b.2)
theorem add_assoc : {n : Nat} → (a b c : T n) → a + b + c = a + (b + c)
  | 0, a, b, c => Bool.xor_assoc a b c
  | n + 1, a, b, c => ext (add_assoc a.1 b.1 c.1) (add_assoc a.2 b.2 c.2)
theorem zero_add : {n : Nat} → (a : T n) → 0 + a = a
  | 0, a => Bool.false_xor a
  | n + 1, a => ext (zero_add a.1) (zero_add a.2)
theorem z1Z : {n : Nat} → (a : T n) → a + a = 0
  | 0, a => Bool.xor_self a
  | n + 1, a => ext (z1Z a.1) (z1Z a.2)
theorem add_zero {n : Nat} (a : T n) : a + 0 = a := by rw [add_comm, zero_add]
theorem z1H {n : Nat} (a b c : T n) : a + (b + c) = b + (a + c) := by rw [← add_assoc, add_comm a b, add_assoc]
theorem z42 {n : Nat} (a b : T n) : a + (a + b) = b := by rw [← add_assoc, z1Z, zero_add]
theorem z5k {n : Nat} {a b c : T n} (h : a + b = a + c) : b = c := by
  have := congrArg (a + ·) h
  simpa only [z42] using this
theorem add_eq_zero {n : Nat} {a b : T n} (h : a + b = 0) : a = b := by
  have := congrArg (· + b) h
  simp only [add_assoc, z1Z, add_zero, zero_add] at this
  exact this
theorem eq_add_of {n : Nat} {a b c : T n} (h : a + b = c) : a = c + b := by rw [← h, add_assoc, z1Z, add_zero]

/-- The laws of products, all at once. -/
structure Laws (n : Nat) : Prop where
  comm : ∀ a b : T n, a * b = b * a
  zero_mul : ∀ a : T n, 0 * a = 0
  one_mul : ∀ a : T n, 1 * a = a
  mul_add : ∀ a b c : T n, a * (b + c) = a * b + a * c
  assoc : ∀ a b c : T n, a * b * c = a * (b * c)
theorem laws : (n : Nat) → Laws n
  | 0 => ⟨Bool.and_comm, Bool.false_and, Bool.true_and, by intro a b c; cases a <;> cases b <;> cases c <;> rfl, Bool.and_assoc⟩
  | n + 1 => by
    obtain ⟨comm, zmul, omul, madd, massoc⟩ := laws n
    have addm : ∀ a b c : T n, (a + b) * c = a * c + b * c := fun a b c => by rw [comm, madd, comm c a, comm c b]
    have mulz : ∀ a : T n, a * 0 = 0 := fun a => by rw [comm, zmul]
    have mulo : ∀ a : T n, a * 1 = a := fun a => by rw [comm, omul]
    have lcomm : ∀ a b c : T n, a * (b * c) = b * (a * c) := fun a b c => by rw [← massoc, comm a b, massoc]
    refine ⟨fun a b => ext ?_ ?_, fun a => ext ?_ ?_, fun a => ext ?_ ?_, fun a b c => ext ?_ ?_, fun a b c => ext ?_ ?_⟩
    · simp only [z1K]; rw [comm a.1 b.2, comm a.2 b.1, comm a.1 b.1, add_comm (b.2 * a.1)]
    · simp only [z1L]; rw [comm a.2 b.2, comm a.1 b.1]
    · simp only [z1K, z32, z33, zmul, mulz, add_zero]
    · simp only [z1L, z32, z33, zmul, mulz, add_zero]
    · simp only [z1K, z3S, z3T, zmul, mulz, omul, add_zero, zero_add]
    · simp only [z1L, z3S, z3T, zmul, mulz, omul, add_zero, zero_add]
    · simp only [z1K, z38, z3M, madd, addm, add_assoc, z1H, add_comm]
    · simp only [z1L, z38, z3M, madd, addm, add_assoc, z1H, add_comm]
    · simp only [z1K, z1L, madd, addm, massoc, lcomm, comm, add_assoc, z1H, add_comm]
    · simp only [z1K, z1L, madd, addm, massoc, lcomm, comm, add_assoc, z1H, add_comm]
section
variable {n : Nat} (a b c d : T n)
theorem mul_comm : a * b = b * a := (laws n).comm a b
theorem mul_assoc : a * b * c = a * (b * c) := (laws n).assoc a b c
theorem mul_left_comm : a * (b * c) = b * (a * c) := by rw [← mul_assoc, mul_comm a b, mul_assoc]
theorem zero_mul : 0 * a = 0 := (laws n).zero_mul a
theorem z2f : a * 0 = 0 := by rw [mul_comm, zero_mul]
theorem one_mul : 1 * a = a := (laws n).one_mul a
theorem mul_one : a * 1 = a := by rw [mul_comm, one_mul]
theorem mul_add : a * (b + c) = a * b + a * c := (laws n).mul_add a b c
theorem add_mul : (a + b) * c = a * c + b * c := by rw [mul_comm, mul_add, mul_comm c a, mul_comm c b]
theorem add_sq : (a + b) * (a + b) = a * a + b * b := by
  rw [mul_add, add_mul, add_mul, mul_comm b a, add_assoc, ← add_assoc (a * b), z1Z, zero_add]
end
end Go.Proofs.Ytngcaphdkgihmaa.Tw
/- Elements of the tower as numbers: bits of the lower half first. Own text; nothing of the program in it. -/
namespace Go.Proofs.Ytngcaphdkgihmaa.Tw
set_option linter.unusedVariables false
set_option linter.unusedSimpArgs false
/-- How many words of bits an element of a level is: 2 to the power 2^n. -/
def Q (n : Nat) : Nat := 2 ^ 2 ^ n
theorem z27 (n : Nat) : 0 < Q n := Nat.two_pow_pos _
theorem z2k (n : Nat) : Q (n + 1) = Q n * Q n := by unfold Q; rw [← Nat.pow_add, Nat.pow_succ 2 n, Nat.mul_two]
theorem z5i (n : Nat) : Q n ≤ Q (n + 1) := by rw [z2k]; exact Nat.le_mul_of_pos_left _ (z27 n)
theorem z2G {m n : Nat} (h : m ≤ n) : Q m ≤ Q n := Nat.pow_le_pow_right (by decide) (Nat.pow_le_pow_right (by decide) h)
theorem z3q : Q 6 = 2 ^ 64 := rfl
theorem z37 : Q 7 = 2 ^ 128 := rfl
def val : {n : Nat} → T n → Nat
  | 0, a => Bool.toNat a
  | n + 1, a => val a.1 * Q n + val a.2
def of : (n : Nat) → Nat → T n
  | 0, x => x % 2 == 1
  | n + 1, x => mk (of n (x / Q n)) (of n (x % Q n))
theorem val_zero_lvl (a : T 0) : val a = Bool.toNat a := rfl
theorem z1s {n : Nat} (a : T (n + 1)) : val a = val a.1 * Q n + val a.2 := rfl
theorem z1E (n x : Nat) : of (n + 1) x = mk (of n (x / Q n)) (of n (x % Q n)) := rfl
theorem z18 : {n : Nat} → (a : T n) → val a < Q n
  | 0, a => by cases a <;> decide
  | n + 1, a => by
    rw [z1s, z2k]
    have h1 := z18 a.1
    have h2 := z18 a.2
    have h3 : val a.1 * Q n + Q n ≤ Q n * Q n := by
      have := Nat.mul_le_mul_right (Q n) h1
      rw [Nat.succ_mul] at this; exact this
    omega
theorem z5Q {n : Nat} (a : T (n + 1)) : val a / Q n = val a.1 := by
  rw [z1s, Nat.mul_comm, Nat.mul_add_div (z27 n), Nat.div_eq_of_lt (z18 a.2), Nat.add_zero]
theorem z5R {n : Nat} (a : T (n + 1)) : val a % Q n = val a.2 := by
  rw [z1s, Nat.mul_comm, Nat.mul_add_mod, Nat.mod_eq_of_lt (z18 a.2)]
theorem z1w : {n : Nat} → (a : T n) → of n (val a) = a
  | 0, a => by cases a <;> rfl
  | n + 1, a => by rw [z1E, z5Q, z5R, z1w a.1, z1w a.2]; rfl
theorem z1F : (n : Nat) → (x : Nat) → x < Q n → val (of n x) = x
  | 0, x, h => by
    have h' : x < 2 := h
    have : x = 0 ∨ x = 1 := by omega
    rcases this with rfl | rfl <;> rfl
  | n + 1, x, h => by
    rw [z1E, z1s, z1V, z20]
    rw [z2k] at h
    rw [z1F n _ (Nat.div_lt_of_lt_mul h), z1F n _ (Nat.mod_lt _ (z27 n)), Nat.mul_comm]
    exact Nat.div_add_mod x (Q n)
theorem z2w {n : Nat} {a b : T n} (h : val a = val b) : a = b := by rw [← z1w a, h, z1w]
theorem z1o : (n : Nat) → val (0 : T n) = 0
  | 0 => rfl
  | n + 1 => by rw [z1s, z32, z33, z1o n, Nat.zero_mul]
theorem z2x : (n : Nat) → val (1 : T n) = 1
  | 0 => rfl
  | n + 1 => by rw [z1s, z3S, z3T, z1o n, z2x n, Nat.zero_mul]
theorem z1W (n : Nat) : of n 0 = 0 := by rw [← z1o n, z1w]
theorem of_one (n : Nat) : of n 1 = 1 := by rw [← z2x n, z1w]
theorem val_eq_zero {n : Nat} {a : T n} : val a = 0 ↔ a = 0 := ⟨fun h => z2w (h.trans (z1o n).symm), fun h => by rw [h, z1o]⟩
theorem z4X {n a b c d : Nat} (hb : b < Q n) (hd : d < Q n) : (a * Q n + b) ^^^ (c * Q n + d) = (a ^^^ c) * Q n + (b ^^^ d) := by
  have h1 : ((a * Q n + b) ^^^ (c * Q n + d)) / Q n = a ^^^ c := by
    unfold Q at *
    rw [Nat.xor_div_two_pow, Nat.mul_comm a, Nat.mul_comm c, Nat.mul_add_div (Nat.two_pow_pos _), Nat.mul_add_div (Nat.two_pow_pos _), Nat.div_eq_of_lt hb, Nat.div_eq_of_lt hd]; rfl
  have h2 : ((a * Q n + b) ^^^ (c * Q n + d)) % Q n = b ^^^ d := by
    unfold Q at *
    rw [Nat.xor_mod_two_pow, Nat.mul_comm a, Nat.mul_comm c, Nat.mul_add_mod, Nat.mul_add_mod, Nat.mod_eq_of_lt hb, Nat.mod_eq_of_lt hd]
  have := Nat.div_add_mod ((a * Q n + b) ^^^ (c * Q n + d)) (Q n)
  rw [h1, h2, Nat.mul_comm] at this
  exact this.symm
theorem z1t : {n : Nat} → (a b : T n) → val (a + b) = val a ^^^ val b
  | 0, a, b => by cases a <;> cases b <;> rfl
  | n + 1, a, b => by
    rw [z1s, z1s, z1s, z38, z3M, z1t a.1 b.1, z1t a.2 b.2, z4X (z18 _) (z18 _)]
theorem z1X {n x y : Nat} (hx : x < Q n) (hy : y < Q n) : x ^^^ y < Q n := Nat.xor_lt_two_pow hx hy
theorem z5H {n x y : Nat} (hx : x < Q n) (hy : y < Q n) : of n (x ^^^ y) = of n x + of n y :=
  z2w (by rw [z1F _ _ (z1X hx hy), z1t, z1F _ _ hx, z1F _ _ hy])
/-- A number of a lower level: the higher half is 0. -/
theorem z4b {n x : Nat} (h : x < Q n) : of (n + 1) x = mk 0 (of n x) := by
  rw [z1E, Nat.div_eq_of_lt h, Nat.mod_eq_of_lt h, z1W]
/-- One level up. -/
def up {n : Nat} (a : T n) : T (n + 1) := mk 0 a
theorem z2D {n : Nat} (a : T n) : (up a).1 = 0 := rfl
theorem z3F {n : Nat} (a : T n) : (up a).2 = a := rfl
theorem val_up {n : Nat} (a : T n) : val (up a) = val a := by rw [z1s, z2D, z3F, z1o, Nat.zero_mul, Nat.zero_add]
theorem up_add {n : Nat} (a b : T n) : up (a + b) = up a + up b := ext (by rw [z38, z2D, z2D, z2D, add_zero]) rfl
theorem up_mul {n : Nat} (a b : T n) : up (a * b) = up a * up b :=
  ext (by simp only [z1K, z2D, z3F, zero_mul, z2f, add_zero]) (by simp only [z1L, z2D, z3F, zero_mul, add_zero])
theorem z2R {n : Nat} (a : T n) (b : T (n + 1)) : up a * b = mk (a * b.1) (a * b.2) :=
  ext (by simp only [z1K, z2D, z3F, zero_mul, z2f, add_zero, zero_add, z1V]) (by simp only [z1L, z2D, z3F, zero_mul, add_zero, z20])
theorem up_zero (n : Nat) : up (0 : T n) = 0 := rfl
theorem up_one (n : Nat) : up (1 : T n) = 1 := rfl
theorem up_inj {n : Nat} {a b : T n} (h : up a = up b) : a = b := congrArg (fun x : T (n + 1) => x.2) h
/-- Many levels up. -/
def ups {n : Nat} : (d : Nat) → T n → T (n + d)
  | 0, a => a
  | d + 1, a => up (ups d a)
theorem ups_add {n : Nat} (a b : T n) : (d : Nat) → ups d (a + b) = ups d a + ups d b
  | 0 => rfl
  | d + 1 => by show up (ups d (a + b)) = _; rw [ups_add a b d, up_add]; rfl
theorem z5P {n : Nat} (a b : T n) : (d : Nat) → ups d (a * b) = ups d a * ups d b
  | 0 => rfl
  | d + 1 => by show up (ups d (a * b)) = _; rw [z5P a b d, up_mul]; rfl
theorem z3n {n : Nat} (a : T n) : (d : Nat) → val (ups d a) = val a
  | 0 => rfl
  | d + 1 => by show val (up (ups d a)) = _; rw [val_up, z3n a d]
theorem ups_zero {n : Nat} (d : Nat) : ups d (0 : T n) = 0 := z2w (by rw [z3n, z1o, z1o])
theorem ups_one {n : Nat} (d : Nat) : ups d (1 : T n) = 1 := z2w (by rw [z3n, z2x, z2x])
theorem ups_of {n d x : Nat} (h : x < Q n) : ups d (of n x) = of (n + d) x := z2w (by rw [z3n, z1F _ _ h, z1F _ _ (Nat.lt_of_lt_of_le h (z2G (Nat.le_add_right _ _)))])
/-- Products of numbers of a lower level are of it. -/
theorem z3m {n d x y : Nat} (hx : x < Q n) (hy : y < Q n) : val (of (n + d) x * of (n + d) y) = val (of n x * of n y) := by
  rw [← ups_of hx, ← ups_of hy, ← z5P, z3n]
theorem z2M {l m x y : Nat} (h : l ≤ m) (hx : x < Q l) (hy : y < Q l) : val (of m x * of m y) = val (of l x * of l y) := by
  obtain ⟨d, rfl⟩ := Nat.le.dest h
  exact z3m hx hy
theorem z5a {l m x y : Nat} (h : l ≤ m) (hx : x < Q l) (hy : y < Q l) : val (of m x * of m y) < Q l := by
  rw [z2M h hx hy]; exact z18 _
end Go.Proofs.Ytngcaphdkgihmaa.Tw
namespace Go.Proofs.Ytngcaphdkgihmaa.P
open Go.RowKit Go.Proofs.YtngcaphdkgihmaaW.PrintWords Go.Proofs.YtngcaphdkgihmaaW.PrintLast Go.Proofs.YtngcaphdkgihmaaW.PrintMore
attribute [local go_sem] zU zW z15 z16 zQ zR zV zX   -- for this text's walks alone
set_option linter.unusedVariables false
set_option linter.unusedSimpArgs false
def z1a.f (a0 : Int) (a1 : Int) : Option (Int × Int):=if 0 ≤ (wrap64 (a0 - 1)) then (if 0 ≤ (shl .i64 1 (wrap64 (a0 - 1))) then (some (shr .u64 a1 (shl .i64 1 (wrap64 (a0 - 1))),Go.bits .and .u64 a1 (IntKind.u64.wrap ((shl .u64 1 (shl .i64 1 (wrap64 (a0 - 1)))) - 1)))) else (none)) else (none)
set_option maxHeartbeats 8000000 in
set_option maxRecDepth 100000 in
theorem z1a.calls (a0 : Int) (a1 : Int) (r1 : Int) (r2 : Int) (w : World) (h : z1a.f a0 a1 = some (r1,r2)) :
 Calls Try.prog 96 #[.int .i64 a0,.int .u64 a1] w fun e w'=>e = .returned (.tuple #[.int .u64 r1,.int .u64 r2]) ∧ Drawn0 w w':=by
 have H : (if 0 ≤ (wrap64 (a0 - 1)) then (if 0 ≤ (shl .i64 1 (wrap64 (a0 - 1))) then (some (shr .u64 a1 (shl .i64 1 (wrap64 (a0 - 1))),Go.bits .and .u64 a1 (IntKind.u64.wrap ((shl .u64 1 (shl .i64 1 (wrap64 (a0 - 1)))) - 1)))) else (none)) else (none)) = some (r1,r2):=h
 clear h
 obtain ⟨ji3,hji3⟩ : ∃ j_ : Int,(wrap64 (a0 - 1)) = j_:=⟨_,rfl⟩
 replace H : (if 0 ≤ (ji3) then (if 0 ≤ (shl .i64 1 (ji3)) then (some (shr .u64 a1 (shl .i64 1 (ji3)),Go.bits .and .u64 a1 (IntKind.u64.wrap ((shl .u64 1 (shl .i64 1 (ji3))) - 1)))) else (none)) else (none)) = some (r1,r2):=by first|(rw [hji3] at H;exact H)|(simp only [hji3] at H ⊢;exact H)
 have hji3w : (IntKind.i64.wrap (a0 - 1)) = ji3:=(zC _).trans hji3
 by_cases c4 : 0 ≤ (ji3)
 rotate_left
 · rw [if_neg c4] at H
   exact absurd H (by simp)
 rw [if_pos c4] at H
 have c4b0:=eq_true c4
 have c4b1 : decide (0 ≤ (ji3)) = true:=decide_eq_true c4
 clear c4
 obtain ⟨ji5,hji5⟩ : ∃ j_ : Int,(shl .i64 1 (ji3)) = j_:=⟨_,rfl⟩
 replace H : (if 0 ≤ (ji5) then (some (shr .u64 a1 (ji5),Go.bits .and .u64 a1 (IntKind.u64.wrap ((shl .u64 1 (ji5)) - 1)))) else (none)) = some (r1,r2):=by first|(rw [hji5] at H;exact H)|(simp only [hji5] at H ⊢;exact H)
 have hji5_ : (IntKind.i64.wrap (1 * 2 ^ min (ji3).toNat 64)) = ji5:=hji5
 have hji5z : (ji3) ≤ 64 → (IntKind.i64.wrap (1 * 2 ^ (ji3).toNat)) = ji5:=z19 hji5
 have hji5u : (IntKind.i64.wrap (2 ^ min (ji3).toNat 64)) = ji5:=by have h_:=hji5_;rw [Int.one_mul] at h_;exact h_
 have hji5v : (ji3) ≤ 64 → (IntKind.i64.wrap (2 ^ (ji3).toNat)) = ji5:=fun hle_=>by have h_:=hji5z hle_;rw [Int.one_mul] at h_;exact h_
 have hji5y : (wrap64 (1 * 2 ^ min (ji3).toNat 64)) = ji5:=(zC _).symm.trans hji5_
 have hji5x : (ji3) ≤ 64 → (wrap64 (1 * 2 ^ (ji3).toNat)) = ji5:=fun h_=>(zC _).symm.trans (hji5z h_)
 by_cases c6 : 0 ≤ (ji5)
 rotate_left
 · rw [if_neg c6] at H
   exact absurd H (by simp)
 rw [if_pos c6] at H
 have c6b0:=eq_true c6
 have c6b1 : decide (0 ≤ (ji5)) = true:=decide_eq_true c6
 clear c6
 obtain ⟨ji7,hji7⟩ : ∃ j_ : Int,(shr .u64 a1 (ji5)) = j_:=⟨_,rfl⟩
 replace H : (some (ji7,Go.bits .and .u64 a1 (IntKind.u64.wrap ((shl .u64 1 (ji5)) - 1)))) = some (r1,r2):=by first|(rw [hji7] at H;exact H)|(simp only [hji7] at H ⊢;exact H)
 have hji7_ : (a1 / 2 ^ min (ji5).toNat 64) = ji7:=hji7
 have hji7z : (ji5) ≤ 64 → (a1 / 2 ^ (ji5).toNat) = ji7:=z1C hji7
 have c8b0:=eq_true (of_decide_eq_true (by first|(with_reducible assumption)|assumption) : 0 ≤ (ji5))
 obtain ⟨ji9,hji9⟩ : ∃ j_ : Int,(shl .u64 1 (ji5)) = j_:=⟨_,rfl⟩
 replace H : (some (ji7,Go.bits .and .u64 a1 (IntKind.u64.wrap ((ji9) - 1)))) = some (r1,r2):=by first|(rw [hji9] at H;exact H)|(simp only [hji9] at H ⊢;exact H)
 have hji9_ : (IntKind.u64.wrap (1 * 2 ^ min (ji5).toNat 64)) = ji9:=hji9
 have hji9z : (ji5) ≤ 64 → (IntKind.u64.wrap (1 * 2 ^ (ji5).toNat)) = ji9:=z19 hji9
 have hji9n0 : 0 ≤ ji9:=by rw [← hji9];exact Int.emod_nonneg _ (by decide)
 have hji9n1 : decide (0 ≤ ji9) = true:=decide_eq_true hji9n0
 replace hji9n0:=eq_true hji9n0
 have hji9u : (IntKind.u64.wrap (2 ^ min (ji5).toNat 64)) = ji9:=by have h_:=hji9_;rw [Int.one_mul] at h_;exact h_
 have hji9v : (ji5) ≤ 64 → (IntKind.u64.wrap (2 ^ (ji5).toNat)) = ji9:=fun hle_=>by have h_:=hji9z hle_;rw [Int.one_mul] at h_;exact h_
 simp only [Option.some.injEq,Prod.mk.injEq] at H
 obtain ⟨rfl,rfl⟩:=H
 go_enter Try.func96,Try.ntmps96
 go_wp2
 repeat (go_quiet (fail);try go_wp2)
 go_ret2
 exact ⟨by first|rfl|(simp;done)|(simp only [← hji3,← hji5,← hji7,← hji9] <;> (first|rfl|simp))|(simp [*];done),by repeat (first|exact Drawn0.refl _|apply Drawn0.step)⟩
end Go.Proofs.Ytngcaphdkgihmaa.P
namespace Go.Proofs.Ytngcaphdkgihmaa.P
open Go.RowKit Go.Proofs.YtngcaphdkgihmaaW.PrintWords Go.Proofs.YtngcaphdkgihmaaW.PrintLast Go.Proofs.YtngcaphdkgihmaaW.PrintMore
attribute [local go_sem] zU zW z15 z16 zQ zR zV zX   -- for this text's walks alone
set_option linter.unusedVariables false
set_option linter.unusedSimpArgs false
def z1b.f (a0 : Int) (a1 : Int) (a2 : Int) : Option (Int):=if 0 ≤ (wrap64 (a0 - 1)) then (some (Go.bits .or .u64 (shl .u64 a1 (shl .u64 1 (wrap64 (a0 - 1)))) a2)) else (none)
set_option maxHeartbeats 8000000 in
set_option maxRecDepth 100000 in
theorem z1b.calls (a0 : Int) (a1 : Int) (a2 : Int) (r : Int) (w : World) (h : z1b.f a0 a1 a2 = some r) :
 Calls Try.prog 97 #[.int .i64 a0,.int .u64 a1,.int .u64 a2] w fun e w'=>e = .returned (.int .u64 r) ∧ Drawn0 w w':=by
 have H : (if 0 ≤ (wrap64 (a0 - 1)) then (some (Go.bits .or .u64 (shl .u64 a1 (shl .u64 1 (wrap64 (a0 - 1)))) a2)) else (none)) = some r:=h
 clear h
 obtain ⟨ji4,hji4⟩ : ∃ j_ : Int,(wrap64 (a0 - 1)) = j_:=⟨_,rfl⟩
 replace H : (if 0 ≤ (ji4) then (some (Go.bits .or .u64 (shl .u64 a1 (shl .u64 1 (ji4))) a2)) else (none)) = some r:=by first|(rw [hji4] at H;exact H)|(simp only [hji4] at H ⊢;exact H)
 have hji4w : (IntKind.i64.wrap (a0 - 1)) = ji4:=(zC _).trans hji4
 by_cases c5 : 0 ≤ (ji4)
 rotate_left
 · rw [if_neg c5] at H
   exact absurd H (by simp)
 rw [if_pos c5] at H
 have c5b0:=eq_true c5
 have c5b1 : decide (0 ≤ (ji4)) = true:=decide_eq_true c5
 clear c5
 obtain ⟨ji6,hji6⟩ : ∃ j_ : Int,(shl .u64 1 (ji4)) = j_:=⟨_,rfl⟩
 replace H : (some (Go.bits .or .u64 (shl .u64 a1 (ji6)) a2)) = some r:=by first|(rw [hji6] at H;exact H)|(simp only [hji6] at H ⊢;exact H)
 have hji6_ : (IntKind.u64.wrap (1 * 2 ^ min (ji4).toNat 64)) = ji6:=hji6
 have hji6z : (ji4) ≤ 64 → (IntKind.u64.wrap (1 * 2 ^ (ji4).toNat)) = ji6:=z19 hji6
 have hji6n0 : 0 ≤ ji6:=by rw [← hji6];exact Int.emod_nonneg _ (by decide)
 have hji6n1 : decide (0 ≤ ji6) = true:=decide_eq_true hji6n0
 replace hji6n0:=eq_true hji6n0
 have hji6u : (IntKind.u64.wrap (2 ^ min (ji4).toNat 64)) = ji6:=by have h_:=hji6_;rw [Int.one_mul] at h_;exact h_
 have hji6v : (ji4) ≤ 64 → (IntKind.u64.wrap (2 ^ (ji4).toNat)) = ji6:=fun hle_=>by have h_:=hji6z hle_;rw [Int.one_mul] at h_;exact h_
 obtain ⟨ji7,hji7⟩ : ∃ j_ : Int,(shl .u64 a1 (ji6)) = j_:=⟨_,rfl⟩
 replace H : (some (Go.bits .or .u64 (ji7) a2)) = some r:=by first|(rw [hji7] at H;exact H)|(simp only [hji7] at H ⊢;exact H)
 have hji7_ : (IntKind.u64.wrap (a1 * 2 ^ min (ji6).toNat 64)) = ji7:=hji7
 have hji7z : (ji6) ≤ 64 → (IntKind.u64.wrap (a1 * 2 ^ (ji6).toNat)) = ji7:=z19 hji7
 have hji7n0 : 0 ≤ ji7:=by rw [← hji7];exact Int.emod_nonneg _ (by decide)
 have hji7n1 : decide (0 ≤ ji7) = true:=decide_eq_true hji7n0
 replace hji7n0:=eq_true hji7n0
 obtain rfl:=Option.some.inj H
 go_enter Try.func97,Try.ntmps97
 go_wp2
 go_ret
 exact ⟨by first|rfl|(simp;done)|(simp only [← hji4,← hji6,← hji7] <;> (first|rfl|simp))|(simp [*];done),by repeat (first|exact Drawn0.refl _|apply Drawn0.step)⟩
end Go.Proofs.Ytngcaphdkgihmaa.P
namespace Go.Proofs.Ytngcaphdkgihmaa.P
open Go.RowKit Go.Proofs.YtngcaphdkgihmaaW.PrintWords Go.Proofs.YtngcaphdkgihmaaW.PrintLast Go.Proofs.YtngcaphdkgihmaaW.PrintMore
attribute [local go_sem] zU zW z15 z16 zQ zR zV zX   -- for this text's walks alone
set_option linter.unusedVariables false
set_option linter.unusedSimpArgs false
def zJ.f : Nat → Int → Int → Option (Int)
 | 0,_,_=>none
 | k + 1,a0,a1=>if a0 = 0 then (some a1) else ((z1a.f a0 a1).bind fun bt101=>((zJ.f k (wrap64 (a0 - 1)) bt101.1).bind fun t103=>((z1b.f a0 (Go.bits .xor .u64 bt101.2 t103) bt101.1).bind fun t104=>(some t104))))
theorem zJ.z12 : ∀ k,(∀ y0 y1,LeO (zJ.f k y0 y1) (zJ.f (k + 1) y0 y1))
 | 0=>fun _ _ r h=>by simp [zJ.f] at h
 | k + 1=>by
  have ih0:=zJ.z12 k
  · intro y0 y1
    unfold zJ.f
    repeat' first
    | (with_reducible exact ih0 _ _)
    | (with_reducible exact LeO.refl _)
    | (with_reducible exact LeO.none _)
    | (with_reducible refine LeO.ite ?_ ?_)
    | (with_reducible refine LeO.bind ?_ (fun _=>?_))
    | exact ih0 _ _
    | exact LeO.none _
    | refine LeO.ite ?_ ?_
    | refine LeO.bind ?_ (fun _=>?_)
theorem zJ.mono : ∀ a0 a1 k,LeO (zJ.f k a0 a1) (zJ.f (k + 1) a0 a1):=by
 intro a0 a1 k
 have ih0:=zJ.z12 k
 exact ih0 a0 a1
set_option maxHeartbeats 8000000 in
set_option maxRecDepth 100000 in
theorem zJ.calls (k : Nat) : ∀ (a0 : Int) (a1 : Int) (r : Int) (w : World) (h : zJ.f k a0 a1 = some r),
 Calls Try.prog 83 #[.int .i64 a0,.int .u64 a1] w fun e w'=>e = .returned (.int .u64 r) ∧ Drawn0 w w':=by
 induction k using Nat.strongRecOn with
 | _ k ih =>
 intro a0 a1 r w h
 cases k with
 | zero=>exact absurd h (by simp [zJ.f])
 | succ k =>
 simp only [zJ.f] at h
 have H : (if a0 = 0 then (some a1) else ((z1a.f a0 a1).bind fun bt101=>((zJ.f k (wrap64 (a0 - 1)) bt101.1).bind fun t103=>((z1b.f a0 (Go.bits .xor .u64 bt101.2 t103) bt101.1).bind fun t104=>(some t104))))) = some r:=h
 clear h
 by_cases c3 : a0 = 0
 · rw [if_pos c3] at H
   have c3b0 : (a0 == 0) = true:=beq_iff_eq.mpr c3
   have c3b1 : (a0 != 0) = false:=bne_eq_false_iff_eq.mpr c3
   clear c3
   obtain rfl:=Option.some.inj H
   go_enter Try.func83,Try.ntmps83
   go_wp2
   go_ret
   exact ⟨by first|rfl|(simp;done)|(simp [*];done),by repeat (first|exact Drawn0.refl _|apply Drawn0.step)⟩
 rw [if_neg c3] at H
 have c3b0 : (a0 == 0) = false:=beq_eq_false_iff_ne.mpr c3
 have c3b1 : (a0 != 0) = true:=bne_iff_ne.mpr c3
 replace H:=Option.bind_eq_some_iff.mp H
 obtain ⟨⟨t101,t102⟩,A40,H⟩:=H
 replace H : ((zJ.f k (wrap64 (a0 - 1)) t101).bind fun t103=>((z1b.f a0 (Go.bits .xor .u64 t102 t103) t101).bind fun t104=>(some t104))) = some r:=H
 have A4:=z3.mk A40
 clear A40
 replace H:=Option.bind_eq_some_iff.mp H
 obtain ⟨t103,A50,H⟩:=H
 replace H : ((z1b.f a0 (Go.bits .xor .u64 t102 t103) t101).bind fun t104=>(some t104)) = some r:=H
 have A5:=z3.mk A50
 clear A50
 replace H:=Option.bind_eq_some_iff.mp H
 obtain ⟨t104,A60,H⟩:=H
 replace H : (some t104) = some r:=H
 have A6:=z3.mk A60
 clear A60
 obtain rfl:=Option.some.inj H
 go_enter Try.func83,Try.ntmps83
 go_wp2_with (first|((with_reducible refine zq (f:=96) rfl ?_);refine goesL_ (some 13) rfl rfl Try.func96 (by kernel_rfl) rfl #[.int .i64 a0,.int .u64 a1] rfl (by (try simp only [List.map_toArray,List.map_cons,List.map_nil]);first|done|rfl|(simp only [List.length_drop,List.length_take];rfl)) ?_;(with_reducible refine (z1a.calls a0 a1 t101 t102 _ A4.out).mono ?_);rintro e w' ⟨rfl,⟨nd,rfl⟩⟩;refine ⟨_,rfl,?_⟩)|((with_reducible refine zq (f:=83) rfl ?_);refine goesL_ (some 21) rfl rfl Try.func83 (by kernel_rfl) rfl #[.int .i64 (wrap64 (a0 - 1)),.int .u64 t101] rfl (by (try simp only [List.map_toArray,List.map_cons,List.map_nil]);first|done|rfl|(simp only [List.length_drop,List.length_take];rfl)) ?_;(with_reducible refine (ih k (by omega) (wrap64 (a0 - 1)) t101 t103 _ A5.out).mono ?_);rintro e w' ⟨rfl,⟨nd,rfl⟩⟩;refine ⟨_,rfl,?_⟩)|((with_reducible refine zq (f:=97) rfl ?_);refine goesL_ (some 24) rfl rfl Try.func97 (by kernel_rfl) rfl #[.int .i64 a0,.int .u64 (Go.bits .xor .u64 t102 t103),.int .u64 t101] rfl (by (try simp only [List.map_toArray,List.map_cons,List.map_nil]);first|done|rfl|(simp only [List.length_drop,List.length_take];rfl)) ?_;(with_reducible refine (z1b.calls a0 (Go.bits .xor .u64 t102 t103) t101 t104 _ A6.out).mono ?_);rintro e w' ⟨rfl,⟨nd,rfl⟩⟩;refine ⟨_,rfl,?_⟩))
 go_ret
 exact ⟨by first|rfl|(simp;done)|(simp [*];done),by repeat (first|exact Drawn0.refl _|apply Drawn0.step)⟩
end Go.Proofs.Ytngcaphdkgihmaa.P
namespace Go.Proofs.Ytngcaphdkgihmaa.P
open Go.RowKit Go.Proofs.YtngcaphdkgihmaaW.PrintWords Go.Proofs.YtngcaphdkgihmaaW.PrintLast Go.Proofs.YtngcaphdkgihmaaW.PrintMore
attribute [local go_sem] zU zW z15 z16 zQ zR zV zX   -- for this text's walks alone
set_option linter.unusedVariables false
set_option linter.unusedSimpArgs false
mutual
def zy.j0 : Nat → Int → Int → Int → Bool → Option (Int)
 | 0,_,_,_,_=>none
 | k + 1,x0,x1,x2,x23=>if x23 = true then (some (Go.bits .and .u64 (Go.bits .and .u64 x1 x2) 1)) else ((z1a.f x0 x1).bind fun bt101=>((z1a.f x0 x2).bind fun bt103=>((zy.f k (wrap64 (x0 - 1)) bt101.1 bt103.1).bind fun t105=>((zy.f k (wrap64 (x0 - 1)) bt101.2 bt103.2).bind fun t106=>((zy.f k (wrap64 (x0 - 1)) (Go.bits .xor .u64 bt101.1 bt101.2) (Go.bits .xor .u64 bt103.1 bt103.2)).bind fun t107=>((zJ.f k (wrap64 (x0 - 1)) t105).bind fun t108=>((z1b.f x0 (Go.bits .xor .u64 (Go.bits .xor .u64 (Go.bits .xor .u64 t107 t105) t106) t108) (Go.bits .xor .u64 t106 t105)).bind fun t109=>(some t109))))))))
def zy.f : Nat → Int → Int → Int → Option (Int)
 | 0,_,_,_=>none
 | k + 1,a0,a1,a2=>if a0 = 0 then (zy.j0 k a0 a1 a2 true) else (if a1 = 0 then (zy.j0 k a0 a1 a2 true) else (zy.j0 k a0 a1 a2 (a2 == 0)))
end
theorem zy.z12 : ∀ k,(∀ y0 y1 y2,LeO (zy.f k y0 y1 y2) (zy.f (k + 1) y0 y1 y2)) ∧ (∀ y0 y1 y2 y3,LeO (zy.j0 k y0 y1 y2 y3) (zy.j0 (k + 1) y0 y1 y2 y3))
 | 0=>⟨fun _ _ _ r h=>by simp [zy.f] at h,fun _ _ _ _ r h=>by simp [zy.j0] at h⟩
 | k + 1=>by
  obtain ⟨ih0,ih1⟩:=zy.z12 k
  refine ⟨?_,?_⟩
  · intro y0 y1 y2
    unfold zy.f
    repeat' first
    | (with_reducible exact ih0 _ _ _)
    | (with_reducible exact ih1 _ _ _ _)
    | (with_reducible exact zJ.mono _ _ _)
    | (with_reducible exact LeO.refl _)
    | (with_reducible exact LeO.none _)
    | (with_reducible refine LeO.ite ?_ ?_)
    | (with_reducible refine LeO.bind ?_ (fun _=>?_))
    | exact ih0 _ _ _
    | exact ih1 _ _ _ _
    | exact zJ.mono _ _ _
    | exact LeO.none _
    | refine LeO.ite ?_ ?_
    | refine LeO.bind ?_ (fun _=>?_)
  · intro y0 y1 y2 y3
    unfold zy.j0
    repeat' first
    | (with_reducible exact ih0 _ _ _)
    | (with_reducible exact ih1 _ _ _ _)
    | (with_reducible exact zJ.mono _ _ _)
    | (with_reducible exact LeO.refl _)
    | (with_reducible exact LeO.none _)
    | (with_reducible refine LeO.ite ?_ ?_)
    | (with_reducible refine LeO.bind ?_ (fun _=>?_))
    | exact ih0 _ _ _
    | exact ih1 _ _ _ _
    | exact zJ.mono _ _ _
    | exact LeO.none _
    | refine LeO.ite ?_ ?_
    | refine LeO.bind ?_ (fun _=>?_)
theorem zy.mono : ∀ a0 a1 a2 k,LeO (zy.f k a0 a1 a2) (zy.f (k + 1) a0 a1 a2):=by
 intro a0 a1 a2 k
 obtain ⟨ih0,ih1⟩:=zy.z12 k
 exact ih0 a0 a1 a2
set_option maxHeartbeats 8000000 in
set_option maxRecDepth 100000 in
theorem zy.calls (k : Nat) : ∀ (a0 : Int) (a1 : Int) (a2 : Int) (r : Int) (w : World) (h : zy.f k a0 a1 a2 = some r),
 Calls Try.prog 82 #[.int .i64 a0,.int .u64 a1,.int .u64 a2] w fun e w'=>e = .returned (.int .u64 r) ∧ Drawn0 w w':=by
 induction k using Nat.strongRecOn with
 | _ k ih =>
 intro a0 a1 a2 r w h
 cases k with
 | zero=>exact absurd h (by simp [zy.f])
 | succ k =>
 simp only [zy.f] at h
 have H : (if a0 = 0 then (zy.j0 k a0 a1 a2 true) else (if a1 = 0 then (zy.j0 k a0 a1 a2 true) else (zy.j0 k a0 a1 a2 (a2 == 0)))) = some r:=h
 clear h
 have HC4:=z3.mk H
 clear H
 go_enter Try.func82,Try.ntmps82
 go_upto_region 1 with (fail)
 go_cut [23] (fun v23 wc=>∃ (kq : Nat) (x23_3 : Bool),v23 = .bool x23_3 ∧ z3 (zy.j0 kq a0 a1 a2 x23_3 = some r) ∧ z3 (kq ≤ k) ∧ Drawn0 w wc)
 case first =>
  have H:=HC4.out
  clear HC4
  by_cases c5 : a0 = 0
  · rw [if_pos c5] at H
    have c5b0 : (a0 == 0) = true:=beq_iff_eq.mpr c5
    have c5b1 : (a0 != 0) = false:=bne_eq_false_iff_eq.mpr c5
    clear c5
    (first|rw [c5b0]|(simp only [zC,zK];rw [c5b0])|skip)
    have H':=z3.mk H
    clear H
    go_wp2
    go_meet
    case rel=>exact ⟨_,(true),(by first|rfl|(simp;done)|(simp [*];done)),H',⟨by first|omega|exact Nat.le_refl _⟩,by repeat (first|exact Drawn0.refl _|apply Drawn0.step)⟩
  rw [if_neg c5] at H
  have c5b0 : (a0 == 0) = false:=beq_eq_false_iff_ne.mpr c5
  have c5b1 : (a0 != 0) = true:=bne_iff_ne.mpr c5
  (first|rw [c5b0]|(simp only [zC,zK];rw [c5b0])|skip)
  by_cases c6 : a1 = 0
  rotate_left
  · rw [if_neg c6] at H
    have c6b0 : (a1 == 0) = false:=beq_eq_false_iff_ne.mpr c6
    have c6b1 : (a1 != 0) = true:=bne_iff_ne.mpr c6
    have H':=z3.mk H
    clear H
    go_wp2
    go_meet
    case rel=>exact ⟨_,((a2 == 0)),(by first|rfl|(simp;done)|(simp [*];done)),H',⟨by first|omega|exact Nat.le_refl _⟩,by repeat (first|exact Drawn0.refl _|apply Drawn0.step)⟩
  rw [if_pos c6] at H
  have c6b0 : (a1 == 0) = true:=beq_iff_eq.mpr c6
  have c6b1 : (a1 != 0) = false:=bne_eq_false_iff_eq.mpr c6
  clear c6
  have H':=z3.mk H
  clear H
  go_wp2
  go_meet
  case rel=>exact ⟨_,(true),(by first|rfl|(simp;done)|(simp [*];done)),H',⟨by first|omega|exact Nat.le_refl _⟩,by repeat (first|exact Drawn0.refl _|apply Drawn0.step)⟩
 case rest =>
  clear HC4
  (try clear p2);(try clear c5);(try clear c5b0);(try clear c5b1);(try clear c6);(try clear c6b0);(try clear c6b1)
  obtain ⟨kq,x23_3,rfl,HA,HJ3,⟨mc3,rfl⟩⟩:=hcut
  cases kq with
  | zero=>exact absurd HA.out (by simp [zy.j0])
  | succ kj3 =>
   have H:=HA.out
   clear HA
   simp only [zy.j0] at H
   by_cases c7 : x23_3 = true
   · subst c7
     have H1 : (some (Go.bits .and .u64 (Go.bits .and .u64 a1 a2) 1)) = some r:=by rw [if_pos rfl] at H;exact H
     clear H
     have H:=H1
     clear H1
     obtain rfl:=Option.some.inj H
     go_wp2
     go_ret
     exact ⟨by first|rfl|(simp;done)|(simp [*];done),by repeat (first|exact Drawn0.refl _|apply Drawn0.step)⟩
   replace c7:=Bool.eq_false_iff.mpr c7
   subst c7
   have H1 : ((z1a.f a0 a1).bind fun bt101=>((z1a.f a0 a2).bind fun bt103=>((zy.f kj3 (wrap64 (a0 - 1)) bt101.1 bt103.1).bind fun t105=>((zy.f kj3 (wrap64 (a0 - 1)) bt101.2 bt103.2).bind fun t106=>((zy.f kj3 (wrap64 (a0 - 1)) (Go.bits .xor .u64 bt101.1 bt101.2) (Go.bits .xor .u64 bt103.1 bt103.2)).bind fun t107=>((zJ.f kj3 (wrap64 (a0 - 1)) t105).bind fun t108=>((z1b.f a0 (Go.bits .xor .u64 (Go.bits .xor .u64 (Go.bits .xor .u64 t107 t105) t106) t108) (Go.bits .xor .u64 t106 t105)).bind fun t109=>(some t109)))))))) = some r:=by rw [if_neg (show ¬ (false = true) by decide)] at H;exact H
   clear H
   have H:=H1
   clear H1
   replace H:=Option.bind_eq_some_iff.mp H
   obtain ⟨⟨t101,t102⟩,A80,H⟩:=H
   replace H : ((z1a.f a0 a2).bind fun bt103=>((zy.f kj3 (wrap64 (a0 - 1)) t101 bt103.1).bind fun t105=>((zy.f kj3 (wrap64 (a0 - 1)) t102 bt103.2).bind fun t106=>((zy.f kj3 (wrap64 (a0 - 1)) (Go.bits .xor .u64 t101 t102) (Go.bits .xor .u64 bt103.1 bt103.2)).bind fun t107=>((zJ.f kj3 (wrap64 (a0 - 1)) t105).bind fun t108=>((z1b.f a0 (Go.bits .xor .u64 (Go.bits .xor .u64 (Go.bits .xor .u64 t107 t105) t106) t108) (Go.bits .xor .u64 t106 t105)).bind fun t109=>(some t109))))))) = some r:=H
   have A8:=z3.mk A80
   clear A80
   replace H:=Option.bind_eq_some_iff.mp H
   obtain ⟨⟨t103,t104⟩,A90,H⟩:=H
   replace H : ((zy.f kj3 (wrap64 (a0 - 1)) t101 t103).bind fun t105=>((zy.f kj3 (wrap64 (a0 - 1)) t102 t104).bind fun t106=>((zy.f kj3 (wrap64 (a0 - 1)) (Go.bits .xor .u64 t101 t102) (Go.bits .xor .u64 t103 t104)).bind fun t107=>((zJ.f kj3 (wrap64 (a0 - 1)) t105).bind fun t108=>((z1b.f a0 (Go.bits .xor .u64 (Go.bits .xor .u64 (Go.bits .xor .u64 t107 t105) t106) t108) (Go.bits .xor .u64 t106 t105)).bind fun t109=>(some t109)))))) = some r:=H
   have A9:=z3.mk A90
   clear A90
   replace H:=Option.bind_eq_some_iff.mp H
   obtain ⟨t105,A100,H⟩:=H
   replace H : ((zy.f kj3 (wrap64 (a0 - 1)) t102 t104).bind fun t106=>((zy.f kj3 (wrap64 (a0 - 1)) (Go.bits .xor .u64 t101 t102) (Go.bits .xor .u64 t103 t104)).bind fun t107=>((zJ.f kj3 (wrap64 (a0 - 1)) t105).bind fun t108=>((z1b.f a0 (Go.bits .xor .u64 (Go.bits .xor .u64 (Go.bits .xor .u64 t107 t105) t106) t108) (Go.bits .xor .u64 t106 t105)).bind fun t109=>(some t109))))) = some r:=H
   have A10:=z3.mk A100
   clear A100
   replace H:=Option.bind_eq_some_iff.mp H
   obtain ⟨t106,A110,H⟩:=H
   replace H : ((zy.f kj3 (wrap64 (a0 - 1)) (Go.bits .xor .u64 t101 t102) (Go.bits .xor .u64 t103 t104)).bind fun t107=>((zJ.f kj3 (wrap64 (a0 - 1)) t105).bind fun t108=>((z1b.f a0 (Go.bits .xor .u64 (Go.bits .xor .u64 (Go.bits .xor .u64 t107 t105) t106) t108) (Go.bits .xor .u64 t106 t105)).bind fun t109=>(some t109)))) = some r:=H
   have A11:=z3.mk A110
   clear A110
   replace H:=Option.bind_eq_some_iff.mp H
   obtain ⟨t107,A120,H⟩:=H
   replace H : ((zJ.f kj3 (wrap64 (a0 - 1)) t105).bind fun t108=>((z1b.f a0 (Go.bits .xor .u64 (Go.bits .xor .u64 (Go.bits .xor .u64 t107 t105) t106) t108) (Go.bits .xor .u64 t106 t105)).bind fun t109=>(some t109))) = some r:=H
   have A12:=z3.mk A120
   clear A120
   replace H:=Option.bind_eq_some_iff.mp H
   obtain ⟨t108,A130,H⟩:=H
   replace H : ((z1b.f a0 (Go.bits .xor .u64 (Go.bits .xor .u64 (Go.bits .xor .u64 t107 t105) t106) t108) (Go.bits .xor .u64 t106 t105)).bind fun t109=>(some t109)) = some r:=H
   have A13:=z3.mk A130
   clear A130
   replace H:=Option.bind_eq_some_iff.mp H
   obtain ⟨t109,A140,H⟩:=H
   replace H : (some t109) = some r:=H
   have A14:=z3.mk A140
   clear A140
   obtain rfl:=Option.some.inj H
   go_wp2_with (first|((with_reducible refine zq (f:=96) rfl ?_);refine goesL_ (some 31) rfl rfl Try.func96 (by kernel_rfl) rfl #[.int .i64 a0,.int .u64 a1] rfl (by (try simp only [List.map_toArray,List.map_cons,List.map_nil]);first|done|rfl|(simp only [List.length_drop,List.length_take];rfl)) ?_;(with_reducible refine (z1a.calls a0 a1 t101 t102 _ A8.out).mono ?_);rintro e w' ⟨rfl,⟨nd,rfl⟩⟩;refine ⟨_,rfl,?_⟩)|((with_reducible refine zq (f:=96) rfl ?_);refine goesL_ (some 37) rfl rfl Try.func96 (by kernel_rfl) rfl #[.int .i64 a0,.int .u64 a2] rfl (by (try simp only [List.map_toArray,List.map_cons,List.map_nil]);first|done|rfl|(simp only [List.length_drop,List.length_take];rfl)) ?_;(with_reducible refine (z1a.calls a0 a2 t103 t104 _ A9.out).mono ?_);rintro e w' ⟨rfl,⟨nd,rfl⟩⟩;refine ⟨_,rfl,?_⟩)|((with_reducible refine zq (f:=82) rfl ?_);refine goesL_ (some 44) rfl rfl Try.func82 (by kernel_rfl) rfl #[.int .i64 (wrap64 (a0 - 1)),.int .u64 t101,.int .u64 t103] rfl (by (try simp only [List.map_toArray,List.map_cons,List.map_nil]);first|done|rfl|(simp only [List.length_drop,List.length_take];rfl)) ?_;(with_reducible refine (ih kj3 (by have:=HJ3.out;omega) (wrap64 (a0 - 1)) t101 t103 t105 _ A10.out).mono ?_);rintro e w' ⟨rfl,⟨nd,rfl⟩⟩;refine ⟨_,rfl,?_⟩)|((with_reducible refine zq (f:=82) rfl ?_);refine goesL_ (some 49) rfl rfl Try.func82 (by kernel_rfl) rfl #[.int .i64 (wrap64 (a0 - 1)),.int .u64 t102,.int .u64 t104] rfl (by (try simp only [List.map_toArray,List.map_cons,List.map_nil]);first|done|rfl|(simp only [List.length_drop,List.length_take];rfl)) ?_;(with_reducible refine (ih kj3 (by have:=HJ3.out;omega) (wrap64 (a0 - 1)) t102 t104 t106 _ A11.out).mono ?_);rintro e w' ⟨rfl,⟨nd,rfl⟩⟩;refine ⟨_,rfl,?_⟩)|((with_reducible refine zq (f:=82) rfl ?_);refine goesL_ (some 58) rfl rfl Try.func82 (by kernel_rfl) rfl #[.int .i64 (wrap64 (a0 - 1)),.int .u64 (Go.bits .xor .u64 t101 t102),.int .u64 (Go.bits .xor .u64 t103 t104)] rfl (by (try simp only [List.map_toArray,List.map_cons,List.map_nil]);first|done|rfl|(simp only [List.length_drop,List.length_take];rfl)) ?_;(with_reducible refine (ih kj3 (by have:=HJ3.out;omega) (wrap64 (a0 - 1)) (Go.bits .xor .u64 t101 t102) (Go.bits .xor .u64 t103 t104) t107 _ A12.out).mono ?_);rintro e w' ⟨rfl,⟨nd,rfl⟩⟩;refine ⟨_,rfl,?_⟩)|((with_reducible refine zq (f:=83) rfl ?_);refine goesL_ (some 68) rfl rfl Try.func83 (by kernel_rfl) rfl #[.int .i64 (wrap64 (a0 - 1)),.int .u64 t105] rfl (by (try simp only [List.map_toArray,List.map_cons,List.map_nil]);first|done|rfl|(simp only [List.length_drop,List.length_take];rfl)) ?_;(with_reducible refine (zJ.calls kj3 (wrap64 (a0 - 1)) t105 t108 _ A13.out).mono ?_);rintro e w' ⟨rfl,⟨nd,rfl⟩⟩;refine ⟨_,rfl,?_⟩)|((with_reducible refine zq (f:=97) rfl ?_);refine goesL_ (some 73) rfl rfl Try.func97 (by kernel_rfl) rfl #[.int .i64 a0,.int .u64 (Go.bits .xor .u64 (Go.bits .xor .u64 (Go.bits .xor .u64 t107 t105) t106) t108),.int .u64 (Go.bits .xor .u64 t106 t105)] rfl (by (try simp only [List.map_toArray,List.map_cons,List.map_nil]);first|done|rfl|(simp only [List.length_drop,List.length_take];rfl)) ?_;(with_reducible refine (z1b.calls a0 (Go.bits .xor .u64 (Go.bits .xor .u64 (Go.bits .xor .u64 t107 t105) t106) t108) (Go.bits .xor .u64 t106 t105) t109 _ A14.out).mono ?_);rintro e w' ⟨rfl,⟨nd,rfl⟩⟩;refine ⟨_,rfl,?_⟩))
   go_ret
   exact ⟨by first|rfl|(simp;done)|(simp [*];done),by repeat (first|exact Drawn0.refl _|apply Drawn0.step)⟩
end Go.Proofs.Ytngcaphdkgihmaa.P
namespace Go.Proofs.Ytngcaphdkgihmaa.P
open Go.RowKit Go.Proofs.YtngcaphdkgihmaaW.PrintWords Go.Proofs.YtngcaphdkgihmaaW.PrintLast Go.Proofs.YtngcaphdkgihmaaW.PrintMore
attribute [local go_sem] zU zW z15 z16 zQ zR zV zX   -- for this text's walks alone
set_option linter.unusedVariables false
set_option linter.unusedSimpArgs false
def zZ.j0 : Nat → Int → Bool → Int → Int → Int → Int → Option (Int × Int)
 | 0,_,_,_,_,_,_=>none
 | k + 1,x0,x10,x102000,x102001,x103000,x103001=>if x10 = true then (some (0,0)) else (if x0 ≤ 6 then ((zy.f k x0 x102001 x103001).bind fun t106=>(some (0,t106))) else ((zy.f k 6 x102000 x103000).bind fun t107=>((zy.f k 6 x102001 x103001).bind fun t108=>((zy.f k 6 (Go.bits .xor .u64 x102000 x102001) (Go.bits .xor .u64 x103000 x103001)).bind fun t109=>((zJ.f k 6 t107).bind fun t110=>(some (Go.bits .xor .u64 (Go.bits .xor .u64 (Go.bits .xor .u64 t109 t107) t108) t110,Go.bits .xor .u64 t108 t107)))))))
def zZ.f (k : Nat) (a0 : Int) (a1_0 : Int) (a1_1 : Int) (a2_0 : Int) (a2_1 : Int) : Option (Int × Int):=(zL.f k a0 a1_0 a1_1).bind fun t104=>(if t104 = true then ((zL.f k a0 a2_0 a2_1).bind fun t105=>(zZ.j0 k a0 (!t105) a1_0 a1_1 a2_0 a2_1)) else (zZ.j0 k a0 true a1_0 a1_1 a2_0 a2_1))
theorem zZ.z12 : ∀ k,(∀ y0 y1 y2 y3 y4 y5,LeO (zZ.j0 k y0 y1 y2 y3 y4 y5) (zZ.j0 (k + 1) y0 y1 y2 y3 y4 y5))
 | 0=>fun _ _ _ _ _ _ r h=>by simp [zZ.j0] at h
 | k + 1=>by
  have ih0:=zZ.z12 k
  · intro y0 y1 y2 y3 y4 y5
    unfold zZ.j0
    repeat' first
    | (with_reducible exact ih0 _ _ _ _ _ _)
    | (with_reducible exact zL.mono _ _ _ _)
    | (with_reducible exact zy.mono _ _ _ _)
    | (with_reducible exact zJ.mono _ _ _)
    | (with_reducible exact LeO.refl _)
    | (with_reducible exact LeO.none _)
    | (with_reducible refine LeO.ite ?_ ?_)
    | (with_reducible refine LeO.bind ?_ (fun _=>?_))
    | exact ih0 _ _ _ _ _ _
    | exact zL.mono _ _ _ _
    | exact zy.mono _ _ _ _
    | exact zJ.mono _ _ _
    | exact LeO.none _
    | refine LeO.ite ?_ ?_
    | refine LeO.bind ?_ (fun _=>?_)
theorem zZ.mono : ∀ a0 a1 a2 a3 a4 k,LeO (zZ.f k a0 a1 a2 a3 a4) (zZ.f (k + 1) a0 a1 a2 a3 a4):=by
 intro a0 a1 a2 a3 a4 k
 have ih0:=zZ.z12 k
 unfold zZ.f
 repeat' first
  | (with_reducible exact ih0 _ _ _ _ _ _)
  | (with_reducible exact zL.mono _ _ _ _)
  | (with_reducible exact zy.mono _ _ _ _)
  | (with_reducible exact zJ.mono _ _ _)
  | (with_reducible exact LeO.refl _)
  | (with_reducible exact LeO.none _)
  | (with_reducible refine LeO.ite ?_ ?_)
  | (with_reducible refine LeO.bind ?_ (fun _=>?_))
  | exact ih0 _ _ _ _ _ _
  | exact zL.mono _ _ _ _
  | exact zy.mono _ _ _ _
  | exact zJ.mono _ _ _
  | exact LeO.none _
  | refine LeO.ite ?_ ?_
  | refine LeO.bind ?_ (fun _=>?_)
set_option maxHeartbeats 8000000 in
set_option maxRecDepth 100000 in
theorem zZ.calls (k : Nat) (a0 : Int) (a1_0 : Int) (a1_1 : Int) (a2_0 : Int) (a2_1 : Int) (r1 : Int) (r2 : Int) (w : World) (h : zZ.f k a0 a1_0 a1_1 a2_0 a2_1 = some (r1,r2)) :
 Calls Try.prog 41 #[.int .i64 a0,.agg #[.int .u64 a1_0,.int .u64 a1_1],.agg #[.int .u64 a2_0,.int .u64 a2_1]] w fun e w'=>e = .returned (.agg #[.int .u64 r1,.int .u64 r2]) ∧ Below w.heap.size w w':=by
 have hu51:=Try.underlying51
 have HB:=z3.mk (Below.refl w.heap.size w)
 have H : ((zL.f k a0 a1_0 a1_1).bind fun t104=>(if t104 = true then ((zL.f k a0 a2_0 a2_1).bind fun t105=>(zZ.j0 k a0 (!t105) a1_0 a1_1 a2_0 a2_1)) else (zZ.j0 k a0 true a1_0 a1_1 a2_0 a2_1))) = some (r1,r2):=h
 clear h
 have HC4:=z3.mk H
 clear H
 go_enter Try.func41,Try.ntmps41
 go_upto_region 1 with (first|((with_reducible refine zA (N:=4) rfl ?_);refine zB ?hg (N:=4) ?hd (cs:=#[.int .u64 a1_0,.int .u64 a1_1]) (t:=51) ?hr ?_;(case hd=>rfl);(case hg=>rfl);(case hr=>first|(go_simp;done)|(go_simp;rfl));intro gb101 hg w5 hbox hb;have n0_:=z3.mk (za (by repeat (first|(with_reducible first|exact HB.out|apply z2|apply z0|apply z1)|exact HB.out)) hb);have n1_:=z3.mk (hbox);have n2_:=z3.mk ((by rw [hg];exact (zc (by repeat (first|(with_reducible first|exact HB.out|apply z2|apply z0|apply z1)|exact HB.out))) : w.heap.size ≤ gb101));have n3_:=z3.mk ((by rw [hg];exact (zc (by repeat (first|(with_reducible first|exact HB.out|apply z2|apply z0|apply z1)|exact HB.out))) : w.heap.size ≤ gb101));clear HB;have HB:=n0_;have BK101:=n1_;have GW101:=n2_;have GE101:=n3_;clear n0_ n1_ n2_ n3_;clear hb hbox hg)|((with_reducible refine zA (N:=5) rfl ?_);refine zB ?hg (N:=5) ?hd (cs:=#[.int .u64 a2_0,.int .u64 a2_1]) (t:=51) ?hr ?_;(case hd=>rfl);(case hg=>rfl);(case hr=>first|(go_simp;done)|(go_simp;rfl));intro gb102 hg w6 hbox hb;have n0_:=z3.mk (zk (g:=gb101) (o:=.cells #[.int .u64 a1_0,.int .u64 a1_1] 51 (0,0)) (by (with_reducible repeat (first|refine z5 ?_ _|refine z7 ?_|refine z4 ?_ _));exact BK101.out) hb);have n1_:=z3.mk (za (by repeat (first|(with_reducible first|exact HB.out|apply z2|apply z0|apply z1|refine z6 ?_ GE101.out)|exact HB.out)) hb);have n2_:=z3.mk (hbox);have n3_:=z3.mk ((by rw [hg];exact (zc (by repeat (first|(with_reducible first|exact HB.out|apply z2|apply z0|apply z1|refine z6 ?_ GE101.out)|exact HB.out))) : w.heap.size ≤ gb102));have n4_:=z3.mk ((by rw [hg];exact (zc (by repeat (first|(with_reducible first|exact HB.out|apply z2|apply z0|apply z1|refine z6 ?_ GE101.out)|exact HB.out))) : w.heap.size ≤ gb102));have n5_:=z3.mk ((by rw [hg];exact Nat.ne_of_lt (zS (g:=gb101) (o:=.cells #[.int .u64 a1_0,.int .u64 a1_1] 51 (0,0)) (by (with_reducible repeat (first|refine z5 ?_ _|refine z7 ?_|refine z4 ?_ _));exact BK101.out)) : gb101 ≠ gb102));have n6_:=z3.mk ((by rw [hg];exact Nat.ne_of_gt (zS (g:=gb101) (o:=.cells #[.int .u64 a1_0,.int .u64 a1_1] 51 (0,0)) (by (with_reducible repeat (first|refine z5 ?_ _|refine z7 ?_|refine z4 ?_ _));exact BK101.out)) : gb102 ≠ gb101));clear BK101;clear HB;have BK101:=n0_;have HB:=n1_;have BK102:=n2_;have GW102:=n3_;have GE102:=n4_;have NB101_102:=n5_;have NB102_101:=n6_;clear n0_ n1_ n2_ n3_ n4_ n5_ n6_;clear hb hbox hg)|((with_reducible refine zA (N:=6) rfl ?_);refine zB ?hg (N:=6) ?hd (cs:=#[.int .u64 0,.int .u64 0]) (t:=51) ?hr ?_;(case hd=>rfl);(case hg=>rfl);(case hr=>first|(go_simp;done)|(go_simp;rfl));intro gb103 hg w7 hbox hb;have n0_:=z3.mk (zk (g:=gb101) (o:=.cells #[.int .u64 a1_0,.int .u64 a1_1] 51 (0,0)) (by (with_reducible repeat (first|refine z5 ?_ _|refine z7 ?_|refine z4 ?_ _));exact BK101.out) hb);have n1_:=z3.mk (zk (g:=gb102) (o:=.cells #[.int .u64 a2_0,.int .u64 a2_1] 51 (0,0)) (by (with_reducible repeat (first|refine z5 ?_ _|refine z7 ?_|refine z4 ?_ _));exact BK102.out) hb);have n2_:=z3.mk (za (by repeat (first|(with_reducible first|exact HB.out|apply z2|apply z0|apply z1|refine z6 ?_ GE101.out|refine z6 ?_ GE102.out)|exact HB.out)) hb);have n3_:=z3.mk (hbox);have n4_:=z3.mk ((by rw [hg];exact (zc (by repeat (first|(with_reducible first|exact HB.out|apply z2|apply z0|apply z1|refine z6 ?_ GE101.out|refine z6 ?_ GE102.out)|exact HB.out))) : w.heap.size ≤ gb103));have n5_:=z3.mk ((by rw [hg];exact (zc (by repeat (first|(with_reducible first|exact HB.out|apply z2|apply z0|apply z1|refine z6 ?_ GE101.out|refine z6 ?_ GE102.out)|exact HB.out))) : w.heap.size ≤ gb103));have n6_:=z3.mk ((by rw [hg];exact Nat.ne_of_lt (zS (g:=gb101) (o:=.cells #[.int .u64 a1_0,.int .u64 a1_1] 51 (0,0)) (by (with_reducible repeat (first|refine z5 ?_ _|refine z7 ?_|refine z4 ?_ _));exact BK101.out)) : gb101 ≠ gb103));have n7_:=z3.mk ((by rw [hg];exact Nat.ne_of_gt (zS (g:=gb101) (o:=.cells #[.int .u64 a1_0,.int .u64 a1_1] 51 (0,0)) (by (with_reducible repeat (first|refine z5 ?_ _|refine z7 ?_|refine z4 ?_ _));exact BK101.out)) : gb103 ≠ gb101));have n8_:=z3.mk ((by rw [hg];exact Nat.ne_of_lt (zS (g:=gb102) (o:=.cells #[.int .u64 a2_0,.int .u64 a2_1] 51 (0,0)) (by (with_reducible repeat (first|refine z5 ?_ _|refine z7 ?_|refine z4 ?_ _));exact BK102.out)) : gb102 ≠ gb103));have n9_:=z3.mk ((by rw [hg];exact Nat.ne_of_gt (zS (g:=gb102) (o:=.cells #[.int .u64 a2_0,.int .u64 a2_1] 51 (0,0)) (by (with_reducible repeat (first|refine z5 ?_ _|refine z7 ?_|refine z4 ?_ _));exact BK102.out)) : gb103 ≠ gb102));clear BK101;clear BK102;clear HB;have BK101:=n0_;have BK102:=n1_;have HB:=n2_;have BK103:=n3_;have GW103:=n4_;have GE103:=n5_;have NB101_103:=n6_;have NB103_101:=n7_;have NB102_103:=n8_;have NB103_102:=n9_;clear n0_ n1_ n2_ n3_ n4_ n5_ n6_ n7_ n8_ n9_;clear hb hbox hg))
 repeat (go_quiet (first|((with_reducible refine zA (N:=4) rfl ?_);refine zB ?hg (N:=4) ?hd (cs:=#[.int .u64 a1_0,.int .u64 a1_1]) (t:=51) ?hr ?_;(case hd=>rfl);(case hg=>rfl);(case hr=>first|(go_simp;done)|(go_simp;rfl));intro gb101 hg w5 hbox hb;have n0_:=z3.mk (za (by repeat (first|(with_reducible first|exact HB.out|apply z2|apply z0|apply z1)|exact HB.out)) hb);have n1_:=z3.mk (hbox);have n2_:=z3.mk ((by rw [hg];exact (zc (by repeat (first|(with_reducible first|exact HB.out|apply z2|apply z0|apply z1)|exact HB.out))) : w.heap.size ≤ gb101));have n3_:=z3.mk ((by rw [hg];exact (zc (by repeat (first|(with_reducible first|exact HB.out|apply z2|apply z0|apply z1)|exact HB.out))) : w.heap.size ≤ gb101));clear HB;have HB:=n0_;have BK101:=n1_;have GW101:=n2_;have GE101:=n3_;clear n0_ n1_ n2_ n3_;clear hb hbox hg)|((with_reducible refine zA (N:=5) rfl ?_);refine zB ?hg (N:=5) ?hd (cs:=#[.int .u64 a2_0,.int .u64 a2_1]) (t:=51) ?hr ?_;(case hd=>rfl);(case hg=>rfl);(case hr=>first|(go_simp;done)|(go_simp;rfl));intro gb102 hg w6 hbox hb;have n0_:=z3.mk (zk (g:=gb101) (o:=.cells #[.int .u64 a1_0,.int .u64 a1_1] 51 (0,0)) (by (with_reducible repeat (first|refine z5 ?_ _|refine z7 ?_|refine z4 ?_ _));exact BK101.out) hb);have n1_:=z3.mk (za (by repeat (first|(with_reducible first|exact HB.out|apply z2|apply z0|apply z1|refine z6 ?_ GE101.out)|exact HB.out)) hb);have n2_:=z3.mk (hbox);have n3_:=z3.mk ((by rw [hg];exact (zc (by repeat (first|(with_reducible first|exact HB.out|apply z2|apply z0|apply z1|refine z6 ?_ GE101.out)|exact HB.out))) : w.heap.size ≤ gb102));have n4_:=z3.mk ((by rw [hg];exact (zc (by repeat (first|(with_reducible first|exact HB.out|apply z2|apply z0|apply z1|refine z6 ?_ GE101.out)|exact HB.out))) : w.heap.size ≤ gb102));have n5_:=z3.mk ((by rw [hg];exact Nat.ne_of_lt (zS (g:=gb101) (o:=.cells #[.int .u64 a1_0,.int .u64 a1_1] 51 (0,0)) (by (with_reducible repeat (first|refine z5 ?_ _|refine z7 ?_|refine z4 ?_ _));exact BK101.out)) : gb101 ≠ gb102));have n6_:=z3.mk ((by rw [hg];exact Nat.ne_of_gt (zS (g:=gb101) (o:=.cells #[.int .u64 a1_0,.int .u64 a1_1] 51 (0,0)) (by (with_reducible repeat (first|refine z5 ?_ _|refine z7 ?_|refine z4 ?_ _));exact BK101.out)) : gb102 ≠ gb101));clear BK101;clear HB;have BK101:=n0_;have HB:=n1_;have BK102:=n2_;have GW102:=n3_;have GE102:=n4_;have NB101_102:=n5_;have NB102_101:=n6_;clear n0_ n1_ n2_ n3_ n4_ n5_ n6_;clear hb hbox hg)|((with_reducible refine zA (N:=6) rfl ?_);refine zB ?hg (N:=6) ?hd (cs:=#[.int .u64 0,.int .u64 0]) (t:=51) ?hr ?_;(case hd=>rfl);(case hg=>rfl);(case hr=>first|(go_simp;done)|(go_simp;rfl));intro gb103 hg w7 hbox hb;have n0_:=z3.mk (zk (g:=gb101) (o:=.cells #[.int .u64 a1_0,.int .u64 a1_1] 51 (0,0)) (by (with_reducible repeat (first|refine z5 ?_ _|refine z7 ?_|refine z4 ?_ _));exact BK101.out) hb);have n1_:=z3.mk (zk (g:=gb102) (o:=.cells #[.int .u64 a2_0,.int .u64 a2_1] 51 (0,0)) (by (with_reducible repeat (first|refine z5 ?_ _|refine z7 ?_|refine z4 ?_ _));exact BK102.out) hb);have n2_:=z3.mk (za (by repeat (first|(with_reducible first|exact HB.out|apply z2|apply z0|apply z1|refine z6 ?_ GE101.out|refine z6 ?_ GE102.out)|exact HB.out)) hb);have n3_:=z3.mk (hbox);have n4_:=z3.mk ((by rw [hg];exact (zc (by repeat (first|(with_reducible first|exact HB.out|apply z2|apply z0|apply z1|refine z6 ?_ GE101.out|refine z6 ?_ GE102.out)|exact HB.out))) : w.heap.size ≤ gb103));have n5_:=z3.mk ((by rw [hg];exact (zc (by repeat (first|(with_reducible first|exact HB.out|apply z2|apply z0|apply z1|refine z6 ?_ GE101.out|refine z6 ?_ GE102.out)|exact HB.out))) : w.heap.size ≤ gb103));have n6_:=z3.mk ((by rw [hg];exact Nat.ne_of_lt (zS (g:=gb101) (o:=.cells #[.int .u64 a1_0,.int .u64 a1_1] 51 (0,0)) (by (with_reducible repeat (first|refine z5 ?_ _|refine z7 ?_|refine z4 ?_ _));exact BK101.out)) : gb101 ≠ gb103));have n7_:=z3.mk ((by rw [hg];exact Nat.ne_of_gt (zS (g:=gb101) (o:=.cells #[.int .u64 a1_0,.int .u64 a1_1] 51 (0,0)) (by (with_reducible repeat (first|refine z5 ?_ _|refine z7 ?_|refine z4 ?_ _));exact BK101.out)) : gb103 ≠ gb101));have n8_:=z3.mk ((by rw [hg];exact Nat.ne_of_lt (zS (g:=gb102) (o:=.cells #[.int .u64 a2_0,.int .u64 a2_1] 51 (0,0)) (by (with_reducible repeat (first|refine z5 ?_ _|refine z7 ?_|refine z4 ?_ _));exact BK102.out)) : gb102 ≠ gb103));have n9_:=z3.mk ((by rw [hg];exact Nat.ne_of_gt (zS (g:=gb102) (o:=.cells #[.int .u64 a2_0,.int .u64 a2_1] 51 (0,0)) (by (with_reducible repeat (first|refine z5 ?_ _|refine z7 ?_|refine z4 ?_ _));exact BK102.out)) : gb103 ≠ gb102));clear BK101;clear BK102;clear HB;have BK101:=n0_;have BK102:=n1_;have HB:=n2_;have BK103:=n3_;have GW103:=n4_;have GE103:=n5_;have NB101_103:=n6_;have NB103_101:=n7_;have NB102_103:=n8_;have NB103_102:=n9_;clear n0_ n1_ n2_ n3_ n4_ n5_ n6_ n7_ n8_ n9_;clear hb hbox hg));go_upto_region 1 with (first|((with_reducible refine zA (N:=4) rfl ?_);refine zB ?hg (N:=4) ?hd (cs:=#[.int .u64 a1_0,.int .u64 a1_1]) (t:=51) ?hr ?_;(case hd=>rfl);(case hg=>rfl);(case hr=>first|(go_simp;done)|(go_simp;rfl));intro gb101 hg w5 hbox hb;have n0_:=z3.mk (za (by repeat (first|(with_reducible first|exact HB.out|apply z2|apply z0|apply z1)|exact HB.out)) hb);have n1_:=z3.mk (hbox);have n2_:=z3.mk ((by rw [hg];exact (zc (by repeat (first|(with_reducible first|exact HB.out|apply z2|apply z0|apply z1)|exact HB.out))) : w.heap.size ≤ gb101));have n3_:=z3.mk ((by rw [hg];exact (zc (by repeat (first|(with_reducible first|exact HB.out|apply z2|apply z0|apply z1)|exact HB.out))) : w.heap.size ≤ gb101));clear HB;have HB:=n0_;have BK101:=n1_;have GW101:=n2_;have GE101:=n3_;clear n0_ n1_ n2_ n3_;clear hb hbox hg)|((with_reducible refine zA (N:=5) rfl ?_);refine zB ?hg (N:=5) ?hd (cs:=#[.int .u64 a2_0,.int .u64 a2_1]) (t:=51) ?hr ?_;(case hd=>rfl);(case hg=>rfl);(case hr=>first|(go_simp;done)|(go_simp;rfl));intro gb102 hg w6 hbox hb;have n0_:=z3.mk (zk (g:=gb101) (o:=.cells #[.int .u64 a1_0,.int .u64 a1_1] 51 (0,0)) (by (with_reducible repeat (first|refine z5 ?_ _|refine z7 ?_|refine z4 ?_ _));exact BK101.out) hb);have n1_:=z3.mk (za (by repeat (first|(with_reducible first|exact HB.out|apply z2|apply z0|apply z1|refine z6 ?_ GE101.out)|exact HB.out)) hb);have n2_:=z3.mk (hbox);have n3_:=z3.mk ((by rw [hg];exact (zc (by repeat (first|(with_reducible first|exact HB.out|apply z2|apply z0|apply z1|refine z6 ?_ GE101.out)|exact HB.out))) : w.heap.size ≤ gb102));have n4_:=z3.mk ((by rw [hg];exact (zc (by repeat (first|(with_reducible first|exact HB.out|apply z2|apply z0|apply z1|refine z6 ?_ GE101.out)|exact HB.out))) : w.heap.size ≤ gb102));have n5_:=z3.mk ((by rw [hg];exact Nat.ne_of_lt (zS (g:=gb101) (o:=.cells #[.int .u64 a1_0,.int .u64 a1_1] 51 (0,0)) (by (with_reducible repeat (first|refine z5 ?_ _|refine z7 ?_|refine z4 ?_ _));exact BK101.out)) : gb101 ≠ gb102));have n6_:=z3.mk ((by rw [hg];exact Nat.ne_of_gt (zS (g:=gb101) (o:=.cells #[.int .u64 a1_0,.int .u64 a1_1] 51 (0,0)) (by (with_reducible repeat (first|refine z5 ?_ _|refine z7 ?_|refine z4 ?_ _));exact BK101.out)) : gb102 ≠ gb101));clear BK101;clear HB;have BK101:=n0_;have HB:=n1_;have BK102:=n2_;have GW102:=n3_;have GE102:=n4_;have NB101_102:=n5_;have NB102_101:=n6_;clear n0_ n1_ n2_ n3_ n4_ n5_ n6_;clear hb hbox hg)|((with_reducible refine zA (N:=6) rfl ?_);refine zB ?hg (N:=6) ?hd (cs:=#[.int .u64 0,.int .u64 0]) (t:=51) ?hr ?_;(case hd=>rfl);(case hg=>rfl);(case hr=>first|(go_simp;done)|(go_simp;rfl));intro gb103 hg w7 hbox hb;have n0_:=z3.mk (zk (g:=gb101) (o:=.cells #[.int .u64 a1_0,.int .u64 a1_1] 51 (0,0)) (by (with_reducible repeat (first|refine z5 ?_ _|refine z7 ?_|refine z4 ?_ _));exact BK101.out) hb);have n1_:=z3.mk (zk (g:=gb102) (o:=.cells #[.int .u64 a2_0,.int .u64 a2_1] 51 (0,0)) (by (with_reducible repeat (first|refine z5 ?_ _|refine z7 ?_|refine z4 ?_ _));exact BK102.out) hb);have n2_:=z3.mk (za (by repeat (first|(with_reducible first|exact HB.out|apply z2|apply z0|apply z1|refine z6 ?_ GE101.out|refine z6 ?_ GE102.out)|exact HB.out)) hb);have n3_:=z3.mk (hbox);have n4_:=z3.mk ((by rw [hg];exact (zc (by repeat (first|(with_reducible first|exact HB.out|apply z2|apply z0|apply z1|refine z6 ?_ GE101.out|refine z6 ?_ GE102.out)|exact HB.out))) : w.heap.size ≤ gb103));have n5_:=z3.mk ((by rw [hg];exact (zc (by repeat (first|(with_reducible first|exact HB.out|apply z2|apply z0|apply z1|refine z6 ?_ GE101.out|refine z6 ?_ GE102.out)|exact HB.out))) : w.heap.size ≤ gb103));have n6_:=z3.mk ((by rw [hg];exact Nat.ne_of_lt (zS (g:=gb101) (o:=.cells #[.int .u64 a1_0,.int .u64 a1_1] 51 (0,0)) (by (with_reducible repeat (first|refine z5 ?_ _|refine z7 ?_|refine z4 ?_ _));exact BK101.out)) : gb101 ≠ gb103));have n7_:=z3.mk ((by rw [hg];exact Nat.ne_of_gt (zS (g:=gb101) (o:=.cells #[.int .u64 a1_0,.int .u64 a1_1] 51 (0,0)) (by (with_reducible repeat (first|refine z5 ?_ _|refine z7 ?_|refine z4 ?_ _));exact BK101.out)) : gb103 ≠ gb101));have n8_:=z3.mk ((by rw [hg];exact Nat.ne_of_lt (zS (g:=gb102) (o:=.cells #[.int .u64 a2_0,.int .u64 a2_1] 51 (0,0)) (by (with_reducible repeat (first|refine z5 ?_ _|refine z7 ?_|refine z4 ?_ _));exact BK102.out)) : gb102 ≠ gb103));have n9_:=z3.mk ((by rw [hg];exact Nat.ne_of_gt (zS (g:=gb102) (o:=.cells #[.int .u64 a2_0,.int .u64 a2_1] 51 (0,0)) (by (with_reducible repeat (first|refine z5 ?_ _|refine z7 ?_|refine z4 ?_ _));exact BK102.out)) : gb103 ≠ gb102));clear BK101;clear BK102;clear HB;have BK101:=n0_;have BK102:=n1_;have HB:=n2_;have BK103:=n3_;have GW103:=n4_;have GE103:=n5_;have NB101_103:=n6_;have NB103_101:=n7_;have NB102_103:=n8_;have NB103_102:=n9_;clear n0_ n1_ n2_ n3_ n4_ n5_ n6_ n7_ n8_ n9_;clear hb hbox hg)))
 (try simp only [Act.put,List.setIfInBounds_toArray,List.set_cons_zero,List.set_cons_succ])
 go_cut [10] (fun v10 wc=>∃ (kq : Nat) (x10_3 : Bool),v10 = .bool x10_3 ∧ z3 (zZ.j0 kq a0 x10_3 a1_0 a1_1 a2_0 a2_1 = some (r1,r2)) ∧ z3 (kq ≤ k) ∧ z3 (wc.heap[gb101]? = some (.cells #[.int .u64 a1_0,.int .u64 a1_1] 51 (0,0))) ∧ z3 (wc.heap[gb102]? = some (.cells #[.int .u64 a2_0,.int .u64 a2_1] 51 (0,0))) ∧ z3 (wc.heap[gb103]? = some (.cells #[.int .u64 0,.int .u64 0] 51 (0,0))) ∧ z3 (Below w.heap.size w wc))
 case first =>
  have H:=HC4.out
  clear HC4
  replace H:=Option.bind_eq_some_iff.mp H
  obtain ⟨t104,A80,H⟩:=H
  replace H : (if t104 = true then ((zL.f k a0 a2_0 a2_1).bind fun t105=>(zZ.j0 k a0 (!t105) a1_0 a1_1 a2_0 a2_1)) else (zZ.j0 k a0 true a1_0 a1_1 a2_0 a2_1)) = some (r1,r2):=H
  have A8:=z3.mk A80
  clear A80
  by_cases c9 : t104 = true
  rotate_left
  · replace c9:=Bool.eq_false_iff.mpr c9
    subst c9
    have H1 : (zZ.j0 k a0 true a1_0 a1_1 a2_0 a2_1) = some (r1,r2):=by rw [if_neg (show ¬ (false = true) by decide)] at H;exact H
    clear H
    have H:=H1
    clear H1
    have H':=z3.mk H
    clear H
    have hnb18:=NB101_102.out
    have hnc18:=NB102_101.out
    have hnb19:=NB101_103.out
    have hnc19:=NB103_101.out
    have hcz20_0 : w7.cell? ⟨gb101,0,none⟩ = some (.int .u64 a1_0):=(ze BK101.out 0).trans rfl
    have hcz20_1 : w7.cell? ⟨gb101,1,none⟩ = some (.int .u64 a1_1):=(ze BK101.out 1).trans rfl
    have hfz20_0:=zd BK101.out 0
    have hfz20_1:=zd BK101.out 1
    go_wp2_with (first|(go_at_call 67;(with_reducible refine (zL.calls k a0 a1_0 a1_1 false _ A8.out).mono ?_);rintro e w21 ⟨rfl,hb⟩;have n0_:=z3.mk (zk (g:=gb101) (o:=.cells #[.int .u64 a1_0,.int .u64 a1_1] 51 (0,0)) (by (with_reducible repeat (first|refine z5 ?_ _|refine z7 ?_|refine z4 ?_ _));exact BK101.out) hb);have n1_:=z3.mk (zk (g:=gb102) (o:=.cells #[.int .u64 a2_0,.int .u64 a2_1] 51 (0,0)) (by (with_reducible repeat (first|refine z5 ?_ _|refine z7 ?_|refine z4 ?_ _));exact BK102.out) hb);have n2_:=z3.mk (zk (g:=gb103) (o:=.cells #[.int .u64 0,.int .u64 0] 51 (0,0)) (by (with_reducible repeat (first|refine z5 ?_ _|refine z7 ?_|refine z4 ?_ _));exact BK103.out) hb);have n3_:=z3.mk (za (by repeat (first|(with_reducible first|exact HB.out|apply z2|apply z0|apply z1|refine z6 ?_ GE101.out|refine z6 ?_ GE102.out|refine z6 ?_ GE103.out)|exact HB.out)) hb);clear BK101;clear BK102;clear BK103;clear HB;have BK101:=n0_;have BK102:=n1_;have BK103:=n2_;have HB:=n3_;clear n0_ n1_ n2_ n3_;(try clear hb);(try clear hb2);(try clear hk);(try clear hi)))
    repeat (go_quiet (first|(go_at_call 67;(with_reducible refine (zL.calls k a0 a1_0 a1_1 false _ A8.out).mono ?_);rintro e w21 ⟨rfl,hb⟩;have n0_:=z3.mk (zk (g:=gb101) (o:=.cells #[.int .u64 a1_0,.int .u64 a1_1] 51 (0,0)) (by (with_reducible repeat (first|refine z5 ?_ _|refine z7 ?_|refine z4 ?_ _));exact BK101.out) hb);have n1_:=z3.mk (zk (g:=gb102) (o:=.cells #[.int .u64 a2_0,.int .u64 a2_1] 51 (0,0)) (by (with_reducible repeat (first|refine z5 ?_ _|refine z7 ?_|refine z4 ?_ _));exact BK102.out) hb);have n2_:=z3.mk (zk (g:=gb103) (o:=.cells #[.int .u64 0,.int .u64 0] 51 (0,0)) (by (with_reducible repeat (first|refine z5 ?_ _|refine z7 ?_|refine z4 ?_ _));exact BK103.out) hb);have n3_:=z3.mk (za (by repeat (first|(with_reducible first|exact HB.out|apply z2|apply z0|apply z1|refine z6 ?_ GE101.out|refine z6 ?_ GE102.out|refine z6 ?_ GE103.out)|exact HB.out)) hb);clear BK101;clear BK102;clear BK103;clear HB;have BK101:=n0_;have BK102:=n1_;have BK103:=n2_;have HB:=n3_;clear n0_ n1_ n2_ n3_;(try clear hb);(try clear hb2);(try clear hk);(try clear hi)));try go_wp2_with (first|(go_at_call 67;(with_reducible refine (zL.calls k a0 a1_0 a1_1 false _ A8.out).mono ?_);rintro e w21 ⟨rfl,hb⟩;have n0_:=z3.mk (zk (g:=gb101) (o:=.cells #[.int .u64 a1_0,.int .u64 a1_1] 51 (0,0)) (by (with_reducible repeat (first|refine z5 ?_ _|refine z7 ?_|refine z4 ?_ _));exact BK101.out) hb);have n1_:=z3.mk (zk (g:=gb102) (o:=.cells #[.int .u64 a2_0,.int .u64 a2_1] 51 (0,0)) (by (with_reducible repeat (first|refine z5 ?_ _|refine z7 ?_|refine z4 ?_ _));exact BK102.out) hb);have n2_:=z3.mk (zk (g:=gb103) (o:=.cells #[.int .u64 0,.int .u64 0] 51 (0,0)) (by (with_reducible repeat (first|refine z5 ?_ _|refine z7 ?_|refine z4 ?_ _));exact BK103.out) hb);have n3_:=z3.mk (za (by repeat (first|(with_reducible first|exact HB.out|apply z2|apply z0|apply z1|refine z6 ?_ GE101.out|refine z6 ?_ GE102.out|refine z6 ?_ GE103.out)|exact HB.out)) hb);clear BK101;clear BK102;clear BK103;clear HB;have BK101:=n0_;have BK102:=n1_;have BK103:=n2_;have HB:=n3_;clear n0_ n1_ n2_ n3_;(try clear hb);(try clear hb2);(try clear hk);(try clear hi))))
    go_meet
    case rel=>exact ⟨_,(true),(by first|rfl|(simp;done)|(simp [*];done)),H',⟨by first|omega|exact Nat.le_refl _⟩,⟨by (with_reducible repeat (first|refine z5 ?_ _|refine z7 ?_|refine z4 ?_ _));exact BK101.out⟩,⟨by (with_reducible repeat (first|refine z5 ?_ _|refine z7 ?_|refine z4 ?_ _));exact BK102.out⟩,⟨by (with_reducible repeat (first|refine z5 ?_ _|refine z7 ?_|refine z4 ?_ _));exact BK103.out⟩,⟨by repeat (first|(with_reducible first|exact HB.out|apply z2|apply z0|apply z1|refine z6 ?_ GE101.out|refine z6 ?_ GE102.out|refine z6 ?_ GE103.out)|exact HB.out)⟩⟩
  subst c9
  have H1 : ((zL.f k a0 a2_0 a2_1).bind fun t105=>(zZ.j0 k a0 (!t105) a1_0 a1_1 a2_0 a2_1)) = some (r1,r2):=by rw [if_pos rfl] at H;exact H
  clear H
  have H:=H1
  clear H1
  replace H:=Option.bind_eq_some_iff.mp H
  obtain ⟨t105,A100,H⟩:=H
  replace H : (zZ.j0 k a0 (!t105) a1_0 a1_1 a2_0 a2_1) = some (r1,r2):=H
  have A10:=z3.mk A100
  clear A100
  have H':=z3.mk H
  clear H
  have hnb11:=NB101_102.out
  have hnc11:=NB102_101.out
  have hnb12:=NB101_103.out
  have hnc12:=NB103_101.out
  have hcz13_0 : w7.cell? ⟨gb101,0,none⟩ = some (.int .u64 a1_0):=(ze BK101.out 0).trans rfl
  have hcz13_1 : w7.cell? ⟨gb101,1,none⟩ = some (.int .u64 a1_1):=(ze BK101.out 1).trans rfl
  have hfz13_0:=zd BK101.out 0
  have hfz13_1:=zd BK101.out 1
  go_wp2_with (first|(go_at_call 67;(with_reducible refine (zL.calls k a0 a1_0 a1_1 true _ A8.out).mono ?_);rintro e w14 ⟨rfl,hb⟩;have n0_:=z3.mk (zk (g:=gb101) (o:=.cells #[.int .u64 a1_0,.int .u64 a1_1] 51 (0,0)) (by (with_reducible repeat (first|refine z5 ?_ _|refine z7 ?_|refine z4 ?_ _));exact BK101.out) hb);have n1_:=z3.mk (zk (g:=gb102) (o:=.cells #[.int .u64 a2_0,.int .u64 a2_1] 51 (0,0)) (by (with_reducible repeat (first|refine z5 ?_ _|refine z7 ?_|refine z4 ?_ _));exact BK102.out) hb);have n2_:=z3.mk (zk (g:=gb103) (o:=.cells #[.int .u64 0,.int .u64 0] 51 (0,0)) (by (with_reducible repeat (first|refine z5 ?_ _|refine z7 ?_|refine z4 ?_ _));exact BK103.out) hb);have n3_:=z3.mk (za (by repeat (first|(with_reducible first|exact HB.out|apply z2|apply z0|apply z1|refine z6 ?_ GE101.out|refine z6 ?_ GE102.out|refine z6 ?_ GE103.out)|exact HB.out)) hb);clear BK101;clear BK102;clear BK103;clear HB;have BK101:=n0_;have BK102:=n1_;have BK103:=n2_;have HB:=n3_;clear n0_ n1_ n2_ n3_;(try clear hb);(try clear hb2);(try clear hk);(try clear hi);have hnb15:=NB102_103.out;have hnc15:=NB103_102.out;have hcz16_0 : w14.cell? ⟨gb102,0,none⟩ = some (.int .u64 a2_0):=(ze BK102.out 0).trans rfl;have hcz16_1 : w14.cell? ⟨gb102,1,none⟩ = some (.int .u64 a2_1):=(ze BK102.out 1).trans rfl;have hfz16_0:=zd BK102.out 0;have hfz16_1:=zd BK102.out 1)|(go_at_call 67;(with_reducible refine (zL.calls k a0 a2_0 a2_1 t105 _ A10.out).mono ?_);rintro e w17 ⟨rfl,hb⟩;have n0_:=z3.mk (zk (g:=gb101) (o:=.cells #[.int .u64 a1_0,.int .u64 a1_1] 51 (0,0)) (by (with_reducible repeat (first|refine z5 ?_ _|refine z7 ?_|refine z4 ?_ _));exact BK101.out) hb);have n1_:=z3.mk (zk (g:=gb102) (o:=.cells #[.int .u64 a2_0,.int .u64 a2_1] 51 (0,0)) (by (with_reducible repeat (first|refine z5 ?_ _|refine z7 ?_|refine z4 ?_ _));exact BK102.out) hb);have n2_:=z3.mk (zk (g:=gb103) (o:=.cells #[.int .u64 0,.int .u64 0] 51 (0,0)) (by (with_reducible repeat (first|refine z5 ?_ _|refine z7 ?_|refine z4 ?_ _));exact BK103.out) hb);have n3_:=z3.mk (za (by repeat (first|(with_reducible first|exact HB.out|apply z2|apply z0|apply z1|refine z6 ?_ GE101.out|refine z6 ?_ GE102.out|refine z6 ?_ GE103.out)|exact HB.out)) hb);clear BK101;clear BK102;clear BK103;clear HB;have BK101:=n0_;have BK102:=n1_;have BK103:=n2_;have HB:=n3_;clear n0_ n1_ n2_ n3_;(try clear hb);(try clear hb2);(try clear hk);(try clear hi)))
  repeat (go_quiet (first|(go_at_call 67;(with_reducible refine (zL.calls k a0 a1_0 a1_1 true _ A8.out).mono ?_);rintro e w14 ⟨rfl,hb⟩;have n0_:=z3.mk (zk (g:=gb101) (o:=.cells #[.int .u64 a1_0,.int .u64 a1_1] 51 (0,0)) (by (with_reducible repeat (first|refine z5 ?_ _|refine z7 ?_|refine z4 ?_ _));exact BK101.out) hb);have n1_:=z3.mk (zk (g:=gb102) (o:=.cells #[.int .u64 a2_0,.int .u64 a2_1] 51 (0,0)) (by (with_reducible repeat (first|refine z5 ?_ _|refine z7 ?_|refine z4 ?_ _));exact BK102.out) hb);have n2_:=z3.mk (zk (g:=gb103) (o:=.cells #[.int .u64 0,.int .u64 0] 51 (0,0)) (by (with_reducible repeat (first|refine z5 ?_ _|refine z7 ?_|refine z4 ?_ _));exact BK103.out) hb);have n3_:=z3.mk (za (by repeat (first|(with_reducible first|exact HB.out|apply z2|apply z0|apply z1|refine z6 ?_ GE101.out|refine z6 ?_ GE102.out|refine z6 ?_ GE103.out)|exact HB.out)) hb);clear BK101;clear BK102;clear BK103;clear HB;have BK101:=n0_;have BK102:=n1_;have BK103:=n2_;have HB:=n3_;clear n0_ n1_ n2_ n3_;(try clear hb);(try clear hb2);(try clear hk);(try clear hi);have hnb15:=NB102_103.out;have hnc15:=NB103_102.out;have hcz16_0 : w14.cell? ⟨gb102,0,none⟩ = some (.int .u64 a2_0):=(ze BK102.out 0).trans rfl;have hcz16_1 : w14.cell? ⟨gb102,1,none⟩ = some (.int .u64 a2_1):=(ze BK102.out 1).trans rfl;have hfz16_0:=zd BK102.out 0;have hfz16_1:=zd BK102.out 1)|(go_at_call 67;(with_reducible refine (zL.calls k a0 a2_0 a2_1 t105 _ A10.out).mono ?_);rintro e w17 ⟨rfl,hb⟩;have n0_:=z3.mk (zk (g:=gb101) (o:=.cells #[.int .u64 a1_0,.int .u64 a1_1] 51 (0,0)) (by (with_reducible repeat (first|refine z5 ?_ _|refine z7 ?_|refine z4 ?_ _));exact BK101.out) hb);have n1_:=z3.mk (zk (g:=gb102) (o:=.cells #[.int .u64 a2_0,.int .u64 a2_1] 51 (0,0)) (by (with_reducible repeat (first|refine z5 ?_ _|refine z7 ?_|refine z4 ?_ _));exact BK102.out) hb);have n2_:=z3.mk (zk (g:=gb103) (o:=.cells #[.int .u64 0,.int .u64 0] 51 (0,0)) (by (with_reducible repeat (first|refine z5 ?_ _|refine z7 ?_|refine z4 ?_ _));exact BK103.out) hb);have n3_:=z3.mk (za (by repeat (first|(with_reducible first|exact HB.out|apply z2|apply z0|apply z1|refine z6 ?_ GE101.out|refine z6 ?_ GE102.out|refine z6 ?_ GE103.out)|exact HB.out)) hb);clear BK101;clear BK102;clear BK103;clear HB;have BK101:=n0_;have BK102:=n1_;have BK103:=n2_;have HB:=n3_;clear n0_ n1_ n2_ n3_;(try clear hb);(try clear hb2);(try clear hk);(try clear hi)));try go_wp2_with (first|(go_at_call 67;(with_reducible refine (zL.calls k a0 a1_0 a1_1 true _ A8.out).mono ?_);rintro e w14 ⟨rfl,hb⟩;have n0_:=z3.mk (zk (g:=gb101) (o:=.cells #[.int .u64 a1_0,.int .u64 a1_1] 51 (0,0)) (by (with_reducible repeat (first|refine z5 ?_ _|refine z7 ?_|refine z4 ?_ _));exact BK101.out) hb);have n1_:=z3.mk (zk (g:=gb102) (o:=.cells #[.int .u64 a2_0,.int .u64 a2_1] 51 (0,0)) (by (with_reducible repeat (first|refine z5 ?_ _|refine z7 ?_|refine z4 ?_ _));exact BK102.out) hb);have n2_:=z3.mk (zk (g:=gb103) (o:=.cells #[.int .u64 0,.int .u64 0] 51 (0,0)) (by (with_reducible repeat (first|refine z5 ?_ _|refine z7 ?_|refine z4 ?_ _));exact BK103.out) hb);have n3_:=z3.mk (za (by repeat (first|(with_reducible first|exact HB.out|apply z2|apply z0|apply z1|refine z6 ?_ GE101.out|refine z6 ?_ GE102.out|refine z6 ?_ GE103.out)|exact HB.out)) hb);clear BK101;clear BK102;clear BK103;clear HB;have BK101:=n0_;have BK102:=n1_;have BK103:=n2_;have HB:=n3_;clear n0_ n1_ n2_ n3_;(try clear hb);(try clear hb2);(try clear hk);(try clear hi);have hnb15:=NB102_103.out;have hnc15:=NB103_102.out;have hcz16_0 : w14.cell? ⟨gb102,0,none⟩ = some (.int .u64 a2_0):=(ze BK102.out 0).trans rfl;have hcz16_1 : w14.cell? ⟨gb102,1,none⟩ = some (.int .u64 a2_1):=(ze BK102.out 1).trans rfl;have hfz16_0:=zd BK102.out 0;have hfz16_1:=zd BK102.out 1)|(go_at_call 67;(with_reducible refine (zL.calls k a0 a2_0 a2_1 t105 _ A10.out).mono ?_);rintro e w17 ⟨rfl,hb⟩;have n0_:=z3.mk (zk (g:=gb101) (o:=.cells #[.int .u64 a1_0,.int .u64 a1_1] 51 (0,0)) (by (with_reducible repeat (first|refine z5 ?_ _|refine z7 ?_|refine z4 ?_ _));exact BK101.out) hb);have n1_:=z3.mk (zk (g:=gb102) (o:=.cells #[.int .u64 a2_0,.int .u64 a2_1] 51 (0,0)) (by (with_reducible repeat (first|refine z5 ?_ _|refine z7 ?_|refine z4 ?_ _));exact BK102.out) hb);have n2_:=z3.mk (zk (g:=gb103) (o:=.cells #[.int .u64 0,.int .u64 0] 51 (0,0)) (by (with_reducible repeat (first|refine z5 ?_ _|refine z7 ?_|refine z4 ?_ _));exact BK103.out) hb);have n3_:=z3.mk (za (by repeat (first|(with_reducible first|exact HB.out|apply z2|apply z0|apply z1|refine z6 ?_ GE101.out|refine z6 ?_ GE102.out|refine z6 ?_ GE103.out)|exact HB.out)) hb);clear BK101;clear BK102;clear BK103;clear HB;have BK101:=n0_;have BK102:=n1_;have BK103:=n2_;have HB:=n3_;clear n0_ n1_ n2_ n3_;(try clear hb);(try clear hb2);(try clear hk);(try clear hi))))
  go_meet
  case rel=>exact ⟨_,(!t105),(by first|rfl|(simp;done)|(simp [*];done)),H',⟨by first|omega|exact Nat.le_refl _⟩,⟨by (with_reducible repeat (first|refine z5 ?_ _|refine z7 ?_|refine z4 ?_ _));exact BK101.out⟩,⟨by (with_reducible repeat (first|refine z5 ?_ _|refine z7 ?_|refine z4 ?_ _));exact BK102.out⟩,⟨by (with_reducible repeat (first|refine z5 ?_ _|refine z7 ?_|refine z4 ?_ _));exact BK103.out⟩,⟨by repeat (first|(with_reducible first|exact HB.out|apply z2|apply z0|apply z1|refine z6 ?_ GE101.out|refine z6 ?_ GE102.out|refine z6 ?_ GE103.out)|exact HB.out)⟩⟩
 case rest =>
  clear HC4
  (try clear c1);(try clear p2);(try clear c4);(try clear c9);(try clear c11);(try clear c12);(try clear c15);(try clear c18);(try clear c19);(try clear hcz13_0);(try clear hcz13_1);(try clear hcz16_0);(try clear hcz16_1);(try clear hcz20_0);(try clear hcz20_1);(try clear hfz13_0);(try clear hfz13_1);(try clear hfz16_0);(try clear hfz16_1);(try clear hfz20_0);(try clear hfz20_1)
  obtain ⟨kq,x10_3,rfl,HA,HJ3,BK101,BK102,BK103,HB⟩:=hcut
  cases kq with
  | zero=>exact absurd HA.out (by simp [zZ.j0])
  | succ kj3 =>
   have H:=HA.out
   clear HA
   simp only [zZ.j0] at H
   by_cases c22 : x10_3 = true
   · subst c22
     have H1 : (some (0,0)) = some (r1,r2):=by rw [if_pos rfl] at H;exact H
     clear H
     have H:=H1
     clear H1
     simp only [Option.some.injEq,Prod.mk.injEq] at H
     obtain ⟨rfl,rfl⟩:=H
     have hnb23:=NB103_101.out
     have hnc23:=NB101_103.out
     have hnb24:=NB103_102.out
     have hnc24:=NB102_103.out
     have hcz25_0 : wc.cell? ⟨gb103,0,none⟩ = some (.int .u64 0):=(ze BK103.out 0).trans rfl
     have hcz25_1 : wc.cell? ⟨gb103,1,none⟩ = some (.int .u64 0):=(ze BK103.out 1).trans rfl
     have hfz25_0:=zd BK103.out 0
     have hfz25_1:=zd BK103.out 1
     go_wp2
     repeat (go_quiet (fail);try go_wp2)
     refine bodyPost_ret (results_cell_row rfl _ _ gb103 51 #[.int .u64 0,.int .u64 0] (0,0) _ rfl (by (with_reducible repeat (first|refine z5 ?_ _|refine z7 ?_|refine z4 ?_ _));refine zH (cs:=#[.int .u64 0,.int .u64 0]) ?_ 1 _ rfl;(with_reducible repeat (first|refine z5 ?_ _|refine z7 ?_|refine z4 ?_ _));refine zH (cs:=#[.int .u64 0,.int .u64 0]) ?_ 0 _ rfl;(with_reducible repeat (first|refine z5 ?_ _|refine z7 ?_|refine z4 ?_ _));exact BK103.out) Try.underlying51 rfl (by kernel_rfl)) rfl ?_
     exact ⟨by first|rfl|(simp [zf,zg] <;> rfl)|(simp [*,zf,zg] <;> rfl),by repeat (first|(with_reducible first|exact HB.out|apply z2|apply z0|apply z1|refine z6 ?_ GE101.out|refine z6 ?_ GE102.out|refine z6 ?_ GE103.out)|exact HB.out)⟩
   replace c22:=Bool.eq_false_iff.mpr c22
   subst c22
   have H1 : (if a0 ≤ 6 then ((zy.f kj3 a0 a1_1 a2_1).bind fun t106=>(some (0,t106))) else ((zy.f kj3 6 a1_0 a2_0).bind fun t107=>((zy.f kj3 6 a1_1 a2_1).bind fun t108=>((zy.f kj3 6 (Go.bits .xor .u64 a1_0 a1_1) (Go.bits .xor .u64 a2_0 a2_1)).bind fun t109=>((zJ.f kj3 6 t107).bind fun t110=>(some (Go.bits .xor .u64 (Go.bits .xor .u64 (Go.bits .xor .u64 t109 t107) t108) t110,Go.bits .xor .u64 t108 t107))))))) = some (r1,r2):=by rw [if_neg (show ¬ (false = true) by decide)] at H;exact H
   clear H
   have H:=H1
   clear H1
   by_cases c26 : a0 ≤ 6
   · rw [if_pos c26] at H
     have c26b0 : decide (a0 ≤ 6) = true:=decide_eq_true c26
     clear c26
     replace H:=Option.bind_eq_some_iff.mp H
     obtain ⟨t106,A270,H⟩:=H
     replace H : (some (0,t106)) = some (r1,r2):=H
     have A27:=z3.mk A270
     clear A270
     simp only [Option.some.injEq,Prod.mk.injEq] at H
     obtain ⟨rfl,rfl⟩:=H
     have hnb28:=NB101_102.out
     have hnc28:=NB102_101.out
     have hnb29:=NB101_103.out
     have hnc29:=NB103_101.out
     have hcz30_0 : wc.cell? ⟨gb101,0,none⟩ = some (.int .u64 a1_0):=(ze BK101.out 0).trans rfl
     have hcz30_1 : wc.cell? ⟨gb101,1,none⟩ = some (.int .u64 a1_1):=(ze BK101.out 1).trans rfl
     have hfz30_0:=zd BK101.out 0
     have hfz30_1:=zd BK101.out 1
     have hnb31:=NB102_103.out
     have hnc31:=NB103_102.out
     have hcz32_0 : wc.cell? ⟨gb102,0,none⟩ = some (.int .u64 a2_0):=(ze BK102.out 0).trans rfl
     have hcz32_1 : wc.cell? ⟨gb102,1,none⟩ = some (.int .u64 a2_1):=(ze BK102.out 1).trans rfl
     have hfz32_0:=zd BK102.out 0
     have hfz32_1:=zd BK102.out 1
     go_wp2_with (first|(go_at_call 82;(with_reducible refine (zy.calls kj3 a0 a1_1 a2_1 t106 _ A27.out).mono ?_);rintro e w' ⟨rfl,⟨nd,rfl⟩⟩;(try first|exact ⟨rfl,_,World.drewN_drewN _ _ _⟩|exact ⟨rfl,_,Eq.trans (World.drewN_drewN _ _ _) (congrArg (World.drewN _) (Nat.add_assoc _ _ _))⟩);have hcz33_0 : wc.cell? ⟨gb103,0,none⟩ = some (.int .u64 0):=(ze BK103.out 0).trans rfl;have hcz33_1 : wc.cell? ⟨gb103,1,none⟩ = some (.int .u64 0):=(ze BK103.out 1).trans rfl;have hfz33_0:=zd BK103.out 0;have hfz33_1:=zd BK103.out 1))
     repeat (go_quiet (first|(go_at_call 82;(with_reducible refine (zy.calls kj3 a0 a1_1 a2_1 t106 _ A27.out).mono ?_);rintro e w' ⟨rfl,⟨nd,rfl⟩⟩;(try first|exact ⟨rfl,_,World.drewN_drewN _ _ _⟩|exact ⟨rfl,_,Eq.trans (World.drewN_drewN _ _ _) (congrArg (World.drewN _) (Nat.add_assoc _ _ _))⟩);have hcz33_0 : wc.cell? ⟨gb103,0,none⟩ = some (.int .u64 0):=(ze BK103.out 0).trans rfl;have hcz33_1 : wc.cell? ⟨gb103,1,none⟩ = some (.int .u64 0):=(ze BK103.out 1).trans rfl;have hfz33_0:=zd BK103.out 0;have hfz33_1:=zd BK103.out 1));try go_wp2_with (first|(go_at_call 82;(with_reducible refine (zy.calls kj3 a0 a1_1 a2_1 t106 _ A27.out).mono ?_);rintro e w' ⟨rfl,⟨nd,rfl⟩⟩;(try first|exact ⟨rfl,_,World.drewN_drewN _ _ _⟩|exact ⟨rfl,_,Eq.trans (World.drewN_drewN _ _ _) (congrArg (World.drewN _) (Nat.add_assoc _ _ _))⟩);have hcz33_0 : wc.cell? ⟨gb103,0,none⟩ = some (.int .u64 0):=(ze BK103.out 0).trans rfl;have hcz33_1 : wc.cell? ⟨gb103,1,none⟩ = some (.int .u64 0):=(ze BK103.out 1).trans rfl;have hfz33_0:=zd BK103.out 0;have hfz33_1:=zd BK103.out 1)))
     refine bodyPost_ret (results_cell_row rfl _ _ gb103 51 #[.int .u64 0,.int .u64 t106] (0,0) _ rfl (by (with_reducible repeat (first|refine z5 ?_ _|refine z7 ?_|refine z4 ?_ _));refine zH (cs:=#[.int .u64 0,.int .u64 0]) ?_ 1 _ rfl;(with_reducible repeat (first|refine z5 ?_ _|refine z7 ?_|refine z4 ?_ _));refine zH (cs:=#[.int .u64 0,.int .u64 0]) ?_ 0 _ rfl;(with_reducible repeat (first|refine z5 ?_ _|refine z7 ?_|refine z4 ?_ _));exact BK103.out) Try.underlying51 rfl (by kernel_rfl)) rfl ?_
     exact ⟨by first|rfl|(simp [zf,zg] <;> rfl)|(simp [*,zf,zg] <;> rfl),by repeat (first|(with_reducible first|exact HB.out|apply z2|apply z0|apply z1|refine z6 ?_ GE101.out|refine z6 ?_ GE102.out|refine z6 ?_ GE103.out)|exact HB.out)⟩
   rw [if_neg c26] at H
   have c26b0 : decide (a0 ≤ 6) = false:=decide_eq_false c26
   clear c26
   replace H:=Option.bind_eq_some_iff.mp H
   obtain ⟨t107,A340,H⟩:=H
   replace H : ((zy.f kj3 6 a1_1 a2_1).bind fun t108=>((zy.f kj3 6 (Go.bits .xor .u64 a1_0 a1_1) (Go.bits .xor .u64 a2_0 a2_1)).bind fun t109=>((zJ.f kj3 6 t107).bind fun t110=>(some (Go.bits .xor .u64 (Go.bits .xor .u64 (Go.bits .xor .u64 t109 t107) t108) t110,Go.bits .xor .u64 t108 t107))))) = some (r1,r2):=H
   have A34:=z3.mk A340
   clear A340
   replace H:=Option.bind_eq_some_iff.mp H
   obtain ⟨t108,A350,H⟩:=H
   replace H : ((zy.f kj3 6 (Go.bits .xor .u64 a1_0 a1_1) (Go.bits .xor .u64 a2_0 a2_1)).bind fun t109=>((zJ.f kj3 6 t107).bind fun t110=>(some (Go.bits .xor .u64 (Go.bits .xor .u64 (Go.bits .xor .u64 t109 t107) t108) t110,Go.bits .xor .u64 t108 t107)))) = some (r1,r2):=H
   have A35:=z3.mk A350
   clear A350
   replace H:=Option.bind_eq_some_iff.mp H
   obtain ⟨t109,A360,H⟩:=H
   replace H : ((zJ.f kj3 6 t107).bind fun t110=>(some (Go.bits .xor .u64 (Go.bits .xor .u64 (Go.bits .xor .u64 t109 t107) t108) t110,Go.bits .xor .u64 t108 t107))) = some (r1,r2):=H
   have A36:=z3.mk A360
   clear A360
   replace H:=Option.bind_eq_some_iff.mp H
   obtain ⟨t110,A370,H⟩:=H
   replace H : (some (Go.bits .xor .u64 (Go.bits .xor .u64 (Go.bits .xor .u64 t109 t107) t108) t110,Go.bits .xor .u64 t108 t107)) = some (r1,r2):=H
   have A37:=z3.mk A370
   clear A370
   simp only [Option.some.injEq,Prod.mk.injEq] at H
   obtain ⟨rfl,rfl⟩:=H
   have hnb38:=NB101_102.out
   have hnc38:=NB102_101.out
   have hnb39:=NB101_103.out
   have hnc39:=NB103_101.out
   have hcz40_0 : wc.cell? ⟨gb101,0,none⟩ = some (.int .u64 a1_0):=(ze BK101.out 0).trans rfl
   have hcz40_1 : wc.cell? ⟨gb101,1,none⟩ = some (.int .u64 a1_1):=(ze BK101.out 1).trans rfl
   have hfz40_0:=zd BK101.out 0
   have hfz40_1:=zd BK101.out 1
   have hnb41:=NB102_103.out
   have hnc41:=NB103_102.out
   have hcz42_0 : wc.cell? ⟨gb102,0,none⟩ = some (.int .u64 a2_0):=(ze BK102.out 0).trans rfl
   have hcz42_1 : wc.cell? ⟨gb102,1,none⟩ = some (.int .u64 a2_1):=(ze BK102.out 1).trans rfl
   have hfz42_0:=zd BK102.out 0
   have hfz42_1:=zd BK102.out 1
   go_wp2_with (first|(go_at_call 82;(with_reducible refine (zy.calls kj3 6 a1_0 a2_0 t107 _ A34.out).mono ?_);rintro e w' ⟨rfl,⟨nd,rfl⟩⟩;(try first|exact ⟨rfl,_,World.drewN_drewN _ _ _⟩|exact ⟨rfl,_,Eq.trans (World.drewN_drewN _ _ _) (congrArg (World.drewN _) (Nat.add_assoc _ _ _))⟩))|(go_at_call 82;(with_reducible refine (zy.calls kj3 6 a1_1 a2_1 t108 _ A35.out).mono ?_);rintro e w' ⟨rfl,⟨nd,rfl⟩⟩;(try first|exact ⟨rfl,_,World.drewN_drewN _ _ _⟩|exact ⟨rfl,_,Eq.trans (World.drewN_drewN _ _ _) (congrArg (World.drewN _) (Nat.add_assoc _ _ _))⟩))|(go_at_call 82;(with_reducible refine (zy.calls kj3 6 (Go.bits .xor .u64 a1_0 a1_1) (Go.bits .xor .u64 a2_0 a2_1) t109 _ A36.out).mono ?_);rintro e w' ⟨rfl,⟨nd,rfl⟩⟩;(try first|exact ⟨rfl,_,World.drewN_drewN _ _ _⟩|exact ⟨rfl,_,Eq.trans (World.drewN_drewN _ _ _) (congrArg (World.drewN _) (Nat.add_assoc _ _ _))⟩))|(go_at_call 83;(with_reducible refine (zJ.calls kj3 6 t107 t110 _ A37.out).mono ?_);rintro e w' ⟨rfl,⟨nd,rfl⟩⟩;(try first|exact ⟨rfl,_,World.drewN_drewN _ _ _⟩|exact ⟨rfl,_,Eq.trans (World.drewN_drewN _ _ _) (congrArg (World.drewN _) (Nat.add_assoc _ _ _))⟩);have hcz43_0 : wc.cell? ⟨gb103,0,none⟩ = some (.int .u64 0):=(ze BK103.out 0).trans rfl;have hcz43_1 : wc.cell? ⟨gb103,1,none⟩ = some (.int .u64 0):=(ze BK103.out 1).trans rfl;have hfz43_0:=zd BK103.out 0;have hfz43_1:=zd BK103.out 1))
   repeat (go_quiet (first|(go_at_call 82;(with_reducible refine (zy.calls kj3 6 a1_0 a2_0 t107 _ A34.out).mono ?_);rintro e w' ⟨rfl,⟨nd,rfl⟩⟩;(try first|exact ⟨rfl,_,World.drewN_drewN _ _ _⟩|exact ⟨rfl,_,Eq.trans (World.drewN_drewN _ _ _) (congrArg (World.drewN _) (Nat.add_assoc _ _ _))⟩))|(go_at_call 82;(with_reducible refine (zy.calls kj3 6 a1_1 a2_1 t108 _ A35.out).mono ?_);rintro e w' ⟨rfl,⟨nd,rfl⟩⟩;(try first|exact ⟨rfl,_,World.drewN_drewN _ _ _⟩|exact ⟨rfl,_,Eq.trans (World.drewN_drewN _ _ _) (congrArg (World.drewN _) (Nat.add_assoc _ _ _))⟩))|(go_at_call 82;(with_reducible refine (zy.calls kj3 6 (Go.bits .xor .u64 a1_0 a1_1) (Go.bits .xor .u64 a2_0 a2_1) t109 _ A36.out).mono ?_);rintro e w' ⟨rfl,⟨nd,rfl⟩⟩;(try first|exact ⟨rfl,_,World.drewN_drewN _ _ _⟩|exact ⟨rfl,_,Eq.trans (World.drewN_drewN _ _ _) (congrArg (World.drewN _) (Nat.add_assoc _ _ _))⟩))|(go_at_call 83;(with_reducible refine (zJ.calls kj3 6 t107 t110 _ A37.out).mono ?_);rintro e w' ⟨rfl,⟨nd,rfl⟩⟩;(try first|exact ⟨rfl,_,World.drewN_drewN _ _ _⟩|exact ⟨rfl,_,Eq.trans (World.drewN_drewN _ _ _) (congrArg (World.drewN _) (Nat.add_assoc _ _ _))⟩);have hcz43_0 : wc.cell? ⟨gb103,0,none⟩ = some (.int .u64 0):=(ze BK103.out 0).trans rfl;have hcz43_1 : wc.cell? ⟨gb103,1,none⟩ = some (.int .u64 0):=(ze BK103.out 1).trans rfl;have hfz43_0:=zd BK103.out 0;have hfz43_1:=zd BK103.out 1));try go_wp2_with (first|(go_at_call 82;(with_reducible refine (zy.calls kj3 6 a1_0 a2_0 t107 _ A34.out).mono ?_);rintro e w' ⟨rfl,⟨nd,rfl⟩⟩;(try first|exact ⟨rfl,_,World.drewN_drewN _ _ _⟩|exact ⟨rfl,_,Eq.trans (World.drewN_drewN _ _ _) (congrArg (World.drewN _) (Nat.add_assoc _ _ _))⟩))|(go_at_call 82;(with_reducible refine (zy.calls kj3 6 a1_1 a2_1 t108 _ A35.out).mono ?_);rintro e w' ⟨rfl,⟨nd,rfl⟩⟩;(try first|exact ⟨rfl,_,World.drewN_drewN _ _ _⟩|exact ⟨rfl,_,Eq.trans (World.drewN_drewN _ _ _) (congrArg (World.drewN _) (Nat.add_assoc _ _ _))⟩))|(go_at_call 82;(with_reducible refine (zy.calls kj3 6 (Go.bits .xor .u64 a1_0 a1_1) (Go.bits .xor .u64 a2_0 a2_1) t109 _ A36.out).mono ?_);rintro e w' ⟨rfl,⟨nd,rfl⟩⟩;(try first|exact ⟨rfl,_,World.drewN_drewN _ _ _⟩|exact ⟨rfl,_,Eq.trans (World.drewN_drewN _ _ _) (congrArg (World.drewN _) (Nat.add_assoc _ _ _))⟩))|(go_at_call 83;(with_reducible refine (zJ.calls kj3 6 t107 t110 _ A37.out).mono ?_);rintro e w' ⟨rfl,⟨nd,rfl⟩⟩;(try first|exact ⟨rfl,_,World.drewN_drewN _ _ _⟩|exact ⟨rfl,_,Eq.trans (World.drewN_drewN _ _ _) (congrArg (World.drewN _) (Nat.add_assoc _ _ _))⟩);have hcz43_0 : wc.cell? ⟨gb103,0,none⟩ = some (.int .u64 0):=(ze BK103.out 0).trans rfl;have hcz43_1 : wc.cell? ⟨gb103,1,none⟩ = some (.int .u64 0):=(ze BK103.out 1).trans rfl;have hfz43_0:=zd BK103.out 0;have hfz43_1:=zd BK103.out 1)))
   refine bodyPost_ret (results_cell_row rfl _ _ gb103 51 #[.int .u64 (Go.bits .xor .u64 (Go.bits .xor .u64 (Go.bits .xor .u64 t109 t107) t108) t110),.int .u64 (Go.bits .xor .u64 t108 t107)] (0,0) _ rfl (by (with_reducible repeat (first|refine z5 ?_ _|refine z7 ?_|refine z4 ?_ _));refine zH (cs:=#[.int .u64 (Go.bits .xor .u64 (Go.bits .xor .u64 (Go.bits .xor .u64 t109 t107) t108) t110),.int .u64 0]) ?_ 1 _ rfl;(with_reducible repeat (first|refine z5 ?_ _|refine z7 ?_|refine z4 ?_ _));refine zH (cs:=#[.int .u64 0,.int .u64 0]) ?_ 0 _ rfl;(with_reducible repeat (first|refine z5 ?_ _|refine z7 ?_|refine z4 ?_ _));exact BK103.out) Try.underlying51 rfl (by kernel_rfl)) rfl ?_
   exact ⟨by first|rfl|(simp [zf,zg] <;> rfl)|(simp [*,zf,zg] <;> rfl),by repeat (first|(with_reducible first|exact HB.out|apply z2|apply z0|apply z1|refine z6 ?_ GE101.out|refine z6 ?_ GE102.out|refine z6 ?_ GE103.out)|exact HB.out)⟩
end Go.Proofs.Ytngcaphdkgihmaa.P
/- What the functions of layers 1 and 2 on elements tell. Own text. -/
namespace Go.Proofs.Ytngcaphdkgihmaa.Sp
open Go.RowKit Go.Proofs.YtngcaphdkgihmaaW.PrintWords Go.Proofs.YtngcaphdkgihmaaW.PrintMore Go.Proofs.Ytngcaphdkgihmaa.P Go.Proofs.Ytngcaphdkgihmaa.Ar Go.Proofs.Ytngcaphdkgihmaa.Tw
set_option linter.unusedVariables false
set_option linter.unusedSimpArgs false
theorem z36 {n : Nat} (h : n ≤ 6) : Q n ≤ 2 ^ 64 := z2G h
theorem Q_dvd {n : Nat} : Q n = 2 ^ 2 ^ n := rfl
theorem z1B {n : Nat} (h : n ≤ 5) : 2 ^ n ≤ 32 := Nat.pow_le_pow_right (n := 2) (by decide) h
theorem z31 {l : Nat} (h : l + 1 ≤ 1000) : wrap64 (((l + 1 : Nat) : Int) - 1) = (l : Int) := by rw [z1J (by omega) (by omega)]; omega
theorem z3J {n : Nat} (h : n ≤ 5) : Q n < 2 ^ 64 := Nat.pow_lt_pow_right (by decide) (by have := z1B h; omega)
theorem z3c {l : Nat} (hl : l ≤ 5) (x : Nat) (hx : x < 2 ^ 64) : z1a.f ((l + 1 : Nat) : Int) (x : Int) = some (((x / Q l : Nat) : Int), ((x % Q l : Nat) : Int)) := by
  unfold z1a.f
  have h32 := z1B hl
  have hQ := z3J hl
  have hm : IntKind.u64.wrap (((2 ^ 2 ^ l : Nat) : Int) - 1) = ((2 ^ 2 ^ l - 1 : Nat) : Int) := by
    have := Nat.two_pow_pos (2 ^ l)
    unfold Q at hQ
    generalize 2 ^ 2 ^ l = q at *
    rw [z2b (by omega) (by omega)]; omega
  rw [z31 (by omega), if_pos (Int.natCast_nonneg _), z3k l (by omega), if_pos (Int.natCast_nonneg _), z2u x (2 ^ l) (by omega), z26 (2 ^ l) (by omega), hm]
  rw [z1T x _ hx (by have := Nat.two_pow_pos (2 ^ l); unfold Q at hQ; omega), Nat.and_two_pow_sub_one_eq_mod]
  rfl
theorem z5A {l : Nat} (hl : l ≤ 5) (h x : Nat) (hh : h < Q l) (hx : x < Q l) : z1b.f ((l + 1 : Nat) : Int) (h : Int) (x : Int) = some ((h * Q l + x : Nat) : Int) := by
  unfold z1b.f
  have h32 := z1B hl
  have hQ := z3J hl
  have h6 : Q (l + 1) ≤ 2 ^ 64 := z36 (by omega)
  have hhx : h * Q l + Q l ≤ Q (l + 1) := by
    rw [z2k]
    have := Nat.mul_le_mul_right (Q l) hh
    rw [Nat.succ_mul] at this; exact this
  have hs : shl .u64 (h : Int) (((2 ^ l : Nat) : Int)) = ((h * Q l : Nat) : Int) := by
    unfold shl
    have h64 : IntKind.u64.bits = 64 := rfl
    rw [h64, Int.toNat_natCast, Nat.min_eq_left (by omega)]
    have hc : ((h : Int) * 2 ^ 2 ^ l) = ((h * Q l : Nat) : Int) := by unfold Q; simp
    rw [hc]
    have : h * Q l < 2 ^ 64 := by omega
    generalize h * Q l = z at *
    exact z2b (by omega) (by omega)
  rw [z31 (by omega), if_pos (by omega), z26 l (by omega), hs, z3B _ _ (by omega) (by omega)]
  congr 2
  unfold Q at *
  rw [Nat.mul_comm, ← Nat.two_pow_add_eq_or_of_lt hx]
theorem z5F : ∀ (l : Nat), l ≤ 6 → ∀ (x : Nat), x < Q l → Ev (fun k => zJ.f k (l : Int) (x : Int)) ((val (gen l * of l x) : Nat) : Int) := by
  intro l
  induction l with
  | zero =>
    intro _ x hx
    refine Ev.step (fun k => by rw [zJ.f]) (Ev.pos (by rfl) (Ev.ret' ?_))
    rw [z4F, one_mul, z1F 0 x hx]
  | succ l ih =>
    intro hl x hx
    have hx64 : x < 2 ^ 64 := Nat.lt_of_lt_of_le hx (z36 hl)
    have hd : x / Q l < Q l := Nat.div_lt_of_lt_mul (by rw [← z2k]; exact hx)
    have hm : x % Q l < Q l := Nat.mod_lt _ (z27 l)
    have hQ := z3J (n := l) (by omega)
    refine Ev.step (fun k => by rw [zJ.f]) (Ev.neg (by omega) (Ev.bnd0 (z3c (by omega) x hx64) ?_))
    simp only [z31 (show l + 1 ≤ 1000 by omega)]
    refine Ev.bnd (ih (by omega) _ hd) ?_
    have hv := z18 (gen l * of l (x / Q l))
    simp only [z1A _ _ (Nat.lt_trans hm hQ) (Nat.lt_trans hv hQ)]
    refine Ev.bnd0 (z5A (by omega) _ _ (z1X hm hv) hd) (Ev.ret' ?_)
    congr 1
    rw [z1s (gen (l + 1) * of (l + 1) x)]
    congr 1
    · congr 1
      have e : (gen (l + 1) * of (l + 1) x).1 = of l (x % Q l) + gen l * of l (x / Q l) := by
        rw [z1K, z2m, z2n, one_mul, zero_mul, one_mul, add_zero]; rfl
      rw [e, z1t, z1F _ _ hm]
    · have e : (gen (l + 1) * of (l + 1) x).2 = of l (x / Q l) := by
        rw [z1L, z2m, z2n, one_mul, zero_mul, zero_add]; rfl
      rw [e, z1F _ _ hd]
theorem karatsuba {n : Nat} (a1 a0 b1 b0 z : T n) : (a1 + a0) * (b1 + b0) + a1 * b1 + a0 * b0 + z = (a1 * b0 + a0 * b1) + z := by
  have : (a1 + a0) * (b1 + b0) + a1 * b1 + a0 * b0 = a1 * b0 + a0 * b1 := by
    simp only [mul_add, add_mul]
    have : ∀ p q r s : T n, p + q + (r + s) + p + s = q + r := fun p q r s => by
      rw [add_comm p q, add_assoc, add_assoc, add_assoc]
      rw [show p + (r + s + (p + s)) = (p + p) + (r + (s + s)) by simp only [add_assoc, z1H, add_comm]]
      rw [z1Z, z1Z, zero_add, add_zero]
    rw [show a1 * b1 + a0 * b1 + (a1 * b0 + a0 * b0) = a1 * b1 + a0 * b1 + (a1 * b0 + a0 * b0) from rfl, this, add_comm]
  rw [this]
theorem z4M : ∀ (l : Nat), l ≤ 6 → ∀ (x y : Nat), x < Q l → y < Q l → Ev (fun k => zy.f k (l : Int) (x : Int) (y : Int)) ((val (of l x * of l y) : Nat) : Int) := by
  intro l
  have hz : ∀ (l : Nat), l ≤ 6 → ∀ (x y : Nat), x < Q l → y < Q l → (l = 0 ∨ x = 0 ∨ y = 0) → Ev (fun k => zy.j0 k (l : Int) (x : Int) (y : Int) true) ((val (of l x * of l y) : Nat) : Int) := by
    intro l hl x y hx hy h
    have hQ := z36 hl
    refine Ev.step (fun k => by rw [zy.j0]) (Ev.pos rfl (Ev.ret' ?_))
    rw [z1T x y (by omega) (by omega)]
    have hxy : x &&& y < 2 ^ 64 := Nat.and_lt_two_pow _ (by omega)
    rw [show (1 : Int) = ((1 : Nat) : Int) from rfl, z1T _ 1 hxy (by decide)]
    congr 1
    rcases h with rfl | rfl | rfl
    · have h1 : x < 2 := hx
      have h2 : y < 2 := hy
      rcases (by omega : x = 0 ∨ x = 1) with rfl | rfl <;> rcases (by omega : y = 0 ∨ y = 1) with rfl | rfl <;> rfl
    · rw [z1W, zero_mul, z1o]; simp
    · rw [z1W, z2f, z1o]; simp
  induction l with
  | zero =>
    intro hl x y hx hy
    exact Ev.step (fun k => by rw [zy.f]) (Ev.pos (by rfl) (hz 0 hl x y hx hy (Or.inl rfl)))
  | succ l ih =>
    intro hl x y hx hy
    refine Ev.step (fun k => by rw [zy.f]) (Ev.neg (by omega) ?_)
    by_cases hx0 : x = 0
    · exact Ev.pos (by omega) (hz (l + 1) hl x y hx hy (Or.inr (Or.inl hx0)))
    refine Ev.neg (by omega) ?_
    by_cases hy0 : y = 0
    · rw [show ((y : Int) == 0) = true by simp [hy0]]
      exact hz (l + 1) hl x y hx hy (Or.inr (Or.inr hy0))
    rw [show ((y : Int) == 0) = false by simp [hy0]]
    have hQ := z3J (n := l) (by omega)
    have hx64 : x < 2 ^ 64 := Nat.lt_of_lt_of_le hx (z36 hl)
    have hy64 : y < 2 ^ 64 := Nat.lt_of_lt_of_le hy (z36 hl)
    have hxd : x / Q l < Q l := Nat.div_lt_of_lt_mul (by rw [← z2k]; exact hx)
    have hxm : x % Q l < Q l := Nat.mod_lt _ (z27 l)
    have hyd : y / Q l < Q l := Nat.div_lt_of_lt_mul (by rw [← z2k]; exact hy)
    have hym : y % Q l < Q l := Nat.mod_lt _ (z27 l)
    have hl5 : l ≤ 5 := by omega
    refine Ev.step (fun k => by rw [zy.j0]) (Ev.neg (by decide) (Ev.bnd0 (z3c hl5 x hx64) (Ev.bnd0 (z3c hl5 y hy64) ?_)))
    simp only [z31 (show l + 1 ≤ 1000 by omega)]
    refine Ev.bnd (ih (by omega) _ _ hxd hyd) (Ev.bnd (ih (by omega) _ _ hxm hym) ?_)
    simp only [z1A _ _ (Nat.lt_trans hxd hQ) (Nat.lt_trans hxm hQ), z1A _ _ (Nat.lt_trans hyd hQ) (Nat.lt_trans hym hQ)]
    refine Ev.bnd (ih (by omega) _ _ (z1X hxd hxm) (z1X hyd hym)) ?_
    have v1 := z18 (of l (x / Q l) * of l (y / Q l))
    have v2 := z18 (of l (x % Q l) * of l (y % Q l))
    have v3 := z18 (of l (x / Q l ^^^ x % Q l) * of l (y / Q l ^^^ y % Q l))
    refine Ev.bnd (z5F l (by omega) _ v1) ?_
    have v4 := z18 (gen l * of l (val (of l (x / Q l) * of l (y / Q l))))
    simp only [z1A _ _ (Nat.lt_trans v3 hQ) (Nat.lt_trans v1 hQ), z1A _ _ (Nat.lt_trans (z1X v3 v1) hQ) (Nat.lt_trans v2 hQ), z1A _ _ (Nat.lt_trans (z1X (z1X v3 v1) v2) hQ) (Nat.lt_trans v4 hQ), z1A _ _ (Nat.lt_trans v2 hQ) (Nat.lt_trans v1 hQ)]
    refine Ev.bnd0 (z5A (by omega) _ _ (z1X (z1X (z1X v3 v1) v2) v4) (z1X v2 v1)) (Ev.ret' ?_)
    congr 1
    rw [z1s (of (l + 1) x * of (l + 1) y)]
    congr 1
    · congr 1
      rw [z1K, z1E, z1E, z1V, z20, z1V, z20, ← karatsuba, z1t, z1t, z1t, z5H hxd hxm, z5H hyd hym, z1w]
    · rw [z1L, z1E, z1E, z1V, z20, z1V, z20, z1t]
end Go.Proofs.Ytngcaphdkgihmaa.Sp
namespace Go.Proofs.Ytngcaphdkgihmaa.P
open Go.RowKit Go.Proofs.YtngcaphdkgihmaaW.PrintWords Go.Proofs.YtngcaphdkgihmaaW.PrintLast Go.Proofs.YtngcaphdkgihmaaW.PrintMore
attribute [local go_sem] zU zW z15 z16 zQ zR zV zX   -- for this text's walks alone
set_option linter.unusedVariables false
set_option linter.unusedSimpArgs false
def zM.f (a0_0 : Int) (a0_1 : Int) (a1_0 : Int) (a1_1 : Int) : Option (Int × Int):=some (Go.bits .xor .u64 a0_0 a1_0,Go.bits .xor .u64 a0_1 a1_1)
set_option maxHeartbeats 8000000 in
set_option maxRecDepth 100000 in
theorem zM.calls (a0_0 : Int) (a0_1 : Int) (a1_0 : Int) (a1_1 : Int) (r1 : Int) (r2 : Int) (w : World) (h : zM.f a0_0 a0_1 a1_0 a1_1 = some (r1,r2)) :
 Calls Try.prog 74 #[.agg #[.int .u64 a0_0,.int .u64 a0_1],.agg #[.int .u64 a1_0,.int .u64 a1_1]] w fun e w'=>e = .returned (.agg #[.int .u64 r1,.int .u64 r2]) ∧ Below w.heap.size w w':=by
 have hu61:=Try.underlying61
 have HB:=z3.mk (Below.refl w.heap.size w)
 have H : (some (Go.bits .xor .u64 a0_0 a1_0,Go.bits .xor .u64 a0_1 a1_1)) = some (r1,r2):=h
 clear h
 simp only [Option.some.injEq,Prod.mk.injEq] at H
 obtain ⟨rfl,rfl⟩:=H
 go_enter Try.func74,Try.ntmps74
 go_wp2_with (first|((with_reducible refine zA (N:=2) rfl ?_);refine zB ?hg (N:=2) ?hd (cs:=#[.int .u64 a0_0,.int .u64 a0_1]) (t:=61) ?hr ?_;(case hd=>rfl);(case hg=>rfl);(case hr=>first|(go_simp;done)|(go_simp;rfl));intro gb101 hg w3 hbox hb;have n0_:=z3.mk (za (by repeat (first|(with_reducible first|exact HB.out|apply z2|apply z0|apply z1)|exact HB.out)) hb);have n1_:=z3.mk (hbox);have n2_:=z3.mk ((by rw [hg];exact (zc (by repeat (first|(with_reducible first|exact HB.out|apply z2|apply z0|apply z1)|exact HB.out))) : w.heap.size ≤ gb101));have n3_:=z3.mk ((by rw [hg];exact (zc (by repeat (first|(with_reducible first|exact HB.out|apply z2|apply z0|apply z1)|exact HB.out))) : w.heap.size ≤ gb101));clear HB;have HB:=n0_;have BK101:=n1_;have GW101:=n2_;have GE101:=n3_;clear n0_ n1_ n2_ n3_;clear hb hbox hg)|((with_reducible refine zA (N:=3) rfl ?_);refine zB ?hg (N:=3) ?hd (cs:=#[.int .u64 a1_0,.int .u64 a1_1]) (t:=61) ?hr ?_;(case hd=>rfl);(case hg=>rfl);(case hr=>first|(go_simp;done)|(go_simp;rfl));intro gb102 hg w4 hbox hb;have n0_:=z3.mk (zk (g:=gb101) (o:=.cells #[.int .u64 a0_0,.int .u64 a0_1] 61 (0,0)) (by (with_reducible repeat (first|refine z5 ?_ _|refine z7 ?_|refine z4 ?_ _));exact BK101.out) hb);have n1_:=z3.mk (za (by repeat (first|(with_reducible first|exact HB.out|apply z2|apply z0|apply z1|refine z6 ?_ GE101.out)|exact HB.out)) hb);have n2_:=z3.mk (hbox);have n3_:=z3.mk ((by rw [hg];exact (zc (by repeat (first|(with_reducible first|exact HB.out|apply z2|apply z0|apply z1|refine z6 ?_ GE101.out)|exact HB.out))) : w.heap.size ≤ gb102));have n4_:=z3.mk ((by rw [hg];exact (zc (by repeat (first|(with_reducible first|exact HB.out|apply z2|apply z0|apply z1|refine z6 ?_ GE101.out)|exact HB.out))) : w.heap.size ≤ gb102));have n5_:=z3.mk ((by rw [hg];exact Nat.ne_of_lt (zS (g:=gb101) (o:=.cells #[.int .u64 a0_0,.int .u64 a0_1] 61 (0,0)) (by (with_reducible repeat (first|refine z5 ?_ _|refine z7 ?_|refine z4 ?_ _));exact BK101.out)) : gb101 ≠ gb102));have n6_:=z3.mk ((by rw [hg];exact Nat.ne_of_gt (zS (g:=gb101) (o:=.cells #[.int .u64 a0_0,.int .u64 a0_1] 61 (0,0)) (by (with_reducible repeat (first|refine z5 ?_ _|refine z7 ?_|refine z4 ?_ _));exact BK101.out)) : gb102 ≠ gb101));clear BK101;clear HB;have BK101:=n0_;have HB:=n1_;have BK102:=n2_;have GW102:=n3_;have GE102:=n4_;have NB101_102:=n5_;have NB102_101:=n6_;clear n0_ n1_ n2_ n3_ n4_ n5_ n6_;clear hb hbox hg)|((with_reducible refine zA (N:=4) rfl ?_);refine zB ?hg (N:=4) ?hd (cs:=#[.int .u64 0,.int .u64 0]) (t:=61) ?hr ?_;(case hd=>rfl);(case hg=>rfl);(case hr=>first|(go_simp;done)|(go_simp;rfl));intro gb103 hg w5 hbox hb;have n0_:=z3.mk (zk (g:=gb101) (o:=.cells #[.int .u64 a0_0,.int .u64 a0_1] 61 (0,0)) (by (with_reducible repeat (first|refine z5 ?_ _|refine z7 ?_|refine z4 ?_ _));exact BK101.out) hb);have n1_:=z3.mk (zk (g:=gb102) (o:=.cells #[.int .u64 a1_0,.int .u64 a1_1] 61 (0,0)) (by (with_reducible repeat (first|refine z5 ?_ _|refine z7 ?_|refine z4 ?_ _));exact BK102.out) hb);have n2_:=z3.mk (za (by repeat (first|(with_reducible first|exact HB.out|apply z2|apply z0|apply z1|refine z6 ?_ GE101.out|refine z6 ?_ GE102.out)|exact HB.out)) hb);have n3_:=z3.mk (hbox);have n4_:=z3.mk ((by rw [hg];exact (zc (by repeat (first|(with_reducible first|exact HB.out|apply z2|apply z0|apply z1|refine z6 ?_ GE101.out|refine z6 ?_ GE102.out)|exact HB.out))) : w.heap.size ≤ gb103));have n5_:=z3.mk ((by rw [hg];exact (zc (by repeat (first|(with_reducible first|exact HB.out|apply z2|apply z0|apply z1|refine z6 ?_ GE101.out|refine z6 ?_ GE102.out)|exact HB.out))) : w.heap.size ≤ gb103));have n6_:=z3.mk ((by rw [hg];exact Nat.ne_of_lt (zS (g:=gb101) (o:=.cells #[.int .u64 a0_0,.int .u64 a0_1] 61 (0,0)) (by (with_reducible repeat (first|refine z5 ?_ _|refine z7 ?_|refine z4 ?_ _));exact BK101.out)) : gb101 ≠ gb103));have n7_:=z3.mk ((by rw [hg];exact Nat.ne_of_gt (zS (g:=gb101) (o:=.cells #[.int .u64 a0_0,.int .u64 a0_1] 61 (0,0)) (by (with_reducible repeat (first|refine z5 ?_ _|refine z7 ?_|refine z4 ?_ _));exact BK101.out)) : gb103 ≠ gb101));have n8_:=z3.mk ((by rw [hg];exact Nat.ne_of_lt (zS (g:=gb102) (o:=.cells #[.int .u64 a1_0,.int .u64 a1_1] 61 (0,0)) (by (with_reducible repeat (first|refine z5 ?_ _|refine z7 ?_|refine z4 ?_ _));exact BK102.out)) : gb102 ≠ gb103));have n9_:=z3.mk ((by rw [hg];exact Nat.ne_of_gt (zS (g:=gb102) (o:=.cells #[.int .u64 a1_0,.int .u64 a1_1] 61 (0,0)) (by (with_reducible repeat (first|refine z5 ?_ _|refine z7 ?_|refine z4 ?_ _));exact BK102.out)) : gb103 ≠ gb102));clear BK101;clear BK102;clear HB;have BK101:=n0_;have BK102:=n1_;have HB:=n2_;have BK103:=n3_;have GW103:=n4_;have GE103:=n5_;have NB101_103:=n6_;have NB103_101:=n7_;have NB102_103:=n8_;have NB103_102:=n9_;clear n0_ n1_ n2_ n3_ n4_ n5_ n6_ n7_ n8_ n9_;clear hb hbox hg;have hnb6:=NB101_102.out;have hnc6:=NB102_101.out;have hnb7:=NB101_103.out;have hnc7:=NB103_101.out;have hcz8_0 : w5.cell? ⟨gb101,0,none⟩ = some (.int .u64 a0_0):=(ze BK101.out 0).trans rfl;have hcz8_1 : w5.cell? ⟨gb101,1,none⟩ = some (.int .u64 a0_1):=(ze BK101.out 1).trans rfl;have hfz8_0:=zd BK101.out 0;have hfz8_1:=zd BK101.out 1;have hnb9:=NB102_103.out;have hnc9:=NB103_102.out;have hcz10_0 : w5.cell? ⟨gb102,0,none⟩ = some (.int .u64 a1_0):=(ze BK102.out 0).trans rfl;have hcz10_1 : w5.cell? ⟨gb102,1,none⟩ = some (.int .u64 a1_1):=(ze BK102.out 1).trans rfl;have hfz10_0:=zd BK102.out 0;have hfz10_1:=zd BK102.out 1;have hcz11_0 : w5.cell? ⟨gb103,0,none⟩ = some (.int .u64 0):=(ze BK103.out 0).trans rfl;have hcz11_1 : w5.cell? ⟨gb103,1,none⟩ = some (.int .u64 0):=(ze BK103.out 1).trans rfl;have hfz11_0:=zd BK103.out 0;have hfz11_1:=zd BK103.out 1))
 refine bodyPost_ret (results_cell_row rfl _ _ gb103 61 #[.int .u64 (Go.bits .xor .u64 a0_0 a1_0),.int .u64 (Go.bits .xor .u64 a0_1 a1_1)] (0,0) _ rfl (by (with_reducible repeat (first|refine z5 ?_ _|refine z7 ?_|refine z4 ?_ _));refine zH (cs:=#[.int .u64 (Go.bits .xor .u64 a0_0 a1_0),.int .u64 0]) ?_ 1 _ rfl;(with_reducible repeat (first|refine z5 ?_ _|refine z7 ?_|refine z4 ?_ _));refine zH (cs:=#[.int .u64 0,.int .u64 0]) ?_ 0 _ rfl;(with_reducible repeat (first|refine z5 ?_ _|refine z7 ?_|refine z4 ?_ _));exact BK103.out) Try.underlying61 rfl (by kernel_rfl)) rfl ?_
 exact ⟨by first|rfl|(simp [zf,zg] <;> rfl)|(simp [*,zf,zg] <;> rfl),by repeat (first|(with_reducible first|exact HB.out|apply z2|apply z0|apply z1|refine z6 ?_ GE101.out|refine z6 ?_ GE102.out|refine z6 ?_ GE103.out)|exact HB.out)⟩
end Go.Proofs.Ytngcaphdkgihmaa.P
/- Elements of the greatest level, as the program and the document hold them: two words. Own text. -/
namespace Go.Proofs.Ytngcaphdkgihmaa.Sp
open Go.RowKit Go.Proofs.YtngcaphdkgihmaaW.PrintWords Go.Proofs.YtngcaphdkgihmaaW.PrintMore Go.Proofs.Ytngcaphdkgihmaa.P Go.Proofs.Ytngcaphdkgihmaa.Ar Go.Proofs.Ytngcaphdkgihmaa.Tw
set_option linter.unusedVariables false
set_option linter.unusedSimpArgs false
abbrev E := T 7
/-- The higher and the lower word. -/
def hi (x : E) : Int := ((val x.1 : Nat) : Int)
def lo (x : E) : Int := ((val x.2 : Nat) : Int)
def el (h l : Int) : E := mk (of 6 h.toNat) (of 6 l.toNat)
theorem hi_el {h l : Int} (h0 : 0 ≤ h) (h1 : h < 18446744073709551616) : hi (el h l) = h := by
  unfold hi el; rw [z1V, z1F 6 _ (by rw [z3q]; omega)]; omega
theorem lo_el {h l : Int} (h0 : 0 ≤ l) (h1 : l < 18446744073709551616) : lo (el h l) = l := by
  unfold lo el; rw [z20, z1F 6 _ (by rw [z3q]; omega)]; omega
theorem z4J {x y : E} (h : hi x = hi y) (l : lo x = lo y) : x = y := by
  unfold hi lo at *; exact ext (z2w (by omega)) (z2w (by omega))
theorem z2o : hi 0 = 0 := by unfold hi; rw [z32, z1o]; rfl
theorem z2q : lo 0 = 0 := by unfold lo; rw [z33, z1o]; rfl
theorem hi_one : hi 1 = 0 := by unfold hi; rw [z3S, z1o]; rfl
theorem lo_one : lo 1 = 1 := by unfold lo; rw [z3T, z2x]; rfl
theorem hi_bd (x : E) : 0 ≤ hi x ∧ hi x < 18446744073709551616 := by
  unfold hi; have := z18 x.1; rw [z3q] at this; omega
theorem z5D (x : E) : 0 ≤ lo x ∧ lo x < 18446744073709551616 := by
  unfold lo; have := z18 x.2; rw [z3q] at this; omega
theorem z3G (x : E) : val x = (hi x).toNat * 18446744073709551616 + (lo x).toNat := by
  unfold hi lo; rw [z1s, z3q]; simp
theorem eq_zero_iff (x : E) : x = 0 ↔ hi x = 0 ∧ lo x = 0 := ⟨fun h => by rw [h]; exact ⟨z2o, z2q⟩, fun h => z4J (h.1.trans z2o.symm) (h.2.trans z2q.symm)⟩
theorem xor_hi (x y : E) : Go.bits .xor .u64 (hi x) (hi y) = hi (x + y) := by
  unfold hi; rw [z1A _ _ (z18 x.1) (z18 y.1), z38, z1t]
theorem xor_lo (x y : E) : Go.bits .xor .u64 (lo x) (lo y) = lo (x + y) := by
  unfold lo; rw [z1A _ _ (z18 x.2) (z18 y.2), z3M, z1t]
/-- Of a level. -/
def InL (l : Nat) (x : E) : Prop := val x < Q l
instance (l : Nat) (x : E) : Decidable (InL l x) := by unfold InL; infer_instance
def OfS (L : Int) (x : E) : Prop := 0 ≤ L ∧ L ≤ 7 ∧ InL L.toNat x
instance (L : Int) (x : E) : Decidable (OfS L x) := by unfold OfS; infer_instance
theorem z5y (x : E) : InL 7 x := z18 x
theorem inL_zero (l : Nat) : InL l 0 := by unfold InL; rw [z1o]; exact z27 l
theorem inL_one (l : Nat) : InL l 1 := by unfold InL; rw [z2x]; exact Nat.lt_of_lt_of_le (by decide : 1 < Q 0) (z2G (Nat.zero_le _))
theorem inL_mono {l m : Nat} (h : l ≤ m) {x : E} (hx : InL l x) : InL m x := Nat.lt_of_lt_of_le hx (z2G h)
theorem inL_add {l : Nat} {x y : E} (hx : InL l x) (hy : InL l y) : InL l (x + y) := by
  unfold InL at *; rw [z1t]; exact z1X hx hy
theorem inL_mul {l : Nat} (hl : l ≤ 7) {x y : E} (hx : InL l x) (hy : InL l y) : InL l (x * y) := by
  unfold InL at *; have := z5a hl hx hy; rwa [z1w, z1w] at this
theorem z5z {x : E} : InL 6 x ↔ hi x = 0 := by
  unfold InL; have h := z3G x; have h1 := hi_bd x; have h2 := z5D x
  rw [z3q, h]; constructor <;> intro g <;> omega
theorem z3P {l : Nat} (hl : l ≤ 6) {x : E} : InL l x ↔ hi x = 0 ∧ (lo x).toNat < Q l := by
  constructor
  · intro h
    have h6 := z5z.1 (inL_mono hl h)
    refine ⟨h6, ?_⟩
    unfold InL at h; rw [z3G, h6] at h; simpa using h
  · rintro ⟨h1, h2⟩
    unfold InL; rw [z3G, h1]; simpa using h2
theorem z54 (L : Int) (x : E) : Ev (fun k => zL.f k L (hi x) (lo x)) (decide (OfS L x)) := by
  unfold zL.f
  by_cases h0 : L < 0
  · refine Ev.pos h0 (Ev.step (fun k => by rw [zL.j0]) (Ev.pos rfl (Ev.ret' ?_)))
    symm; rw [decide_eq_false_iff_not]; rintro ⟨h, _⟩; omega
  refine Ev.neg h0 ?_
  by_cases h7 : L > 7
  · rw [decide_eq_true h7]
    refine Ev.step (fun k => by rw [zL.j0]) (Ev.pos rfl (Ev.ret' ?_))
    symm; rw [decide_eq_false_iff_not]; rintro ⟨_, h, _⟩; omega
  rw [decide_eq_false h7]
  refine Ev.step (fun k => by rw [zL.j0]) (Ev.neg (by decide) ?_)
  obtain ⟨l, rfl⟩ := Int.eq_ofNat_of_zero_le (show 0 ≤ L by omega)
  have hS : OfS (l : Int) x ↔ InL l x := by
    unfold OfS; rw [Int.toNat_natCast]; exact ⟨fun h => h.2.2, fun h => ⟨by omega, by omega, h⟩⟩
  by_cases c7 : (l : Int) = 7
  · refine Ev.pos c7 (Ev.ret' ?_)
    have : l = 7 := by omega
    subst this
    symm; rw [decide_eq_true_eq, hS]; exact z5y x
  refine Ev.neg c7 ?_
  by_cases c6 : (l : Int) = 6
  · refine Ev.pos c6 (Ev.ret' ?_)
    have : l = 6 := by omega
    subst this
    rw [Bool.eq_iff_iff, beq_iff_eq, decide_eq_true_eq, hS]; exact z5z.symm
  refine Ev.neg c6 ?_
  have hl5 : l ≤ 5 := by omega
  have hl := z3P (l := l) (by omega) (x := x)
  by_cases c0 : hi x = 0
  · refine Ev.pos c0 (Ev.pos (Int.natCast_nonneg _) (Ev.ret' ?_))
    have h32 := z1B hl5
    have hlo : lo x = (((lo x).toNat : Nat) : Int) := by have := z5D x; omega
    rw [z26 l (by omega), hlo, z2u _ (2 ^ l) (by omega)]
    rw [Bool.eq_iff_iff, beq_iff_eq, decide_eq_true_eq, hS, hl]
    have hq : (lo x).toNat / 2 ^ 2 ^ l = 0 ↔ (lo x).toNat < Q l := by
      rw [Nat.div_eq_zero_iff]; unfold Q
      have := Nat.two_pow_pos (2 ^ l)
      omega
    constructor
    · intro h; exact ⟨c0, hq.1 (by exact_mod_cast h)⟩
    · rintro ⟨_, h⟩; exact_mod_cast hq.2 h
  · refine Ev.neg c0 (Ev.ret' ?_)
    symm; rw [decide_eq_false_iff_not, hS, hl]; exact fun h => c0 h.1
theorem Add_eq (x y : E) : z1l.f (hi x) (lo x) (hi y) (lo y) = some (hi (x + y), lo (x + y)) := by
  unfold z1l.f; rw [xor_hi, xor_lo]
theorem z3h (x y : E) : zM.f (hi x) (lo x) (hi y) (lo y) = some (hi (x + y), lo (x + y)) := by
  unfold zM.f; rw [xor_hi, xor_lo]
theorem One_eq : z1O.f = some (hi 1, lo 1) := by unfold z1O.f; rw [hi_one, lo_one]
theorem Mul_out {L : Int} {x y : E} (h : ¬ (OfS L x ∧ OfS L y)) : Ev (fun k => zZ.f k L (hi x) (lo x) (hi y) (lo y)) (0, 0) := by
  unfold zZ.f
  refine Ev.bnd (z54 L x) ?_
  by_cases c : OfS L x
  · refine Ev.pos (decide_eq_true c) (Ev.bnd (z54 L y) ?_)
    rw [decide_eq_false (fun g => h ⟨c, g⟩)]
    exact Ev.step (fun k => by rw [zZ.j0]) (Ev.pos (by rfl) (Ev.ret _))
  · exact Ev.neg (by simpa using c) (Ev.step (fun k => by rw [zZ.j0]) (Ev.pos rfl (Ev.ret _)))
theorem Mul_ev {l : Nat} (hl : l ≤ 7) {x y : E} (hx : InL l x) (hy : InL l y) : Ev (fun k => zZ.f k (l : Int) (hi x) (lo x) (hi y) (lo y)) (hi (x * y), lo (x * y)) := by
  unfold zZ.f
  have hS : ∀ z, InL l z → OfS (l : Int) z := fun z hz => ⟨by omega, by omega, by rw [Int.toNat_natCast]; exact hz⟩
  refine Ev.bnd (z54 (l : Int) x) (Ev.pos (decide_eq_true (hS x hx)) (Ev.bnd (z54 (l : Int) y) ?_))
  rw [decide_eq_true (hS y hy)]
  refine Ev.step (fun k => by rw [zZ.j0]) (Ev.neg (by decide) ?_)
  by_cases c : l ≤ 6
  · refine Ev.pos (by omega) ?_
    have ex := (z3P c).1 hx
    have ey := (z3P c).1 hy
    have e1 : lo x = (((lo x).toNat : Nat) : Int) := by have := z5D x; omega
    have e2 : lo y = (((lo y).toNat : Nat) : Int) := by have := z5D y; omega
    have ev := z4M l c (lo x).toNat (lo y).toNat ex.2 ey.2
    rw [← e1, ← e2] at ev
    refine Ev.bnd ev (Ev.ret' ?_)
    have hz := (z3P c).1 (inL_mul hl hx hy)
    have e3 : lo (x * y) = (((lo (x * y)).toNat : Nat) : Int) := by have := z5D (x * y); omega
    rw [hz.1, e3]
    congr 2
    have vx : val x = (lo x).toNat := by rw [z3G, ex.1]; simp
    have vy : val y = (lo y).toNat := by rw [z3G, ey.1]; simp
    have vz : val (x * y) = (lo (x * y)).toNat := by rw [z3G, hz.1]; simp
    rw [← vz, ← vx, ← vy, ← z2M hl hx hy, z1w, z1w]
  · have : l = 7 := by omega
    subst this
    refine Ev.neg (by decide) ?_
    have v1 := z18 x.1
    have v2 := z18 x.2
    have v3 := z18 y.1
    have v4 := z18 y.2
    have m1 := z4M 6 (by decide) _ _ v1 v3
    have m2 := z4M 6 (by decide) _ _ v2 v4
    have m3 := z4M 6 (by decide) _ _ (z1X v1 v2) (z1X v3 v4)
    rw [z1w, z1w] at m1 m2
    rw [← z1t, ← z1t, z1w, z1w] at m3
    have m4 := z5F 6 (by decide) _ (z18 (x.1 * y.1))
    rw [z1w] at m4
    refine Ev.bnd m1 (Ev.bnd m2 ?_)
    have e1 : Go.bits .xor .u64 (hi x) (lo x) = ((val (x.1 + x.2) : Nat) : Int) := by unfold hi lo; rw [z1A _ _ v1 v2, z1t]
    have e2 : Go.bits .xor .u64 (hi y) (lo y) = ((val (y.1 + y.2) : Nat) : Int) := by unfold hi lo; rw [z1A _ _ v3 v4, z1t]
    simp only [e1, e2]
    refine Ev.bnd m3 (Ev.bnd m4 (Ev.ret' ?_))
    rw [z1A _ _ (z18 _) (z18 _), ← z1t, z1A _ _ (z18 _) (z18 _), ← z1t, z1A _ _ (z18 _) (z18 _), ← z1t, z1A _ _ (z18 _) (z18 _), ← z1t, karatsuba]
    rfl
/-- The program's element, the document's. -/
def toS (x : E) : S51 := ⟨hi x, lo x⟩
def toR (x : E) : S61 := ⟨hi x, lo x⟩
def WfS (e : S51) : Prop := (0 ≤ e.f0 ∧ e.f0 < 18446744073709551616) ∧ (0 ≤ e.f1 ∧ e.f1 < 18446744073709551616)
theorem z3D (x : E) : (toS x).f0 = hi x := rfl
theorem z3E (x : E) : (toS x).f1 = lo x := rfl
theorem z4S (x : E) : (toR x).f0 = hi x := rfl
theorem z4T (x : E) : (toR x).f1 = lo x := rfl
theorem z4U : toS 0 = z51 := by unfold toS; rw [z2o, z2q]; rfl
theorem toR_zero : toR 0 = z61 := by unfold toR; rw [z2o, z2q]; rfl
theorem toS_el (e : S51) (h : WfS e) : toS (el e.f0 e.f1) = e := by unfold toS; rw [hi_el h.1.1 h.1.2, lo_el h.2.1 h.2.2]
theorem toS_inj {x y : E} (h : toS x = toS y) : x = y := by
  unfold toS at h; injection h with h1 h2; exact z4J h1 h2
theorem wf_of {e : S51} (h : (Lit.int .u64 e.f0).wf = true ∧ (Lit.int .u64 e.f1).wf = true) : WfS e := ⟨wf_u64 h.1, wf_u64 h.2⟩
/-- A list that came in is a list of elements. -/
theorem list_of (l : List S51) (h : ∀ e ∈ l, ((Lit.int .u64 e.f0).wf = true) ∧ ((Lit.int .u64 e.f1).wf = true)) : ∃ X : List E, l = X.map toS := by
  refine ⟨l.map fun e => el e.f0 e.f1, ?_⟩
  rw [List.map_map]
  conv => lhs; rw [← List.map_id l]
  apply List.map_congr_left
  intro e he
  exact (toS_el e (wf_of (h e he))).symm
theorem elem_of (e : S51) (h : ((Lit.int .u64 e.f0).wf = true) ∧ ((Lit.int .u64 e.f1).wf = true)) : ∃ x : E, e = toS x := ⟨_, (toS_el e (wf_of h)).symm⟩
theorem rdS (X : List E) (i : Nat) : zu (X.map toS) (i : Int) = toS (X.getD i 0) := by
  unfold zu; rw [Int.toNat_natCast, ← z4U, List.getD_eq_getElem?_getD, List.getD_eq_getElem?_getD, List.getElem?_map]
  cases X[i]? <;> rfl
theorem rdR (X : List E) (i : Nat) : z14 (X.map toR) (i : Int) = toR (X.getD i 0) := by
  unfold z14; rw [Int.toNat_natCast, ← toR_zero, List.getD_eq_getElem?_getD, List.getD_eq_getElem?_getD, List.getElem?_map]
  cases X[i]? <;> rfl
end Go.Proofs.Ytngcaphdkgihmaa.Sp

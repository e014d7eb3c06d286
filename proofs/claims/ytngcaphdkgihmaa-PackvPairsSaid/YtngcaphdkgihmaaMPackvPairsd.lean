/- Own text: merged by wip/tools/pack.py out of what the law PackvPairs reaches. -/
import Derived.Deep.Slices
import Derived.OpenShut
import Derived.ProofKit
import Derived.Laws.BitsLemmas
import Derived.Test.YtngcaphdkgihmaaMPackvPairsa
import Derived.Test.YtngcaphdkgihmaaMPackvPairsb
import Derived.Test.YtngcaphdkgihmaaMPackvPairsc
namespace Go.Proofs.Ytngcaphdkgihmaa.P
open Go.RowKit Go.Proofs.YtngcaphdkgihmaaW.PrintWords Go.Proofs.YtngcaphdkgihmaaW.PrintLast Go.Proofs.YtngcaphdkgihmaaW.PrintMore
attribute [local go_sem] zX zZ z16 z17 zT zU zY z10   -- for this text's walks alone
set_option linter.unusedVariables false
set_option linter.unusedSimpArgs false
def zf.l0 : Nat → Int → List (S61) → Int → Int → Int → Int → Int → Option ((List (S61)))
 | 0,_,_,_,_,_,_,_=>none
 | k + 1,x0,x7,x8,x102000,x102001,x103000,x103001=>(z11.f k x0).bind fun t103=>(if x8 < t103 then ((zF.f k x102000 x102001 x8).bind fun t105=>(if t105 = true then (if x7.length < 8796093022208 then (zf.l0 k x0 (x7 ++ [(⟨x103000,x103001⟩ : S61)]) (wrap64 (x8 + 1)) x102000 x102001 x103000 x103001) else (none)) else (if x7.length < 8796093022208 then (zf.l0 k x0 (x7 ++ [(⟨0,0⟩ : S61)]) (wrap64 (x8 + 1)) x102000 x102001 x103000 x103001) else (none)))) else (some x7))
def zf.f (k : Nat) (a0 : Int) (a1_0 : Int) (a1_1 : Int) (a2_0 : Int) (a2_1 : Int) : Option ((List (S61))):=zf.l0 k a0 ([] : List (S61)) 0 a1_0 a1_1 a2_0 a2_1
theorem zf.z12 : ∀ k,(∀ y0 y1 y2 y3 y4 y5 y6,LeO (zf.l0 k y0 y1 y2 y3 y4 y5 y6) (zf.l0 (k + 1) y0 y1 y2 y3 y4 y5 y6))
 | 0=>fun _ _ _ _ _ _ _ r h=>by simp [zf.l0] at h
 | k + 1=>by
  have ih0:=zf.z12 k
  · intro y0 y1 y2 y3 y4 y5 y6
    unfold zf.l0
    repeat' first
    | (with_reducible exact ih0 _ _ _ _ _ _ _)
    | (with_reducible exact zF.mono _ _ _ _)
    | (with_reducible exact z11.mono _ _)
    | (with_reducible exact LeO.refl _)
    | (with_reducible exact LeO.none _)
    | (with_reducible refine LeO.ite ?_ ?_)
    | (with_reducible refine LeO.bind ?_ (fun _=>?_))
    | exact ih0 _ _ _ _ _ _ _
    | exact zF.mono _ _ _ _
    | exact z11.mono _ _
    | exact LeO.none _
    | refine LeO.ite ?_ ?_
    | refine LeO.bind ?_ (fun _=>?_)
theorem zf.mono : ∀ a0 a1 a2 a3 a4 k,LeO (zf.f k a0 a1 a2 a3 a4) (zf.f (k + 1) a0 a1 a2 a3 a4):=by
 intro a0 a1 a2 a3 a4 k
 have ih0:=zf.z12 k
 unfold zf.f
 repeat' first
  | (with_reducible exact ih0 _ _ _ _ _ _ _)
  | (with_reducible exact zF.mono _ _ _ _)
  | (with_reducible exact z11.mono _ _)
  | (with_reducible exact LeO.refl _)
  | (with_reducible exact LeO.none _)
  | (with_reducible refine LeO.ite ?_ ?_)
  | (with_reducible refine LeO.bind ?_ (fun _=>?_))
  | exact ih0 _ _ _ _ _ _ _
  | exact zF.mono _ _ _ _
  | exact z11.mono _ _
  | exact LeO.none _
  | refine LeO.ite ?_ ?_
  | refine LeO.bind ?_ (fun _=>?_)
set_option maxHeartbeats 8000000 in
set_option maxRecDepth 100000 in
theorem zf.calls (k : Nat) (a0 : Int) (a1_0 : Int) (a1_1 : Int) (a2_0 : Int) (a2_1 : Int) (r : List (S61)) (w : World) (h : zf.f k a0 a1_0 a1_1 a2_0 a2_1 = some r) :
 Calls Try.prog 63 #[.int .i64 a0,.agg #[.int .u64 a1_0,.int .u64 a1_1],.agg #[.int .u64 a2_0,.int .u64 a2_1]] w fun e w'=>∃ v0_ : Value,e = .returned (v0_) ∧ Kd.R k61 61 w' w.heap.size (fun _=>True) v0_ r ∧ Below w.heap.size w w':=by
 have hu61:=Try.underlying61
 have HB:=z2.mk (Below.refl w.heap.size w)
 have H : (zf.l0 k a0 ([] : List (S61)) 0 a1_0 a1_1 a2_0 a2_1) = some r:=h
 clear h
 have H':=z2.mk H
 clear H
 go_enter Try.func63,Try.ntmps63
 go_wp2_with (first|((with_reducible refine zG (N:=4) rfl ?_);refine zC ?hg (N:=4) ?hd (cs:=#[.int .u64 a1_0,.int .u64 a1_1]) (t:=61) ?hr ?_;(case hd=>rfl);(case hg=>rfl);(case hr=>first|(go_simp;done)|(go_simp;rfl));intro gb101 hg w4 hbox hb;have n0_:=z2.mk (zd (by repeat (first|(with_reducible first|exact HB.out|apply z7|apply z1|apply z6)|exact HB.out)) hb);have n1_:=z2.mk (hbox);have n2_:=z2.mk ((by rw [hg];exact (ze (by repeat (first|(with_reducible first|exact HB.out|apply z7|apply z1|apply z6)|exact HB.out))) : w.heap.size ≤ gb101));have n3_:=z2.mk ((by rw [hg];exact (ze (by repeat (first|(with_reducible first|exact HB.out|apply z7|apply z1|apply z6)|exact HB.out))) : w.heap.size ≤ gb101));clear HB;have HB:=n0_;have BK101:=n1_;have GW101:=n2_;have GE101:=n3_;clear n0_ n1_ n2_ n3_;clear hb hbox hg)|((with_reducible refine zG (N:=5) rfl ?_);refine zC ?hg (N:=5) ?hd (cs:=#[.int .u64 a2_0,.int .u64 a2_1]) (t:=61) ?hr ?_;(case hd=>rfl);(case hg=>rfl);(case hr=>first|(go_simp;done)|(go_simp;rfl));intro gb102 hg w5 hbox hb;have n0_:=z2.mk (z9 (g:=gb101) (o:=.cells #[.int .u64 a1_0,.int .u64 a1_1] 61 (0,0)) (by (with_reducible repeat (first|refine z4 ?_ _|refine z8 ?_|refine z3 ?_ _));exact BK101.out) hb);have n1_:=z2.mk (zd (by repeat (first|(with_reducible first|exact HB.out|apply z7|apply z1|apply z6|refine z5 ?_ GE101.out)|exact HB.out)) hb);have n2_:=z2.mk (hbox);have n3_:=z2.mk ((by rw [hg];exact (ze (by repeat (first|(with_reducible first|exact HB.out|apply z7|apply z1|apply z6|refine z5 ?_ GE101.out)|exact HB.out))) : w.heap.size ≤ gb102));have n4_:=z2.mk ((by rw [hg];exact (ze (by repeat (first|(with_reducible first|exact HB.out|apply z7|apply z1|apply z6|refine z5 ?_ GE101.out)|exact HB.out))) : w.heap.size ≤ gb102));have n5_:=z2.mk ((by rw [hg];exact Nat.ne_of_lt (zI (g:=gb101) (o:=.cells #[.int .u64 a1_0,.int .u64 a1_1] 61 (0,0)) (by (with_reducible repeat (first|refine z4 ?_ _|refine z8 ?_|refine z3 ?_ _));exact BK101.out)) : gb101 ≠ gb102));have n6_:=z2.mk ((by rw [hg];exact Nat.ne_of_gt (zI (g:=gb101) (o:=.cells #[.int .u64 a1_0,.int .u64 a1_1] 61 (0,0)) (by (with_reducible repeat (first|refine z4 ?_ _|refine z8 ?_|refine z3 ?_ _));exact BK101.out)) : gb102 ≠ gb101));clear BK101;clear HB;have BK101:=n0_;have HB:=n1_;have BK102:=n2_;have GW102:=n3_;have GE102:=n4_;have NB101_102:=n5_;have NB102_101:=n6_;clear n0_ n1_ n2_ n3_ n4_ n5_ n6_;clear hb hbox hg))
 go_loopg [7,8] k (fun kq v7 v8 w'=>∃ (x7_1 : List (S61)) (x8_1 : Int),v8 = .int .i64 x8_1 ∧ z2 (zf.l0 kq a0 x7_1 x8_1 a1_0 a1_1 a2_0 a2_1 = some r) ∧ z2 (kq ≤ k) ∧ z2 (Kd.R k61 61 w' w.heap.size (fun k_=>k_ ≠ gb101 ∧ k_ ≠ gb102) v7 x7_1) ∧ z2 (w'.heap[gb101]? = some (.cells #[.int .u64 a1_0,.int .u64 a1_1] 61 (0,0))) ∧ z2 (w'.heap[gb102]? = some (.cells #[.int .u64 a2_0,.int .u64 a2_1] 61 (0,0))) ∧ z2 (Below w.heap.size w w'))
 case atStart=>exact ⟨(([] : List (S61))),(0),(by first|rfl|(simp;done)|(simp [*];done)),H',⟨Nat.le_refl _⟩,⟨by first|exact Kd.z3g _ _ _ _ _|exact Kd.z47 _ _ _ _ _|exact Kd.z4d _ _ _ _ _|exact Kd.z49 _ _ _ _ _|exact Kd.z4b _ _ _ _ _⟩,⟨by (with_reducible repeat (first|refine z4 ?_ _|refine z8 ?_|refine z3 ?_ _));exact BK101.out⟩,⟨by (with_reducible repeat (first|refine z4 ?_ _|refine z8 ?_|refine z3 ?_ _));exact BK102.out⟩,⟨by repeat (first|(with_reducible first|exact HB.out|apply z7|apply z1|apply z6|refine z5 ?_ GE101.out|refine z5 ?_ GE102.out)|exact HB.out)⟩⟩
 case round =>
  clear H'
  (try clear p2)
  obtain ⟨x7_1,x8_1,rfl,HA,HK1,HO_7,BK101,BK102,HB⟩:=hrel
  cases gk with
  | zero=>exact absurd HA.out (by simp [zf.l0])
  | succ k1 =>
   have H:=HA.out
   clear HA
   simp only [zf.l0] at H
   replace H:=Option.bind_eq_some_iff.mp H
   obtain ⟨t103,A60,H⟩:=H
   replace H : (if x8_1 < t103 then ((zF.f k1 a1_0 a1_1 x8_1).bind fun t105=>(if t105 = true then (if x7_1.length < 8796093022208 then (zf.l0 k1 a0 (x7_1 ++ [(⟨a2_0,a2_1⟩ : S61)]) (wrap64 (x8_1 + 1)) a1_0 a1_1 a2_0 a2_1) else (none)) else (if x7_1.length < 8796093022208 then (zf.l0 k1 a0 (x7_1 ++ [(⟨0,0⟩ : S61)]) (wrap64 (x8_1 + 1)) a1_0 a1_1 a2_0 a2_1) else (none)))) else (some x7_1)) = some r:=H
   have A6:=z2.mk A60
   clear A60
   by_cases c7 : x8_1 < t103
   rotate_left
   · rw [if_neg c7] at H
     have c7b0 : decide (x8_1 < t103) = false:=decide_eq_false c7
     clear c7
     obtain rfl:=Option.some.inj H
     go_wp2_with (first|((with_reducible refine zp (f:=91) rfl ?_);refine goesL_ (some 12) rfl rfl Try.func91 (by kernel_rfl) rfl #[.int .i64 a0] rfl (by (try simp only [List.map_toArray,List.map_cons,List.map_nil]);first|done|rfl|(simp only [List.length_drop,List.length_take];rfl)) ?_;(with_reducible refine (z11.calls k1 a0 t103 _ A6.out).mono ?_);rintro e w' ⟨rfl,⟨nd,rfl⟩⟩;refine ⟨_,rfl,?_⟩))
     go_ret
     exact ⟨_,by first|rfl|(simp [zl,zm] <;> rfl)|(simp [*,zl,zm] <;> rfl),by (with_reducible repeat (first|apply Kd.zi|apply Kd.zj|apply Kd.zo));exact Kd.z19 HO_7.out (fun _ hk=>trivial),by repeat (first|(with_reducible first|exact HB.out|apply z7|apply z1|apply z6|refine z5 ?_ GE101.out|refine z5 ?_ GE102.out)|exact HB.out)⟩
   rw [if_pos c7] at H
   have c7b0 : decide (x8_1 < t103) = true:=decide_eq_true c7
   clear c7
   replace H:=Option.bind_eq_some_iff.mp H
   obtain ⟨t105,A80,H⟩:=H
   replace H : (if t105 = true then (if x7_1.length < 8796093022208 then (zf.l0 k1 a0 (x7_1 ++ [(⟨a2_0,a2_1⟩ : S61)]) (wrap64 (x8_1 + 1)) a1_0 a1_1 a2_0 a2_1) else (none)) else (if x7_1.length < 8796093022208 then (zf.l0 k1 a0 (x7_1 ++ [(⟨0,0⟩ : S61)]) (wrap64 (x8_1 + 1)) a1_0 a1_1 a2_0 a2_1) else (none))) = some r:=H
   have A8:=z2.mk A80
   clear A80
   by_cases c9 : t105 = true
   · subst c9
     have H1 : (if x7_1.length < 8796093022208 then (zf.l0 k1 a0 (x7_1 ++ [(⟨a2_0,a2_1⟩ : S61)]) (wrap64 (x8_1 + 1)) a1_0 a1_1 a2_0 a2_1) else (none)) = some r:=by rw [if_pos rfl] at H;exact H
     clear H
     have H:=H1
     clear H1
     by_cases c10 : x7_1.length < 8796093022208
     rotate_left
     · rw [if_neg c10] at H
       exact absurd H (by simp)
     rw [if_pos c10] at H
     have LMc10:=z2.mk c10
     clear c10
     obtain ⟨y106,hy106⟩ : ∃ y_ : List (S61),y_ = (x7_1 ++ [(⟨a2_0,a2_1⟩ : S61)]):=⟨_,rfl⟩
     replace H : (zf.l0 k1 a0 y106 (wrap64 (x8_1 + 1)) a1_0 a1_1 a2_0 a2_1) = some r:=by first|(rw [hy106];with_reducible exact H)|(have H2_:=(Option.bind_some _ _).symm.trans H;rw [hy106];with_reducible exact H2_)|(have H2_:=(Option.bind_some _ _).symm.trans H;with_reducible exact H2_)|with_reducible exact H|(rw [hy106];exact H)|exact H
     have Ny106:=z2.mk hy106
     clear hy106
     have H':=z2.mk H
     clear H
     go_wp2_with (first|((with_reducible refine zp (f:=91) rfl ?_);refine goesL_ (some 12) rfl rfl Try.func91 (by kernel_rfl) rfl #[.int .i64 a0] rfl (by (try simp only [List.map_toArray,List.map_cons,List.map_nil]);first|done|rfl|(simp only [List.length_drop,List.length_take];rfl)) ?_;(with_reducible refine (z11.calls k1 a0 t103 _ A6.out).mono ?_);rintro e w' ⟨rfl,⟨nd,rfl⟩⟩;refine ⟨_,rfl,?_⟩;(try (rw [z3p wr];generalize hq_ : World.drewN wr _ = wr;have n0_ : z2 (Kd.R k61 61 wr w.heap.size (fun k_=>k_ ≠ gb101 ∧ k_ ≠ gb102) u7 x7_1):=⟨by rw [← hq_];exact (by (with_reducible repeat (first|apply Kd.zi|apply Kd.zj|apply Kd.zo));exact HO_7.out)⟩;have n1_ : z2 (wr.heap[gb101]? = some (.cells #[.int .u64 a1_0,.int .u64 a1_1] 61 (0,0))):=⟨by rw [← hq_];exact (by (with_reducible repeat (first|refine z4 ?_ _|refine z8 ?_|refine z3 ?_ _));exact BK101.out)⟩;have n2_ : z2 (wr.heap[gb102]? = some (.cells #[.int .u64 a2_0,.int .u64 a2_1] 61 (0,0))):=⟨by rw [← hq_];exact (by (with_reducible repeat (first|refine z4 ?_ _|refine z8 ?_|refine z3 ?_ _));exact BK102.out)⟩;have n3_ : z2 (Below w.heap.size w wr):=⟨by rw [← hq_];exact (by repeat (first|(with_reducible first|exact HB.out|apply z7|apply z1|apply z6|refine z5 ?_ GE101.out|refine z5 ?_ GE102.out)|exact HB.out))⟩;clear HO_7 BK101 BK102 HB hq_;have HO_7:=n0_;have BK101:=n1_;have BK102:=n2_;have HB:=n3_;clear n0_ n1_ n2_ n3_)))|((with_reducible refine zG (N:=9) rfl ?_);refine zC ?hg (N:=9) ?hd (cs:=#[.int .u64 0,.int .u64 0]) (t:=61) ?hr ?_;(case hd=>rfl);(case hg=>rfl);(case hr=>first|(go_simp;done)|(go_simp;rfl));intro gb104 hg w11 hbox hb;have n0_:=z2.mk (Kd.zx (Kd.z1P (by (with_reducible repeat (first|apply Kd.zi|apply Kd.zj|apply Kd.zo));exact HO_7.out) gb104 (Nat.le_of_eq hg.symm)) hb);have n1_:=z2.mk (z9 (g:=gb101) (o:=.cells #[.int .u64 a1_0,.int .u64 a1_1] 61 (0,0)) (by (with_reducible repeat (first|refine z4 ?_ _|refine z8 ?_|refine z3 ?_ _));exact BK101.out) hb);have n2_:=z2.mk (z9 (g:=gb102) (o:=.cells #[.int .u64 a2_0,.int .u64 a2_1] 61 (0,0)) (by (with_reducible repeat (first|refine z4 ?_ _|refine z8 ?_|refine z3 ?_ _));exact BK102.out) hb);have n3_:=z2.mk (zd (by repeat (first|(with_reducible first|exact HB.out|apply z7|apply z1|apply z6|refine z5 ?_ GE101.out|refine z5 ?_ GE102.out)|exact HB.out)) hb);have n4_:=z2.mk (hbox);have n5_:=z2.mk ((by rw [hg];exact (ze (by repeat (first|(with_reducible first|exact HB.out|apply z7|apply z1|apply z6|refine z5 ?_ GE101.out|refine z5 ?_ GE102.out)|exact HB.out))) : w.heap.size ≤ gb104));have n6_:=z2.mk ((by rw [hg];exact (ze (by repeat (first|(with_reducible first|exact HB.out|apply z7|apply z1|apply z6|refine z5 ?_ GE101.out|refine z5 ?_ GE102.out)|exact HB.out))) : w.heap.size ≤ gb104));have n7_:=z2.mk ((by rw [hg];exact Nat.ne_of_lt (zI (g:=gb101) (o:=.cells #[.int .u64 a1_0,.int .u64 a1_1] 61 (0,0)) (by (with_reducible repeat (first|refine z4 ?_ _|refine z8 ?_|refine z3 ?_ _));exact BK101.out)) : gb101 ≠ gb104));have n8_:=z2.mk ((by rw [hg];exact Nat.ne_of_gt (zI (g:=gb101) (o:=.cells #[.int .u64 a1_0,.int .u64 a1_1] 61 (0,0)) (by (with_reducible repeat (first|refine z4 ?_ _|refine z8 ?_|refine z3 ?_ _));exact BK101.out)) : gb104 ≠ gb101));have n9_:=z2.mk ((by rw [hg];exact Nat.ne_of_lt (zI (g:=gb102) (o:=.cells #[.int .u64 a2_0,.int .u64 a2_1] 61 (0,0)) (by (with_reducible repeat (first|refine z4 ?_ _|refine z8 ?_|refine z3 ?_ _));exact BK102.out)) : gb102 ≠ gb104));have n10_:=z2.mk ((by rw [hg];exact Nat.ne_of_gt (zI (g:=gb102) (o:=.cells #[.int .u64 a2_0,.int .u64 a2_1] 61 (0,0)) (by (with_reducible repeat (first|refine z4 ?_ _|refine z8 ?_|refine z3 ?_ _));exact BK102.out)) : gb104 ≠ gb102));clear HO_7;clear BK101;clear BK102;clear HB;have HO_7:=n0_;have BK101:=n1_;have BK102:=n2_;have HB:=n3_;have BK104:=n4_;have GW104:=n5_;have GE104:=n6_;have NB101_104:=n7_;have NB104_101:=n8_;have NB102_104:=n9_;have NB104_102:=n10_;clear n0_ n1_ n2_ n3_ n4_ n5_ n6_ n7_ n8_ n9_ n10_;clear hb hbox hg;have hnb12:=NB101_102.out;have hnc12:=NB102_101.out;have hnb13:=NB101_104.out;have hnc13:=NB104_101.out;have hcz14_0 : w11.cell? ⟨gb101,0,none⟩ = some (.int .u64 a1_0):=(za BK101.out 0).trans rfl;have hcz14_1 : w11.cell? ⟨gb101,1,none⟩ = some (.int .u64 a1_1):=(za BK101.out 1).trans rfl;have hfz14_0:=zb BK101.out 0;have hfz14_1:=zb BK101.out 1)|((with_reducible refine zp (f:=73) rfl ?_);refine goesL_ (some 18) rfl rfl Try.func73 (by kernel_rfl) rfl #[.agg #[.int .u64 a1_0,.int .u64 a1_1],.int .i64 x8_1] rfl (by (try simp only [List.map_toArray,List.map_cons,List.map_nil]);first|done|rfl|(simp only [List.length_drop,List.length_take];rfl)) ?_;(with_reducible refine (zF.calls k1 a1_0 a1_1 x8_1 true _ A8.out).mono ?_);rintro e w15 ⟨rfl,hb⟩;refine ⟨_,rfl,?_⟩;have n0_:=z2.mk (Kd.zx (by (with_reducible repeat (first|apply Kd.zi|apply Kd.zj|apply Kd.zo));exact HO_7.out) hb);have n1_:=z2.mk (z9 (g:=gb101) (o:=.cells #[.int .u64 a1_0,.int .u64 a1_1] 61 (0,0)) (by (with_reducible repeat (first|refine z4 ?_ _|refine z8 ?_|refine z3 ?_ _));exact BK101.out) hb);have n2_:=z2.mk (z9 (g:=gb102) (o:=.cells #[.int .u64 a2_0,.int .u64 a2_1] 61 (0,0)) (by (with_reducible repeat (first|refine z4 ?_ _|refine z8 ?_|refine z3 ?_ _));exact BK102.out) hb);have n3_:=z2.mk (z9 (g:=gb104) (o:=.cells #[.int .u64 0,.int .u64 0] 61 (0,0)) (by (with_reducible repeat (first|refine z4 ?_ _|refine z8 ?_|refine z3 ?_ _));exact BK104.out) hb);have n4_:=z2.mk (zd (by repeat (first|(with_reducible first|exact HB.out|apply z7|apply z1|apply z6|refine z5 ?_ GE101.out|refine z5 ?_ GE102.out|refine z5 ?_ GE104.out)|exact HB.out)) hb);clear HO_7;clear BK101;clear BK102;clear BK104;clear HB;have HO_7:=n0_;have BK101:=n1_;have BK102:=n2_;have BK104:=n3_;have HB:=n4_;clear n0_ n1_ n2_ n3_ n4_;(try clear hb);(try clear hb2);(try clear hk);(try clear hi);have hnb16:=NB102_104.out;have hnc16:=NB104_102.out;have hcz17_0 : w15.cell? ⟨gb102,0,none⟩ = some (.int .u64 a2_0):=(za BK102.out 0).trans rfl;have hcz17_1 : w15.cell? ⟨gb102,1,none⟩ = some (.int .u64 a2_1):=(za BK102.out 1).trans rfl;have hfz17_0:=zb BK102.out 0;have hfz17_1:=zb BK102.out 1;have hcz18_0 : w15.cell? ⟨gb104,0,none⟩ = some (.int .u64 0):=(za BK104.out 0).trans rfl;have hcz18_1 : w15.cell? ⟨gb104,1,none⟩ = some (.int .u64 0):=(za BK104.out 1).trans rfl;have hfz18_0:=zb BK104.out 0;have hfz18_1:=zb BK104.out 1)|((with_reducible refine z1W (b:=.append) (xs:=#[.tmp 20,.tmp 22]) rfl ?_);at_builtin;refine Kd.z2S k61 (w0:=w) w.heap.size rfl (.tmp 20) (.tmp 22) 43 61 (.agg #[(.int .u64 0),(.int .u64 0)]) 16 rfl Try.underlying43 info61 rfl (by decide) (by omega) u7 x7_1 (⟨a2_0,a2_1⟩ : S61) [.int .u64 a2_0,.int .u64 a2_1] (fun k_=>k_ ≠ gb101 ∧ k_ ≠ gb102 ∧ k_ ≠ gb104) (fun _=>False) rfl (by first|(go_simp;done)|(go_simp;rfl)) ?aP (fun _ hk=>hk.elim) ?aF ?aO ?aB ?aS ?aL ?_;(case aP=>exact z3D _ _ _ (⟨a2_0,a2_1⟩ : S61));(case aB=>exact (by repeat (first|(with_reducible first|exact HB.out|apply z7|apply z1|apply z6|refine z5 ?_ GE101.out|refine z5 ?_ GE102.out|refine z5 ?_ GE104.out)|exact HB.out)));(case aF=>exact (fun k_ hk=>⟨Kd.freshB (g:=gb101) (o:=.cells #[.int .u64 a1_0,.int .u64 a1_1] 61 (0,0)) (by (with_reducible repeat (first|refine z4 ?_ _|refine z8 ?_|refine z3 ?_ _));refine zL ?_ NB101_104.out _;(with_reducible repeat (first|refine z4 ?_ _|refine z8 ?_|refine z3 ?_ _));refine zL ?_ NB101_104.out _;(with_reducible repeat (first|refine z4 ?_ _|refine z8 ?_|refine z3 ?_ _));exact BK101.out) k_ hk,Kd.freshB (g:=gb102) (o:=.cells #[.int .u64 a2_0,.int .u64 a2_1] 61 (0,0)) (by (with_reducible repeat (first|refine z4 ?_ _|refine z8 ?_|refine z3 ?_ _));refine zL ?_ NB102_104.out _;(with_reducible repeat (first|refine z4 ?_ _|refine z8 ?_|refine z3 ?_ _));refine zL ?_ NB102_104.out _;(with_reducible repeat (first|refine z4 ?_ _|refine z8 ?_|refine z3 ?_ _));exact BK102.out) k_ hk,Kd.freshB (g:=gb104) (o:=.cells #[.int .u64 a2_0,.int .u64 a2_1] 61 (0,0)) (by (with_reducible repeat (first|refine z4 ?_ _|refine z8 ?_|refine z3 ?_ _));refine zQ (cs:=#[.int .u64 a2_0,.int .u64 0]) ?_ 1 _ rfl;(with_reducible repeat (first|refine z4 ?_ _|refine z8 ?_|refine z3 ?_ _));refine zQ (cs:=#[.int .u64 0,.int .u64 0]) ?_ 0 _ rfl;(with_reducible repeat (first|refine z4 ?_ _|refine z8 ?_|refine z3 ?_ _));exact BK104.out) k_ hk⟩));(case aO=>exact (by (with_reducible repeat (first|apply Kd.zi|apply Kd.zj|apply Kd.zo));exact Kd.z19 (Kd.z1H (p:=⟨gb104,1,none⟩) (Kd.z1H (p:=⟨gb104,0,none⟩) (Kd.z19 HO_7.out (fun k_ hk=>(⟨hk,hk.2⟩ : _ ∧ k_ ≠ gb104))) (fun _ hk=>hk.2) (.int .u64 a2_0)) (fun _ hk=>hk.2) (.int .u64 a2_1)) (fun _ hk=>⟨hk.1.1.1,⟨hk.1.1.2,hk.1.2⟩⟩)));(case aS=>exact (ze (by repeat (first|(with_reducible first|exact HB.out|apply z7|apply z1|apply z6|refine z5 ?_ GE101.out|refine z5 ?_ GE102.out|refine z5 ?_ GE104.out)|exact HB.out))));(case aL=>have:=LMc10.out;omega);intro v107 w19 ho hb hg hat;rw [← Ny106.out] at ho;have n0_:=z2.mk (z1D (g:=gb101) (o:=.cells #[.int .u64 a1_0,.int .u64 a1_1] 61 (0,0)) (by (with_reducible repeat (first|refine z4 ?_ _|refine z8 ?_|refine z3 ?_ _));refine zL ?_ NB101_104.out _;(with_reducible repeat (first|refine z4 ?_ _|refine z8 ?_|refine z3 ?_ _));refine zL ?_ NB101_104.out _;(with_reducible repeat (first|refine z4 ?_ _|refine z8 ?_|refine z3 ?_ _));exact BK101.out) hg (Kd.z1M HO_7.out (fun _ hk=>hk.1.1)));have n1_:=z2.mk (z1D (g:=gb102) (o:=.cells #[.int .u64 a2_0,.int .u64 a2_1] 61 (0,0)) (by (with_reducible repeat (first|refine z4 ?_ _|refine z8 ?_|refine z3 ?_ _));refine zL ?_ NB102_104.out _;(with_reducible repeat (first|refine z4 ?_ _|refine z8 ?_|refine z3 ?_ _));refine zL ?_ NB102_104.out _;(with_reducible repeat (first|refine z4 ?_ _|refine z8 ?_|refine z3 ?_ _));exact BK102.out) hg (Kd.z1M HO_7.out (fun _ hk=>hk.1.2)));have n2_:=z2.mk (z1D (g:=gb104) (o:=.cells #[.int .u64 a2_0,.int .u64 a2_1] 61 (0,0)) (by (with_reducible repeat (first|refine z4 ?_ _|refine z8 ?_|refine z3 ?_ _));refine zQ (cs:=#[.int .u64 a2_0,.int .u64 0]) ?_ 1 _ rfl;(with_reducible repeat (first|refine z4 ?_ _|refine z8 ?_|refine z3 ?_ _));refine zQ (cs:=#[.int .u64 0,.int .u64 0]) ?_ 0 _ rfl;(with_reducible repeat (first|refine z4 ?_ _|refine z8 ?_|refine z3 ?_ _));exact BK104.out) hg (Kd.z1M HO_7.out (fun _ hk=>hk.2)));have n3_:=z2.mk (hb);have n4_:=z2.mk (ho);clear BK101;clear BK102;clear BK104;clear HB;clear HO_7;have BK101:=n0_;have BK102:=n1_;have BK104:=n2_;have HB:=n3_;have HO108:=n4_;clear n0_ n1_ n2_ n3_ n4_;clear ho hb hg hat))
     go_roundg k1
     case measure=>have:=HK1.out;omega
     case rel=>exact ⟨(y106),(wrap64 (x8_1 + 1)),(by first|rfl|(simp;done)|(simp [*];done)),H',⟨by have:=HK1.out;omega⟩,⟨by (with_reducible repeat (first|apply Kd.zi|apply Kd.zj|apply Kd.zo));exact Kd.z19 HO108.out (fun _ hk=>⟨hk.1,hk.2.1⟩)⟩,⟨by (with_reducible repeat (first|refine z4 ?_ _|refine z8 ?_|refine z3 ?_ _));exact BK101.out⟩,⟨by (with_reducible repeat (first|refine z4 ?_ _|refine z8 ?_|refine z3 ?_ _));exact BK102.out⟩,⟨by repeat (first|(with_reducible first|exact HB.out|apply z7|apply z1|apply z6|refine z5 ?_ GE101.out|refine z5 ?_ GE102.out|refine z5 ?_ GE104.out)|exact HB.out)⟩⟩
   replace c9:=Bool.eq_false_iff.mpr c9
   subst c9
   have H1 : (if x7_1.length < 8796093022208 then (zf.l0 k1 a0 (x7_1 ++ [(⟨0,0⟩ : S61)]) (wrap64 (x8_1 + 1)) a1_0 a1_1 a2_0 a2_1) else (none)) = some r:=by rw [if_neg (show ¬ (false = true) by decide)] at H;exact H
   clear H
   have H:=H1
   clear H1
   by_cases c20 : x7_1.length < 8796093022208
   rotate_left
   · rw [if_neg c20] at H
     exact absurd H (by simp)
   rw [if_pos c20] at H
   have LMc20:=z2.mk c20
   clear c20
   obtain ⟨y109,hy109⟩ : ∃ y_ : List (S61),y_ = (x7_1 ++ [(⟨0,0⟩ : S61)]):=⟨_,rfl⟩
   replace H : (zf.l0 k1 a0 y109 (wrap64 (x8_1 + 1)) a1_0 a1_1 a2_0 a2_1) = some r:=by first|(rw [hy109];with_reducible exact H)|(have H2_:=(Option.bind_some _ _).symm.trans H;rw [hy109];with_reducible exact H2_)|(have H2_:=(Option.bind_some _ _).symm.trans H;with_reducible exact H2_)|with_reducible exact H|(rw [hy109];exact H)|exact H
   have Ny109:=z2.mk hy109
   clear hy109
   have H':=z2.mk H
   clear H
   go_wp2_with (first|((with_reducible refine zp (f:=91) rfl ?_);refine goesL_ (some 12) rfl rfl Try.func91 (by kernel_rfl) rfl #[.int .i64 a0] rfl (by (try simp only [List.map_toArray,List.map_cons,List.map_nil]);first|done|rfl|(simp only [List.length_drop,List.length_take];rfl)) ?_;(with_reducible refine (z11.calls k1 a0 t103 _ A6.out).mono ?_);rintro e w' ⟨rfl,⟨nd,rfl⟩⟩;refine ⟨_,rfl,?_⟩)|((with_reducible refine zG (N:=9) rfl ?_);refine zC ?hg (N:=9) ?hd (cs:=#[.int .u64 0,.int .u64 0]) (t:=61) ?hr ?_;(case hd=>rfl);(case hg=>rfl);(case hr=>first|(go_simp;done)|(go_simp;rfl));intro gb104 hg w21 hbox hb;have n0_:=z2.mk (Kd.zx (Kd.z1P (by (with_reducible repeat (first|apply Kd.zi|apply Kd.zj|apply Kd.zo));exact HO_7.out) gb104 (Nat.le_of_eq hg.symm)) hb);have n1_:=z2.mk (z9 (g:=gb101) (o:=.cells #[.int .u64 a1_0,.int .u64 a1_1] 61 (0,0)) (by (with_reducible repeat (first|refine z4 ?_ _|refine z8 ?_|refine z3 ?_ _));exact BK101.out) hb);have n2_:=z2.mk (z9 (g:=gb102) (o:=.cells #[.int .u64 a2_0,.int .u64 a2_1] 61 (0,0)) (by (with_reducible repeat (first|refine z4 ?_ _|refine z8 ?_|refine z3 ?_ _));exact BK102.out) hb);have n3_:=z2.mk (zd (by repeat (first|(with_reducible first|exact HB.out|apply z7|apply z1|apply z6|refine z5 ?_ GE101.out|refine z5 ?_ GE102.out)|exact HB.out)) hb);have n4_:=z2.mk (hbox);have n5_:=z2.mk ((by rw [hg];exact (ze (by repeat (first|(with_reducible first|exact HB.out|apply z7|apply z1|apply z6|refine z5 ?_ GE101.out|refine z5 ?_ GE102.out)|exact HB.out))) : w.heap.size ≤ gb104));have n6_:=z2.mk ((by rw [hg];exact (ze (by repeat (first|(with_reducible first|exact HB.out|apply z7|apply z1|apply z6|refine z5 ?_ GE101.out|refine z5 ?_ GE102.out)|exact HB.out))) : w.heap.size ≤ gb104));have n7_:=z2.mk ((by rw [hg];exact Nat.ne_of_lt (zI (g:=gb101) (o:=.cells #[.int .u64 a1_0,.int .u64 a1_1] 61 (0,0)) (by (with_reducible repeat (first|refine z4 ?_ _|refine z8 ?_|refine z3 ?_ _));exact BK101.out)) : gb101 ≠ gb104));have n8_:=z2.mk ((by rw [hg];exact Nat.ne_of_gt (zI (g:=gb101) (o:=.cells #[.int .u64 a1_0,.int .u64 a1_1] 61 (0,0)) (by (with_reducible repeat (first|refine z4 ?_ _|refine z8 ?_|refine z3 ?_ _));exact BK101.out)) : gb104 ≠ gb101));have n9_:=z2.mk ((by rw [hg];exact Nat.ne_of_lt (zI (g:=gb102) (o:=.cells #[.int .u64 a2_0,.int .u64 a2_1] 61 (0,0)) (by (with_reducible repeat (first|refine z4 ?_ _|refine z8 ?_|refine z3 ?_ _));exact BK102.out)) : gb102 ≠ gb104));have n10_:=z2.mk ((by rw [hg];exact Nat.ne_of_gt (zI (g:=gb102) (o:=.cells #[.int .u64 a2_0,.int .u64 a2_1] 61 (0,0)) (by (with_reducible repeat (first|refine z4 ?_ _|refine z8 ?_|refine z3 ?_ _));exact BK102.out)) : gb104 ≠ gb102));clear HO_7;clear BK101;clear BK102;clear HB;have HO_7:=n0_;have BK101:=n1_;have BK102:=n2_;have HB:=n3_;have BK104:=n4_;have GW104:=n5_;have GE104:=n6_;have NB101_104:=n7_;have NB104_101:=n8_;have NB102_104:=n9_;have NB104_102:=n10_;clear n0_ n1_ n2_ n3_ n4_ n5_ n6_ n7_ n8_ n9_ n10_;clear hb hbox hg;have hnb22:=NB101_102.out;have hnc22:=NB102_101.out;have hnb23:=NB101_104.out;have hnc23:=NB104_101.out;have hcz24_0 : w21.cell? ⟨gb101,0,none⟩ = some (.int .u64 a1_0):=(za BK101.out 0).trans rfl;have hcz24_1 : w21.cell? ⟨gb101,1,none⟩ = some (.int .u64 a1_1):=(za BK101.out 1).trans rfl;have hfz24_0:=zb BK101.out 0;have hfz24_1:=zb BK101.out 1)|((with_reducible refine zp (f:=73) rfl ?_);refine goesL_ (some 18) rfl rfl Try.func73 (by kernel_rfl) rfl #[.agg #[.int .u64 a1_0,.int .u64 a1_1],.int .i64 x8_1] rfl (by (try simp only [List.map_toArray,List.map_cons,List.map_nil]);first|done|rfl|(simp only [List.length_drop,List.length_take];rfl)) ?_;(with_reducible refine (zF.calls k1 a1_0 a1_1 x8_1 false _ A8.out).mono ?_);rintro e w25 ⟨rfl,hb⟩;refine ⟨_,rfl,?_⟩;have n0_:=z2.mk (Kd.zx (by (with_reducible repeat (first|apply Kd.zi|apply Kd.zj|apply Kd.zo));exact HO_7.out) hb);have n1_:=z2.mk (z9 (g:=gb101) (o:=.cells #[.int .u64 a1_0,.int .u64 a1_1] 61 (0,0)) (by (with_reducible repeat (first|refine z4 ?_ _|refine z8 ?_|refine z3 ?_ _));exact BK101.out) hb);have n2_:=z2.mk (z9 (g:=gb102) (o:=.cells #[.int .u64 a2_0,.int .u64 a2_1] 61 (0,0)) (by (with_reducible repeat (first|refine z4 ?_ _|refine z8 ?_|refine z3 ?_ _));exact BK102.out) hb);have n3_:=z2.mk (z9 (g:=gb104) (o:=.cells #[.int .u64 0,.int .u64 0] 61 (0,0)) (by (with_reducible repeat (first|refine z4 ?_ _|refine z8 ?_|refine z3 ?_ _));exact BK104.out) hb);have n4_:=z2.mk (zd (by repeat (first|(with_reducible first|exact HB.out|apply z7|apply z1|apply z6|refine z5 ?_ GE101.out|refine z5 ?_ GE102.out|refine z5 ?_ GE104.out)|exact HB.out)) hb);clear HO_7;clear BK101;clear BK102;clear BK104;clear HB;have HO_7:=n0_;have BK101:=n1_;have BK102:=n2_;have BK104:=n3_;have HB:=n4_;clear n0_ n1_ n2_ n3_ n4_;(try clear hb);(try clear hb2);(try clear hk);(try clear hi);have hnb26:=NB104_102.out;have hnc26:=NB102_104.out;have hcz27_0 : w25.cell? ⟨gb104,0,none⟩ = some (.int .u64 0):=(za BK104.out 0).trans rfl;have hcz27_1 : w25.cell? ⟨gb104,1,none⟩ = some (.int .u64 0):=(za BK104.out 1).trans rfl;have hfz27_0:=zb BK104.out 0;have hfz27_1:=zb BK104.out 1)|((with_reducible refine z1W (b:=.append) (xs:=#[.tmp 20,.tmp 22]) rfl ?_);at_builtin;refine Kd.z2S k61 (w0:=w) w.heap.size rfl (.tmp 20) (.tmp 22) 43 61 (.agg #[(.int .u64 0),(.int .u64 0)]) 16 rfl Try.underlying43 info61 rfl (by decide) (by omega) u7 x7_1 (⟨0,0⟩ : S61) [.int .u64 0,.int .u64 0] (fun k_=>k_ ≠ gb101 ∧ k_ ≠ gb102 ∧ k_ ≠ gb104) (fun _=>False) rfl rfl ?aP (fun _ hk=>hk.elim) ?aF ?aO ?aB ?aS ?aL ?_;(case aP=>exact z3D _ _ _ (⟨0,0⟩ : S61));(case aB=>exact (by repeat (first|(with_reducible first|exact HB.out|apply z7|apply z1|apply z6|refine z5 ?_ GE101.out|refine z5 ?_ GE102.out|refine z5 ?_ GE104.out)|exact HB.out)));(case aF=>exact (fun k_ hk=>⟨Kd.freshB (g:=gb101) (o:=.cells #[.int .u64 a1_0,.int .u64 a1_1] 61 (0,0)) (by (with_reducible repeat (first|refine z4 ?_ _|refine z8 ?_|refine z3 ?_ _));exact BK101.out) k_ hk,Kd.freshB (g:=gb102) (o:=.cells #[.int .u64 a2_0,.int .u64 a2_1] 61 (0,0)) (by (with_reducible repeat (first|refine z4 ?_ _|refine z8 ?_|refine z3 ?_ _));exact BK102.out) k_ hk,Kd.freshB (g:=gb104) (o:=.cells #[.int .u64 0,.int .u64 0] 61 (0,0)) (by (with_reducible repeat (first|refine z4 ?_ _|refine z8 ?_|refine z3 ?_ _));exact BK104.out) k_ hk⟩));(case aO=>exact (by (with_reducible repeat (first|apply Kd.zi|apply Kd.zj|apply Kd.zo));exact Kd.z19 HO_7.out (fun _ hk=>⟨hk.1.1,⟨hk.1.2,hk.2⟩⟩)));(case aS=>exact (ze (by repeat (first|(with_reducible first|exact HB.out|apply z7|apply z1|apply z6|refine z5 ?_ GE101.out|refine z5 ?_ GE102.out|refine z5 ?_ GE104.out)|exact HB.out))));(case aL=>have:=LMc20.out;omega);intro v110 w28 ho hb hg hat;rw [← Ny109.out] at ho;have n0_:=z2.mk (z1D (g:=gb101) (o:=.cells #[.int .u64 a1_0,.int .u64 a1_1] 61 (0,0)) (by (with_reducible repeat (first|refine z4 ?_ _|refine z8 ?_|refine z3 ?_ _));exact BK101.out) hg (Kd.z1M HO_7.out (fun _ hk=>hk.1.1)));have n1_:=z2.mk (z1D (g:=gb102) (o:=.cells #[.int .u64 a2_0,.int .u64 a2_1] 61 (0,0)) (by (with_reducible repeat (first|refine z4 ?_ _|refine z8 ?_|refine z3 ?_ _));exact BK102.out) hg (Kd.z1M HO_7.out (fun _ hk=>hk.1.2)));have n2_:=z2.mk (z1D (g:=gb104) (o:=.cells #[.int .u64 0,.int .u64 0] 61 (0,0)) (by (with_reducible repeat (first|refine z4 ?_ _|refine z8 ?_|refine z3 ?_ _));exact BK104.out) hg (Kd.z1M HO_7.out (fun _ hk=>hk.2)));have n3_:=z2.mk (hb);have n4_:=z2.mk (ho);clear BK101;clear BK102;clear BK104;clear HB;clear HO_7;have BK101:=n0_;have BK102:=n1_;have BK104:=n2_;have HB:=n3_;have HO111:=n4_;clear n0_ n1_ n2_ n3_ n4_;clear ho hb hg hat))
   go_roundg k1
   case measure=>have:=HK1.out;omega
   case rel=>exact ⟨(y109),(wrap64 (x8_1 + 1)),(by first|rfl|(simp;done)|(simp [*];done)),H',⟨by have:=HK1.out;omega⟩,⟨by (with_reducible repeat (first|apply Kd.zi|apply Kd.zj|apply Kd.zo));exact Kd.z19 HO111.out (fun _ hk=>⟨hk.1,hk.2.1⟩)⟩,⟨by (with_reducible repeat (first|refine z4 ?_ _|refine z8 ?_|refine z3 ?_ _));exact BK101.out⟩,⟨by (with_reducible repeat (first|refine z4 ?_ _|refine z8 ?_|refine z3 ?_ _));exact BK102.out⟩,⟨by repeat (first|(with_reducible first|exact HB.out|apply z7|apply z1|apply z6|refine z5 ?_ GE101.out|refine z5 ?_ GE102.out|refine z5 ?_ GE104.out)|exact HB.out)⟩⟩
end Go.Proofs.Ytngcaphdkgihmaa.P
namespace Go.Proofs.Ytngcaphdkgihmaa.P
open Go.RowKit Go.Proofs.YtngcaphdkgihmaaW.PrintWords Go.Proofs.YtngcaphdkgihmaaW.PrintLast Go.Proofs.YtngcaphdkgihmaaW.PrintMore
attribute [local go_sem] zX zZ z16 z17 zT zU zY z10   -- for this text's walks alone
set_option linter.unusedVariables false
set_option linter.unusedSimpArgs false
def zc.j0 : Nat → Int → List (S51) → List (S51) → Bool → Int → Int → Int → Int → Option (Bool)
 | 0,_,_,_,_,_,_,_,_=>none
 | k + 1,x0,x5,x6,x22,x109000,x109001,x110000,x110001=>if x22 = true then ((zr.f k).bind fun t110=>(if t110 = true then ((z18.f k x0).bind fun t111=>(some ((wrap64 ((wrap64 ((x5.length : Int) + (x6.length : Int))) + (t111.length : Int))) == 0))) else (some false))) else ((z18.f k x0).bind fun t114=>((zf.f k x0 x109000 x109001 x109000 x109001).bind fun t117=>((zg.f k t114 t117).bind fun t120=>(if t120 = true then ((zk.f k x0 x110000 x110001).bind fun t121=>(if t121 = true then ((zr.f k).bind fun t123=>(if t123 = true then ((zf.f k x0 x110000 x110001 x109000 x109001).bind fun t124=>((zg.f k x5 t124).bind fun t127=>(if t127 = true then ((zf.f k x0 x109000 x109001 x110000 x110001).bind fun t128=>((zg.f k x6 t128).bind fun t131=>(some t131))) else (some false)))) else (some false))) else ((zr.f k).bind fun t122=>(if t122 = true then (some ((wrap64 ((x5.length : Int) + (x6.length : Int))) == 0)) else (some false))))) else (some false)))))
def zc.f (k : Nat) (a0 : Int) (a1_0 : Int) (a1_1 : Int) : Option (Bool):=(zw.f k a0 a1_0 a1_1).bind fun t102=>((zW.f k a0 a1_0 a1_1).bind fun t105=>(if a0 < 0 then (zc.j0 k a0 t102 t105 true 0 1 a1_0 a1_1) else (zc.j0 k a0 t102 t105 (decide (a0 > 7)) 0 1 a1_0 a1_1)))
theorem zc.z12 : ∀ k,(∀ y0 y1 y2 y3 y4 y5 y6 y7,LeO (zc.j0 k y0 y1 y2 y3 y4 y5 y6 y7) (zc.j0 (k + 1) y0 y1 y2 y3 y4 y5 y6 y7))
 | 0=>fun _ _ _ _ _ _ _ _ r h=>by simp [zc.j0] at h
 | k + 1=>by
  have ih0:=zc.z12 k
  · intro y0 y1 y2 y3 y4 y5 y6 y7
    unfold zc.j0
    repeat' first
    | (with_reducible exact ih0 _ _ _ _ _ _ _ _)
    | (with_reducible exact zw.mono _ _ _ _)
    | (with_reducible exact z18.mono _ _)
    | (with_reducible exact zW.mono _ _ _ _)
    | (with_reducible exact zg.mono _ _ _)
    | (with_reducible exact zr.mono _)
    | (with_reducible exact zk.mono _ _ _ _)
    | (with_reducible exact zf.mono _ _ _ _ _ _)
    | (with_reducible exact LeO.refl _)
    | (with_reducible exact LeO.none _)
    | (with_reducible refine LeO.ite ?_ ?_)
    | (with_reducible refine LeO.bind ?_ (fun _=>?_))
    | exact ih0 _ _ _ _ _ _ _ _
    | exact zw.mono _ _ _ _
    | exact z18.mono _ _
    | exact zW.mono _ _ _ _
    | exact zg.mono _ _ _
    | exact zr.mono _
    | exact zk.mono _ _ _ _
    | exact zf.mono _ _ _ _ _ _
    | exact LeO.none _
    | refine LeO.ite ?_ ?_
    | refine LeO.bind ?_ (fun _=>?_)
theorem zc.mono : ∀ a0 a1 a2 k,LeO (zc.f k a0 a1 a2) (zc.f (k + 1) a0 a1 a2):=by
 intro a0 a1 a2 k
 have ih0:=zc.z12 k
 unfold zc.f
 repeat' first
  | (with_reducible exact ih0 _ _ _ _ _ _ _ _)
  | (with_reducible exact zw.mono _ _ _ _)
  | (with_reducible exact z18.mono _ _)
  | (with_reducible exact zW.mono _ _ _ _)
  | (with_reducible exact zg.mono _ _ _)
  | (with_reducible exact zr.mono _)
  | (with_reducible exact zk.mono _ _ _ _)
  | (with_reducible exact zf.mono _ _ _ _ _ _)
  | (with_reducible exact LeO.refl _)
  | (with_reducible exact LeO.none _)
  | (with_reducible refine LeO.ite ?_ ?_)
  | (with_reducible refine LeO.bind ?_ (fun _=>?_))
  | exact ih0 _ _ _ _ _ _ _ _
  | exact zw.mono _ _ _ _
  | exact z18.mono _ _
  | exact zW.mono _ _ _ _
  | exact zg.mono _ _ _
  | exact zr.mono _
  | exact zk.mono _ _ _ _
  | exact zf.mono _ _ _ _ _ _
  | exact LeO.none _
  | refine LeO.ite ?_ ?_
  | refine LeO.bind ?_ (fun _=>?_)
def zc.T1 : Bool × List (List Nat × List Nat):=(true,[([],[]),([],[]),([0,1],[0,1]),([],[]),([],[]),([3,4,2],[3,4]),([2,5,0,1,2],[2]),([5,6,0,1,2,3,4,5,6],[5])])
def zc.B1 : List Nat:=[0,0,3,0,0,31,63,127]
theorem zc.tab1 : rtab .any (opsOf Try.f14 1) = zc.T1:=by kernel_rfl
theorem zc.bits1 : waitsOk zc.T1.2 zc.B1 = true:=by kernel_rfl
def zc.T6 : Bool × List (List Nat × List Nat):=(true,[([],[]),([0],[0]),([],[]),([],[]),([],[]),([2,3,4,1],[2,3,4]),([1,5,5],[1,5]),([6],[6])])
def zc.B6 : List Nat:=[0,1,0,0,0,31,63,127]
theorem zc.tab6 : rtab .any (opsOf Try.f14 6) = zc.T6:=by kernel_rfl
theorem zc.bits6 : waitsOk zc.T6.2 zc.B6 = true:=by kernel_rfl
set_option maxHeartbeats 8000000 in
set_option maxRecDepth 100000 in
theorem zc.calls (k : Nat) (a0 : Int) (a1_0 : Int) (a1_1 : Int) (r : Bool) (w : World) (h : zc.f k a0 a1_0 a1_1 = some r) :
 Calls Try.prog 14 #[.int .i64 a0,.agg #[.int .u64 a1_0,.int .u64 a1_1]] w fun e w'=>e = .returned (.bool r) ∧ Below w.heap.size w w':=by
 have hu51:=Try.underlying51
 have hu61:=Try.underlying61
 have HB:=z2.mk (Below.refl w.heap.size w)
 have H : ((zw.f k a0 a1_0 a1_1).bind fun t102=>((zW.f k a0 a1_0 a1_1).bind fun t105=>(if a0 < 0 then (zc.j0 k a0 t102 t105 true 0 1 a1_0 a1_1) else (zc.j0 k a0 t102 t105 (decide (a0 > 7)) 0 1 a1_0 a1_1)))) = some r:=h
 clear h
 replace H:=Option.bind_eq_some_iff.mp H
 obtain ⟨t102,A30,H⟩:=H
 replace H : ((zW.f k a0 a1_0 a1_1).bind fun t105=>(if a0 < 0 then (zc.j0 k a0 t102 t105 true 0 1 a1_0 a1_1) else (zc.j0 k a0 t102 t105 (decide (a0 > 7)) 0 1 a1_0 a1_1))) = some r:=H
 have A3:=z2.mk A30
 clear A30
 replace H:=Option.bind_eq_some_iff.mp H
 obtain ⟨t105,A40,H⟩:=H
 replace H : (if a0 < 0 then (zc.j0 k a0 t102 t105 true 0 1 a1_0 a1_1) else (zc.j0 k a0 t102 t105 (decide (a0 > 7)) 0 1 a1_0 a1_1)) = some r:=H
 have A4:=z2.mk A40
 clear A40
 have HC5:=z2.mk H
 clear H
 go_enter Try.func14,Try.ntmps14
 try go_wp2_with (first|((with_reducible refine zG (N:=3) rfl ?_);(try (refine z2J (by rfl) ?_;dsimp only));refine zC ?hg (N:=3) ?hd (cs:=#[.int .u64 a1_0,.int .u64 a1_1]) (t:=51) ?hr ?_;(case hd=>rfl);(case hg=>rfl);(case hr=>first|(go_simp;done)|(go_simp;rfl));intro gb101 hg w6 hbox hb;have n0_:=z2.mk (zd (by repeat (first|(with_reducible first|exact HB.out|apply z7|apply z1|apply z6)|exact HB.out)) hb);have n1_:=z2.mk (hbox);have n2_:=z2.mk ((by rw [hg];exact (ze (by repeat (first|(with_reducible first|exact HB.out|apply z7|apply z1|apply z6)|exact HB.out))) : w.heap.size ≤ gb101));have n3_:=z2.mk ((by rw [hg];exact (ze (by repeat (first|(with_reducible first|exact HB.out|apply z7|apply z1|apply z6)|exact HB.out))) : w.heap.size ≤ gb101));clear HB;have HB:=n0_;have BK101:=n1_;have GW101:=n2_;have GE101:=n3_;clear n0_ n1_ n2_ n3_;clear hb hbox hg))
 have n0_:=z2.mk (z8 BK101.out)
 have n1_:=z2.mk (z6 HB.out)
 clear BK101
 clear HB
 have BK101:=n0_
 have HB:=n1_
 clear n0_ n1_
 refine start_ (n:=8) (S:=fun w'=>w'.cell? ⟨gb101,0,none⟩ = some (.int .u64 a1_0) ∧ w'.cell? ⟨gb101,1,none⟩ = some (.int .u64 a1_1)) (ds:=[]) #[false,false,false,false,false,false,false,false] (by kernel_rfl) rfl rfl ⟨(za BK101.out 0).trans rfl,(za BK101.out 1).trans rfl⟩ (fun hHeld=>?_);refine z1y zc.tab1 zc.bits1 (fun HT_ HW_=>?_)
 generalize w6.drew = w7 at BK101 HB hHeld ⊢
 refine pure_ (i:=0) (N:=some 9) (v:=?_) (a':=?_) #[true,false,false,false,false,false,false,false] rfl rfl (z1d HT_.out (by kernel_rfl)) (fun _ _ _ h=>h) (Or.inl ⟨by rfl,?_⟩) ?_ ?_
 rotate_left
 · intro w'
   go_simp
   with_reducible rfl
 rotate_left
 · simp only [Act.put,List.setIfInBounds_toArray,List.set_cons_zero,List.set_cons_succ,zR,zV]
   rfl
 refine pure_ (i:=3) (N:=some 12) (v:=?_) (a':=?_) #[true,false,false,true,false,false,false,false] rfl rfl (z1d HT_.out (by kernel_rfl)) (fun _ _ _ h=>h) (Or.inl ⟨by rfl,?_⟩) ?_ ?_
 rotate_left
 · intro w'
   go_simp
   with_reducible rfl
 rotate_left
 · simp only [Act.put,List.setIfInBounds_toArray,List.set_cons_zero,List.set_cons_succ,zR,zV]
   rfl
 refine take_ (i:=1) (N:=some 10) (v:=?_) (a':=?_) #[true,true,false,true,false,false,false,false] rfl rfl (z1e HT_.out HW_.out (by kernel_rfl)) (fun _ _ _ h=>h) (Or.inl ⟨by rfl,?_⟩) hHeld ?_ ?_
 rotate_left
 · rintro w' ⟨s0,s1⟩
   go_simp
   with_reducible rfl
 rotate_left
 · simp only [Act.put,List.setIfInBounds_toArray,List.set_cons_zero,List.set_cons_succ,zR,zV]
   rfl
 refine take_ (i:=4) (N:=some 13) (v:=?_) (a':=?_) #[true,true,false,true,true,false,false,false] rfl rfl (z1e HT_.out HW_.out (by kernel_rfl)) (fun _ _ _ h=>h) (Or.inl ⟨by rfl,?_⟩) hHeld ?_ ?_
 rotate_left
 · rintro w' ⟨s0,s1⟩
   go_simp
   with_reducible rfl
 rotate_left
 · simp only [Act.put,List.setIfInBounds_toArray,List.set_cons_zero,List.set_cons_succ,zR,zV]
   rfl
 refine one_ (i:=2) (N:=some 11) #[true,true,true,true,true,false,false,false] rfl rfl (z1l HT_.out (by kernel_rfl)) (by decide) (fun K hK=>?_)
 refine goes_ Try.func59 (by kernel_rfl) rfl #[.int .i64 a0,.agg #[.int .u64 a1_0,.int .u64 a1_1]] (by rfl) rfl rfl (by (try simp only [List.map_toArray,List.map_cons,List.map_nil]);first|done|rfl|(simp only [List.length_drop,List.length_take];rfl)) ?_
 with_reducible refine (zw.calls k a0 a1_0 a1_1 t102 _ A3.out).mono ?_
 rintro e w8 ⟨v103,rfl,ho0,hb⟩
 refine ⟨_,rfl,?_⟩
 have n0_:=z2.mk (Kd.z14 (Kd.z1n ho0 (g:=gb101) (o:=.cells #[.int .u64 a1_0,.int .u64 a1_1] 51 (0,0)) (by (with_reducible repeat (first|refine z4 ?_ _|refine z8 ?_|refine z3 ?_ _));exact BK101.out)) (ze (by repeat (first|(with_reducible first|exact HB.out|apply z7|apply z1|apply z6|refine z5 ?_ GE101.out)|exact HB.out))))
 have n1_:=z2.mk (z9 (g:=gb101) (o:=.cells #[.int .u64 a1_0,.int .u64 a1_1] 51 (0,0)) (by (with_reducible repeat (first|refine z4 ?_ _|refine z8 ?_|refine z3 ?_ _));exact BK101.out) hb)
 have n2_:=z2.mk (zd (by repeat (first|(with_reducible first|exact HB.out|apply z7|apply z1|apply z6|refine z5 ?_ GE101.out)|exact HB.out)) hb)
 clear BK101
 clear HB
 have HO104:=n0_
 have BK101:=n1_
 have HB:=n2_
 clear n0_ n1_ n2_
 (try clear hb)
 (try clear hb2)
 (try clear hk)
 (try clear hi)
 (try clear ho0)
 refine hK.out _ _ ⟨(za BK101.out 0).trans rfl,(za BK101.out 1).trans rfl⟩ (fun hHeld=>?_)
 clear hK K
 refine norm_ (a':=?_) ?_ ?_
 rotate_left
 · show Act.put _ (some 11) _ = _
   simp only [Act.put,List.setIfInBounds_toArray,List.set_cons_zero,List.set_cons_succ,zR,zV]
   rfl
 refine one_ (i:=5) (N:=some 14) #[true,true,true,true,true,true,false,false] rfl rfl (z1l HT_.out (by kernel_rfl)) (by decide) (fun K hK=>?_)
 refine goes_ Try.func60 (by kernel_rfl) rfl #[.int .i64 a0,.agg #[.int .u64 a1_0,.int .u64 a1_1]] (by rfl) rfl rfl (by (try simp only [List.map_toArray,List.map_cons,List.map_nil]);first|done|rfl|(simp only [List.length_drop,List.length_take];rfl)) ?_
 with_reducible refine (zW.calls k a0 a1_0 a1_1 t105 _ A4.out).mono ?_
 rintro e w9 ⟨v106,rfl,ho0,hb⟩
 refine ⟨_,rfl,?_⟩
 have n0_:=z2.mk (Kd.z15 (by (with_reducible repeat (first|apply Kd.zi|apply Kd.zj|apply Kd.zo));exact HO104.out) (Kd.z1f ho0) hb)
 have n1_:=z2.mk (Kd.z14 (Kd.z1n (Kd.z1i ho0 (Kd.R_lt (by (with_reducible repeat (first|apply Kd.zi|apply Kd.zj|apply Kd.zo));exact HO104.out))) (g:=gb101) (o:=.cells #[.int .u64 a1_0,.int .u64 a1_1] 51 (0,0)) (by (with_reducible repeat (first|refine z4 ?_ _|refine z8 ?_|refine z3 ?_ _));exact BK101.out)) (ze (by repeat (first|(with_reducible first|exact HB.out|apply z7|apply z1|apply z6|refine z5 ?_ GE101.out)|exact HB.out))))
 have n2_:=z2.mk (z9 (g:=gb101) (o:=.cells #[.int .u64 a1_0,.int .u64 a1_1] 51 (0,0)) (by (with_reducible repeat (first|refine z4 ?_ _|refine z8 ?_|refine z3 ?_ _));exact BK101.out) hb)
 have n3_:=z2.mk (zd (by repeat (first|(with_reducible first|exact HB.out|apply z7|apply z1|apply z6|refine z5 ?_ GE101.out)|exact HB.out)) hb)
 clear HO104
 clear BK101
 clear HB
 have HO104:=n0_
 have HO107:=n1_
 have BK101:=n2_
 have HB:=n3_
 clear n0_ n1_ n2_ n3_
 (try clear hb)
 (try clear hb2)
 (try clear hk)
 (try clear hi)
 (try clear ho0)
 refine hK.out _ _ ⟨(za BK101.out 0).trans rfl,(za BK101.out 1).trans rfl⟩ (fun hHeld=>?_)
 clear hK K
 refine norm_ (a':=?_) ?_ ?_
 rotate_left
 · show Act.put _ (some 14) _ = _
   simp only [Act.put,List.setIfInBounds_toArray,List.set_cons_zero,List.set_cons_succ,zR,zV]
   rfl
 refine pure_ (i:=6) (N:=some 5) (v:=?_) (a':=?_) #[true,true,true,true,true,true,true,false] rfl rfl (z1d HT_.out (by kernel_rfl)) (fun _ _ _ h=>h) (Or.inl ⟨by rfl,?_⟩) ?_ ?_
 rotate_left
 · intro w'
   go_simp
   with_reducible rfl
 rotate_left
 · simp only [Act.put,List.setIfInBounds_toArray,List.set_cons_zero,List.set_cons_succ,zR,zV]
   rfl
 refine pure_ (i:=7) (N:=some 6) (v:=?_) (a':=?_) #[true,true,true,true,true,true,true,true] rfl rfl (z1d HT_.out (by kernel_rfl)) (fun _ _ _ h=>h) (Or.inl ⟨by rfl,?_⟩) ?_ ?_
 rotate_left
 · intro w'
   go_simp
   with_reducible rfl
 rotate_left
 · simp only [Act.put,List.setIfInBounds_toArray,List.set_cons_zero,List.set_cons_succ,zR,zV]
   rfl
 refine done_ (z1R HT_.out (by kernel_rfl)) ?_
 go_upto_region 4 with (first|((with_reducible refine zG (N:=7) rfl ?_);(try (refine z2J (by rfl) ?_;dsimp only));refine zC ?hg (N:=7) ?hd (cs:=#[.int .u64 0,.int .u64 0]) (t:=61) ?hr ?_;(case hd=>rfl);(case hg=>rfl);(case hr=>first|(go_simp;done)|(go_simp;rfl));intro gb108 hg w10 hbox hb;have n0_:=z2.mk (Kd.zx (by (with_reducible repeat (first|apply Kd.zi|apply Kd.zj|apply Kd.zo));exact HO104.out) hb);have n1_:=z2.mk (Kd.zx (by (with_reducible repeat (first|apply Kd.zi|apply Kd.zj|apply Kd.zo));exact HO107.out) hb);have n2_:=z2.mk (z9 (g:=gb101) (o:=.cells #[.int .u64 a1_0,.int .u64 a1_1] 51 (0,0)) (by (with_reducible repeat (first|refine z4 ?_ _|refine z8 ?_|refine z3 ?_ _));exact BK101.out) hb);have n3_:=z2.mk (zd (by repeat (first|(with_reducible first|exact HB.out|apply z7|apply z1|apply z6|refine z5 ?_ GE101.out)|exact HB.out)) hb);have n4_:=z2.mk (hbox);have n5_:=z2.mk ((by rw [hg];exact (ze (by repeat (first|(with_reducible first|exact HB.out|apply z7|apply z1|apply z6|refine z5 ?_ GE101.out)|exact HB.out))) : w.heap.size ≤ gb108));have n6_:=z2.mk ((by rw [hg];exact (ze (by repeat (first|(with_reducible first|exact HB.out|apply z7|apply z1|apply z6|refine z5 ?_ GE101.out)|exact HB.out))) : w.heap.size ≤ gb108));have n7_:=z2.mk ((by rw [hg];exact Nat.ne_of_lt (zI (g:=gb101) (o:=.cells #[.int .u64 a1_0,.int .u64 a1_1] 51 (0,0)) (by (with_reducible repeat (first|refine z4 ?_ _|refine z8 ?_|refine z3 ?_ _));exact BK101.out)) : gb101 ≠ gb108));have n8_:=z2.mk ((by rw [hg];exact Nat.ne_of_gt (zI (g:=gb101) (o:=.cells #[.int .u64 a1_0,.int .u64 a1_1] 51 (0,0)) (by (with_reducible repeat (first|refine z4 ?_ _|refine z8 ?_|refine z3 ?_ _));exact BK101.out)) : gb108 ≠ gb101));clear HO104;clear HO107;clear BK101;clear HB;have HO104:=n0_;have HO107:=n1_;have BK101:=n2_;have HB:=n3_;have BK108:=n4_;have GW108:=n5_;have GE108:=n6_;have NB101_108:=n7_;have NB108_101:=n8_;clear n0_ n1_ n2_ n3_ n4_ n5_ n6_ n7_ n8_;clear hb hbox hg;have hnb11:=NB108_101.out;have hnc11:=NB101_108.out;have hcz12_0 : w10.cell? ⟨gb108,0,none⟩ = some (.int .u64 0):=(za BK108.out 0).trans rfl;have hcz12_1 : w10.cell? ⟨gb108,1,none⟩ = some (.int .u64 0):=(za BK108.out 1).trans rfl;have hfz12_0:=zb BK108.out 0;have hfz12_1:=zb BK108.out 1;have hcz13_0 : w10.cell? ⟨gb101,0,none⟩ = some (.int .u64 a1_0):=(za BK101.out 0).trans rfl;have hcz13_1 : w10.cell? ⟨gb101,1,none⟩ = some (.int .u64 a1_1):=(za BK101.out 1).trans rfl;have hfz13_0:=zb BK101.out 0;have hfz13_1:=zb BK101.out 1)|((with_reducible refine zG (N:=8) rfl ?_);(try (refine z2J (by rfl) ?_;dsimp only));refine zC ?hg (N:=8) ?hd (cs:=#[.int .u64 0,.int .u64 0]) (t:=61) ?hr ?_;(case hd=>rfl);(case hg=>rfl);(case hr=>first|(go_simp;done)|(go_simp;rfl));intro gb109 hg w14 hbox hb;have n0_:=z2.mk (Kd.zx (by (with_reducible repeat (first|apply Kd.zi|apply Kd.zj|apply Kd.zo));exact (Kd.z19 (Kd.z1H (p:=⟨gb108,1,none⟩) (Kd.z1H (p:=⟨gb108,0,none⟩) (Kd.z2f HO104.out BK108.out (by decide)) (fun _ hk=>hk.2) (.int .u64 0)) (fun _ hk=>hk.2) (.int .u64 1)) (fun _ h_=>h_.1))) hb);have n1_:=z2.mk (Kd.zx (by (with_reducible repeat (first|apply Kd.zi|apply Kd.zj|apply Kd.zo));exact (Kd.z19 (Kd.z1H (p:=⟨gb108,1,none⟩) (Kd.z1H (p:=⟨gb108,0,none⟩) (Kd.z2f HO107.out BK108.out (by decide)) (fun _ hk=>hk.2) (.int .u64 0)) (fun _ hk=>hk.2) (.int .u64 1)) (fun _ h_=>h_.1))) hb);have n2_:=z2.mk (z9 (g:=gb101) (o:=.cells #[.int .u64 a1_0,.int .u64 a1_1] 51 (0,0)) (by (with_reducible repeat (first|refine z4 ?_ _|refine z8 ?_|refine z3 ?_ _));refine zL ?_ NB101_108.out _;(with_reducible repeat (first|refine z4 ?_ _|refine z8 ?_|refine z3 ?_ _));refine zL ?_ NB101_108.out _;(with_reducible repeat (first|refine z4 ?_ _|refine z8 ?_|refine z3 ?_ _));exact BK101.out) hb);have n3_:=z2.mk (z9 (g:=gb108) (o:=.cells #[.int .u64 0,.int .u64 1] 61 (0,0)) (by (with_reducible repeat (first|refine z4 ?_ _|refine z8 ?_|refine z3 ?_ _));refine zQ (cs:=#[.int .u64 0,.int .u64 0]) ?_ 1 _ rfl;(with_reducible repeat (first|refine z4 ?_ _|refine z8 ?_|refine z3 ?_ _));refine zQ (cs:=#[.int .u64 0,.int .u64 0]) ?_ 0 _ rfl;(with_reducible repeat (first|refine z4 ?_ _|refine z8 ?_|refine z3 ?_ _));exact BK108.out) hb);have n4_:=z2.mk (zd (by repeat (first|(with_reducible first|exact HB.out|apply z7|apply z1|apply z6|refine z5 ?_ GE101.out|refine z5 ?_ GE108.out)|exact HB.out)) hb);have n5_:=z2.mk (hbox);have n6_:=z2.mk ((by rw [hg];exact (ze (by repeat (first|(with_reducible first|exact HB.out|apply z7|apply z1|apply z6|refine z5 ?_ GE101.out|refine z5 ?_ GE108.out)|exact HB.out))) : w.heap.size ≤ gb109));have n7_:=z2.mk ((by rw [hg];exact (ze (by repeat (first|(with_reducible first|exact HB.out|apply z7|apply z1|apply z6|refine z5 ?_ GE101.out|refine z5 ?_ GE108.out)|exact HB.out))) : w.heap.size ≤ gb109));have n8_:=z2.mk ((by rw [hg];exact Nat.ne_of_lt (zI (g:=gb101) (o:=.cells #[.int .u64 a1_0,.int .u64 a1_1] 51 (0,0)) (by (with_reducible repeat (first|refine z4 ?_ _|refine z8 ?_|refine z3 ?_ _));refine zL ?_ NB101_108.out _;(with_reducible repeat (first|refine z4 ?_ _|refine z8 ?_|refine z3 ?_ _));refine zL ?_ NB101_108.out _;(with_reducible repeat (first|refine z4 ?_ _|refine z8 ?_|refine z3 ?_ _));exact BK101.out)) : gb101 ≠ gb109));have n9_:=z2.mk ((by rw [hg];exact Nat.ne_of_gt (zI (g:=gb101) (o:=.cells #[.int .u64 a1_0,.int .u64 a1_1] 51 (0,0)) (by (with_reducible repeat (first|refine z4 ?_ _|refine z8 ?_|refine z3 ?_ _));refine zL ?_ NB101_108.out _;(with_reducible repeat (first|refine z4 ?_ _|refine z8 ?_|refine z3 ?_ _));refine zL ?_ NB101_108.out _;(with_reducible repeat (first|refine z4 ?_ _|refine z8 ?_|refine z3 ?_ _));exact BK101.out)) : gb109 ≠ gb101));have n10_:=z2.mk ((by rw [hg];exact Nat.ne_of_lt (zI (g:=gb108) (o:=.cells #[.int .u64 0,.int .u64 1] 61 (0,0)) (by (with_reducible repeat (first|refine z4 ?_ _|refine z8 ?_|refine z3 ?_ _));refine zQ (cs:=#[.int .u64 0,.int .u64 0]) ?_ 1 _ rfl;(with_reducible repeat (first|refine z4 ?_ _|refine z8 ?_|refine z3 ?_ _));refine zQ (cs:=#[.int .u64 0,.int .u64 0]) ?_ 0 _ rfl;(with_reducible repeat (first|refine z4 ?_ _|refine z8 ?_|refine z3 ?_ _));exact BK108.out)) : gb108 ≠ gb109));have n11_:=z2.mk ((by rw [hg];exact Nat.ne_of_gt (zI (g:=gb108) (o:=.cells #[.int .u64 0,.int .u64 1] 61 (0,0)) (by (with_reducible repeat (first|refine z4 ?_ _|refine z8 ?_|refine z3 ?_ _));refine zQ (cs:=#[.int .u64 0,.int .u64 0]) ?_ 1 _ rfl;(with_reducible repeat (first|refine z4 ?_ _|refine z8 ?_|refine z3 ?_ _));refine zQ (cs:=#[.int .u64 0,.int .u64 0]) ?_ 0 _ rfl;(with_reducible repeat (first|refine z4 ?_ _|refine z8 ?_|refine z3 ?_ _));exact BK108.out)) : gb109 ≠ gb108));clear HO104;clear HO107;clear BK101;clear BK108;clear HB;have HO104:=n0_;have HO107:=n1_;have BK101:=n2_;have BK108:=n3_;have HB:=n4_;have BK109:=n5_;have GW109:=n6_;have GE109:=n7_;have NB101_109:=n8_;have NB109_101:=n9_;have NB108_109:=n10_;have NB109_108:=n11_;clear n0_ n1_ n2_ n3_ n4_ n5_ n6_ n7_ n8_ n9_ n10_ n11_;clear hb hbox hg;have hnb15:=NB109_101.out;have hnc15:=NB101_109.out;have hnb16:=NB109_108.out;have hnc16:=NB108_109.out;have hcz17_0 : w14.cell? ⟨gb109,0,none⟩ = some (.int .u64 0):=(za BK109.out 0).trans rfl;have hcz17_1 : w14.cell? ⟨gb109,1,none⟩ = some (.int .u64 0):=(za BK109.out 1).trans rfl;have hfz17_0:=zb BK109.out 0;have hfz17_1:=zb BK109.out 1))
 (try simp only [Act.put,List.setIfInBounds_toArray,List.set_cons_zero,List.set_cons_succ])
 go_cut [22] (fun v22 wc=>∃ (kq : Nat) (x22_4 : Bool),v22 = .bool x22_4 ∧ z2 (zc.j0 kq a0 t102 t105 x22_4 0 1 a1_0 a1_1 = some r) ∧ z2 (kq ≤ k) ∧ z2 (Kd.R k51 51 wc w.heap.size (fun k_=>some k_ ≠ (v106 : Value).ownBlock ∧ k_ ≠ gb101) v103 t102) ∧ z2 (Kd.R k51 51 wc w.heap.size (fun k_=>some k_ ≠ (v103 : Value).ownBlock ∧ k_ ≠ gb101) v106 t105) ∧ z2 (wc.heap[gb101]? = some (.cells #[.int .u64 a1_0,.int .u64 a1_1] 51 (0,0))) ∧ z2 (wc.heap[gb108]? = some (.cells #[.int .u64 0,.int .u64 1] 61 (0,0))) ∧ z2 (wc.heap[gb109]? = some (.cells #[.int .u64 a1_0,.int .u64 a1_1] 61 (0,0))) ∧ z2 (Below w.heap.size w wc))
 case first =>
  have H:=HC5.out
  clear HC5
  by_cases c18 : a0 < 0
  rotate_left
  · rw [if_neg c18] at H
    have c18b0 : decide (a0 < 0) = false:=decide_eq_false c18
    clear c18
    (first|rw [c18b0]|(simp only [zR,zV];rw [c18b0])|skip)
    have H':=z2.mk H
    clear H
    go_wp2
    go_meet
    case rel=>exact ⟨_,(decide (a0 > 7)),(by first|rfl|(simp;done)|(simp [*];done)),H',⟨by first|omega|exact Nat.le_refl _⟩,⟨by (with_reducible repeat (first|apply Kd.zi|apply Kd.zj|apply Kd.zo));exact Kd.z19 (Kd.z1H (p:=⟨gb109,1,none⟩) (Kd.z1H (p:=⟨gb109,0,none⟩) (Kd.z2f HO104.out BK109.out (by decide)) (fun _ hk=>hk.2) (.int .u64 a1_0)) (fun _ hk=>hk.2) (.int .u64 a1_1)) (fun _ hk=>⟨hk.1.2,hk.1.1.2⟩)⟩,⟨by (with_reducible repeat (first|apply Kd.zi|apply Kd.zj|apply Kd.zo));exact Kd.z19 (Kd.z1H (p:=⟨gb109,1,none⟩) (Kd.z1H (p:=⟨gb109,0,none⟩) (Kd.z2f HO107.out BK109.out (by decide)) (fun _ hk=>hk.2) (.int .u64 a1_0)) (fun _ hk=>hk.2) (.int .u64 a1_1)) (fun _ hk=>⟨hk.1.1.2,hk.1.2⟩)⟩,⟨by (with_reducible repeat (first|refine z4 ?_ _|refine z8 ?_|refine z3 ?_ _));refine zL ?_ NB101_109.out _;(with_reducible repeat (first|refine z4 ?_ _|refine z8 ?_|refine z3 ?_ _));refine zL ?_ NB101_109.out _;(with_reducible repeat (first|refine z4 ?_ _|refine z8 ?_|refine z3 ?_ _));exact BK101.out⟩,⟨by (with_reducible repeat (first|refine z4 ?_ _|refine z8 ?_|refine z3 ?_ _));refine zL ?_ NB108_109.out _;(with_reducible repeat (first|refine z4 ?_ _|refine z8 ?_|refine z3 ?_ _));refine zL ?_ NB108_109.out _;(with_reducible repeat (first|refine z4 ?_ _|refine z8 ?_|refine z3 ?_ _));exact BK108.out⟩,⟨by (with_reducible repeat (first|refine z4 ?_ _|refine z8 ?_|refine z3 ?_ _));refine zQ (cs:=#[.int .u64 a1_0,.int .u64 0]) ?_ 1 _ rfl;(with_reducible repeat (first|refine z4 ?_ _|refine z8 ?_|refine z3 ?_ _));refine zQ (cs:=#[.int .u64 0,.int .u64 0]) ?_ 0 _ rfl;(with_reducible repeat (first|refine z4 ?_ _|refine z8 ?_|refine z3 ?_ _));exact BK109.out⟩,⟨by repeat (first|(with_reducible first|exact HB.out|apply z7|apply z1|apply z6|refine z5 ?_ GE101.out|refine z5 ?_ GE108.out|refine z5 ?_ GE109.out)|exact HB.out)⟩⟩
  rw [if_pos c18] at H
  have c18b0 : decide (a0 < 0) = true:=decide_eq_true c18
  clear c18
  (first|rw [c18b0]|(simp only [zR,zV];rw [c18b0])|skip)
  have H':=z2.mk H
  clear H
  go_wp2
  go_meet
  case rel=>exact ⟨_,(true),(by first|rfl|(simp;done)|(simp [*];done)),H',⟨by first|omega|exact Nat.le_refl _⟩,⟨by (with_reducible repeat (first|apply Kd.zi|apply Kd.zj|apply Kd.zo));exact Kd.z19 (Kd.z1H (p:=⟨gb109,1,none⟩) (Kd.z1H (p:=⟨gb109,0,none⟩) (Kd.z2f HO104.out BK109.out (by decide)) (fun _ hk=>hk.2) (.int .u64 a1_0)) (fun _ hk=>hk.2) (.int .u64 a1_1)) (fun _ hk=>⟨hk.1.2,hk.1.1.2⟩)⟩,⟨by (with_reducible repeat (first|apply Kd.zi|apply Kd.zj|apply Kd.zo));exact Kd.z19 (Kd.z1H (p:=⟨gb109,1,none⟩) (Kd.z1H (p:=⟨gb109,0,none⟩) (Kd.z2f HO107.out BK109.out (by decide)) (fun _ hk=>hk.2) (.int .u64 a1_0)) (fun _ hk=>hk.2) (.int .u64 a1_1)) (fun _ hk=>⟨hk.1.1.2,hk.1.2⟩)⟩,⟨by (with_reducible repeat (first|refine z4 ?_ _|refine z8 ?_|refine z3 ?_ _));refine zL ?_ NB101_109.out _;(with_reducible repeat (first|refine z4 ?_ _|refine z8 ?_|refine z3 ?_ _));refine zL ?_ NB101_109.out _;(with_reducible repeat (first|refine z4 ?_ _|refine z8 ?_|refine z3 ?_ _));exact BK101.out⟩,⟨by (with_reducible repeat (first|refine z4 ?_ _|refine z8 ?_|refine z3 ?_ _));refine zL ?_ NB108_109.out _;(with_reducible repeat (first|refine z4 ?_ _|refine z8 ?_|refine z3 ?_ _));refine zL ?_ NB108_109.out _;(with_reducible repeat (first|refine z4 ?_ _|refine z8 ?_|refine z3 ?_ _));exact BK108.out⟩,⟨by (with_reducible repeat (first|refine z4 ?_ _|refine z8 ?_|refine z3 ?_ _));refine zQ (cs:=#[.int .u64 a1_0,.int .u64 0]) ?_ 1 _ rfl;(with_reducible repeat (first|refine z4 ?_ _|refine z8 ?_|refine z3 ?_ _));refine zQ (cs:=#[.int .u64 0,.int .u64 0]) ?_ 0 _ rfl;(with_reducible repeat (first|refine z4 ?_ _|refine z8 ?_|refine z3 ?_ _));exact BK109.out⟩,⟨by repeat (first|(with_reducible first|exact HB.out|apply z7|apply z1|apply z6|refine z5 ?_ GE101.out|refine z5 ?_ GE108.out|refine z5 ?_ GE109.out)|exact HB.out)⟩⟩
 case rest =>
  clear HC5
  (try clear c1);(try clear p2);(try clear c5);(try clear c6);(try clear c11);(try clear c14);(try clear c15);(try clear c16);(try clear c18);(try clear c18b0);(try clear hcz12_0);(try clear hcz12_1);(try clear hcz13_0);(try clear hcz13_1);(try clear hcz17_0);(try clear hcz17_1);(try clear hfz12_0);(try clear hfz12_1);(try clear hfz13_0);(try clear hfz13_1);(try clear hfz17_0);(try clear hfz17_1)
  obtain ⟨kq,x22_4,rfl,HA,HJ4,HO_5,HO_6,BK101,BK108,BK109,HB⟩:=hcut
  cases kq with
  | zero=>exact absurd HA.out (by simp [zc.j0])
  | succ kj4 =>
   have H:=HA.out
   clear HA
   simp only [zc.j0] at H
   by_cases c19 : x22_4 = true
   · subst c19
     have H1 : ((zr.f kj4).bind fun t110=>(if t110 = true then ((z18.f kj4 a0).bind fun t111=>(some ((wrap64 ((wrap64 ((t102.length : Int) + (t105.length : Int))) + (t111.length : Int))) == 0))) else (some false))) = some r:=by rw [if_pos rfl] at H;exact H
     clear H
     have H:=H1
     clear H1
     replace H:=Option.bind_eq_some_iff.mp H
     obtain ⟨t110,A200,H⟩:=H
     replace H : (if t110 = true then ((z18.f kj4 a0).bind fun t111=>(some ((wrap64 ((wrap64 ((t102.length : Int) + (t105.length : Int))) + (t111.length : Int))) == 0))) else (some false)) = some r:=H
     have A20:=z2.mk A200
     clear A200
     by_cases c21 : t110 = true
     rotate_left
     · replace c21:=Bool.eq_false_iff.mpr c21
       subst c21
       have H1 : (some false) = some r:=by rw [if_neg (show ¬ (false = true) by decide)] at H;exact H
       clear H
       have H:=H1
       clear H1
       obtain rfl:=Option.some.inj H
       go_wp2_with (first|((with_reducible refine zp (f:=61) rfl ?_);refine goesL_ (some 23) rfl rfl Try.func61 (by kernel_rfl) rfl #[] rfl (by (try simp only [List.map_toArray,List.map_cons,List.map_nil]);first|done|rfl|(simp only [List.length_drop,List.length_take];rfl)) ?_;(with_reducible refine (zr.calls kj4  false _ A20.out).mono ?_);rintro e w28 ⟨rfl,hb⟩;refine ⟨_,rfl,?_⟩;have n0_:=z2.mk (Kd.zx (by (with_reducible repeat (first|apply Kd.zi|apply Kd.zj|apply Kd.zo));exact HO_5.out) hb);have n1_:=z2.mk (Kd.zx (by (with_reducible repeat (first|apply Kd.zi|apply Kd.zj|apply Kd.zo));exact HO_6.out) hb);have n2_:=z2.mk (z9 (g:=gb101) (o:=.cells #[.int .u64 a1_0,.int .u64 a1_1] 51 (0,0)) (by (with_reducible repeat (first|refine z4 ?_ _|refine z8 ?_|refine z3 ?_ _));exact BK101.out) hb);have n3_:=z2.mk (z9 (g:=gb108) (o:=.cells #[.int .u64 0,.int .u64 1] 61 (0,0)) (by (with_reducible repeat (first|refine z4 ?_ _|refine z8 ?_|refine z3 ?_ _));exact BK108.out) hb);have n4_:=z2.mk (z9 (g:=gb109) (o:=.cells #[.int .u64 a1_0,.int .u64 a1_1] 61 (0,0)) (by (with_reducible repeat (first|refine z4 ?_ _|refine z8 ?_|refine z3 ?_ _));exact BK109.out) hb);have n5_:=z2.mk (zd (by repeat (first|(with_reducible first|exact HB.out|apply z7|apply z1|apply z6|refine z5 ?_ GE101.out|refine z5 ?_ GE108.out|refine z5 ?_ GE109.out)|exact HB.out)) hb);clear HO_5;clear HO_6;clear BK101;clear BK108;clear BK109;clear HB;have HO_5:=n0_;have HO_6:=n1_;have BK101:=n2_;have BK108:=n3_;have BK109:=n4_;have HB:=n5_;clear n0_ n1_ n2_ n3_ n4_ n5_;(try clear hb);(try clear hb2);(try clear hk);(try clear hi)))
       go_ret
       exact ⟨by first|rfl|(simp [zl,zm] <;> rfl)|(simp [*,zl,zm] <;> rfl),by repeat (first|(with_reducible first|exact HB.out|apply z7|apply z1|apply z6|refine z5 ?_ GE101.out|refine z5 ?_ GE108.out|refine z5 ?_ GE109.out)|exact HB.out)⟩
     subst c21
     have H1 : ((z18.f kj4 a0).bind fun t111=>(some ((wrap64 ((wrap64 ((t102.length : Int) + (t105.length : Int))) + (t111.length : Int))) == 0))) = some r:=by rw [if_pos rfl] at H;exact H
     clear H
     have H:=H1
     clear H1
     replace H:=Option.bind_eq_some_iff.mp H
     obtain ⟨t111,A220,H⟩:=H
     replace H : (some ((wrap64 ((wrap64 ((t102.length : Int) + (t105.length : Int))) + (t111.length : Int))) == 0)) = some r:=H
     have A22:=z2.mk A220
     clear A220
     obtain rfl:=Option.some.inj H
     go_wp2_with (first|((with_reducible refine zp (f:=61) rfl ?_);refine goesL_ (some 23) rfl rfl Try.func61 (by kernel_rfl) rfl #[] rfl (by (try simp only [List.map_toArray,List.map_cons,List.map_nil]);first|done|rfl|(simp only [List.length_drop,List.length_take];rfl)) ?_;(with_reducible refine (zr.calls kj4  true _ A20.out).mono ?_);rintro e w23 ⟨rfl,hb⟩;refine ⟨_,rfl,?_⟩;have n0_:=z2.mk (Kd.zx (by (with_reducible repeat (first|apply Kd.zi|apply Kd.zj|apply Kd.zo));exact HO_5.out) hb);have n1_:=z2.mk (Kd.zx (by (with_reducible repeat (first|apply Kd.zi|apply Kd.zj|apply Kd.zo));exact HO_6.out) hb);have n2_:=z2.mk (z9 (g:=gb101) (o:=.cells #[.int .u64 a1_0,.int .u64 a1_1] 51 (0,0)) (by (with_reducible repeat (first|refine z4 ?_ _|refine z8 ?_|refine z3 ?_ _));exact BK101.out) hb);have n3_:=z2.mk (z9 (g:=gb108) (o:=.cells #[.int .u64 0,.int .u64 1] 61 (0,0)) (by (with_reducible repeat (first|refine z4 ?_ _|refine z8 ?_|refine z3 ?_ _));exact BK108.out) hb);have n4_:=z2.mk (z9 (g:=gb109) (o:=.cells #[.int .u64 a1_0,.int .u64 a1_1] 61 (0,0)) (by (with_reducible repeat (first|refine z4 ?_ _|refine z8 ?_|refine z3 ?_ _));exact BK109.out) hb);have n5_:=z2.mk (zd (by repeat (first|(with_reducible first|exact HB.out|apply z7|apply z1|apply z6|refine z5 ?_ GE101.out|refine z5 ?_ GE108.out|refine z5 ?_ GE109.out)|exact HB.out)) hb);clear HO_5;clear HO_6;clear BK101;clear BK108;clear BK109;clear HB;have HO_5:=n0_;have HO_6:=n1_;have BK101:=n2_;have BK108:=n3_;have BK109:=n4_;have HB:=n5_;clear n0_ n1_ n2_ n3_ n4_ n5_;(try clear hb);(try clear hb2);(try clear hk);(try clear hi);obtain ⟨Ao24,co24,eo24⟩:=Kd.z13 HO_5.out;subst eo24;obtain ⟨Ao25,co25,eo25⟩:=Kd.z13 HO_6.out;subst eo25)|(go_at_call 62;(with_reducible refine (z18.calls kj4 a0 t111 _ A22.out).mono ?_);rintro e w26 ⟨v112,rfl,ho0,hb⟩;have n0_:=z2.mk (Kd.z15 (by (with_reducible repeat (first|apply Kd.zi|apply Kd.zj|apply Kd.zo));exact HO_5.out) (Kd.z1f ho0) hb);have n1_:=z2.mk (Kd.z15 (by (with_reducible repeat (first|apply Kd.zi|apply Kd.zj|apply Kd.zo));exact HO_6.out) (Kd.z1f ho0) hb);have n2_:=z2.mk (Kd.z14 (Kd.z1n (Kd.z1i (Kd.z1i ho0 (Kd.R_lt (by (with_reducible repeat (first|apply Kd.zi|apply Kd.zj|apply Kd.zo));exact HO_5.out))) (Kd.R_lt (by (with_reducible repeat (first|apply Kd.zi|apply Kd.zj|apply Kd.zo));exact HO_6.out))) (g:=gb101) (o:=.cells #[.int .u64 a1_0,.int .u64 a1_1] 51 (0,0)) (by (with_reducible repeat (first|refine z4 ?_ _|refine z8 ?_|refine z3 ?_ _));exact BK101.out)) (ze (by repeat (first|(with_reducible first|exact HB.out|apply z7|apply z1|apply z6|refine z5 ?_ GE101.out|refine z5 ?_ GE108.out|refine z5 ?_ GE109.out)|exact HB.out))));have n3_:=z2.mk (z9 (g:=gb101) (o:=.cells #[.int .u64 a1_0,.int .u64 a1_1] 51 (0,0)) (by (with_reducible repeat (first|refine z4 ?_ _|refine z8 ?_|refine z3 ?_ _));exact BK101.out) hb);have n4_:=z2.mk (z9 (g:=gb108) (o:=.cells #[.int .u64 0,.int .u64 1] 61 (0,0)) (by (with_reducible repeat (first|refine z4 ?_ _|refine z8 ?_|refine z3 ?_ _));exact BK108.out) hb);have n5_:=z2.mk (z9 (g:=gb109) (o:=.cells #[.int .u64 a1_0,.int .u64 a1_1] 61 (0,0)) (by (with_reducible repeat (first|refine z4 ?_ _|refine z8 ?_|refine z3 ?_ _));exact BK109.out) hb);have n6_:=z2.mk (zd (by repeat (first|(with_reducible first|exact HB.out|apply z7|apply z1|apply z6|refine z5 ?_ GE101.out|refine z5 ?_ GE108.out|refine z5 ?_ GE109.out)|exact HB.out)) hb);clear HO_5;clear HO_6;clear BK101;clear BK108;clear BK109;clear HB;have HO_5:=n0_;have HO_6:=n1_;have HO113:=n2_;have BK101:=n3_;have BK108:=n4_;have BK109:=n5_;have HB:=n6_;clear n0_ n1_ n2_ n3_ n4_ n5_ n6_;(try clear hb);(try clear hb2);(try clear hk);(try clear hi);(try clear ho0);obtain ⟨Ao27,co27,eo27⟩:=Kd.z13 HO113.out;subst eo27))
     go_ret
     exact ⟨by first|rfl|(simp [zl,zm] <;> rfl)|(simp [*,zl,zm] <;> rfl),by repeat (first|(with_reducible first|exact HB.out|apply z7|apply z1|apply z6|refine z5 ?_ GE101.out|refine z5 ?_ GE108.out|refine z5 ?_ GE109.out)|exact HB.out)⟩
   replace c19:=Bool.eq_false_iff.mpr c19
   subst c19
   have H1 : ((z18.f kj4 a0).bind fun t114=>((zf.f kj4 a0 0 1 0 1).bind fun t117=>((zg.f kj4 t114 t117).bind fun t120=>(if t120 = true then ((zk.f kj4 a0 a1_0 a1_1).bind fun t121=>(if t121 = true then ((zr.f kj4).bind fun t123=>(if t123 = true then ((zf.f kj4 a0 a1_0 a1_1 0 1).bind fun t124=>((zg.f kj4 t102 t124).bind fun t127=>(if t127 = true then ((zf.f kj4 a0 0 1 a1_0 a1_1).bind fun t128=>((zg.f kj4 t105 t128).bind fun t131=>(some t131))) else (some false)))) else (some false))) else ((zr.f kj4).bind fun t122=>(if t122 = true then (some ((wrap64 ((t102.length : Int) + (t105.length : Int))) == 0)) else (some false))))) else (some false))))) = some r:=by rw [if_neg (show ¬ (false = true) by decide)] at H;exact H
   clear H
   have H:=H1
   clear H1
   replace H:=Option.bind_eq_some_iff.mp H
   obtain ⟨t114,A290,H⟩:=H
   replace H : ((zf.f kj4 a0 0 1 0 1).bind fun t117=>((zg.f kj4 t114 t117).bind fun t120=>(if t120 = true then ((zk.f kj4 a0 a1_0 a1_1).bind fun t121=>(if t121 = true then ((zr.f kj4).bind fun t123=>(if t123 = true then ((zf.f kj4 a0 a1_0 a1_1 0 1).bind fun t124=>((zg.f kj4 t102 t124).bind fun t127=>(if t127 = true then ((zf.f kj4 a0 0 1 a1_0 a1_1).bind fun t128=>((zg.f kj4 t105 t128).bind fun t131=>(some t131))) else (some false)))) else (some false))) else ((zr.f kj4).bind fun t122=>(if t122 = true then (some ((wrap64 ((t102.length : Int) + (t105.length : Int))) == 0)) else (some false))))) else (some false)))) = some r:=H
   have A29:=z2.mk A290
   clear A290
   replace H:=Option.bind_eq_some_iff.mp H
   obtain ⟨t117,A300,H⟩:=H
   replace H : ((zg.f kj4 t114 t117).bind fun t120=>(if t120 = true then ((zk.f kj4 a0 a1_0 a1_1).bind fun t121=>(if t121 = true then ((zr.f kj4).bind fun t123=>(if t123 = true then ((zf.f kj4 a0 a1_0 a1_1 0 1).bind fun t124=>((zg.f kj4 t102 t124).bind fun t127=>(if t127 = true then ((zf.f kj4 a0 0 1 a1_0 a1_1).bind fun t128=>((zg.f kj4 t105 t128).bind fun t131=>(some t131))) else (some false)))) else (some false))) else ((zr.f kj4).bind fun t122=>(if t122 = true then (some ((wrap64 ((t102.length : Int) + (t105.length : Int))) == 0)) else (some false))))) else (some false))) = some r:=H
   have A30:=z2.mk A300
   clear A300
   replace H:=Option.bind_eq_some_iff.mp H
   obtain ⟨t120,A310,H⟩:=H
   replace H : (if t120 = true then ((zk.f kj4 a0 a1_0 a1_1).bind fun t121=>(if t121 = true then ((zr.f kj4).bind fun t123=>(if t123 = true then ((zf.f kj4 a0 a1_0 a1_1 0 1).bind fun t124=>((zg.f kj4 t102 t124).bind fun t127=>(if t127 = true then ((zf.f kj4 a0 0 1 a1_0 a1_1).bind fun t128=>((zg.f kj4 t105 t128).bind fun t131=>(some t131))) else (some false)))) else (some false))) else ((zr.f kj4).bind fun t122=>(if t122 = true then (some ((wrap64 ((t102.length : Int) + (t105.length : Int))) == 0)) else (some false))))) else (some false)) = some r:=H
   have A31:=z2.mk A310
   clear A310
   by_cases c32 : t120 = true
   rotate_left
   · replace c32:=Bool.eq_false_iff.mpr c32
     subst c32
     have H1 : (some false) = some r:=by rw [if_neg (show ¬ (false = true) by decide)] at H;exact H
     clear H
     have H:=H1
     clear H1
     obtain rfl:=Option.some.inj H
     try go_wp2
     have n0_:=z2.mk (Kd.zo HO_5.out)
     have n1_:=z2.mk (Kd.zo HO_6.out)
     have n2_:=z2.mk (z8 BK101.out)
     have n3_:=z2.mk (z8 BK108.out)
     have n4_:=z2.mk (z8 BK109.out)
     have n5_:=z2.mk (z6 HB.out)
     clear HO_5
     clear HO_6
     clear BK101
     clear BK108
     clear BK109
     clear HB
     have HO_5:=n0_
     have HO_6:=n1_
     have BK101:=n2_
     have BK108:=n3_
     have BK109:=n4_
     have HB:=n5_
     clear n0_ n1_ n2_ n3_ n4_ n5_
     refine start_ (n:=8) (S:=fun w'=>w'.cell? ⟨gb108,0,none⟩ = some (.int .u64 0) ∧ w'.cell? ⟨gb108,1,none⟩ = some (.int .u64 1)) (ds:=[]) #[false,false,false,false,false,false,false,false] (by kernel_rfl) rfl rfl ⟨(za BK108.out 0).trans rfl,(za BK108.out 1).trans rfl⟩ (fun hHeld=>?_);refine z1y zc.tab6 zc.bits6 (fun HT_ HW_=>?_)
     generalize wc.drew = w113 at HO_5 HO_6 BK101 BK108 BK109 HB hHeld ⊢
     refine pure_ (i:=0) (N:=some 36) (v:=?_) (a':=?_) #[true,false,false,false,false,false,false,false] rfl rfl (z1d HT_.out (by kernel_rfl)) (fun _ _ _ h=>h) (Or.inl ⟨by rfl,?_⟩) ?_ ?_
     rotate_left
     · intro w'
       go_simp
       with_reducible rfl
     rotate_left
     · simp only [Act.put,List.setIfInBounds_toArray,List.set_cons_zero,List.set_cons_succ,zR,zV]
       rfl
     refine pure_ (i:=2) (N:=some 38) (v:=?_) (a':=?_) #[true,false,true,false,false,false,false,false] rfl rfl (z1d HT_.out (by kernel_rfl)) (fun _ _ _ h=>h) (Or.inl ⟨by rfl,?_⟩) ?_ ?_
     rotate_left
     · intro w'
       go_simp
       with_reducible rfl
     rotate_left
     · simp only [Act.put,List.setIfInBounds_toArray,List.set_cons_zero,List.set_cons_succ,zR,zV]
       rfl
     refine take_ (i:=3) (N:=some 39) (v:=?_) (a':=?_) #[true,false,true,true,false,false,false,false] rfl rfl (z1e HT_.out HW_.out (by kernel_rfl)) (fun _ _ _ h=>h) (Or.inl ⟨by rfl,?_⟩) hHeld ?_ ?_
     rotate_left
     · rintro w' ⟨s0,s1⟩
       go_simp
       with_reducible rfl
     rotate_left
     · simp only [Act.put,List.setIfInBounds_toArray,List.set_cons_zero,List.set_cons_succ,zR,zV]
       rfl
     refine take_ (i:=4) (N:=some 40) (v:=?_) (a':=?_) #[true,false,true,true,true,false,false,false] rfl rfl (z1e HT_.out HW_.out (by kernel_rfl)) (fun _ _ _ h=>h) (Or.inl ⟨by rfl,?_⟩) hHeld ?_ ?_
     rotate_left
     · rintro w' ⟨s0,s1⟩
       go_simp
       with_reducible rfl
     rotate_left
     · simp only [Act.put,List.setIfInBounds_toArray,List.set_cons_zero,List.set_cons_succ,zR,zV]
       rfl
     refine one_ (i:=1) (N:=some 37) #[true,true,true,true,true,false,false,false] rfl rfl (z1l HT_.out (by kernel_rfl)) (by decide) (fun K hK=>?_)
     refine goes_ Try.func62 (by kernel_rfl) rfl #[.int .i64 a0] (by rfl) rfl rfl (by (try simp only [List.map_toArray,List.map_cons,List.map_nil]);first|done|rfl|(simp only [List.length_drop,List.length_take];rfl)) ?_
     with_reducible refine (z18.calls kj4 a0 t114 _ A29.out).mono ?_
     rintro e w114 ⟨v115,rfl,ho0,hb⟩
     refine ⟨_,rfl,?_⟩
     have n0_:=z2.mk (Kd.z15 (by (with_reducible repeat (first|apply Kd.zi|apply Kd.zj|apply Kd.zo));exact HO_5.out) (Kd.z1f ho0) hb)
     have n1_:=z2.mk (Kd.z15 (by (with_reducible repeat (first|apply Kd.zi|apply Kd.zj|apply Kd.zo));exact HO_6.out) (Kd.z1f ho0) hb)
     have n2_:=z2.mk (Kd.z14 (Kd.z1n (Kd.z1i (Kd.z1i ho0 (Kd.R_lt (by (with_reducible repeat (first|apply Kd.zi|apply Kd.zj|apply Kd.zo));exact HO_5.out))) (Kd.R_lt (by (with_reducible repeat (first|apply Kd.zi|apply Kd.zj|apply Kd.zo));exact HO_6.out))) (g:=gb101) (o:=.cells #[.int .u64 a1_0,.int .u64 a1_1] 51 (0,0)) (by (with_reducible repeat (first|refine z4 ?_ _|refine z8 ?_|refine z3 ?_ _));exact BK101.out)) (ze (by repeat (first|(with_reducible first|exact HB.out|apply z7|apply z1|apply z6|refine z5 ?_ GE101.out|refine z5 ?_ GE108.out|refine z5 ?_ GE109.out)|exact HB.out))))
     have n3_:=z2.mk (z9 (g:=gb101) (o:=.cells #[.int .u64 a1_0,.int .u64 a1_1] 51 (0,0)) (by (with_reducible repeat (first|refine z4 ?_ _|refine z8 ?_|refine z3 ?_ _));exact BK101.out) hb)
     have n4_:=z2.mk (z9 (g:=gb108) (o:=.cells #[.int .u64 0,.int .u64 1] 61 (0,0)) (by (with_reducible repeat (first|refine z4 ?_ _|refine z8 ?_|refine z3 ?_ _));exact BK108.out) hb)
     have n5_:=z2.mk (z9 (g:=gb109) (o:=.cells #[.int .u64 a1_0,.int .u64 a1_1] 61 (0,0)) (by (with_reducible repeat (first|refine z4 ?_ _|refine z8 ?_|refine z3 ?_ _));exact BK109.out) hb)
     have n6_:=z2.mk (zd (by repeat (first|(with_reducible first|exact HB.out|apply z7|apply z1|apply z6|refine z5 ?_ GE101.out|refine z5 ?_ GE108.out|refine z5 ?_ GE109.out)|exact HB.out)) hb)
     clear HO_5
     clear HO_6
     clear BK101
     clear BK108
     clear BK109
     clear HB
     have HO_5:=n0_
     have HO_6:=n1_
     have HO116:=n2_
     have BK101:=n3_
     have BK108:=n4_
     have BK109:=n5_
     have HB:=n6_
     clear n0_ n1_ n2_ n3_ n4_ n5_ n6_
     (try clear hb)
     (try clear hb2)
     (try clear hk)
     (try clear hi)
     (try clear ho0)
     refine hK.out _ _ ⟨(za BK108.out 0).trans rfl,(za BK108.out 1).trans rfl⟩ (fun hHeld=>?_)
     clear hK K
     refine norm_ (a':=?_) ?_ ?_
     rotate_left
     · show Act.put _ (some 37) _ = _
       simp only [Act.put,List.setIfInBounds_toArray,List.set_cons_zero,List.set_cons_succ,zR,zV]
       rfl
     refine one_ (i:=5) (N:=some 41) #[true,true,true,true,true,true,false,false] rfl rfl (z1l HT_.out (by kernel_rfl)) (by decide) (fun K hK=>?_)
     refine goes_ Try.func63 (by kernel_rfl) rfl #[.int .i64 a0,.agg #[.int .u64 0,.int .u64 1],.agg #[.int .u64 0,.int .u64 1]] (by rfl) rfl rfl (by (try simp only [List.map_toArray,List.map_cons,List.map_nil]);first|done|rfl|(simp only [List.length_drop,List.length_take];rfl)) ?_
     with_reducible refine (zf.calls kj4 a0 0 1 0 1 t117 _ A30.out).mono ?_
     rintro e w115 ⟨v118,rfl,ho0,hb⟩
     refine ⟨_,rfl,?_⟩
     have n0_:=z2.mk (Kd.zx (by (with_reducible repeat (first|apply Kd.zi|apply Kd.zj|apply Kd.zo));exact HO_5.out) hb)
     have n1_:=z2.mk (Kd.zx (by (with_reducible repeat (first|apply Kd.zi|apply Kd.zj|apply Kd.zo));exact HO_6.out) hb)
     have n2_:=z2.mk (Kd.zx (by (with_reducible repeat (first|apply Kd.zi|apply Kd.zj|apply Kd.zo));exact HO116.out) hb)
     have n3_:=z2.mk (Kd.z14 (Kd.z1n (Kd.z1n ho0 (g:=gb108) (o:=.cells #[.int .u64 0,.int .u64 1] 61 (0,0)) (by (with_reducible repeat (first|refine z4 ?_ _|refine z8 ?_|refine z3 ?_ _));exact BK108.out)) (g:=gb109) (o:=.cells #[.int .u64 a1_0,.int .u64 a1_1] 61 (0,0)) (by (with_reducible repeat (first|refine z4 ?_ _|refine z8 ?_|refine z3 ?_ _));exact BK109.out)) (ze (by repeat (first|(with_reducible first|exact HB.out|apply z7|apply z1|apply z6|refine z5 ?_ GE101.out|refine z5 ?_ GE108.out|refine z5 ?_ GE109.out)|exact HB.out))))
     have n4_:=z2.mk (z9 (g:=gb101) (o:=.cells #[.int .u64 a1_0,.int .u64 a1_1] 51 (0,0)) (by (with_reducible repeat (first|refine z4 ?_ _|refine z8 ?_|refine z3 ?_ _));exact BK101.out) hb)
     have n5_:=z2.mk (z9 (g:=gb108) (o:=.cells #[.int .u64 0,.int .u64 1] 61 (0,0)) (by (with_reducible repeat (first|refine z4 ?_ _|refine z8 ?_|refine z3 ?_ _));exact BK108.out) hb)
     have n6_:=z2.mk (z9 (g:=gb109) (o:=.cells #[.int .u64 a1_0,.int .u64 a1_1] 61 (0,0)) (by (with_reducible repeat (first|refine z4 ?_ _|refine z8 ?_|refine z3 ?_ _));exact BK109.out) hb)
     have n7_:=z2.mk (zd (by repeat (first|(with_reducible first|exact HB.out|apply z7|apply z1|apply z6|refine z5 ?_ GE101.out|refine z5 ?_ GE108.out|refine z5 ?_ GE109.out)|exact HB.out)) hb)
     clear HO_5
     clear HO_6
     clear HO116
     clear BK101
     clear BK108
     clear BK109
     clear HB
     have HO_5:=n0_
     have HO_6:=n1_
     have HO116:=n2_
     have HO119:=n3_
     have BK101:=n4_
     have BK108:=n5_
     have BK109:=n6_
     have HB:=n7_
     clear n0_ n1_ n2_ n3_ n4_ n5_ n6_ n7_
     (try clear hb)
     (try clear hb2)
     (try clear hk)
     (try clear hi)
     (try clear ho0)
     obtain ⟨Ao116,co116,eo116⟩:=Kd.z13 HO116.out
     (first|subst eo116|(injection eo116 with f1_ f2_ f3_;have f4_:=f1_.symm;have f5_:=f3_.symm;clear f1_ f2_ f3_;subst f4_;subst f5_))
     obtain ⟨Ao117,co117,eo117⟩:=Kd.z13 HO119.out
     (first|subst eo117|(injection eo117 with f1_ f2_ f3_;have f4_:=f1_.symm;have f5_:=f3_.symm;clear f1_ f2_ f3_;subst f4_;subst f5_))
     refine hK.out _ _ ⟨(za BK108.out 0).trans rfl,(za BK108.out 1).trans rfl⟩ (fun hHeld=>?_)
     clear hK K
     refine norm_ (a':=?_) ?_ ?_
     rotate_left
     · show Act.put _ (some 41) _ = _
       simp only [Act.put,List.setIfInBounds_toArray,List.set_cons_zero,List.set_cons_succ,zR,zV]
       rfl
     refine one_ (i:=6) (N:=some 42) #[true,true,true,true,true,true,true,false] rfl rfl (z1l HT_.out (by kernel_rfl)) (by decide) (fun K hK=>?_)
     refine goes_ Try.func25 (by kernel_rfl) rfl #[.slice Ao116 t114.length co116,.slice Ao117 t117.length co117] (by rfl) rfl rfl (by (try simp only [List.map_toArray,List.map_cons,List.map_nil]);first|done|rfl|(simp only [List.length_drop,List.length_take];rfl)) ?_
     with_reducible refine (zg.calls kj4 _ _ t114 _ _ t117 false _ ?side1 ?side2 ?side3 ?side4 A31.out).mono ?_
     (case side1=>repeat (first|exact (Kd.zM HO116.out).2.2|(with_reducible refine Kd.z1s ?_ _)|(with_reducible refine Kd.z1t ?_ _)|(with_reducible refine Kd.z1E ?_)))
     (case side2=>exact (Kd.zM HO116.out).2.1)
     (case side3=>repeat (first|exact (Kd.zM HO119.out).2.2|(with_reducible refine Kd.z1s ?_ _)|(with_reducible refine Kd.z1t ?_ _)|(with_reducible refine Kd.z1E ?_)))
     (case side4=>exact (Kd.zM HO119.out).2.1)
     rintro e w' ⟨rfl,⟨nd,rfl⟩⟩
     refine ⟨_,rfl,?_⟩
     refine hK.out _ _ ⟨(za BK108.out 0).trans rfl,(za BK108.out 1).trans rfl⟩ (fun hHeld=>?_)
     clear hK K
     refine norm_ (a':=?_) ?_ ?_
     rotate_left
     · show Act.put _ (some 42) _ = _
       simp only [Act.put,List.setIfInBounds_toArray,List.set_cons_zero,List.set_cons_succ,zR,zV]
       rfl
     refine pure_ (i:=7) (N:=some 43) (v:=?_) (a':=?_) #[true,true,true,true,true,true,true,true] rfl rfl (z1d HT_.out (by kernel_rfl)) (fun _ _ _ h=>h) (Or.inl ⟨by rfl,?_⟩) ?_ ?_
     rotate_left
     · intro w'
       go_simp
       with_reducible rfl
     rotate_left
     · simp only [Act.put,List.setIfInBounds_toArray,List.set_cons_zero,List.set_cons_succ,zR,zV]
       rfl
     refine done_ (z1R HT_.out (by kernel_rfl)) ?_
     try go_wp2
     go_ret
     exact ⟨by first|rfl|(simp [zl,zm] <;> rfl)|(simp [*,zl,zm] <;> rfl),by repeat (first|(with_reducible first|exact HB.out|apply z7|apply z1|apply z6|refine z5 ?_ GE101.out|refine z5 ?_ GE108.out|refine z5 ?_ GE109.out)|exact HB.out)⟩
   subst c32
   have H1 : ((zk.f kj4 a0 a1_0 a1_1).bind fun t121=>(if t121 = true then ((zr.f kj4).bind fun t123=>(if t123 = true then ((zf.f kj4 a0 a1_0 a1_1 0 1).bind fun t124=>((zg.f kj4 t102 t124).bind fun t127=>(if t127 = true then ((zf.f kj4 a0 0 1 a1_0 a1_1).bind fun t128=>((zg.f kj4 t105 t128).bind fun t131=>(some t131))) else (some false)))) else (some false))) else ((zr.f kj4).bind fun t122=>(if t122 = true then (some ((wrap64 ((t102.length : Int) + (t105.length : Int))) == 0)) else (some false))))) = some r:=by rw [if_pos rfl] at H;exact H
   clear H
   have H:=H1
   clear H1
   replace H:=Option.bind_eq_some_iff.mp H
   obtain ⟨t121,A330,H⟩:=H
   replace H : (if t121 = true then ((zr.f kj4).bind fun t123=>(if t123 = true then ((zf.f kj4 a0 a1_0 a1_1 0 1).bind fun t124=>((zg.f kj4 t102 t124).bind fun t127=>(if t127 = true then ((zf.f kj4 a0 0 1 a1_0 a1_1).bind fun t128=>((zg.f kj4 t105 t128).bind fun t131=>(some t131))) else (some false)))) else (some false))) else ((zr.f kj4).bind fun t122=>(if t122 = true then (some ((wrap64 ((t102.length : Int) + (t105.length : Int))) == 0)) else (some false)))) = some r:=H
   have A33:=z2.mk A330
   clear A330
   by_cases c34 : t121 = true
   rotate_left
   · replace c34:=Bool.eq_false_iff.mpr c34
     subst c34
     have H1 : ((zr.f kj4).bind fun t122=>(if t122 = true then (some ((wrap64 ((t102.length : Int) + (t105.length : Int))) == 0)) else (some false))) = some r:=by rw [if_neg (show ¬ (false = true) by decide)] at H;exact H
     clear H
     have H:=H1
     clear H1
     replace H:=Option.bind_eq_some_iff.mp H
     obtain ⟨t122,A890,H⟩:=H
     replace H : (if t122 = true then (some ((wrap64 ((t102.length : Int) + (t105.length : Int))) == 0)) else (some false)) = some r:=H
     have A89:=z2.mk A890
     clear A890
     by_cases c90 : t122 = true
     · subst c90
       have H1 : (some ((wrap64 ((t102.length : Int) + (t105.length : Int))) == 0)) = some r:=by rw [if_pos rfl] at H;exact H
       clear H
       have H:=H1
       clear H1
       obtain rfl:=Option.some.inj H
       try go_wp2
       have n0_:=z2.mk (Kd.zo HO_5.out)
       have n1_:=z2.mk (Kd.zo HO_6.out)
       have n2_:=z2.mk (z8 BK101.out)
       have n3_:=z2.mk (z8 BK108.out)
       have n4_:=z2.mk (z8 BK109.out)
       have n5_:=z2.mk (z6 HB.out)
       clear HO_5
       clear HO_6
       clear BK101
       clear BK108
       clear BK109
       clear HB
       have HO_5:=n0_
       have HO_6:=n1_
       have BK101:=n2_
       have BK108:=n3_
       have BK109:=n4_
       have HB:=n5_
       clear n0_ n1_ n2_ n3_ n4_ n5_
       refine start_ (n:=8) (S:=fun w'=>w'.cell? ⟨gb108,0,none⟩ = some (.int .u64 0) ∧ w'.cell? ⟨gb108,1,none⟩ = some (.int .u64 1)) (ds:=[]) #[false,false,false,false,false,false,false,false] (by kernel_rfl) rfl rfl ⟨(za BK108.out 0).trans rfl,(za BK108.out 1).trans rfl⟩ (fun hHeld=>?_);refine z1y zc.tab6 zc.bits6 (fun HT_ HW_=>?_)
       generalize wc.drew = w91 at HO_5 HO_6 BK101 BK108 BK109 HB hHeld ⊢
       refine pure_ (i:=0) (N:=some 36) (v:=?_) (a':=?_) #[true,false,false,false,false,false,false,false] rfl rfl (z1d HT_.out (by kernel_rfl)) (fun _ _ _ h=>h) (Or.inl ⟨by rfl,?_⟩) ?_ ?_
       rotate_left
       · intro w'
         go_simp
         with_reducible rfl
       rotate_left
       · simp only [Act.put,List.setIfInBounds_toArray,List.set_cons_zero,List.set_cons_succ,zR,zV]
         rfl
       refine pure_ (i:=2) (N:=some 38) (v:=?_) (a':=?_) #[true,false,true,false,false,false,false,false] rfl rfl (z1d HT_.out (by kernel_rfl)) (fun _ _ _ h=>h) (Or.inl ⟨by rfl,?_⟩) ?_ ?_
       rotate_left
       · intro w'
         go_simp
         with_reducible rfl
       rotate_left
       · simp only [Act.put,List.setIfInBounds_toArray,List.set_cons_zero,List.set_cons_succ,zR,zV]
         rfl
       refine take_ (i:=3) (N:=some 39) (v:=?_) (a':=?_) #[true,false,true,true,false,false,false,false] rfl rfl (z1e HT_.out HW_.out (by kernel_rfl)) (fun _ _ _ h=>h) (Or.inl ⟨by rfl,?_⟩) hHeld ?_ ?_
       rotate_left
       · rintro w' ⟨s0,s1⟩
         go_simp
         with_reducible rfl
       rotate_left
       · simp only [Act.put,List.setIfInBounds_toArray,List.set_cons_zero,List.set_cons_succ,zR,zV]
         rfl
       refine take_ (i:=4) (N:=some 40) (v:=?_) (a':=?_) #[true,false,true,true,true,false,false,false] rfl rfl (z1e HT_.out HW_.out (by kernel_rfl)) (fun _ _ _ h=>h) (Or.inl ⟨by rfl,?_⟩) hHeld ?_ ?_
       rotate_left
       · rintro w' ⟨s0,s1⟩
         go_simp
         with_reducible rfl
       rotate_left
       · simp only [Act.put,List.setIfInBounds_toArray,List.set_cons_zero,List.set_cons_succ,zR,zV]
         rfl
       refine one_ (i:=1) (N:=some 37) #[true,true,true,true,true,false,false,false] rfl rfl (z1l HT_.out (by kernel_rfl)) (by decide) (fun K hK=>?_)
       refine goes_ Try.func62 (by kernel_rfl) rfl #[.int .i64 a0] (by rfl) rfl rfl (by (try simp only [List.map_toArray,List.map_cons,List.map_nil]);first|done|rfl|(simp only [List.length_drop,List.length_take];rfl)) ?_
       with_reducible refine (z18.calls kj4 a0 t114 _ A29.out).mono ?_
       rintro e w92 ⟨v115,rfl,ho0,hb⟩
       refine ⟨_,rfl,?_⟩
       have n0_:=z2.mk (Kd.z15 (by (with_reducible repeat (first|apply Kd.zi|apply Kd.zj|apply Kd.zo));exact HO_5.out) (Kd.z1f ho0) hb)
       have n1_:=z2.mk (Kd.z15 (by (with_reducible repeat (first|apply Kd.zi|apply Kd.zj|apply Kd.zo));exact HO_6.out) (Kd.z1f ho0) hb)
       have n2_:=z2.mk (Kd.z14 (Kd.z1n (Kd.z1i (Kd.z1i ho0 (Kd.R_lt (by (with_reducible repeat (first|apply Kd.zi|apply Kd.zj|apply Kd.zo));exact HO_5.out))) (Kd.R_lt (by (with_reducible repeat (first|apply Kd.zi|apply Kd.zj|apply Kd.zo));exact HO_6.out))) (g:=gb101) (o:=.cells #[.int .u64 a1_0,.int .u64 a1_1] 51 (0,0)) (by (with_reducible repeat (first|refine z4 ?_ _|refine z8 ?_|refine z3 ?_ _));exact BK101.out)) (ze (by repeat (first|(with_reducible first|exact HB.out|apply z7|apply z1|apply z6|refine z5 ?_ GE101.out|refine z5 ?_ GE108.out|refine z5 ?_ GE109.out)|exact HB.out))))
       have n3_:=z2.mk (z9 (g:=gb101) (o:=.cells #[.int .u64 a1_0,.int .u64 a1_1] 51 (0,0)) (by (with_reducible repeat (first|refine z4 ?_ _|refine z8 ?_|refine z3 ?_ _));exact BK101.out) hb)
       have n4_:=z2.mk (z9 (g:=gb108) (o:=.cells #[.int .u64 0,.int .u64 1] 61 (0,0)) (by (with_reducible repeat (first|refine z4 ?_ _|refine z8 ?_|refine z3 ?_ _));exact BK108.out) hb)
       have n5_:=z2.mk (z9 (g:=gb109) (o:=.cells #[.int .u64 a1_0,.int .u64 a1_1] 61 (0,0)) (by (with_reducible repeat (first|refine z4 ?_ _|refine z8 ?_|refine z3 ?_ _));exact BK109.out) hb)
       have n6_:=z2.mk (zd (by repeat (first|(with_reducible first|exact HB.out|apply z7|apply z1|apply z6|refine z5 ?_ GE101.out|refine z5 ?_ GE108.out|refine z5 ?_ GE109.out)|exact HB.out)) hb)
       clear HO_5
       clear HO_6
       clear BK101
       clear BK108
       clear BK109
       clear HB
       have HO_5:=n0_
       have HO_6:=n1_
       have HO116:=n2_
       have BK101:=n3_
       have BK108:=n4_
       have BK109:=n5_
       have HB:=n6_
       clear n0_ n1_ n2_ n3_ n4_ n5_ n6_
       (try clear hb)
       (try clear hb2)
       (try clear hk)
       (try clear hi)
       (try clear ho0)
       refine hK.out _ _ ⟨(za BK108.out 0).trans rfl,(za BK108.out 1).trans rfl⟩ (fun hHeld=>?_)
       clear hK K
       refine norm_ (a':=?_) ?_ ?_
       rotate_left
       · show Act.put _ (some 37) _ = _
         simp only [Act.put,List.setIfInBounds_toArray,List.set_cons_zero,List.set_cons_succ,zR,zV]
         rfl
       refine one_ (i:=5) (N:=some 41) #[true,true,true,true,true,true,false,false] rfl rfl (z1l HT_.out (by kernel_rfl)) (by decide) (fun K hK=>?_)
       refine goes_ Try.func63 (by kernel_rfl) rfl #[.int .i64 a0,.agg #[.int .u64 0,.int .u64 1],.agg #[.int .u64 0,.int .u64 1]] (by rfl) rfl rfl (by (try simp only [List.map_toArray,List.map_cons,List.map_nil]);first|done|rfl|(simp only [List.length_drop,List.length_take];rfl)) ?_
       with_reducible refine (zf.calls kj4 a0 0 1 0 1 t117 _ A30.out).mono ?_
       rintro e w93 ⟨v118,rfl,ho0,hb⟩
       refine ⟨_,rfl,?_⟩
       have n0_:=z2.mk (Kd.zx (by (with_reducible repeat (first|apply Kd.zi|apply Kd.zj|apply Kd.zo));exact HO_5.out) hb)
       have n1_:=z2.mk (Kd.zx (by (with_reducible repeat (first|apply Kd.zi|apply Kd.zj|apply Kd.zo));exact HO_6.out) hb)
       have n2_:=z2.mk (Kd.zx (by (with_reducible repeat (first|apply Kd.zi|apply Kd.zj|apply Kd.zo));exact HO116.out) hb)
       have n3_:=z2.mk (Kd.z14 (Kd.z1n (Kd.z1n ho0 (g:=gb108) (o:=.cells #[.int .u64 0,.int .u64 1] 61 (0,0)) (by (with_reducible repeat (first|refine z4 ?_ _|refine z8 ?_|refine z3 ?_ _));exact BK108.out)) (g:=gb109) (o:=.cells #[.int .u64 a1_0,.int .u64 a1_1] 61 (0,0)) (by (with_reducible repeat (first|refine z4 ?_ _|refine z8 ?_|refine z3 ?_ _));exact BK109.out)) (ze (by repeat (first|(with_reducible first|exact HB.out|apply z7|apply z1|apply z6|refine z5 ?_ GE101.out|refine z5 ?_ GE108.out|refine z5 ?_ GE109.out)|exact HB.out))))
       have n4_:=z2.mk (z9 (g:=gb101) (o:=.cells #[.int .u64 a1_0,.int .u64 a1_1] 51 (0,0)) (by (with_reducible repeat (first|refine z4 ?_ _|refine z8 ?_|refine z3 ?_ _));exact BK101.out) hb)
       have n5_:=z2.mk (z9 (g:=gb108) (o:=.cells #[.int .u64 0,.int .u64 1] 61 (0,0)) (by (with_reducible repeat (first|refine z4 ?_ _|refine z8 ?_|refine z3 ?_ _));exact BK108.out) hb)
       have n6_:=z2.mk (z9 (g:=gb109) (o:=.cells #[.int .u64 a1_0,.int .u64 a1_1] 61 (0,0)) (by (with_reducible repeat (first|refine z4 ?_ _|refine z8 ?_|refine z3 ?_ _));exact BK109.out) hb)
       have n7_:=z2.mk (zd (by repeat (first|(with_reducible first|exact HB.out|apply z7|apply z1|apply z6|refine z5 ?_ GE101.out|refine z5 ?_ GE108.out|refine z5 ?_ GE109.out)|exact HB.out)) hb)
       clear HO_5
       clear HO_6
       clear HO116
       clear BK101
       clear BK108
       clear BK109
       clear HB
       have HO_5:=n0_
       have HO_6:=n1_
       have HO116:=n2_
       have HO119:=n3_
       have BK101:=n4_
       have BK108:=n5_
       have BK109:=n6_
       have HB:=n7_
       clear n0_ n1_ n2_ n3_ n4_ n5_ n6_ n7_
       (try clear hb)
       (try clear hb2)
       (try clear hk)
       (try clear hi)
       (try clear ho0)
       obtain ⟨Ao94,co94,eo94⟩:=Kd.z13 HO116.out
       (first|subst eo94|(injection eo94 with f1_ f2_ f3_;have f4_:=f1_.symm;have f5_:=f3_.symm;clear f1_ f2_ f3_;subst f4_;subst f5_))
       obtain ⟨Ao95,co95,eo95⟩:=Kd.z13 HO119.out
       (first|subst eo95|(injection eo95 with f1_ f2_ f3_;have f4_:=f1_.symm;have f5_:=f3_.symm;clear f1_ f2_ f3_;subst f4_;subst f5_))
       refine hK.out _ _ ⟨(za BK108.out 0).trans rfl,(za BK108.out 1).trans rfl⟩ (fun hHeld=>?_)
       clear hK K
       refine norm_ (a':=?_) ?_ ?_
       rotate_left
       · show Act.put _ (some 41) _ = _
         simp only [Act.put,List.setIfInBounds_toArray,List.set_cons_zero,List.set_cons_succ,zR,zV]
         rfl
       refine one_ (i:=6) (N:=some 42) #[true,true,true,true,true,true,true,false] rfl rfl (z1l HT_.out (by kernel_rfl)) (by decide) (fun K hK=>?_)
       refine goes_ Try.func25 (by kernel_rfl) rfl #[.slice Ao94 t114.length co94,.slice Ao95 t117.length co95] (by rfl) rfl rfl (by (try simp only [List.map_toArray,List.map_cons,List.map_nil]);first|done|rfl|(simp only [List.length_drop,List.length_take];rfl)) ?_
       with_reducible refine (zg.calls kj4 _ _ t114 _ _ t117 true _ ?side1 ?side2 ?side3 ?side4 A31.out).mono ?_
       (case side1=>repeat (first|exact (Kd.zM HO116.out).2.2|(with_reducible refine Kd.z1s ?_ _)|(with_reducible refine Kd.z1t ?_ _)|(with_reducible refine Kd.z1E ?_)))
       (case side2=>exact (Kd.zM HO116.out).2.1)
       (case side3=>repeat (first|exact (Kd.zM HO119.out).2.2|(with_reducible refine Kd.z1s ?_ _)|(with_reducible refine Kd.z1t ?_ _)|(with_reducible refine Kd.z1E ?_)))
       (case side4=>exact (Kd.zM HO119.out).2.1)
       rintro e w' ⟨rfl,⟨nd,rfl⟩⟩
       refine ⟨_,rfl,?_⟩
       refine hK.out _ _ ⟨(za BK108.out 0).trans rfl,(za BK108.out 1).trans rfl⟩ (fun hHeld=>?_)
       clear hK K
       refine norm_ (a':=?_) ?_ ?_
       rotate_left
       · show Act.put _ (some 42) _ = _
         simp only [Act.put,List.setIfInBounds_toArray,List.set_cons_zero,List.set_cons_succ,zR,zV]
         rfl
       refine pure_ (i:=7) (N:=some 43) (v:=?_) (a':=?_) #[true,true,true,true,true,true,true,true] rfl rfl (z1d HT_.out (by kernel_rfl)) (fun _ _ _ h=>h) (Or.inl ⟨by rfl,?_⟩) ?_ ?_
       rotate_left
       · intro w'
         go_simp
         with_reducible rfl
       rotate_left
       · simp only [Act.put,List.setIfInBounds_toArray,List.set_cons_zero,List.set_cons_succ,zR,zV]
         rfl
       refine done_ (z1R HT_.out (by kernel_rfl)) ?_
       have hnb96:=NB109_101.out
       have hnc96:=NB101_109.out
       have hnb97:=NB109_108.out
       have hnc97:=NB108_109.out
       have hcz98_0 : w93.cell? ⟨gb109,0,none⟩ = some (.int .u64 a1_0):=(za BK109.out 0).trans rfl
       have hcz98_1 : w93.cell? ⟨gb109,1,none⟩ = some (.int .u64 a1_1):=(za BK109.out 1).trans rfl
       have hfz98_0:=zb BK109.out 0
       have hfz98_1:=zb BK109.out 1
       try go_wp2_with (first|((with_reducible refine zp (f:=39) rfl ?_);refine goesL_ (some 46) rfl rfl Try.func39 (by kernel_rfl) rfl #[.int .i64 a0,.agg #[.int .u64 a1_0,.int .u64 a1_1]] rfl (by (try simp only [List.map_toArray,List.map_cons,List.map_nil]);first|done|rfl|(simp only [List.length_drop,List.length_take];rfl)) ?_;(with_reducible refine (zk.calls kj4 a0 a1_0 a1_1 false _ A33.out).mono ?_);rintro e w99 ⟨rfl,hb⟩;refine ⟨_,rfl,?_⟩;have n0_:=z2.mk (Kd.zx (by (with_reducible repeat (first|apply Kd.zi|apply Kd.zj|apply Kd.zo));exact HO_5.out) hb);have n1_:=z2.mk (Kd.zx (by (with_reducible repeat (first|apply Kd.zi|apply Kd.zj|apply Kd.zo));exact HO_6.out) hb);have n2_:=z2.mk (Kd.zx (by (with_reducible repeat (first|apply Kd.zi|apply Kd.zj|apply Kd.zo));exact HO116.out) hb);have n3_:=z2.mk (Kd.zx (by (with_reducible repeat (first|apply Kd.zi|apply Kd.zj|apply Kd.zo));exact HO119.out) hb);have n4_:=z2.mk (z9 (g:=gb101) (o:=.cells #[.int .u64 a1_0,.int .u64 a1_1] 51 (0,0)) (by (with_reducible repeat (first|refine z4 ?_ _|refine z8 ?_|refine z3 ?_ _));exact BK101.out) hb);have n5_:=z2.mk (z9 (g:=gb108) (o:=.cells #[.int .u64 0,.int .u64 1] 61 (0,0)) (by (with_reducible repeat (first|refine z4 ?_ _|refine z8 ?_|refine z3 ?_ _));exact BK108.out) hb);have n6_:=z2.mk (z9 (g:=gb109) (o:=.cells #[.int .u64 a1_0,.int .u64 a1_1] 61 (0,0)) (by (with_reducible repeat (first|refine z4 ?_ _|refine z8 ?_|refine z3 ?_ _));exact BK109.out) hb);have n7_:=z2.mk (zd (by repeat (first|(with_reducible first|exact HB.out|apply z7|apply z1|apply z6|refine z5 ?_ GE101.out|refine z5 ?_ GE108.out|refine z5 ?_ GE109.out)|exact HB.out)) hb);clear HO_5;clear HO_6;clear HO116;clear HO119;clear BK101;clear BK108;clear BK109;clear HB;have HO_5:=n0_;have HO_6:=n1_;have HO116:=n2_;have HO119:=n3_;have BK101:=n4_;have BK108:=n5_;have BK109:=n6_;have HB:=n7_;clear n0_ n1_ n2_ n3_ n4_ n5_ n6_ n7_;(try clear hb);(try clear hb2);(try clear hk);(try clear hi))|((with_reducible refine zp (f:=61) rfl ?_);refine goesL_ (some 48) rfl rfl Try.func61 (by kernel_rfl) rfl #[] rfl (by (try simp only [List.map_toArray,List.map_cons,List.map_nil]);first|done|rfl|(simp only [List.length_drop,List.length_take];rfl)) ?_;(with_reducible refine (zr.calls kj4  true _ A89.out).mono ?_);rintro e w100 ⟨rfl,hb⟩;refine ⟨_,rfl,?_⟩;have n0_:=z2.mk (Kd.zx (by (with_reducible repeat (first|apply Kd.zi|apply Kd.zj|apply Kd.zo));exact HO_5.out) hb);have n1_:=z2.mk (Kd.zx (by (with_reducible repeat (first|apply Kd.zi|apply Kd.zj|apply Kd.zo));exact HO_6.out) hb);have n2_:=z2.mk (Kd.zx (by (with_reducible repeat (first|apply Kd.zi|apply Kd.zj|apply Kd.zo));exact HO116.out) hb);have n3_:=z2.mk (Kd.zx (by (with_reducible repeat (first|apply Kd.zi|apply Kd.zj|apply Kd.zo));exact HO119.out) hb);have n4_:=z2.mk (z9 (g:=gb101) (o:=.cells #[.int .u64 a1_0,.int .u64 a1_1] 51 (0,0)) (by (with_reducible repeat (first|refine z4 ?_ _|refine z8 ?_|refine z3 ?_ _));exact BK101.out) hb);have n5_:=z2.mk (z9 (g:=gb108) (o:=.cells #[.int .u64 0,.int .u64 1] 61 (0,0)) (by (with_reducible repeat (first|refine z4 ?_ _|refine z8 ?_|refine z3 ?_ _));exact BK108.out) hb);have n6_:=z2.mk (z9 (g:=gb109) (o:=.cells #[.int .u64 a1_0,.int .u64 a1_1] 61 (0,0)) (by (with_reducible repeat (first|refine z4 ?_ _|refine z8 ?_|refine z3 ?_ _));exact BK109.out) hb);have n7_:=z2.mk (zd (by repeat (first|(with_reducible first|exact HB.out|apply z7|apply z1|apply z6|refine z5 ?_ GE101.out|refine z5 ?_ GE108.out|refine z5 ?_ GE109.out)|exact HB.out)) hb);clear HO_5;clear HO_6;clear HO116;clear HO119;clear BK101;clear BK108;clear BK109;clear HB;have HO_5:=n0_;have HO_6:=n1_;have HO116:=n2_;have HO119:=n3_;have BK101:=n4_;have BK108:=n5_;have BK109:=n6_;have HB:=n7_;clear n0_ n1_ n2_ n3_ n4_ n5_ n6_ n7_;(try clear hb);(try clear hb2);(try clear hk);(try clear hi);obtain ⟨Ao101,co101,eo101⟩:=Kd.z13 HO_5.out;subst eo101;obtain ⟨Ao102,co102,eo102⟩:=Kd.z13 HO_6.out;subst eo102))
       go_ret
       exact ⟨by first|rfl|(simp [zl,zm] <;> rfl)|(simp [*,zl,zm] <;> rfl),by repeat (first|(with_reducible first|exact HB.out|apply z7|apply z1|apply z6|refine z5 ?_ GE101.out|refine z5 ?_ GE108.out|refine z5 ?_ GE109.out)|exact HB.out)⟩
     replace c90:=Bool.eq_false_iff.mpr c90
     subst c90
     have H1 : (some false) = some r:=by rw [if_neg (show ¬ (false = true) by decide)] at H;exact H
     clear H
     have H:=H1
     clear H1
     obtain rfl:=Option.some.inj H
     try go_wp2
     have n0_:=z2.mk (Kd.zo HO_5.out)
     have n1_:=z2.mk (Kd.zo HO_6.out)
     have n2_:=z2.mk (z8 BK101.out)
     have n3_:=z2.mk (z8 BK108.out)
     have n4_:=z2.mk (z8 BK109.out)
     have n5_:=z2.mk (z6 HB.out)
     clear HO_5
     clear HO_6
     clear BK101
     clear BK108
     clear BK109
     clear HB
     have HO_5:=n0_
     have HO_6:=n1_
     have BK101:=n2_
     have BK108:=n3_
     have BK109:=n4_
     have HB:=n5_
     clear n0_ n1_ n2_ n3_ n4_ n5_
     refine start_ (n:=8) (S:=fun w'=>w'.cell? ⟨gb108,0,none⟩ = some (.int .u64 0) ∧ w'.cell? ⟨gb108,1,none⟩ = some (.int .u64 1)) (ds:=[]) #[false,false,false,false,false,false,false,false] (by kernel_rfl) rfl rfl ⟨(za BK108.out 0).trans rfl,(za BK108.out 1).trans rfl⟩ (fun hHeld=>?_);refine z1y zc.tab6 zc.bits6 (fun HT_ HW_=>?_)
     generalize wc.drew = w103 at HO_5 HO_6 BK101 BK108 BK109 HB hHeld ⊢
     refine pure_ (i:=0) (N:=some 36) (v:=?_) (a':=?_) #[true,false,false,false,false,false,false,false] rfl rfl (z1d HT_.out (by kernel_rfl)) (fun _ _ _ h=>h) (Or.inl ⟨by rfl,?_⟩) ?_ ?_
     rotate_left
     · intro w'
       go_simp
       with_reducible rfl
     rotate_left
     · simp only [Act.put,List.setIfInBounds_toArray,List.set_cons_zero,List.set_cons_succ,zR,zV]
       rfl
     refine pure_ (i:=2) (N:=some 38) (v:=?_) (a':=?_) #[true,false,true,false,false,false,false,false] rfl rfl (z1d HT_.out (by kernel_rfl)) (fun _ _ _ h=>h) (Or.inl ⟨by rfl,?_⟩) ?_ ?_
     rotate_left
     · intro w'
       go_simp
       with_reducible rfl
     rotate_left
     · simp only [Act.put,List.setIfInBounds_toArray,List.set_cons_zero,List.set_cons_succ,zR,zV]
       rfl
     refine take_ (i:=3) (N:=some 39) (v:=?_) (a':=?_) #[true,false,true,true,false,false,false,false] rfl rfl (z1e HT_.out HW_.out (by kernel_rfl)) (fun _ _ _ h=>h) (Or.inl ⟨by rfl,?_⟩) hHeld ?_ ?_
     rotate_left
     · rintro w' ⟨s0,s1⟩
       go_simp
       with_reducible rfl
     rotate_left
     · simp only [Act.put,List.setIfInBounds_toArray,List.set_cons_zero,List.set_cons_succ,zR,zV]
       rfl
     refine take_ (i:=4) (N:=some 40) (v:=?_) (a':=?_) #[true,false,true,true,true,false,false,false] rfl rfl (z1e HT_.out HW_.out (by kernel_rfl)) (fun _ _ _ h=>h) (Or.inl ⟨by rfl,?_⟩) hHeld ?_ ?_
     rotate_left
     · rintro w' ⟨s0,s1⟩
       go_simp
       with_reducible rfl
     rotate_left
     · simp only [Act.put,List.setIfInBounds_toArray,List.set_cons_zero,List.set_cons_succ,zR,zV]
       rfl
     refine one_ (i:=1) (N:=some 37) #[true,true,true,true,true,false,false,false] rfl rfl (z1l HT_.out (by kernel_rfl)) (by decide) (fun K hK=>?_)
     refine goes_ Try.func62 (by kernel_rfl) rfl #[.int .i64 a0] (by rfl) rfl rfl (by (try simp only [List.map_toArray,List.map_cons,List.map_nil]);first|done|rfl|(simp only [List.length_drop,List.length_take];rfl)) ?_
     with_reducible refine (z18.calls kj4 a0 t114 _ A29.out).mono ?_
     rintro e w104 ⟨v115,rfl,ho0,hb⟩
     refine ⟨_,rfl,?_⟩
     have n0_:=z2.mk (Kd.z15 (by (with_reducible repeat (first|apply Kd.zi|apply Kd.zj|apply Kd.zo));exact HO_5.out) (Kd.z1f ho0) hb)
     have n1_:=z2.mk (Kd.z15 (by (with_reducible repeat (first|apply Kd.zi|apply Kd.zj|apply Kd.zo));exact HO_6.out) (Kd.z1f ho0) hb)
     have n2_:=z2.mk (Kd.z14 (Kd.z1n (Kd.z1i (Kd.z1i ho0 (Kd.R_lt (by (with_reducible repeat (first|apply Kd.zi|apply Kd.zj|apply Kd.zo));exact HO_5.out))) (Kd.R_lt (by (with_reducible repeat (first|apply Kd.zi|apply Kd.zj|apply Kd.zo));exact HO_6.out))) (g:=gb101) (o:=.cells #[.int .u64 a1_0,.int .u64 a1_1] 51 (0,0)) (by (with_reducible repeat (first|refine z4 ?_ _|refine z8 ?_|refine z3 ?_ _));exact BK101.out)) (ze (by repeat (first|(with_reducible first|exact HB.out|apply z7|apply z1|apply z6|refine z5 ?_ GE101.out|refine z5 ?_ GE108.out|refine z5 ?_ GE109.out)|exact HB.out))))
     have n3_:=z2.mk (z9 (g:=gb101) (o:=.cells #[.int .u64 a1_0,.int .u64 a1_1] 51 (0,0)) (by (with_reducible repeat (first|refine z4 ?_ _|refine z8 ?_|refine z3 ?_ _));exact BK101.out) hb)
     have n4_:=z2.mk (z9 (g:=gb108) (o:=.cells #[.int .u64 0,.int .u64 1] 61 (0,0)) (by (with_reducible repeat (first|refine z4 ?_ _|refine z8 ?_|refine z3 ?_ _));exact BK108.out) hb)
     have n5_:=z2.mk (z9 (g:=gb109) (o:=.cells #[.int .u64 a1_0,.int .u64 a1_1] 61 (0,0)) (by (with_reducible repeat (first|refine z4 ?_ _|refine z8 ?_|refine z3 ?_ _));exact BK109.out) hb)
     have n6_:=z2.mk (zd (by repeat (first|(with_reducible first|exact HB.out|apply z7|apply z1|apply z6|refine z5 ?_ GE101.out|refine z5 ?_ GE108.out|refine z5 ?_ GE109.out)|exact HB.out)) hb)
     clear HO_5
     clear HO_6
     clear BK101
     clear BK108
     clear BK109
     clear HB
     have HO_5:=n0_
     have HO_6:=n1_
     have HO116:=n2_
     have BK101:=n3_
     have BK108:=n4_
     have BK109:=n5_
     have HB:=n6_
     clear n0_ n1_ n2_ n3_ n4_ n5_ n6_
     (try clear hb)
     (try clear hb2)
     (try clear hk)
     (try clear hi)
     (try clear ho0)
     refine hK.out _ _ ⟨(za BK108.out 0).trans rfl,(za BK108.out 1).trans rfl⟩ (fun hHeld=>?_)
     clear hK K
     refine norm_ (a':=?_) ?_ ?_
     rotate_left
     · show Act.put _ (some 37) _ = _
       simp only [Act.put,List.setIfInBounds_toArray,List.set_cons_zero,List.set_cons_succ,zR,zV]
       rfl
     refine one_ (i:=5) (N:=some 41) #[true,true,true,true,true,true,false,false] rfl rfl (z1l HT_.out (by kernel_rfl)) (by decide) (fun K hK=>?_)
     refine goes_ Try.func63 (by kernel_rfl) rfl #[.int .i64 a0,.agg #[.int .u64 0,.int .u64 1],.agg #[.int .u64 0,.int .u64 1]] (by rfl) rfl rfl (by (try simp only [List.map_toArray,List.map_cons,List.map_nil]);first|done|rfl|(simp only [List.length_drop,List.length_take];rfl)) ?_
     with_reducible refine (zf.calls kj4 a0 0 1 0 1 t117 _ A30.out).mono ?_
     rintro e w105 ⟨v118,rfl,ho0,hb⟩
     refine ⟨_,rfl,?_⟩
     have n0_:=z2.mk (Kd.zx (by (with_reducible repeat (first|apply Kd.zi|apply Kd.zj|apply Kd.zo));exact HO_5.out) hb)
     have n1_:=z2.mk (Kd.zx (by (with_reducible repeat (first|apply Kd.zi|apply Kd.zj|apply Kd.zo));exact HO_6.out) hb)
     have n2_:=z2.mk (Kd.zx (by (with_reducible repeat (first|apply Kd.zi|apply Kd.zj|apply Kd.zo));exact HO116.out) hb)
     have n3_:=z2.mk (Kd.z14 (Kd.z1n (Kd.z1n ho0 (g:=gb108) (o:=.cells #[.int .u64 0,.int .u64 1] 61 (0,0)) (by (with_reducible repeat (first|refine z4 ?_ _|refine z8 ?_|refine z3 ?_ _));exact BK108.out)) (g:=gb109) (o:=.cells #[.int .u64 a1_0,.int .u64 a1_1] 61 (0,0)) (by (with_reducible repeat (first|refine z4 ?_ _|refine z8 ?_|refine z3 ?_ _));exact BK109.out)) (ze (by repeat (first|(with_reducible first|exact HB.out|apply z7|apply z1|apply z6|refine z5 ?_ GE101.out|refine z5 ?_ GE108.out|refine z5 ?_ GE109.out)|exact HB.out))))
     have n4_:=z2.mk (z9 (g:=gb101) (o:=.cells #[.int .u64 a1_0,.int .u64 a1_1] 51 (0,0)) (by (with_reducible repeat (first|refine z4 ?_ _|refine z8 ?_|refine z3 ?_ _));exact BK101.out) hb)
     have n5_:=z2.mk (z9 (g:=gb108) (o:=.cells #[.int .u64 0,.int .u64 1] 61 (0,0)) (by (with_reducible repeat (first|refine z4 ?_ _|refine z8 ?_|refine z3 ?_ _));exact BK108.out) hb)
     have n6_:=z2.mk (z9 (g:=gb109) (o:=.cells #[.int .u64 a1_0,.int .u64 a1_1] 61 (0,0)) (by (with_reducible repeat (first|refine z4 ?_ _|refine z8 ?_|refine z3 ?_ _));exact BK109.out) hb)
     have n7_:=z2.mk (zd (by repeat (first|(with_reducible first|exact HB.out|apply z7|apply z1|apply z6|refine z5 ?_ GE101.out|refine z5 ?_ GE108.out|refine z5 ?_ GE109.out)|exact HB.out)) hb)
     clear HO_5
     clear HO_6
     clear HO116
     clear BK101
     clear BK108
     clear BK109
     clear HB
     have HO_5:=n0_
     have HO_6:=n1_
     have HO116:=n2_
     have HO119:=n3_
     have BK101:=n4_
     have BK108:=n5_
     have BK109:=n6_
     have HB:=n7_
     clear n0_ n1_ n2_ n3_ n4_ n5_ n6_ n7_
     (try clear hb)
     (try clear hb2)
     (try clear hk)
     (try clear hi)
     (try clear ho0)
     obtain ⟨Ao106,co106,eo106⟩:=Kd.z13 HO116.out
     (first|subst eo106|(injection eo106 with f1_ f2_ f3_;have f4_:=f1_.symm;have f5_:=f3_.symm;clear f1_ f2_ f3_;subst f4_;subst f5_))
     obtain ⟨Ao107,co107,eo107⟩:=Kd.z13 HO119.out
     (first|subst eo107|(injection eo107 with f1_ f2_ f3_;have f4_:=f1_.symm;have f5_:=f3_.symm;clear f1_ f2_ f3_;subst f4_;subst f5_))
     refine hK.out _ _ ⟨(za BK108.out 0).trans rfl,(za BK108.out 1).trans rfl⟩ (fun hHeld=>?_)
     clear hK K
     refine norm_ (a':=?_) ?_ ?_
     rotate_left
     · show Act.put _ (some 41) _ = _
       simp only [Act.put,List.setIfInBounds_toArray,List.set_cons_zero,List.set_cons_succ,zR,zV]
       rfl
     refine one_ (i:=6) (N:=some 42) #[true,true,true,true,true,true,true,false] rfl rfl (z1l HT_.out (by kernel_rfl)) (by decide) (fun K hK=>?_)
     refine goes_ Try.func25 (by kernel_rfl) rfl #[.slice Ao106 t114.length co106,.slice Ao107 t117.length co107] (by rfl) rfl rfl (by (try simp only [List.map_toArray,List.map_cons,List.map_nil]);first|done|rfl|(simp only [List.length_drop,List.length_take];rfl)) ?_
     with_reducible refine (zg.calls kj4 _ _ t114 _ _ t117 true _ ?side1 ?side2 ?side3 ?side4 A31.out).mono ?_
     (case side1=>repeat (first|exact (Kd.zM HO116.out).2.2|(with_reducible refine Kd.z1s ?_ _)|(with_reducible refine Kd.z1t ?_ _)|(with_reducible refine Kd.z1E ?_)))
     (case side2=>exact (Kd.zM HO116.out).2.1)
     (case side3=>repeat (first|exact (Kd.zM HO119.out).2.2|(with_reducible refine Kd.z1s ?_ _)|(with_reducible refine Kd.z1t ?_ _)|(with_reducible refine Kd.z1E ?_)))
     (case side4=>exact (Kd.zM HO119.out).2.1)
     rintro e w' ⟨rfl,⟨nd,rfl⟩⟩
     refine ⟨_,rfl,?_⟩
     refine hK.out _ _ ⟨(za BK108.out 0).trans rfl,(za BK108.out 1).trans rfl⟩ (fun hHeld=>?_)
     clear hK K
     refine norm_ (a':=?_) ?_ ?_
     rotate_left
     · show Act.put _ (some 42) _ = _
       simp only [Act.put,List.setIfInBounds_toArray,List.set_cons_zero,List.set_cons_succ,zR,zV]
       rfl
     refine pure_ (i:=7) (N:=some 43) (v:=?_) (a':=?_) #[true,true,true,true,true,true,true,true] rfl rfl (z1d HT_.out (by kernel_rfl)) (fun _ _ _ h=>h) (Or.inl ⟨by rfl,?_⟩) ?_ ?_
     rotate_left
     · intro w'
       go_simp
       with_reducible rfl
     rotate_left
     · simp only [Act.put,List.setIfInBounds_toArray,List.set_cons_zero,List.set_cons_succ,zR,zV]
       rfl
     refine done_ (z1R HT_.out (by kernel_rfl)) ?_
     have hnb108:=NB109_101.out
     have hnc108:=NB101_109.out
     have hnb109:=NB109_108.out
     have hnc109:=NB108_109.out
     have hcz110_0 : w105.cell? ⟨gb109,0,none⟩ = some (.int .u64 a1_0):=(za BK109.out 0).trans rfl
     have hcz110_1 : w105.cell? ⟨gb109,1,none⟩ = some (.int .u64 a1_1):=(za BK109.out 1).trans rfl
     have hfz110_0:=zb BK109.out 0
     have hfz110_1:=zb BK109.out 1
     try go_wp2_with (first|((with_reducible refine zp (f:=39) rfl ?_);refine goesL_ (some 46) rfl rfl Try.func39 (by kernel_rfl) rfl #[.int .i64 a0,.agg #[.int .u64 a1_0,.int .u64 a1_1]] rfl (by (try simp only [List.map_toArray,List.map_cons,List.map_nil]);first|done|rfl|(simp only [List.length_drop,List.length_take];rfl)) ?_;(with_reducible refine (zk.calls kj4 a0 a1_0 a1_1 false _ A33.out).mono ?_);rintro e w111 ⟨rfl,hb⟩;refine ⟨_,rfl,?_⟩;have n0_:=z2.mk (Kd.zx (by (with_reducible repeat (first|apply Kd.zi|apply Kd.zj|apply Kd.zo));exact HO_5.out) hb);have n1_:=z2.mk (Kd.zx (by (with_reducible repeat (first|apply Kd.zi|apply Kd.zj|apply Kd.zo));exact HO_6.out) hb);have n2_:=z2.mk (Kd.zx (by (with_reducible repeat (first|apply Kd.zi|apply Kd.zj|apply Kd.zo));exact HO116.out) hb);have n3_:=z2.mk (Kd.zx (by (with_reducible repeat (first|apply Kd.zi|apply Kd.zj|apply Kd.zo));exact HO119.out) hb);have n4_:=z2.mk (z9 (g:=gb101) (o:=.cells #[.int .u64 a1_0,.int .u64 a1_1] 51 (0,0)) (by (with_reducible repeat (first|refine z4 ?_ _|refine z8 ?_|refine z3 ?_ _));exact BK101.out) hb);have n5_:=z2.mk (z9 (g:=gb108) (o:=.cells #[.int .u64 0,.int .u64 1] 61 (0,0)) (by (with_reducible repeat (first|refine z4 ?_ _|refine z8 ?_|refine z3 ?_ _));exact BK108.out) hb);have n6_:=z2.mk (z9 (g:=gb109) (o:=.cells #[.int .u64 a1_0,.int .u64 a1_1] 61 (0,0)) (by (with_reducible repeat (first|refine z4 ?_ _|refine z8 ?_|refine z3 ?_ _));exact BK109.out) hb);have n7_:=z2.mk (zd (by repeat (first|(with_reducible first|exact HB.out|apply z7|apply z1|apply z6|refine z5 ?_ GE101.out|refine z5 ?_ GE108.out|refine z5 ?_ GE109.out)|exact HB.out)) hb);clear HO_5;clear HO_6;clear HO116;clear HO119;clear BK101;clear BK108;clear BK109;clear HB;have HO_5:=n0_;have HO_6:=n1_;have HO116:=n2_;have HO119:=n3_;have BK101:=n4_;have BK108:=n5_;have BK109:=n6_;have HB:=n7_;clear n0_ n1_ n2_ n3_ n4_ n5_ n6_ n7_;(try clear hb);(try clear hb2);(try clear hk);(try clear hi))|((with_reducible refine zp (f:=61) rfl ?_);refine goesL_ (some 48) rfl rfl Try.func61 (by kernel_rfl) rfl #[] rfl (by (try simp only [List.map_toArray,List.map_cons,List.map_nil]);first|done|rfl|(simp only [List.length_drop,List.length_take];rfl)) ?_;(with_reducible refine (zr.calls kj4  false _ A89.out).mono ?_);rintro e w112 ⟨rfl,hb⟩;refine ⟨_,rfl,?_⟩;have n0_:=z2.mk (Kd.zx (by (with_reducible repeat (first|apply Kd.zi|apply Kd.zj|apply Kd.zo));exact HO_5.out) hb);have n1_:=z2.mk (Kd.zx (by (with_reducible repeat (first|apply Kd.zi|apply Kd.zj|apply Kd.zo));exact HO_6.out) hb);have n2_:=z2.mk (Kd.zx (by (with_reducible repeat (first|apply Kd.zi|apply Kd.zj|apply Kd.zo));exact HO116.out) hb);have n3_:=z2.mk (Kd.zx (by (with_reducible repeat (first|apply Kd.zi|apply Kd.zj|apply Kd.zo));exact HO119.out) hb);have n4_:=z2.mk (z9 (g:=gb101) (o:=.cells #[.int .u64 a1_0,.int .u64 a1_1] 51 (0,0)) (by (with_reducible repeat (first|refine z4 ?_ _|refine z8 ?_|refine z3 ?_ _));exact BK101.out) hb);have n5_:=z2.mk (z9 (g:=gb108) (o:=.cells #[.int .u64 0,.int .u64 1] 61 (0,0)) (by (with_reducible repeat (first|refine z4 ?_ _|refine z8 ?_|refine z3 ?_ _));exact BK108.out) hb);have n6_:=z2.mk (z9 (g:=gb109) (o:=.cells #[.int .u64 a1_0,.int .u64 a1_1] 61 (0,0)) (by (with_reducible repeat (first|refine z4 ?_ _|refine z8 ?_|refine z3 ?_ _));exact BK109.out) hb);have n7_:=z2.mk (zd (by repeat (first|(with_reducible first|exact HB.out|apply z7|apply z1|apply z6|refine z5 ?_ GE101.out|refine z5 ?_ GE108.out|refine z5 ?_ GE109.out)|exact HB.out)) hb);clear HO_5;clear HO_6;clear HO116;clear HO119;clear BK101;clear BK108;clear BK109;clear HB;have HO_5:=n0_;have HO_6:=n1_;have HO116:=n2_;have HO119:=n3_;have BK101:=n4_;have BK108:=n5_;have BK109:=n6_;have HB:=n7_;clear n0_ n1_ n2_ n3_ n4_ n5_ n6_ n7_;(try clear hb);(try clear hb2);(try clear hk);(try clear hi)))
     go_ret
     exact ⟨by first|rfl|(simp [zl,zm] <;> rfl)|(simp [*,zl,zm] <;> rfl),by repeat (first|(with_reducible first|exact HB.out|apply z7|apply z1|apply z6|refine z5 ?_ GE101.out|refine z5 ?_ GE108.out|refine z5 ?_ GE109.out)|exact HB.out)⟩
   subst c34
   have H1 : ((zr.f kj4).bind fun t123=>(if t123 = true then ((zf.f kj4 a0 a1_0 a1_1 0 1).bind fun t124=>((zg.f kj4 t102 t124).bind fun t127=>(if t127 = true then ((zf.f kj4 a0 0 1 a1_0 a1_1).bind fun t128=>((zg.f kj4 t105 t128).bind fun t131=>(some t131))) else (some false)))) else (some false))) = some r:=by rw [if_pos rfl] at H;exact H
   clear H
   have H:=H1
   clear H1
   replace H:=Option.bind_eq_some_iff.mp H
   obtain ⟨t123,A350,H⟩:=H
   replace H : (if t123 = true then ((zf.f kj4 a0 a1_0 a1_1 0 1).bind fun t124=>((zg.f kj4 t102 t124).bind fun t127=>(if t127 = true then ((zf.f kj4 a0 0 1 a1_0 a1_1).bind fun t128=>((zg.f kj4 t105 t128).bind fun t131=>(some t131))) else (some false)))) else (some false)) = some r:=H
   have A35:=z2.mk A350
   clear A350
   by_cases c36 : t123 = true
   rotate_left
   · replace c36:=Bool.eq_false_iff.mpr c36
     subst c36
     have H1 : (some false) = some r:=by rw [if_neg (show ¬ (false = true) by decide)] at H;exact H
     clear H
     have H:=H1
     clear H1
     obtain rfl:=Option.some.inj H
     try go_wp2
     have n0_:=z2.mk (Kd.zo HO_5.out)
     have n1_:=z2.mk (Kd.zo HO_6.out)
     have n2_:=z2.mk (z8 BK101.out)
     have n3_:=z2.mk (z8 BK108.out)
     have n4_:=z2.mk (z8 BK109.out)
     have n5_:=z2.mk (z6 HB.out)
     clear HO_5
     clear HO_6
     clear BK101
     clear BK108
     clear BK109
     clear HB
     have HO_5:=n0_
     have HO_6:=n1_
     have BK101:=n2_
     have BK108:=n3_
     have BK109:=n4_
     have HB:=n5_
     clear n0_ n1_ n2_ n3_ n4_ n5_
     refine start_ (n:=8) (S:=fun w'=>w'.cell? ⟨gb108,0,none⟩ = some (.int .u64 0) ∧ w'.cell? ⟨gb108,1,none⟩ = some (.int .u64 1)) (ds:=[]) #[false,false,false,false,false,false,false,false] (by kernel_rfl) rfl rfl ⟨(za BK108.out 0).trans rfl,(za BK108.out 1).trans rfl⟩ (fun hHeld=>?_);refine z1y zc.tab6 zc.bits6 (fun HT_ HW_=>?_)
     generalize wc.drew = w79 at HO_5 HO_6 BK101 BK108 BK109 HB hHeld ⊢
     refine pure_ (i:=0) (N:=some 36) (v:=?_) (a':=?_) #[true,false,false,false,false,false,false,false] rfl rfl (z1d HT_.out (by kernel_rfl)) (fun _ _ _ h=>h) (Or.inl ⟨by rfl,?_⟩) ?_ ?_
     rotate_left
     · intro w'
       go_simp
       with_reducible rfl
     rotate_left
     · simp only [Act.put,List.setIfInBounds_toArray,List.set_cons_zero,List.set_cons_succ,zR,zV]
       rfl
     refine pure_ (i:=2) (N:=some 38) (v:=?_) (a':=?_) #[true,false,true,false,false,false,false,false] rfl rfl (z1d HT_.out (by kernel_rfl)) (fun _ _ _ h=>h) (Or.inl ⟨by rfl,?_⟩) ?_ ?_
     rotate_left
     · intro w'
       go_simp
       with_reducible rfl
     rotate_left
     · simp only [Act.put,List.setIfInBounds_toArray,List.set_cons_zero,List.set_cons_succ,zR,zV]
       rfl
     refine take_ (i:=3) (N:=some 39) (v:=?_) (a':=?_) #[true,false,true,true,false,false,false,false] rfl rfl (z1e HT_.out HW_.out (by kernel_rfl)) (fun _ _ _ h=>h) (Or.inl ⟨by rfl,?_⟩) hHeld ?_ ?_
     rotate_left
     · rintro w' ⟨s0,s1⟩
       go_simp
       with_reducible rfl
     rotate_left
     · simp only [Act.put,List.setIfInBounds_toArray,List.set_cons_zero,List.set_cons_succ,zR,zV]
       rfl
     refine take_ (i:=4) (N:=some 40) (v:=?_) (a':=?_) #[true,false,true,true,true,false,false,false] rfl rfl (z1e HT_.out HW_.out (by kernel_rfl)) (fun _ _ _ h=>h) (Or.inl ⟨by rfl,?_⟩) hHeld ?_ ?_
     rotate_left
     · rintro w' ⟨s0,s1⟩
       go_simp
       with_reducible rfl
     rotate_left
     · simp only [Act.put,List.setIfInBounds_toArray,List.set_cons_zero,List.set_cons_succ,zR,zV]
       rfl
     refine one_ (i:=1) (N:=some 37) #[true,true,true,true,true,false,false,false] rfl rfl (z1l HT_.out (by kernel_rfl)) (by decide) (fun K hK=>?_)
     refine goes_ Try.func62 (by kernel_rfl) rfl #[.int .i64 a0] (by rfl) rfl rfl (by (try simp only [List.map_toArray,List.map_cons,List.map_nil]);first|done|rfl|(simp only [List.length_drop,List.length_take];rfl)) ?_
     with_reducible refine (z18.calls kj4 a0 t114 _ A29.out).mono ?_
     rintro e w80 ⟨v115,rfl,ho0,hb⟩
     refine ⟨_,rfl,?_⟩
     have n0_:=z2.mk (Kd.z15 (by (with_reducible repeat (first|apply Kd.zi|apply Kd.zj|apply Kd.zo));exact HO_5.out) (Kd.z1f ho0) hb)
     have n1_:=z2.mk (Kd.z15 (by (with_reducible repeat (first|apply Kd.zi|apply Kd.zj|apply Kd.zo));exact HO_6.out) (Kd.z1f ho0) hb)
     have n2_:=z2.mk (Kd.z14 (Kd.z1n (Kd.z1i (Kd.z1i ho0 (Kd.R_lt (by (with_reducible repeat (first|apply Kd.zi|apply Kd.zj|apply Kd.zo));exact HO_5.out))) (Kd.R_lt (by (with_reducible repeat (first|apply Kd.zi|apply Kd.zj|apply Kd.zo));exact HO_6.out))) (g:=gb101) (o:=.cells #[.int .u64 a1_0,.int .u64 a1_1] 51 (0,0)) (by (with_reducible repeat (first|refine z4 ?_ _|refine z8 ?_|refine z3 ?_ _));exact BK101.out)) (ze (by repeat (first|(with_reducible first|exact HB.out|apply z7|apply z1|apply z6|refine z5 ?_ GE101.out|refine z5 ?_ GE108.out|refine z5 ?_ GE109.out)|exact HB.out))))
     have n3_:=z2.mk (z9 (g:=gb101) (o:=.cells #[.int .u64 a1_0,.int .u64 a1_1] 51 (0,0)) (by (with_reducible repeat (first|refine z4 ?_ _|refine z8 ?_|refine z3 ?_ _));exact BK101.out) hb)
     have n4_:=z2.mk (z9 (g:=gb108) (o:=.cells #[.int .u64 0,.int .u64 1] 61 (0,0)) (by (with_reducible repeat (first|refine z4 ?_ _|refine z8 ?_|refine z3 ?_ _));exact BK108.out) hb)
     have n5_:=z2.mk (z9 (g:=gb109) (o:=.cells #[.int .u64 a1_0,.int .u64 a1_1] 61 (0,0)) (by (with_reducible repeat (first|refine z4 ?_ _|refine z8 ?_|refine z3 ?_ _));exact BK109.out) hb)
     have n6_:=z2.mk (zd (by repeat (first|(with_reducible first|exact HB.out|apply z7|apply z1|apply z6|refine z5 ?_ GE101.out|refine z5 ?_ GE108.out|refine z5 ?_ GE109.out)|exact HB.out)) hb)
     clear HO_5
     clear HO_6
     clear BK101
     clear BK108
     clear BK109
     clear HB
     have HO_5:=n0_
     have HO_6:=n1_
     have HO116:=n2_
     have BK101:=n3_
     have BK108:=n4_
     have BK109:=n5_
     have HB:=n6_
     clear n0_ n1_ n2_ n3_ n4_ n5_ n6_
     (try clear hb)
     (try clear hb2)
     (try clear hk)
     (try clear hi)
     (try clear ho0)
     refine hK.out _ _ ⟨(za BK108.out 0).trans rfl,(za BK108.out 1).trans rfl⟩ (fun hHeld=>?_)
     clear hK K
     refine norm_ (a':=?_) ?_ ?_
     rotate_left
     · show Act.put _ (some 37) _ = _
       simp only [Act.put,List.setIfInBounds_toArray,List.set_cons_zero,List.set_cons_succ,zR,zV]
       rfl
     refine one_ (i:=5) (N:=some 41) #[true,true,true,true,true,true,false,false] rfl rfl (z1l HT_.out (by kernel_rfl)) (by decide) (fun K hK=>?_)
     refine goes_ Try.func63 (by kernel_rfl) rfl #[.int .i64 a0,.agg #[.int .u64 0,.int .u64 1],.agg #[.int .u64 0,.int .u64 1]] (by rfl) rfl rfl (by (try simp only [List.map_toArray,List.map_cons,List.map_nil]);first|done|rfl|(simp only [List.length_drop,List.length_take];rfl)) ?_
     with_reducible refine (zf.calls kj4 a0 0 1 0 1 t117 _ A30.out).mono ?_
     rintro e w81 ⟨v118,rfl,ho0,hb⟩
     refine ⟨_,rfl,?_⟩
     have n0_:=z2.mk (Kd.zx (by (with_reducible repeat (first|apply Kd.zi|apply Kd.zj|apply Kd.zo));exact HO_5.out) hb)
     have n1_:=z2.mk (Kd.zx (by (with_reducible repeat (first|apply Kd.zi|apply Kd.zj|apply Kd.zo));exact HO_6.out) hb)
     have n2_:=z2.mk (Kd.zx (by (with_reducible repeat (first|apply Kd.zi|apply Kd.zj|apply Kd.zo));exact HO116.out) hb)
     have n3_:=z2.mk (Kd.z14 (Kd.z1n (Kd.z1n ho0 (g:=gb108) (o:=.cells #[.int .u64 0,.int .u64 1] 61 (0,0)) (by (with_reducible repeat (first|refine z4 ?_ _|refine z8 ?_|refine z3 ?_ _));exact BK108.out)) (g:=gb109) (o:=.cells #[.int .u64 a1_0,.int .u64 a1_1] 61 (0,0)) (by (with_reducible repeat (first|refine z4 ?_ _|refine z8 ?_|refine z3 ?_ _));exact BK109.out)) (ze (by repeat (first|(with_reducible first|exact HB.out|apply z7|apply z1|apply z6|refine z5 ?_ GE101.out|refine z5 ?_ GE108.out|refine z5 ?_ GE109.out)|exact HB.out))))
     have n4_:=z2.mk (z9 (g:=gb101) (o:=.cells #[.int .u64 a1_0,.int .u64 a1_1] 51 (0,0)) (by (with_reducible repeat (first|refine z4 ?_ _|refine z8 ?_|refine z3 ?_ _));exact BK101.out) hb)
     have n5_:=z2.mk (z9 (g:=gb108) (o:=.cells #[.int .u64 0,.int .u64 1] 61 (0,0)) (by (with_reducible repeat (first|refine z4 ?_ _|refine z8 ?_|refine z3 ?_ _));exact BK108.out) hb)
     have n6_:=z2.mk (z9 (g:=gb109) (o:=.cells #[.int .u64 a1_0,.int .u64 a1_1] 61 (0,0)) (by (with_reducible repeat (first|refine z4 ?_ _|refine z8 ?_|refine z3 ?_ _));exact BK109.out) hb)
     have n7_:=z2.mk (zd (by repeat (first|(with_reducible first|exact HB.out|apply z7|apply z1|apply z6|refine z5 ?_ GE101.out|refine z5 ?_ GE108.out|refine z5 ?_ GE109.out)|exact HB.out)) hb)
     clear HO_5
     clear HO_6
     clear HO116
     clear BK101
     clear BK108
     clear BK109
     clear HB
     have HO_5:=n0_
     have HO_6:=n1_
     have HO116:=n2_
     have HO119:=n3_
     have BK101:=n4_
     have BK108:=n5_
     have BK109:=n6_
     have HB:=n7_
     clear n0_ n1_ n2_ n3_ n4_ n5_ n6_ n7_
     (try clear hb)
     (try clear hb2)
     (try clear hk)
     (try clear hi)
     (try clear ho0)
     obtain ⟨Ao82,co82,eo82⟩:=Kd.z13 HO116.out
     (first|subst eo82|(injection eo82 with f1_ f2_ f3_;have f4_:=f1_.symm;have f5_:=f3_.symm;clear f1_ f2_ f3_;subst f4_;subst f5_))
     obtain ⟨Ao83,co83,eo83⟩:=Kd.z13 HO119.out
     (first|subst eo83|(injection eo83 with f1_ f2_ f3_;have f4_:=f1_.symm;have f5_:=f3_.symm;clear f1_ f2_ f3_;subst f4_;subst f5_))
     refine hK.out _ _ ⟨(za BK108.out 0).trans rfl,(za BK108.out 1).trans rfl⟩ (fun hHeld=>?_)
     clear hK K
     refine norm_ (a':=?_) ?_ ?_
     rotate_left
     · show Act.put _ (some 41) _ = _
       simp only [Act.put,List.setIfInBounds_toArray,List.set_cons_zero,List.set_cons_succ,zR,zV]
       rfl
     refine one_ (i:=6) (N:=some 42) #[true,true,true,true,true,true,true,false] rfl rfl (z1l HT_.out (by kernel_rfl)) (by decide) (fun K hK=>?_)
     refine goes_ Try.func25 (by kernel_rfl) rfl #[.slice Ao82 t114.length co82,.slice Ao83 t117.length co83] (by rfl) rfl rfl (by (try simp only [List.map_toArray,List.map_cons,List.map_nil]);first|done|rfl|(simp only [List.length_drop,List.length_take];rfl)) ?_
     with_reducible refine (zg.calls kj4 _ _ t114 _ _ t117 true _ ?side1 ?side2 ?side3 ?side4 A31.out).mono ?_
     (case side1=>repeat (first|exact (Kd.zM HO116.out).2.2|(with_reducible refine Kd.z1s ?_ _)|(with_reducible refine Kd.z1t ?_ _)|(with_reducible refine Kd.z1E ?_)))
     (case side2=>exact (Kd.zM HO116.out).2.1)
     (case side3=>repeat (first|exact (Kd.zM HO119.out).2.2|(with_reducible refine Kd.z1s ?_ _)|(with_reducible refine Kd.z1t ?_ _)|(with_reducible refine Kd.z1E ?_)))
     (case side4=>exact (Kd.zM HO119.out).2.1)
     rintro e w' ⟨rfl,⟨nd,rfl⟩⟩
     refine ⟨_,rfl,?_⟩
     refine hK.out _ _ ⟨(za BK108.out 0).trans rfl,(za BK108.out 1).trans rfl⟩ (fun hHeld=>?_)
     clear hK K
     refine norm_ (a':=?_) ?_ ?_
     rotate_left
     · show Act.put _ (some 42) _ = _
       simp only [Act.put,List.setIfInBounds_toArray,List.set_cons_zero,List.set_cons_succ,zR,zV]
       rfl
     refine pure_ (i:=7) (N:=some 43) (v:=?_) (a':=?_) #[true,true,true,true,true,true,true,true] rfl rfl (z1d HT_.out (by kernel_rfl)) (fun _ _ _ h=>h) (Or.inl ⟨by rfl,?_⟩) ?_ ?_
     rotate_left
     · intro w'
       go_simp
       with_reducible rfl
     rotate_left
     · simp only [Act.put,List.setIfInBounds_toArray,List.set_cons_zero,List.set_cons_succ,zR,zV]
       rfl
     refine done_ (z1R HT_.out (by kernel_rfl)) ?_
     have hnb84:=NB109_101.out
     have hnc84:=NB101_109.out
     have hnb85:=NB109_108.out
     have hnc85:=NB108_109.out
     have hcz86_0 : w81.cell? ⟨gb109,0,none⟩ = some (.int .u64 a1_0):=(za BK109.out 0).trans rfl
     have hcz86_1 : w81.cell? ⟨gb109,1,none⟩ = some (.int .u64 a1_1):=(za BK109.out 1).trans rfl
     have hfz86_0:=zb BK109.out 0
     have hfz86_1:=zb BK109.out 1
     try go_wp2_with (first|((with_reducible refine zp (f:=39) rfl ?_);refine goesL_ (some 46) rfl rfl Try.func39 (by kernel_rfl) rfl #[.int .i64 a0,.agg #[.int .u64 a1_0,.int .u64 a1_1]] rfl (by (try simp only [List.map_toArray,List.map_cons,List.map_nil]);first|done|rfl|(simp only [List.length_drop,List.length_take];rfl)) ?_;(with_reducible refine (zk.calls kj4 a0 a1_0 a1_1 true _ A33.out).mono ?_);rintro e w87 ⟨rfl,hb⟩;refine ⟨_,rfl,?_⟩;have n0_:=z2.mk (Kd.zx (by (with_reducible repeat (first|apply Kd.zi|apply Kd.zj|apply Kd.zo));exact HO_5.out) hb);have n1_:=z2.mk (Kd.zx (by (with_reducible repeat (first|apply Kd.zi|apply Kd.zj|apply Kd.zo));exact HO_6.out) hb);have n2_:=z2.mk (Kd.zx (by (with_reducible repeat (first|apply Kd.zi|apply Kd.zj|apply Kd.zo));exact HO116.out) hb);have n3_:=z2.mk (Kd.zx (by (with_reducible repeat (first|apply Kd.zi|apply Kd.zj|apply Kd.zo));exact HO119.out) hb);have n4_:=z2.mk (z9 (g:=gb101) (o:=.cells #[.int .u64 a1_0,.int .u64 a1_1] 51 (0,0)) (by (with_reducible repeat (first|refine z4 ?_ _|refine z8 ?_|refine z3 ?_ _));exact BK101.out) hb);have n5_:=z2.mk (z9 (g:=gb108) (o:=.cells #[.int .u64 0,.int .u64 1] 61 (0,0)) (by (with_reducible repeat (first|refine z4 ?_ _|refine z8 ?_|refine z3 ?_ _));exact BK108.out) hb);have n6_:=z2.mk (z9 (g:=gb109) (o:=.cells #[.int .u64 a1_0,.int .u64 a1_1] 61 (0,0)) (by (with_reducible repeat (first|refine z4 ?_ _|refine z8 ?_|refine z3 ?_ _));exact BK109.out) hb);have n7_:=z2.mk (zd (by repeat (first|(with_reducible first|exact HB.out|apply z7|apply z1|apply z6|refine z5 ?_ GE101.out|refine z5 ?_ GE108.out|refine z5 ?_ GE109.out)|exact HB.out)) hb);clear HO_5;clear HO_6;clear HO116;clear HO119;clear BK101;clear BK108;clear BK109;clear HB;have HO_5:=n0_;have HO_6:=n1_;have HO116:=n2_;have HO119:=n3_;have BK101:=n4_;have BK108:=n5_;have BK109:=n6_;have HB:=n7_;clear n0_ n1_ n2_ n3_ n4_ n5_ n6_ n7_;(try clear hb);(try clear hb2);(try clear hk);(try clear hi))|((with_reducible refine zp (f:=61) rfl ?_);refine goesL_ (some 57) rfl rfl Try.func61 (by kernel_rfl) rfl #[] rfl (by (try simp only [List.map_toArray,List.map_cons,List.map_nil]);first|done|rfl|(simp only [List.length_drop,List.length_take];rfl)) ?_;(with_reducible refine (zr.calls kj4  false _ A35.out).mono ?_);rintro e w88 ⟨rfl,hb⟩;refine ⟨_,rfl,?_⟩;have n0_:=z2.mk (Kd.zx (by (with_reducible repeat (first|apply Kd.zi|apply Kd.zj|apply Kd.zo));exact HO_5.out) hb);have n1_:=z2.mk (Kd.zx (by (with_reducible repeat (first|apply Kd.zi|apply Kd.zj|apply Kd.zo));exact HO_6.out) hb);have n2_:=z2.mk (Kd.zx (by (with_reducible repeat (first|apply Kd.zi|apply Kd.zj|apply Kd.zo));exact HO116.out) hb);have n3_:=z2.mk (Kd.zx (by (with_reducible repeat (first|apply Kd.zi|apply Kd.zj|apply Kd.zo));exact HO119.out) hb);have n4_:=z2.mk (z9 (g:=gb101) (o:=.cells #[.int .u64 a1_0,.int .u64 a1_1] 51 (0,0)) (by (with_reducible repeat (first|refine z4 ?_ _|refine z8 ?_|refine z3 ?_ _));exact BK101.out) hb);have n5_:=z2.mk (z9 (g:=gb108) (o:=.cells #[.int .u64 0,.int .u64 1] 61 (0,0)) (by (with_reducible repeat (first|refine z4 ?_ _|refine z8 ?_|refine z3 ?_ _));exact BK108.out) hb);have n6_:=z2.mk (z9 (g:=gb109) (o:=.cells #[.int .u64 a1_0,.int .u64 a1_1] 61 (0,0)) (by (with_reducible repeat (first|refine z4 ?_ _|refine z8 ?_|refine z3 ?_ _));exact BK109.out) hb);have n7_:=z2.mk (zd (by repeat (first|(with_reducible first|exact HB.out|apply z7|apply z1|apply z6|refine z5 ?_ GE101.out|refine z5 ?_ GE108.out|refine z5 ?_ GE109.out)|exact HB.out)) hb);clear HO_5;clear HO_6;clear HO116;clear HO119;clear BK101;clear BK108;clear BK109;clear HB;have HO_5:=n0_;have HO_6:=n1_;have HO116:=n2_;have HO119:=n3_;have BK101:=n4_;have BK108:=n5_;have BK109:=n6_;have HB:=n7_;clear n0_ n1_ n2_ n3_ n4_ n5_ n6_ n7_;(try clear hb);(try clear hb2);(try clear hk);(try clear hi)))
     go_ret
     exact ⟨by first|rfl|(simp [zl,zm] <;> rfl)|(simp [*,zl,zm] <;> rfl),by repeat (first|(with_reducible first|exact HB.out|apply z7|apply z1|apply z6|refine z5 ?_ GE101.out|refine z5 ?_ GE108.out|refine z5 ?_ GE109.out)|exact HB.out)⟩
   subst c36
   have H1 : ((zf.f kj4 a0 a1_0 a1_1 0 1).bind fun t124=>((zg.f kj4 t102 t124).bind fun t127=>(if t127 = true then ((zf.f kj4 a0 0 1 a1_0 a1_1).bind fun t128=>((zg.f kj4 t105 t128).bind fun t131=>(some t131))) else (some false)))) = some r:=by rw [if_pos rfl] at H;exact H
   clear H
   have H:=H1
   clear H1
   replace H:=Option.bind_eq_some_iff.mp H
   obtain ⟨t124,A370,H⟩:=H
   replace H : ((zg.f kj4 t102 t124).bind fun t127=>(if t127 = true then ((zf.f kj4 a0 0 1 a1_0 a1_1).bind fun t128=>((zg.f kj4 t105 t128).bind fun t131=>(some t131))) else (some false))) = some r:=H
   have A37:=z2.mk A370
   clear A370
   replace H:=Option.bind_eq_some_iff.mp H
   obtain ⟨t127,A380,H⟩:=H
   replace H : (if t127 = true then ((zf.f kj4 a0 0 1 a1_0 a1_1).bind fun t128=>((zg.f kj4 t105 t128).bind fun t131=>(some t131))) else (some false)) = some r:=H
   have A38:=z2.mk A380
   clear A380
   by_cases c39 : t127 = true
   rotate_left
   · replace c39:=Bool.eq_false_iff.mpr c39
     subst c39
     have H1 : (some false) = some r:=by rw [if_neg (show ¬ (false = true) by decide)] at H;exact H
     clear H
     have H:=H1
     clear H1
     obtain rfl:=Option.some.inj H
     try go_wp2
     have n0_:=z2.mk (Kd.zo HO_5.out)
     have n1_:=z2.mk (Kd.zo HO_6.out)
     have n2_:=z2.mk (z8 BK101.out)
     have n3_:=z2.mk (z8 BK108.out)
     have n4_:=z2.mk (z8 BK109.out)
     have n5_:=z2.mk (z6 HB.out)
     clear HO_5
     clear HO_6
     clear BK101
     clear BK108
     clear BK109
     clear HB
     have HO_5:=n0_
     have HO_6:=n1_
     have BK101:=n2_
     have BK108:=n3_
     have BK109:=n4_
     have HB:=n5_
     clear n0_ n1_ n2_ n3_ n4_ n5_
     refine start_ (n:=8) (S:=fun w'=>w'.cell? ⟨gb108,0,none⟩ = some (.int .u64 0) ∧ w'.cell? ⟨gb108,1,none⟩ = some (.int .u64 1)) (ds:=[]) #[false,false,false,false,false,false,false,false] (by kernel_rfl) rfl rfl ⟨(za BK108.out 0).trans rfl,(za BK108.out 1).trans rfl⟩ (fun hHeld=>?_);refine z1y zc.tab6 zc.bits6 (fun HT_ HW_=>?_)
     generalize wc.drew = w63 at HO_5 HO_6 BK101 BK108 BK109 HB hHeld ⊢
     refine pure_ (i:=0) (N:=some 36) (v:=?_) (a':=?_) #[true,false,false,false,false,false,false,false] rfl rfl (z1d HT_.out (by kernel_rfl)) (fun _ _ _ h=>h) (Or.inl ⟨by rfl,?_⟩) ?_ ?_
     rotate_left
     · intro w'
       go_simp
       with_reducible rfl
     rotate_left
     · simp only [Act.put,List.setIfInBounds_toArray,List.set_cons_zero,List.set_cons_succ,zR,zV]
       rfl
     refine pure_ (i:=2) (N:=some 38) (v:=?_) (a':=?_) #[true,false,true,false,false,false,false,false] rfl rfl (z1d HT_.out (by kernel_rfl)) (fun _ _ _ h=>h) (Or.inl ⟨by rfl,?_⟩) ?_ ?_
     rotate_left
     · intro w'
       go_simp
       with_reducible rfl
     rotate_left
     · simp only [Act.put,List.setIfInBounds_toArray,List.set_cons_zero,List.set_cons_succ,zR,zV]
       rfl
     refine take_ (i:=3) (N:=some 39) (v:=?_) (a':=?_) #[true,false,true,true,false,false,false,false] rfl rfl (z1e HT_.out HW_.out (by kernel_rfl)) (fun _ _ _ h=>h) (Or.inl ⟨by rfl,?_⟩) hHeld ?_ ?_
     rotate_left
     · rintro w' ⟨s0,s1⟩
       go_simp
       with_reducible rfl
     rotate_left
     · simp only [Act.put,List.setIfInBounds_toArray,List.set_cons_zero,List.set_cons_succ,zR,zV]
       rfl
     refine take_ (i:=4) (N:=some 40) (v:=?_) (a':=?_) #[true,false,true,true,true,false,false,false] rfl rfl (z1e HT_.out HW_.out (by kernel_rfl)) (fun _ _ _ h=>h) (Or.inl ⟨by rfl,?_⟩) hHeld ?_ ?_
     rotate_left
     · rintro w' ⟨s0,s1⟩
       go_simp
       with_reducible rfl
     rotate_left
     · simp only [Act.put,List.setIfInBounds_toArray,List.set_cons_zero,List.set_cons_succ,zR,zV]
       rfl
     refine one_ (i:=1) (N:=some 37) #[true,true,true,true,true,false,false,false] rfl rfl (z1l HT_.out (by kernel_rfl)) (by decide) (fun K hK=>?_)
     refine goes_ Try.func62 (by kernel_rfl) rfl #[.int .i64 a0] (by rfl) rfl rfl (by (try simp only [List.map_toArray,List.map_cons,List.map_nil]);first|done|rfl|(simp only [List.length_drop,List.length_take];rfl)) ?_
     with_reducible refine (z18.calls kj4 a0 t114 _ A29.out).mono ?_
     rintro e w64 ⟨v115,rfl,ho0,hb⟩
     refine ⟨_,rfl,?_⟩
     have n0_:=z2.mk (Kd.z15 (by (with_reducible repeat (first|apply Kd.zi|apply Kd.zj|apply Kd.zo));exact HO_5.out) (Kd.z1f ho0) hb)
     have n1_:=z2.mk (Kd.z15 (by (with_reducible repeat (first|apply Kd.zi|apply Kd.zj|apply Kd.zo));exact HO_6.out) (Kd.z1f ho0) hb)
     have n2_:=z2.mk (Kd.z14 (Kd.z1n (Kd.z1i (Kd.z1i ho0 (Kd.R_lt (by (with_reducible repeat (first|apply Kd.zi|apply Kd.zj|apply Kd.zo));exact HO_5.out))) (Kd.R_lt (by (with_reducible repeat (first|apply Kd.zi|apply Kd.zj|apply Kd.zo));exact HO_6.out))) (g:=gb101) (o:=.cells #[.int .u64 a1_0,.int .u64 a1_1] 51 (0,0)) (by (with_reducible repeat (first|refine z4 ?_ _|refine z8 ?_|refine z3 ?_ _));exact BK101.out)) (ze (by repeat (first|(with_reducible first|exact HB.out|apply z7|apply z1|apply z6|refine z5 ?_ GE101.out|refine z5 ?_ GE108.out|refine z5 ?_ GE109.out)|exact HB.out))))
     have n3_:=z2.mk (z9 (g:=gb101) (o:=.cells #[.int .u64 a1_0,.int .u64 a1_1] 51 (0,0)) (by (with_reducible repeat (first|refine z4 ?_ _|refine z8 ?_|refine z3 ?_ _));exact BK101.out) hb)
     have n4_:=z2.mk (z9 (g:=gb108) (o:=.cells #[.int .u64 0,.int .u64 1] 61 (0,0)) (by (with_reducible repeat (first|refine z4 ?_ _|refine z8 ?_|refine z3 ?_ _));exact BK108.out) hb)
     have n5_:=z2.mk (z9 (g:=gb109) (o:=.cells #[.int .u64 a1_0,.int .u64 a1_1] 61 (0,0)) (by (with_reducible repeat (first|refine z4 ?_ _|refine z8 ?_|refine z3 ?_ _));exact BK109.out) hb)
     have n6_:=z2.mk (zd (by repeat (first|(with_reducible first|exact HB.out|apply z7|apply z1|apply z6|refine z5 ?_ GE101.out|refine z5 ?_ GE108.out|refine z5 ?_ GE109.out)|exact HB.out)) hb)
     clear HO_5
     clear HO_6
     clear BK101
     clear BK108
     clear BK109
     clear HB
     have HO_5:=n0_
     have HO_6:=n1_
     have HO116:=n2_
     have BK101:=n3_
     have BK108:=n4_
     have BK109:=n5_
     have HB:=n6_
     clear n0_ n1_ n2_ n3_ n4_ n5_ n6_
     (try clear hb)
     (try clear hb2)
     (try clear hk)
     (try clear hi)
     (try clear ho0)
     refine hK.out _ _ ⟨(za BK108.out 0).trans rfl,(za BK108.out 1).trans rfl⟩ (fun hHeld=>?_)
     clear hK K
     refine norm_ (a':=?_) ?_ ?_
     rotate_left
     · show Act.put _ (some 37) _ = _
       simp only [Act.put,List.setIfInBounds_toArray,List.set_cons_zero,List.set_cons_succ,zR,zV]
       rfl
     refine one_ (i:=5) (N:=some 41) #[true,true,true,true,true,true,false,false] rfl rfl (z1l HT_.out (by kernel_rfl)) (by decide) (fun K hK=>?_)
     refine goes_ Try.func63 (by kernel_rfl) rfl #[.int .i64 a0,.agg #[.int .u64 0,.int .u64 1],.agg #[.int .u64 0,.int .u64 1]] (by rfl) rfl rfl (by (try simp only [List.map_toArray,List.map_cons,List.map_nil]);first|done|rfl|(simp only [List.length_drop,List.length_take];rfl)) ?_
     with_reducible refine (zf.calls kj4 a0 0 1 0 1 t117 _ A30.out).mono ?_
     rintro e w65 ⟨v118,rfl,ho0,hb⟩
     refine ⟨_,rfl,?_⟩
     have n0_:=z2.mk (Kd.zx (by (with_reducible repeat (first|apply Kd.zi|apply Kd.zj|apply Kd.zo));exact HO_5.out) hb)
     have n1_:=z2.mk (Kd.zx (by (with_reducible repeat (first|apply Kd.zi|apply Kd.zj|apply Kd.zo));exact HO_6.out) hb)
     have n2_:=z2.mk (Kd.zx (by (with_reducible repeat (first|apply Kd.zi|apply Kd.zj|apply Kd.zo));exact HO116.out) hb)
     have n3_:=z2.mk (Kd.z14 (Kd.z1n (Kd.z1n ho0 (g:=gb108) (o:=.cells #[.int .u64 0,.int .u64 1] 61 (0,0)) (by (with_reducible repeat (first|refine z4 ?_ _|refine z8 ?_|refine z3 ?_ _));exact BK108.out)) (g:=gb109) (o:=.cells #[.int .u64 a1_0,.int .u64 a1_1] 61 (0,0)) (by (with_reducible repeat (first|refine z4 ?_ _|refine z8 ?_|refine z3 ?_ _));exact BK109.out)) (ze (by repeat (first|(with_reducible first|exact HB.out|apply z7|apply z1|apply z6|refine z5 ?_ GE101.out|refine z5 ?_ GE108.out|refine z5 ?_ GE109.out)|exact HB.out))))
     have n4_:=z2.mk (z9 (g:=gb101) (o:=.cells #[.int .u64 a1_0,.int .u64 a1_1] 51 (0,0)) (by (with_reducible repeat (first|refine z4 ?_ _|refine z8 ?_|refine z3 ?_ _));exact BK101.out) hb)
     have n5_:=z2.mk (z9 (g:=gb108) (o:=.cells #[.int .u64 0,.int .u64 1] 61 (0,0)) (by (with_reducible repeat (first|refine z4 ?_ _|refine z8 ?_|refine z3 ?_ _));exact BK108.out) hb)
     have n6_:=z2.mk (z9 (g:=gb109) (o:=.cells #[.int .u64 a1_0,.int .u64 a1_1] 61 (0,0)) (by (with_reducible repeat (first|refine z4 ?_ _|refine z8 ?_|refine z3 ?_ _));exact BK109.out) hb)
     have n7_:=z2.mk (zd (by repeat (first|(with_reducible first|exact HB.out|apply z7|apply z1|apply z6|refine z5 ?_ GE101.out|refine z5 ?_ GE108.out|refine z5 ?_ GE109.out)|exact HB.out)) hb)
     clear HO_5
     clear HO_6
     clear HO116
     clear BK101
     clear BK108
     clear BK109
     clear HB
     have HO_5:=n0_
     have HO_6:=n1_
     have HO116:=n2_
     have HO119:=n3_
     have BK101:=n4_
     have BK108:=n5_
     have BK109:=n6_
     have HB:=n7_
     clear n0_ n1_ n2_ n3_ n4_ n5_ n6_ n7_
     (try clear hb)
     (try clear hb2)
     (try clear hk)
     (try clear hi)
     (try clear ho0)
     obtain ⟨Ao66,co66,eo66⟩:=Kd.z13 HO116.out
     (first|subst eo66|(injection eo66 with f1_ f2_ f3_;have f4_:=f1_.symm;have f5_:=f3_.symm;clear f1_ f2_ f3_;subst f4_;subst f5_))
     obtain ⟨Ao67,co67,eo67⟩:=Kd.z13 HO119.out
     (first|subst eo67|(injection eo67 with f1_ f2_ f3_;have f4_:=f1_.symm;have f5_:=f3_.symm;clear f1_ f2_ f3_;subst f4_;subst f5_))
     refine hK.out _ _ ⟨(za BK108.out 0).trans rfl,(za BK108.out 1).trans rfl⟩ (fun hHeld=>?_)
     clear hK K
     refine norm_ (a':=?_) ?_ ?_
     rotate_left
     · show Act.put _ (some 41) _ = _
       simp only [Act.put,List.setIfInBounds_toArray,List.set_cons_zero,List.set_cons_succ,zR,zV]
       rfl
     refine one_ (i:=6) (N:=some 42) #[true,true,true,true,true,true,true,false] rfl rfl (z1l HT_.out (by kernel_rfl)) (by decide) (fun K hK=>?_)
     refine goes_ Try.func25 (by kernel_rfl) rfl #[.slice Ao66 t114.length co66,.slice Ao67 t117.length co67] (by rfl) rfl rfl (by (try simp only [List.map_toArray,List.map_cons,List.map_nil]);first|done|rfl|(simp only [List.length_drop,List.length_take];rfl)) ?_
     with_reducible refine (zg.calls kj4 _ _ t114 _ _ t117 true _ ?side1 ?side2 ?side3 ?side4 A31.out).mono ?_
     (case side1=>repeat (first|exact (Kd.zM HO116.out).2.2|(with_reducible refine Kd.z1s ?_ _)|(with_reducible refine Kd.z1t ?_ _)|(with_reducible refine Kd.z1E ?_)))
     (case side2=>exact (Kd.zM HO116.out).2.1)
     (case side3=>repeat (first|exact (Kd.zM HO119.out).2.2|(with_reducible refine Kd.z1s ?_ _)|(with_reducible refine Kd.z1t ?_ _)|(with_reducible refine Kd.z1E ?_)))
     (case side4=>exact (Kd.zM HO119.out).2.1)
     rintro e w' ⟨rfl,⟨nd,rfl⟩⟩
     refine ⟨_,rfl,?_⟩
     refine hK.out _ _ ⟨(za BK108.out 0).trans rfl,(za BK108.out 1).trans rfl⟩ (fun hHeld=>?_)
     clear hK K
     refine norm_ (a':=?_) ?_ ?_
     rotate_left
     · show Act.put _ (some 42) _ = _
       simp only [Act.put,List.setIfInBounds_toArray,List.set_cons_zero,List.set_cons_succ,zR,zV]
       rfl
     refine pure_ (i:=7) (N:=some 43) (v:=?_) (a':=?_) #[true,true,true,true,true,true,true,true] rfl rfl (z1d HT_.out (by kernel_rfl)) (fun _ _ _ h=>h) (Or.inl ⟨by rfl,?_⟩) ?_ ?_
     rotate_left
     · intro w'
       go_simp
       with_reducible rfl
     rotate_left
     · simp only [Act.put,List.setIfInBounds_toArray,List.set_cons_zero,List.set_cons_succ,zR,zV]
       rfl
     refine done_ (z1R HT_.out (by kernel_rfl)) ?_
     have hnb68:=NB109_101.out
     have hnc68:=NB101_109.out
     have hnb69:=NB109_108.out
     have hnc69:=NB108_109.out
     have hcz70_0 : w65.cell? ⟨gb109,0,none⟩ = some (.int .u64 a1_0):=(za BK109.out 0).trans rfl
     have hcz70_1 : w65.cell? ⟨gb109,1,none⟩ = some (.int .u64 a1_1):=(za BK109.out 1).trans rfl
     have hfz70_0:=zb BK109.out 0
     have hfz70_1:=zb BK109.out 1
     try go_wp2_with (first|((with_reducible refine zp (f:=39) rfl ?_);refine goesL_ (some 46) rfl rfl Try.func39 (by kernel_rfl) rfl #[.int .i64 a0,.agg #[.int .u64 a1_0,.int .u64 a1_1]] rfl (by (try simp only [List.map_toArray,List.map_cons,List.map_nil]);first|done|rfl|(simp only [List.length_drop,List.length_take];rfl)) ?_;(with_reducible refine (zk.calls kj4 a0 a1_0 a1_1 true _ A33.out).mono ?_);rintro e w71 ⟨rfl,hb⟩;refine ⟨_,rfl,?_⟩;have n0_:=z2.mk (Kd.zx (by (with_reducible repeat (first|apply Kd.zi|apply Kd.zj|apply Kd.zo));exact HO_5.out) hb);have n1_:=z2.mk (Kd.zx (by (with_reducible repeat (first|apply Kd.zi|apply Kd.zj|apply Kd.zo));exact HO_6.out) hb);have n2_:=z2.mk (Kd.zx (by (with_reducible repeat (first|apply Kd.zi|apply Kd.zj|apply Kd.zo));exact HO116.out) hb);have n3_:=z2.mk (Kd.zx (by (with_reducible repeat (first|apply Kd.zi|apply Kd.zj|apply Kd.zo));exact HO119.out) hb);have n4_:=z2.mk (z9 (g:=gb101) (o:=.cells #[.int .u64 a1_0,.int .u64 a1_1] 51 (0,0)) (by (with_reducible repeat (first|refine z4 ?_ _|refine z8 ?_|refine z3 ?_ _));exact BK101.out) hb);have n5_:=z2.mk (z9 (g:=gb108) (o:=.cells #[.int .u64 0,.int .u64 1] 61 (0,0)) (by (with_reducible repeat (first|refine z4 ?_ _|refine z8 ?_|refine z3 ?_ _));exact BK108.out) hb);have n6_:=z2.mk (z9 (g:=gb109) (o:=.cells #[.int .u64 a1_0,.int .u64 a1_1] 61 (0,0)) (by (with_reducible repeat (first|refine z4 ?_ _|refine z8 ?_|refine z3 ?_ _));exact BK109.out) hb);have n7_:=z2.mk (zd (by repeat (first|(with_reducible first|exact HB.out|apply z7|apply z1|apply z6|refine z5 ?_ GE101.out|refine z5 ?_ GE108.out|refine z5 ?_ GE109.out)|exact HB.out)) hb);clear HO_5;clear HO_6;clear HO116;clear HO119;clear BK101;clear BK108;clear BK109;clear HB;have HO_5:=n0_;have HO_6:=n1_;have HO116:=n2_;have HO119:=n3_;have BK101:=n4_;have BK108:=n5_;have BK109:=n6_;have HB:=n7_;clear n0_ n1_ n2_ n3_ n4_ n5_ n6_ n7_;(try clear hb);(try clear hb2);(try clear hk);(try clear hi))|((with_reducible refine zp (f:=61) rfl ?_);refine goesL_ (some 57) rfl rfl Try.func61 (by kernel_rfl) rfl #[] rfl (by (try simp only [List.map_toArray,List.map_cons,List.map_nil]);first|done|rfl|(simp only [List.length_drop,List.length_take];rfl)) ?_;(with_reducible refine (zr.calls kj4  true _ A35.out).mono ?_);rintro e w72 ⟨rfl,hb⟩;refine ⟨_,rfl,?_⟩;have n0_:=z2.mk (Kd.zx (by (with_reducible repeat (first|apply Kd.zi|apply Kd.zj|apply Kd.zo));exact HO_5.out) hb);have n1_:=z2.mk (Kd.zx (by (with_reducible repeat (first|apply Kd.zi|apply Kd.zj|apply Kd.zo));exact HO_6.out) hb);have n2_:=z2.mk (Kd.zx (by (with_reducible repeat (first|apply Kd.zi|apply Kd.zj|apply Kd.zo));exact HO116.out) hb);have n3_:=z2.mk (Kd.zx (by (with_reducible repeat (first|apply Kd.zi|apply Kd.zj|apply Kd.zo));exact HO119.out) hb);have n4_:=z2.mk (z9 (g:=gb101) (o:=.cells #[.int .u64 a1_0,.int .u64 a1_1] 51 (0,0)) (by (with_reducible repeat (first|refine z4 ?_ _|refine z8 ?_|refine z3 ?_ _));exact BK101.out) hb);have n5_:=z2.mk (z9 (g:=gb108) (o:=.cells #[.int .u64 0,.int .u64 1] 61 (0,0)) (by (with_reducible repeat (first|refine z4 ?_ _|refine z8 ?_|refine z3 ?_ _));exact BK108.out) hb);have n6_:=z2.mk (z9 (g:=gb109) (o:=.cells #[.int .u64 a1_0,.int .u64 a1_1] 61 (0,0)) (by (with_reducible repeat (first|refine z4 ?_ _|refine z8 ?_|refine z3 ?_ _));exact BK109.out) hb);have n7_:=z2.mk (zd (by repeat (first|(with_reducible first|exact HB.out|apply z7|apply z1|apply z6|refine z5 ?_ GE101.out|refine z5 ?_ GE108.out|refine z5 ?_ GE109.out)|exact HB.out)) hb);clear HO_5;clear HO_6;clear HO116;clear HO119;clear BK101;clear BK108;clear BK109;clear HB;have HO_5:=n0_;have HO_6:=n1_;have HO116:=n2_;have HO119:=n3_;have BK101:=n4_;have BK108:=n5_;have BK109:=n6_;have HB:=n7_;clear n0_ n1_ n2_ n3_ n4_ n5_ n6_ n7_;(try clear hb);(try clear hb2);(try clear hk);(try clear hi);have hcz73_0 : w72.cell? ⟨gb109,0,none⟩ = some (.int .u64 a1_0):=(za BK109.out 0).trans rfl;have hcz73_1 : w72.cell? ⟨gb109,1,none⟩ = some (.int .u64 a1_1):=(za BK109.out 1).trans rfl;have hfz73_0:=zb BK109.out 0;have hfz73_1:=zb BK109.out 1;have hnb74:=NB108_101.out;have hnc74:=NB101_108.out;have hcz75_0 : w72.cell? ⟨gb108,0,none⟩ = some (.int .u64 0):=(za BK108.out 0).trans rfl;have hcz75_1 : w72.cell? ⟨gb108,1,none⟩ = some (.int .u64 1):=(za BK108.out 1).trans rfl;have hfz75_0:=zb BK108.out 0;have hfz75_1:=zb BK108.out 1)|(go_at_call 63;(with_reducible refine (zf.calls kj4 a0 a1_0 a1_1 0 1 t124 _ A37.out).mono ?_);rintro e w76 ⟨v125,rfl,ho0,hb⟩;have n0_:=z2.mk (Kd.zx (by (with_reducible repeat (first|apply Kd.zi|apply Kd.zj|apply Kd.zo));exact HO_5.out) hb);have n1_:=z2.mk (Kd.zx (by (with_reducible repeat (first|apply Kd.zi|apply Kd.zj|apply Kd.zo));exact HO_6.out) hb);have n2_:=z2.mk (Kd.zx (by (with_reducible repeat (first|apply Kd.zi|apply Kd.zj|apply Kd.zo));exact HO116.out) hb);have n3_:=z2.mk (Kd.z15 (by (with_reducible repeat (first|apply Kd.zi|apply Kd.zj|apply Kd.zo));exact HO119.out) (Kd.z1f ho0) hb);have n4_:=z2.mk (Kd.z14 (Kd.z1n (Kd.z1n (Kd.z1i ho0 (Kd.R_lt (by (with_reducible repeat (first|apply Kd.zi|apply Kd.zj|apply Kd.zo));exact HO119.out))) (g:=gb108) (o:=.cells #[.int .u64 0,.int .u64 1] 61 (0,0)) (by (with_reducible repeat (first|refine z4 ?_ _|refine z8 ?_|refine z3 ?_ _));exact BK108.out)) (g:=gb109) (o:=.cells #[.int .u64 a1_0,.int .u64 a1_1] 61 (0,0)) (by (with_reducible repeat (first|refine z4 ?_ _|refine z8 ?_|refine z3 ?_ _));exact BK109.out)) (ze (by repeat (first|(with_reducible first|exact HB.out|apply z7|apply z1|apply z6|refine z5 ?_ GE101.out|refine z5 ?_ GE108.out|refine z5 ?_ GE109.out)|exact HB.out))));have n5_:=z2.mk (z9 (g:=gb101) (o:=.cells #[.int .u64 a1_0,.int .u64 a1_1] 51 (0,0)) (by (with_reducible repeat (first|refine z4 ?_ _|refine z8 ?_|refine z3 ?_ _));exact BK101.out) hb);have n6_:=z2.mk (z9 (g:=gb108) (o:=.cells #[.int .u64 0,.int .u64 1] 61 (0,0)) (by (with_reducible repeat (first|refine z4 ?_ _|refine z8 ?_|refine z3 ?_ _));exact BK108.out) hb);have n7_:=z2.mk (z9 (g:=gb109) (o:=.cells #[.int .u64 a1_0,.int .u64 a1_1] 61 (0,0)) (by (with_reducible repeat (first|refine z4 ?_ _|refine z8 ?_|refine z3 ?_ _));exact BK109.out) hb);have n8_:=z2.mk (zd (by repeat (first|(with_reducible first|exact HB.out|apply z7|apply z1|apply z6|refine z5 ?_ GE101.out|refine z5 ?_ GE108.out|refine z5 ?_ GE109.out)|exact HB.out)) hb);clear HO_5;clear HO_6;clear HO116;clear HO119;clear BK101;clear BK108;clear BK109;clear HB;have HO_5:=n0_;have HO_6:=n1_;have HO116:=n2_;have HO119:=n3_;have HO126:=n4_;have BK101:=n5_;have BK108:=n6_;have BK109:=n7_;have HB:=n8_;clear n0_ n1_ n2_ n3_ n4_ n5_ n6_ n7_ n8_;(try clear hb);(try clear hb2);(try clear hk);(try clear hi);(try clear ho0);obtain ⟨Ao77,co77,eo77⟩:=Kd.z13 HO_5.out;subst eo77;obtain ⟨Ao78,co78,eo78⟩:=Kd.z13 HO126.out;subst eo78)|(go_at_call 25;(with_reducible refine (zg.calls kj4 _ _ t102 _ _ t124 false _ ?side1 ?side2 ?side3 ?side4 A38.out).mono ?_);(case side1=>repeat (first|exact (Kd.zM HO_5.out).2.2|(with_reducible refine Kd.z1s ?_ _)|(with_reducible refine Kd.z1t ?_ _)|(with_reducible refine Kd.z1E ?_)));(case side2=>exact (Kd.zM HO_5.out).2.1);(case side3=>repeat (first|exact (Kd.zM HO126.out).2.2|(with_reducible refine Kd.z1s ?_ _)|(with_reducible refine Kd.z1t ?_ _)|(with_reducible refine Kd.z1E ?_)));(case side4=>exact (Kd.zM HO126.out).2.1);rintro e w' ⟨rfl,⟨nd,rfl⟩⟩))
     go_ret
     exact ⟨by first|rfl|(simp [zl,zm] <;> rfl)|(simp [*,zl,zm] <;> rfl),by repeat (first|(with_reducible first|exact HB.out|apply z7|apply z1|apply z6|refine z5 ?_ GE101.out|refine z5 ?_ GE108.out|refine z5 ?_ GE109.out)|exact HB.out)⟩
   subst c39
   have H1 : ((zf.f kj4 a0 0 1 a1_0 a1_1).bind fun t128=>((zg.f kj4 t105 t128).bind fun t131=>(some t131))) = some r:=by rw [if_pos rfl] at H;exact H
   clear H
   have H:=H1
   clear H1
   replace H:=Option.bind_eq_some_iff.mp H
   obtain ⟨t128,A400,H⟩:=H
   replace H : ((zg.f kj4 t105 t128).bind fun t131=>(some t131)) = some r:=H
   have A40:=z2.mk A400
   clear A400
   replace H:=Option.bind_eq_some_iff.mp H
   obtain ⟨t131,A410,H⟩:=H
   replace H : (some t131) = some r:=H
   have A41:=z2.mk A410
   clear A410
   obtain rfl:=Option.some.inj H
   try go_wp2
   have n0_:=z2.mk (Kd.zo HO_5.out)
   have n1_:=z2.mk (Kd.zo HO_6.out)
   have n2_:=z2.mk (z8 BK101.out)
   have n3_:=z2.mk (z8 BK108.out)
   have n4_:=z2.mk (z8 BK109.out)
   have n5_:=z2.mk (z6 HB.out)
   clear HO_5
   clear HO_6
   clear BK101
   clear BK108
   clear BK109
   clear HB
   have HO_5:=n0_
   have HO_6:=n1_
   have BK101:=n2_
   have BK108:=n3_
   have BK109:=n4_
   have HB:=n5_
   clear n0_ n1_ n2_ n3_ n4_ n5_
   refine start_ (n:=8) (S:=fun w'=>w'.cell? ⟨gb108,0,none⟩ = some (.int .u64 0) ∧ w'.cell? ⟨gb108,1,none⟩ = some (.int .u64 1)) (ds:=[]) #[false,false,false,false,false,false,false,false] (by kernel_rfl) rfl rfl ⟨(za BK108.out 0).trans rfl,(za BK108.out 1).trans rfl⟩ (fun hHeld=>?_);refine z1y zc.tab6 zc.bits6 (fun HT_ HW_=>?_)
   generalize wc.drew = w42 at HO_5 HO_6 BK101 BK108 BK109 HB hHeld ⊢
   refine pure_ (i:=0) (N:=some 36) (v:=?_) (a':=?_) #[true,false,false,false,false,false,false,false] rfl rfl (z1d HT_.out (by kernel_rfl)) (fun _ _ _ h=>h) (Or.inl ⟨by rfl,?_⟩) ?_ ?_
   rotate_left
   · intro w'
     go_simp
     with_reducible rfl
   rotate_left
   · simp only [Act.put,List.setIfInBounds_toArray,List.set_cons_zero,List.set_cons_succ,zR,zV]
     rfl
   refine pure_ (i:=2) (N:=some 38) (v:=?_) (a':=?_) #[true,false,true,false,false,false,false,false] rfl rfl (z1d HT_.out (by kernel_rfl)) (fun _ _ _ h=>h) (Or.inl ⟨by rfl,?_⟩) ?_ ?_
   rotate_left
   · intro w'
     go_simp
     with_reducible rfl
   rotate_left
   · simp only [Act.put,List.setIfInBounds_toArray,List.set_cons_zero,List.set_cons_succ,zR,zV]
     rfl
   refine take_ (i:=3) (N:=some 39) (v:=?_) (a':=?_) #[true,false,true,true,false,false,false,false] rfl rfl (z1e HT_.out HW_.out (by kernel_rfl)) (fun _ _ _ h=>h) (Or.inl ⟨by rfl,?_⟩) hHeld ?_ ?_
   rotate_left
   · rintro w' ⟨s0,s1⟩
     go_simp
     with_reducible rfl
   rotate_left
   · simp only [Act.put,List.setIfInBounds_toArray,List.set_cons_zero,List.set_cons_succ,zR,zV]
     rfl
   refine take_ (i:=4) (N:=some 40) (v:=?_) (a':=?_) #[true,false,true,true,true,false,false,false] rfl rfl (z1e HT_.out HW_.out (by kernel_rfl)) (fun _ _ _ h=>h) (Or.inl ⟨by rfl,?_⟩) hHeld ?_ ?_
   rotate_left
   · rintro w' ⟨s0,s1⟩
     go_simp
     with_reducible rfl
   rotate_left
   · simp only [Act.put,List.setIfInBounds_toArray,List.set_cons_zero,List.set_cons_succ,zR,zV]
     rfl
   refine one_ (i:=1) (N:=some 37) #[true,true,true,true,true,false,false,false] rfl rfl (z1l HT_.out (by kernel_rfl)) (by decide) (fun K hK=>?_)
   refine goes_ Try.func62 (by kernel_rfl) rfl #[.int .i64 a0] (by rfl) rfl rfl (by (try simp only [List.map_toArray,List.map_cons,List.map_nil]);first|done|rfl|(simp only [List.length_drop,List.length_take];rfl)) ?_
   with_reducible refine (z18.calls kj4 a0 t114 _ A29.out).mono ?_
   rintro e w43 ⟨v115,rfl,ho0,hb⟩
   refine ⟨_,rfl,?_⟩
   have n0_:=z2.mk (Kd.z15 (by (with_reducible repeat (first|apply Kd.zi|apply Kd.zj|apply Kd.zo));exact HO_5.out) (Kd.z1f ho0) hb)
   have n1_:=z2.mk (Kd.z15 (by (with_reducible repeat (first|apply Kd.zi|apply Kd.zj|apply Kd.zo));exact HO_6.out) (Kd.z1f ho0) hb)
   have n2_:=z2.mk (Kd.z14 (Kd.z1n (Kd.z1i (Kd.z1i ho0 (Kd.R_lt (by (with_reducible repeat (first|apply Kd.zi|apply Kd.zj|apply Kd.zo));exact HO_5.out))) (Kd.R_lt (by (with_reducible repeat (first|apply Kd.zi|apply Kd.zj|apply Kd.zo));exact HO_6.out))) (g:=gb101) (o:=.cells #[.int .u64 a1_0,.int .u64 a1_1] 51 (0,0)) (by (with_reducible repeat (first|refine z4 ?_ _|refine z8 ?_|refine z3 ?_ _));exact BK101.out)) (ze (by repeat (first|(with_reducible first|exact HB.out|apply z7|apply z1|apply z6|refine z5 ?_ GE101.out|refine z5 ?_ GE108.out|refine z5 ?_ GE109.out)|exact HB.out))))
   have n3_:=z2.mk (z9 (g:=gb101) (o:=.cells #[.int .u64 a1_0,.int .u64 a1_1] 51 (0,0)) (by (with_reducible repeat (first|refine z4 ?_ _|refine z8 ?_|refine z3 ?_ _));exact BK101.out) hb)
   have n4_:=z2.mk (z9 (g:=gb108) (o:=.cells #[.int .u64 0,.int .u64 1] 61 (0,0)) (by (with_reducible repeat (first|refine z4 ?_ _|refine z8 ?_|refine z3 ?_ _));exact BK108.out) hb)
   have n5_:=z2.mk (z9 (g:=gb109) (o:=.cells #[.int .u64 a1_0,.int .u64 a1_1] 61 (0,0)) (by (with_reducible repeat (first|refine z4 ?_ _|refine z8 ?_|refine z3 ?_ _));exact BK109.out) hb)
   have n6_:=z2.mk (zd (by repeat (first|(with_reducible first|exact HB.out|apply z7|apply z1|apply z6|refine z5 ?_ GE101.out|refine z5 ?_ GE108.out|refine z5 ?_ GE109.out)|exact HB.out)) hb)
   clear HO_5
   clear HO_6
   clear BK101
   clear BK108
   clear BK109
   clear HB
   have HO_5:=n0_
   have HO_6:=n1_
   have HO116:=n2_
   have BK101:=n3_
   have BK108:=n4_
   have BK109:=n5_
   have HB:=n6_
   clear n0_ n1_ n2_ n3_ n4_ n5_ n6_
   (try clear hb)
   (try clear hb2)
   (try clear hk)
   (try clear hi)
   (try clear ho0)
   refine hK.out _ _ ⟨(za BK108.out 0).trans rfl,(za BK108.out 1).trans rfl⟩ (fun hHeld=>?_)
   clear hK K
   refine norm_ (a':=?_) ?_ ?_
   rotate_left
   · show Act.put _ (some 37) _ = _
     simp only [Act.put,List.setIfInBounds_toArray,List.set_cons_zero,List.set_cons_succ,zR,zV]
     rfl
   refine one_ (i:=5) (N:=some 41) #[true,true,true,true,true,true,false,false] rfl rfl (z1l HT_.out (by kernel_rfl)) (by decide) (fun K hK=>?_)
   refine goes_ Try.func63 (by kernel_rfl) rfl #[.int .i64 a0,.agg #[.int .u64 0,.int .u64 1],.agg #[.int .u64 0,.int .u64 1]] (by rfl) rfl rfl (by (try simp only [List.map_toArray,List.map_cons,List.map_nil]);first|done|rfl|(simp only [List.length_drop,List.length_take];rfl)) ?_
   with_reducible refine (zf.calls kj4 a0 0 1 0 1 t117 _ A30.out).mono ?_
   rintro e w44 ⟨v118,rfl,ho0,hb⟩
   refine ⟨_,rfl,?_⟩
   have n0_:=z2.mk (Kd.zx (by (with_reducible repeat (first|apply Kd.zi|apply Kd.zj|apply Kd.zo));exact HO_5.out) hb)
   have n1_:=z2.mk (Kd.zx (by (with_reducible repeat (first|apply Kd.zi|apply Kd.zj|apply Kd.zo));exact HO_6.out) hb)
   have n2_:=z2.mk (Kd.zx (by (with_reducible repeat (first|apply Kd.zi|apply Kd.zj|apply Kd.zo));exact HO116.out) hb)
   have n3_:=z2.mk (Kd.z14 (Kd.z1n (Kd.z1n ho0 (g:=gb108) (o:=.cells #[.int .u64 0,.int .u64 1] 61 (0,0)) (by (with_reducible repeat (first|refine z4 ?_ _|refine z8 ?_|refine z3 ?_ _));exact BK108.out)) (g:=gb109) (o:=.cells #[.int .u64 a1_0,.int .u64 a1_1] 61 (0,0)) (by (with_reducible repeat (first|refine z4 ?_ _|refine z8 ?_|refine z3 ?_ _));exact BK109.out)) (ze (by repeat (first|(with_reducible first|exact HB.out|apply z7|apply z1|apply z6|refine z5 ?_ GE101.out|refine z5 ?_ GE108.out|refine z5 ?_ GE109.out)|exact HB.out))))
   have n4_:=z2.mk (z9 (g:=gb101) (o:=.cells #[.int .u64 a1_0,.int .u64 a1_1] 51 (0,0)) (by (with_reducible repeat (first|refine z4 ?_ _|refine z8 ?_|refine z3 ?_ _));exact BK101.out) hb)
   have n5_:=z2.mk (z9 (g:=gb108) (o:=.cells #[.int .u64 0,.int .u64 1] 61 (0,0)) (by (with_reducible repeat (first|refine z4 ?_ _|refine z8 ?_|refine z3 ?_ _));exact BK108.out) hb)
   have n6_:=z2.mk (z9 (g:=gb109) (o:=.cells #[.int .u64 a1_0,.int .u64 a1_1] 61 (0,0)) (by (with_reducible repeat (first|refine z4 ?_ _|refine z8 ?_|refine z3 ?_ _));exact BK109.out) hb)
   have n7_:=z2.mk (zd (by repeat (first|(with_reducible first|exact HB.out|apply z7|apply z1|apply z6|refine z5 ?_ GE101.out|refine z5 ?_ GE108.out|refine z5 ?_ GE109.out)|exact HB.out)) hb)
   clear HO_5
   clear HO_6
   clear HO116
   clear BK101
   clear BK108
   clear BK109
   clear HB
   have HO_5:=n0_
   have HO_6:=n1_
   have HO116:=n2_
   have HO119:=n3_
   have BK101:=n4_
   have BK108:=n5_
   have BK109:=n6_
   have HB:=n7_
   clear n0_ n1_ n2_ n3_ n4_ n5_ n6_ n7_
   (try clear hb)
   (try clear hb2)
   (try clear hk)
   (try clear hi)
   (try clear ho0)
   obtain ⟨Ao45,co45,eo45⟩:=Kd.z13 HO116.out
   (first|subst eo45|(injection eo45 with f1_ f2_ f3_;have f4_:=f1_.symm;have f5_:=f3_.symm;clear f1_ f2_ f3_;subst f4_;subst f5_))
   obtain ⟨Ao46,co46,eo46⟩:=Kd.z13 HO119.out
   (first|subst eo46|(injection eo46 with f1_ f2_ f3_;have f4_:=f1_.symm;have f5_:=f3_.symm;clear f1_ f2_ f3_;subst f4_;subst f5_))
   refine hK.out _ _ ⟨(za BK108.out 0).trans rfl,(za BK108.out 1).trans rfl⟩ (fun hHeld=>?_)
   clear hK K
   refine norm_ (a':=?_) ?_ ?_
   rotate_left
   · show Act.put _ (some 41) _ = _
     simp only [Act.put,List.setIfInBounds_toArray,List.set_cons_zero,List.set_cons_succ,zR,zV]
     rfl
   refine one_ (i:=6) (N:=some 42) #[true,true,true,true,true,true,true,false] rfl rfl (z1l HT_.out (by kernel_rfl)) (by decide) (fun K hK=>?_)
   refine goes_ Try.func25 (by kernel_rfl) rfl #[.slice Ao45 t114.length co45,.slice Ao46 t117.length co46] (by rfl) rfl rfl (by (try simp only [List.map_toArray,List.map_cons,List.map_nil]);first|done|rfl|(simp only [List.length_drop,List.length_take];rfl)) ?_
   with_reducible refine (zg.calls kj4 _ _ t114 _ _ t117 true _ ?side1 ?side2 ?side3 ?side4 A31.out).mono ?_
   (case side1=>repeat (first|exact (Kd.zM HO116.out).2.2|(with_reducible refine Kd.z1s ?_ _)|(with_reducible refine Kd.z1t ?_ _)|(with_reducible refine Kd.z1E ?_)))
   (case side2=>exact (Kd.zM HO116.out).2.1)
   (case side3=>repeat (first|exact (Kd.zM HO119.out).2.2|(with_reducible refine Kd.z1s ?_ _)|(with_reducible refine Kd.z1t ?_ _)|(with_reducible refine Kd.z1E ?_)))
   (case side4=>exact (Kd.zM HO119.out).2.1)
   rintro e w' ⟨rfl,⟨nd,rfl⟩⟩
   refine ⟨_,rfl,?_⟩
   refine hK.out _ _ ⟨(za BK108.out 0).trans rfl,(za BK108.out 1).trans rfl⟩ (fun hHeld=>?_)
   clear hK K
   refine norm_ (a':=?_) ?_ ?_
   rotate_left
   · show Act.put _ (some 42) _ = _
     simp only [Act.put,List.setIfInBounds_toArray,List.set_cons_zero,List.set_cons_succ,zR,zV]
     rfl
   refine pure_ (i:=7) (N:=some 43) (v:=?_) (a':=?_) #[true,true,true,true,true,true,true,true] rfl rfl (z1d HT_.out (by kernel_rfl)) (fun _ _ _ h=>h) (Or.inl ⟨by rfl,?_⟩) ?_ ?_
   rotate_left
   · intro w'
     go_simp
     with_reducible rfl
   rotate_left
   · simp only [Act.put,List.setIfInBounds_toArray,List.set_cons_zero,List.set_cons_succ,zR,zV]
     rfl
   refine done_ (z1R HT_.out (by kernel_rfl)) ?_
   have hnb47:=NB109_101.out
   have hnc47:=NB101_109.out
   have hnb48:=NB109_108.out
   have hnc48:=NB108_109.out
   have hcz49_0 : w44.cell? ⟨gb109,0,none⟩ = some (.int .u64 a1_0):=(za BK109.out 0).trans rfl
   have hcz49_1 : w44.cell? ⟨gb109,1,none⟩ = some (.int .u64 a1_1):=(za BK109.out 1).trans rfl
   have hfz49_0:=zb BK109.out 0
   have hfz49_1:=zb BK109.out 1
   try go_wp2_with (first|((with_reducible refine zp (f:=39) rfl ?_);refine goesL_ (some 46) rfl rfl Try.func39 (by kernel_rfl) rfl #[.int .i64 a0,.agg #[.int .u64 a1_0,.int .u64 a1_1]] rfl (by (try simp only [List.map_toArray,List.map_cons,List.map_nil]);first|done|rfl|(simp only [List.length_drop,List.length_take];rfl)) ?_;(with_reducible refine (zk.calls kj4 a0 a1_0 a1_1 true _ A33.out).mono ?_);rintro e w50 ⟨rfl,hb⟩;refine ⟨_,rfl,?_⟩;have n0_:=z2.mk (Kd.zx (by (with_reducible repeat (first|apply Kd.zi|apply Kd.zj|apply Kd.zo));exact HO_5.out) hb);have n1_:=z2.mk (Kd.zx (by (with_reducible repeat (first|apply Kd.zi|apply Kd.zj|apply Kd.zo));exact HO_6.out) hb);have n2_:=z2.mk (Kd.zx (by (with_reducible repeat (first|apply Kd.zi|apply Kd.zj|apply Kd.zo));exact HO116.out) hb);have n3_:=z2.mk (Kd.zx (by (with_reducible repeat (first|apply Kd.zi|apply Kd.zj|apply Kd.zo));exact HO119.out) hb);have n4_:=z2.mk (z9 (g:=gb101) (o:=.cells #[.int .u64 a1_0,.int .u64 a1_1] 51 (0,0)) (by (with_reducible repeat (first|refine z4 ?_ _|refine z8 ?_|refine z3 ?_ _));exact BK101.out) hb);have n5_:=z2.mk (z9 (g:=gb108) (o:=.cells #[.int .u64 0,.int .u64 1] 61 (0,0)) (by (with_reducible repeat (first|refine z4 ?_ _|refine z8 ?_|refine z3 ?_ _));exact BK108.out) hb);have n6_:=z2.mk (z9 (g:=gb109) (o:=.cells #[.int .u64 a1_0,.int .u64 a1_1] 61 (0,0)) (by (with_reducible repeat (first|refine z4 ?_ _|refine z8 ?_|refine z3 ?_ _));exact BK109.out) hb);have n7_:=z2.mk (zd (by repeat (first|(with_reducible first|exact HB.out|apply z7|apply z1|apply z6|refine z5 ?_ GE101.out|refine z5 ?_ GE108.out|refine z5 ?_ GE109.out)|exact HB.out)) hb);clear HO_5;clear HO_6;clear HO116;clear HO119;clear BK101;clear BK108;clear BK109;clear HB;have HO_5:=n0_;have HO_6:=n1_;have HO116:=n2_;have HO119:=n3_;have BK101:=n4_;have BK108:=n5_;have BK109:=n6_;have HB:=n7_;clear n0_ n1_ n2_ n3_ n4_ n5_ n6_ n7_;(try clear hb);(try clear hb2);(try clear hk);(try clear hi))|((with_reducible refine zp (f:=61) rfl ?_);refine goesL_ (some 57) rfl rfl Try.func61 (by kernel_rfl) rfl #[] rfl (by (try simp only [List.map_toArray,List.map_cons,List.map_nil]);first|done|rfl|(simp only [List.length_drop,List.length_take];rfl)) ?_;(with_reducible refine (zr.calls kj4  true _ A35.out).mono ?_);rintro e w51 ⟨rfl,hb⟩;refine ⟨_,rfl,?_⟩;have n0_:=z2.mk (Kd.zx (by (with_reducible repeat (first|apply Kd.zi|apply Kd.zj|apply Kd.zo));exact HO_5.out) hb);have n1_:=z2.mk (Kd.zx (by (with_reducible repeat (first|apply Kd.zi|apply Kd.zj|apply Kd.zo));exact HO_6.out) hb);have n2_:=z2.mk (Kd.zx (by (with_reducible repeat (first|apply Kd.zi|apply Kd.zj|apply Kd.zo));exact HO116.out) hb);have n3_:=z2.mk (Kd.zx (by (with_reducible repeat (first|apply Kd.zi|apply Kd.zj|apply Kd.zo));exact HO119.out) hb);have n4_:=z2.mk (z9 (g:=gb101) (o:=.cells #[.int .u64 a1_0,.int .u64 a1_1] 51 (0,0)) (by (with_reducible repeat (first|refine z4 ?_ _|refine z8 ?_|refine z3 ?_ _));exact BK101.out) hb);have n5_:=z2.mk (z9 (g:=gb108) (o:=.cells #[.int .u64 0,.int .u64 1] 61 (0,0)) (by (with_reducible repeat (first|refine z4 ?_ _|refine z8 ?_|refine z3 ?_ _));exact BK108.out) hb);have n6_:=z2.mk (z9 (g:=gb109) (o:=.cells #[.int .u64 a1_0,.int .u64 a1_1] 61 (0,0)) (by (with_reducible repeat (first|refine z4 ?_ _|refine z8 ?_|refine z3 ?_ _));exact BK109.out) hb);have n7_:=z2.mk (zd (by repeat (first|(with_reducible first|exact HB.out|apply z7|apply z1|apply z6|refine z5 ?_ GE101.out|refine z5 ?_ GE108.out|refine z5 ?_ GE109.out)|exact HB.out)) hb);clear HO_5;clear HO_6;clear HO116;clear HO119;clear BK101;clear BK108;clear BK109;clear HB;have HO_5:=n0_;have HO_6:=n1_;have HO116:=n2_;have HO119:=n3_;have BK101:=n4_;have BK108:=n5_;have BK109:=n6_;have HB:=n7_;clear n0_ n1_ n2_ n3_ n4_ n5_ n6_ n7_;(try clear hb);(try clear hb2);(try clear hk);(try clear hi);have hcz52_0 : w51.cell? ⟨gb109,0,none⟩ = some (.int .u64 a1_0):=(za BK109.out 0).trans rfl;have hcz52_1 : w51.cell? ⟨gb109,1,none⟩ = some (.int .u64 a1_1):=(za BK109.out 1).trans rfl;have hfz52_0:=zb BK109.out 0;have hfz52_1:=zb BK109.out 1;have hnb53:=NB108_101.out;have hnc53:=NB101_108.out;have hcz54_0 : w51.cell? ⟨gb108,0,none⟩ = some (.int .u64 0):=(za BK108.out 0).trans rfl;have hcz54_1 : w51.cell? ⟨gb108,1,none⟩ = some (.int .u64 1):=(za BK108.out 1).trans rfl;have hfz54_0:=zb BK108.out 0;have hfz54_1:=zb BK108.out 1)|(go_at_call 63;(with_reducible refine (zf.calls kj4 a0 a1_0 a1_1 0 1 t124 _ A37.out).mono ?_);rintro e w55 ⟨v125,rfl,ho0,hb⟩;have n0_:=z2.mk (Kd.zx (by (with_reducible repeat (first|apply Kd.zi|apply Kd.zj|apply Kd.zo));exact HO_5.out) hb);have n1_:=z2.mk (Kd.zx (by (with_reducible repeat (first|apply Kd.zi|apply Kd.zj|apply Kd.zo));exact HO_6.out) hb);have n2_:=z2.mk (Kd.zx (by (with_reducible repeat (first|apply Kd.zi|apply Kd.zj|apply Kd.zo));exact HO116.out) hb);have n3_:=z2.mk (Kd.z15 (by (with_reducible repeat (first|apply Kd.zi|apply Kd.zj|apply Kd.zo));exact HO119.out) (Kd.z1f ho0) hb);have n4_:=z2.mk (Kd.z14 (Kd.z1n (Kd.z1n (Kd.z1i ho0 (Kd.R_lt (by (with_reducible repeat (first|apply Kd.zi|apply Kd.zj|apply Kd.zo));exact HO119.out))) (g:=gb108) (o:=.cells #[.int .u64 0,.int .u64 1] 61 (0,0)) (by (with_reducible repeat (first|refine z4 ?_ _|refine z8 ?_|refine z3 ?_ _));exact BK108.out)) (g:=gb109) (o:=.cells #[.int .u64 a1_0,.int .u64 a1_1] 61 (0,0)) (by (with_reducible repeat (first|refine z4 ?_ _|refine z8 ?_|refine z3 ?_ _));exact BK109.out)) (ze (by repeat (first|(with_reducible first|exact HB.out|apply z7|apply z1|apply z6|refine z5 ?_ GE101.out|refine z5 ?_ GE108.out|refine z5 ?_ GE109.out)|exact HB.out))));have n5_:=z2.mk (z9 (g:=gb101) (o:=.cells #[.int .u64 a1_0,.int .u64 a1_1] 51 (0,0)) (by (with_reducible repeat (first|refine z4 ?_ _|refine z8 ?_|refine z3 ?_ _));exact BK101.out) hb);have n6_:=z2.mk (z9 (g:=gb108) (o:=.cells #[.int .u64 0,.int .u64 1] 61 (0,0)) (by (with_reducible repeat (first|refine z4 ?_ _|refine z8 ?_|refine z3 ?_ _));exact BK108.out) hb);have n7_:=z2.mk (z9 (g:=gb109) (o:=.cells #[.int .u64 a1_0,.int .u64 a1_1] 61 (0,0)) (by (with_reducible repeat (first|refine z4 ?_ _|refine z8 ?_|refine z3 ?_ _));exact BK109.out) hb);have n8_:=z2.mk (zd (by repeat (first|(with_reducible first|exact HB.out|apply z7|apply z1|apply z6|refine z5 ?_ GE101.out|refine z5 ?_ GE108.out|refine z5 ?_ GE109.out)|exact HB.out)) hb);clear HO_5;clear HO_6;clear HO116;clear HO119;clear BK101;clear BK108;clear BK109;clear HB;have HO_5:=n0_;have HO_6:=n1_;have HO116:=n2_;have HO119:=n3_;have HO126:=n4_;have BK101:=n5_;have BK108:=n6_;have BK109:=n7_;have HB:=n8_;clear n0_ n1_ n2_ n3_ n4_ n5_ n6_ n7_ n8_;(try clear hb);(try clear hb2);(try clear hk);(try clear hi);(try clear ho0);obtain ⟨Ao56,co56,eo56⟩:=Kd.z13 HO_5.out;subst eo56;obtain ⟨Ao57,co57,eo57⟩:=Kd.z13 HO126.out;subst eo57)|(go_at_call 25;(with_reducible refine (zg.calls kj4 _ _ t102 _ _ t124 true _ ?side1 ?side2 ?side3 ?side4 A38.out).mono ?_);(case side1=>repeat (first|exact (Kd.zM HO_5.out).2.2|(with_reducible refine Kd.z1s ?_ _)|(with_reducible refine Kd.z1t ?_ _)|(with_reducible refine Kd.z1E ?_)));(case side2=>exact (Kd.zM HO_5.out).2.1);(case side3=>repeat (first|exact (Kd.zM HO126.out).2.2|(with_reducible refine Kd.z1s ?_ _)|(with_reducible refine Kd.z1t ?_ _)|(with_reducible refine Kd.z1E ?_)));(case side4=>exact (Kd.zM HO126.out).2.1);rintro e w' ⟨rfl,⟨nd,rfl⟩⟩;have hcz58_0 : w55.cell? ⟨gb108,0,none⟩ = some (.int .u64 0):=(za BK108.out 0).trans rfl;have hcz58_1 : w55.cell? ⟨gb108,1,none⟩ = some (.int .u64 1):=(za BK108.out 1).trans rfl;have hfz58_0:=zb BK108.out 0;have hfz58_1:=zb BK108.out 1;have hcz59_0 : w55.cell? ⟨gb109,0,none⟩ = some (.int .u64 a1_0):=(za BK109.out 0).trans rfl;have hcz59_1 : w55.cell? ⟨gb109,1,none⟩ = some (.int .u64 a1_1):=(za BK109.out 1).trans rfl;have hfz59_0:=zb BK109.out 0;have hfz59_1:=zb BK109.out 1)|(go_at_call 63;(with_reducible refine (zf.calls kj4 a0 0 1 a1_0 a1_1 t128 _ A40.out).mono ?_);rintro e w60 ⟨v129,rfl,ho0,hb⟩;have n0_:=z2.mk (Kd.zx (by (with_reducible repeat (first|apply Kd.zi|apply Kd.zj|apply Kd.zo));exact HO_5.out) hb);have n1_:=z2.mk (Kd.zx (by (with_reducible repeat (first|apply Kd.zi|apply Kd.zj|apply Kd.zo));exact HO_6.out) hb);have n2_:=z2.mk (Kd.zx (by (with_reducible repeat (first|apply Kd.zi|apply Kd.zj|apply Kd.zo));exact HO116.out) hb);have n3_:=z2.mk (Kd.z15 (by (with_reducible repeat (first|apply Kd.zi|apply Kd.zj|apply Kd.zo));exact HO119.out) (Kd.z1f ho0) hb);have n4_:=z2.mk (Kd.z15 (by (with_reducible repeat (first|apply Kd.zi|apply Kd.zj|apply Kd.zo));exact HO126.out) (Kd.z1f ho0) hb);have n5_:=z2.mk (Kd.z14 (Kd.z1n (Kd.z1n (Kd.z1i (Kd.z1i ho0 (Kd.R_lt (by (with_reducible repeat (first|apply Kd.zi|apply Kd.zj|apply Kd.zo));exact HO119.out))) (Kd.R_lt (by (with_reducible repeat (first|apply Kd.zi|apply Kd.zj|apply Kd.zo));exact HO126.out))) (g:=gb108) (o:=.cells #[.int .u64 0,.int .u64 1] 61 (0,0)) (by (with_reducible repeat (first|refine z4 ?_ _|refine z8 ?_|refine z3 ?_ _));exact BK108.out)) (g:=gb109) (o:=.cells #[.int .u64 a1_0,.int .u64 a1_1] 61 (0,0)) (by (with_reducible repeat (first|refine z4 ?_ _|refine z8 ?_|refine z3 ?_ _));exact BK109.out)) (ze (by repeat (first|(with_reducible first|exact HB.out|apply z7|apply z1|apply z6|refine z5 ?_ GE101.out|refine z5 ?_ GE108.out|refine z5 ?_ GE109.out)|exact HB.out))));have n6_:=z2.mk (z9 (g:=gb101) (o:=.cells #[.int .u64 a1_0,.int .u64 a1_1] 51 (0,0)) (by (with_reducible repeat (first|refine z4 ?_ _|refine z8 ?_|refine z3 ?_ _));exact BK101.out) hb);have n7_:=z2.mk (z9 (g:=gb108) (o:=.cells #[.int .u64 0,.int .u64 1] 61 (0,0)) (by (with_reducible repeat (first|refine z4 ?_ _|refine z8 ?_|refine z3 ?_ _));exact BK108.out) hb);have n8_:=z2.mk (z9 (g:=gb109) (o:=.cells #[.int .u64 a1_0,.int .u64 a1_1] 61 (0,0)) (by (with_reducible repeat (first|refine z4 ?_ _|refine z8 ?_|refine z3 ?_ _));exact BK109.out) hb);have n9_:=z2.mk (zd (by repeat (first|(with_reducible first|exact HB.out|apply z7|apply z1|apply z6|refine z5 ?_ GE101.out|refine z5 ?_ GE108.out|refine z5 ?_ GE109.out)|exact HB.out)) hb);clear HO_5;clear HO_6;clear HO116;clear HO119;clear HO126;clear BK101;clear BK108;clear BK109;clear HB;have HO_5:=n0_;have HO_6:=n1_;have HO116:=n2_;have HO119:=n3_;have HO126:=n4_;have HO130:=n5_;have BK101:=n6_;have BK108:=n7_;have BK109:=n8_;have HB:=n9_;clear n0_ n1_ n2_ n3_ n4_ n5_ n6_ n7_ n8_ n9_;(try clear hb);(try clear hb2);(try clear hk);(try clear hi);(try clear ho0);obtain ⟨Ao61,co61,eo61⟩:=Kd.z13 HO_6.out;subst eo61;obtain ⟨Ao62,co62,eo62⟩:=Kd.z13 HO130.out;subst eo62)|(go_at_call 25;(with_reducible refine (zg.calls kj4 _ _ t105 _ _ t128 t131 _ ?side1 ?side2 ?side3 ?side4 A41.out).mono ?_);(case side1=>repeat (first|exact (Kd.zM HO_6.out).2.2|(with_reducible refine Kd.z1s ?_ _)|(with_reducible refine Kd.z1t ?_ _)|(with_reducible refine Kd.z1E ?_)));(case side2=>exact (Kd.zM HO_6.out).2.1);(case side3=>repeat (first|exact (Kd.zM HO130.out).2.2|(with_reducible refine Kd.z1s ?_ _)|(with_reducible refine Kd.z1t ?_ _)|(with_reducible refine Kd.z1E ?_)));(case side4=>exact (Kd.zM HO130.out).2.1);rintro e w' ⟨rfl,⟨nd,rfl⟩⟩))
   go_ret
   exact ⟨by first|rfl|(simp [zl,zm] <;> rfl)|(simp [*,zl,zm] <;> rfl),by repeat (first|(with_reducible first|exact HB.out|apply z7|apply z1|apply z6|refine z5 ?_ GE101.out|refine z5 ?_ GE108.out|refine z5 ?_ GE109.out)|exact HB.out)⟩
end Go.Proofs.Ytngcaphdkgihmaa.P
/- What the arguments of a law read as: for each type that can be told, any reading of it is one of a value of its kind, with its numbers in their ranges. Own text. -/
namespace Go.Proofs.Ytngcaphdkgihmaa.Reads
open Go.ChangeShapes Go.WideShapes Go.ChangeAt Go.RowKit Go.Deep Go.Proofs.YtngcaphdkgihmaaW.PrintWords
set_option linter.unusedVariables false

/-- Whatever is read at type t is of kind d, and good. -/
def ReadsAs {α : Type} (P : Program) (t : TypeId) (d : Kd α) (good : α → Prop) : Prop :=
  ∀ {H : Type} (enc : TypeId × Value → H) (w : World) (base : Nat) (spare : Nat → Bool) (held : Bool) (fuel : Nat) (cs : List Value) (x : DataW H × List MemPlace), DataW.trod enc P w base spare held fuel t cs = some x → ∃ a, d.K w a cs ∧ good a

theorem z5s {P : Program} {t : TypeId} {k : IntKind} (ht : P.underlying t = some (.int k)) : ReadsAs P t (Kd.int k) (fun n => (Lit.int k n).wf = true) := by
  intro H enc w base spare held fuel cs x h
  obtain ⟨n, rfl, _, hw⟩ := DataW.trod_int ht h
  exact ⟨n, rfl, hw⟩
theorem op_bool {P : Program} {t : TypeId} (ht : P.underlying t = some .bool) : ReadsAs P t Kd.bool (fun _ => True) := by
  intro H enc w base spare held fuel cs x h
  obtain ⟨n, rfl, _⟩ := DataW.trod_bool ht h
  exact ⟨n, rfl, trivial⟩
theorem z4e (a : Addr) (i j : Nat) : (a.add i).add j = a.add (i + j) := Go.Deep.add_add a i j
theorem op_slice {α : Type} {P : Program} {t e : TypeId} {d : Kd α} {good : α → Prop} (ht : P.underlying t = some (.slice e)) (hc : P.cellsOf e = d.sz) (he : ReadsAs P e d good) : ReadsAs P t (Kd.slice e d) (fun l => (∀ x ∈ l, good x) ∧ l.length ≤ maxLen) := by
  intro H enc w base spare held fuel cs x h
  rcases open_slice ht h with ⟨rfl, _⟩ | ⟨a, len, cap, m, n, D, Pl, rfl, hb, hl, hm, hmm, rfl, hx⟩
  · exact ⟨[], ⟨none, 0, rfl, Nat.le_refl _, Kd.C_nil d w⟩, ⟨by simp, Nat.zero_le _⟩⟩
  · have hlm : len ≤ m := by rw [hmm]; split <;> omega
    have hex : ∀ i, i < len → ∃ y : α, ∃ c, c.length = d.sz ∧ d.K w y c ∧ good y ∧ ∀ j u, c[j]? = some u → w.cell? (a.add (i * d.sz + j)) = some u := by
      intro i hi
      obtain ⟨cs', h1, h2⟩ := hx i (by omega)
      obtain ⟨_, hlen, hcell⟩ := World.cells?_some h1
      obtain ⟨y, hK, hg⟩ := he enc w base spare held n cs' _ h2
      refine ⟨y, cs', by rw [hlen, hc], hK, hg, fun j u hu => ?_⟩
      have hj : j < P.cellsOf e := by rw [← hlen]; exact (List.getElem?_eq_some_iff.1 hu).1
      have := hcell j hj
      rw [z4e] at this
      rw [← hc, this]; exact hu
    have hmax : len ≤ 9223372036854775807 := by
      have h9 : len ≤ maxLen := by omega
      simpa [maxLen] using h9
    have hlen : (List.ofFn (fun i : Fin len => Classical.choose (hex i.1 i.2))).length = len := List.length_ofFn
    refine ⟨List.ofFn (fun i : Fin len => Classical.choose (hex i.1 i.2)), ⟨some a, cap, by rw [hlen], by rw [hlen]; exact hl, rfl, by rw [hlen]; exact hmax, fun _ => ⟨a, rfl, ?_⟩⟩, ?_, by rw [hlen]; omega⟩
    · intro j p hp
      obtain ⟨hj, hpj⟩ := List.getElem?_eq_some_iff.1 hp
      rw [List.length_ofFn] at hj
      rw [List.getElem_ofFn] at hpj
      obtain ⟨c, h1, h2, _, h4⟩ := Classical.choose_spec (hex j hj)
      exact ⟨c, h1, by rw [← hpj]; exact h2, h4⟩
    · intro y hy
      obtain ⟨i, rfl⟩ := List.mem_ofFn.1 hy
      obtain ⟨c, _, _, h3, _⟩ := Classical.choose_spec (hex i.1 i.2)
      exact h3

/-- Fields that lie one behind the other. -/
def ReadsFs {α : Type} (P : Program) (fs : List Field) (off : Nat) (d : Kd α) (good : α → Prop) : Prop :=
  ∀ {H : Type} (enc : TypeId × Value → H) (w : World) (base : Nat) (spare : Nat → Bool) (held : Bool) (n : Nat) (cs : List Value), cs.length = d.sz →
    (∀ f ∈ fs, off ≤ f.offset ∧ ∃ x, DataW.trod enc P w base spare held n f.type ((cs.drop (f.offset - off)).take (P.cellsOf f.type)) = some x) → ∃ a, d.K w a cs ∧ good a
theorem z5v {α : Type} {P : Program} {f : Field} {off : Nat} {d : Kd α} {good : α → Prop} (hs : P.cellsOf f.type = d.sz) (ho : f.offset = off) (he : ReadsAs P f.type d good) : ReadsFs P [f] off d good := by
  intro H enc w base spare held n cs hl h
  obtain ⟨_, x, hx⟩ := h f (by simp)
  rw [ho, Nat.sub_self, List.drop_zero, hs, ← hl, List.take_length] at hx
  exact he enc w base spare held n cs x hx
theorem z5u {α β : Type} {P : Program} {f : Field} {fs : List Field} {off : Nat} {d : Kd α} {d' : Kd β} {good : α → Prop} {good' : β → Prop} (hs : P.cellsOf f.type = d.sz) (ho : f.offset = off) (he : ReadsAs P f.type d good)
    (hr : ReadsFs P fs (off + d.sz) d' good') (hoff : ∀ g ∈ fs, off + d.sz ≤ g.offset) : ReadsFs P (f :: fs) off (Kd.pair d d') (fun x => good x.1 ∧ good' x.2) := by
  intro H enc w base spare held n cs hl h
  have hl' : cs.length = d.sz + d'.sz := hl
  obtain ⟨_, x, hx⟩ := h f (by simp)
  rw [ho, Nat.sub_self, List.drop_zero, hs] at hx
  obtain ⟨a, hK, hg⟩ := he enc w base spare held n _ x hx
  obtain ⟨b, hK', hg'⟩ := hr enc w base spare held n (cs.drop d.sz) (by rw [List.length_drop]; omega) (fun g hgm => by
    obtain ⟨_, y, hy⟩ := h g (by simp [hgm])
    have ho' := hoff g hgm
    refine ⟨ho', y, ?_⟩
    rw [List.drop_drop, show d.sz + (g.offset - (off + d.sz)) = g.offset - off by omega]
    exact hy)
  exact ⟨(a, b), ⟨cs.take d.sz, cs.drop d.sz, (List.take_append_drop _ _).symm, hK, hK'⟩, hg, hg'⟩
theorem z5t {α β : Type} {P : Program} {t : TypeId} {fs : Array Field} {l : List Field} {d : Kd α} {good : α → Prop} (f : β → α) (hsurj : ∀ a, ∃ b, f b = a) (ht : P.underlying t = some (.struct fs)) (hfl : fs.toList = l) (hs : P.cellsOf t = d.sz) (h : ReadsFs P l 0 d good) :
    ReadsAs P t (Kd.iso d f) (fun b => good (f b)) := by
  intro H enc w base spare held fuel cs x hx
  obtain ⟨xs, n, rfl, _, hlen, hxs, hall⟩ := DataW.trod_struct ht hx
  obtain ⟨a, hK, hg⟩ := h enc w base spare held n cs (by rw [hlen, hs]) (fun g hgm => by
    rw [← hfl] at hgm
    obtain ⟨i, hi, rfl⟩ := List.mem_iff_getElem.1 hgm
    have h1 := hall i fs.toList[i] (by simp at hi ⊢)
    have hi' : i < xs.length := by rw [hxs]; simpa using hi
    refine ⟨Nat.zero_le _, xs[i], ?_⟩
    rw [Nat.sub_zero, h1, List.getElem?_eq_getElem hi'])
  obtain ⟨b, rfl⟩ := hsurj a
  exact ⟨b, hK, hg⟩

/-- Elements of an array, one behind the other. -/
def ReadsAr {α : Type} (P : Program) (e : TypeId) (m : Nat) (d : Kd α) (good : α → Prop) : Prop :=
  ∀ {H : Type} (enc : TypeId × Value → H) (w : World) (base : Nat) (spare : Nat → Bool) (held : Bool) (n : Nat) (cs : List Value), cs.length = d.sz →
    (∀ i, i < m → ∃ x, DataW.trod enc P w base spare held n e ((cs.drop (i * P.cellsOf e)).take (P.cellsOf e)) = some x) → ∃ a, d.K w a cs ∧ good a
theorem opas_last {α : Type} {P : Program} {e : TypeId} {d : Kd α} {good : α → Prop} (hs : P.cellsOf e = d.sz) (he : ReadsAs P e d good) : ReadsAr P e 1 d good := by
  intro H enc w base spare held n cs hl h
  obtain ⟨x, hx⟩ := h 0 (by omega)
  rw [Nat.zero_mul, List.drop_zero, hs, ← hl, List.take_length] at hx
  exact he enc w base spare held n cs x hx
theorem opas_cons {α β : Type} {P : Program} {e : TypeId} {m : Nat} {d : Kd α} {d' : Kd β} {good : α → Prop} {good' : β → Prop} (hs : P.cellsOf e = d.sz) (he : ReadsAs P e d good) (hr : ReadsAr P e m d' good') :
    ReadsAr P e (m + 1) (Kd.pair d d') (fun x => good x.1 ∧ good' x.2) := by
  intro H enc w base spare held n cs hl h
  have hl' : cs.length = d.sz + d'.sz := hl
  obtain ⟨x, hx⟩ := h 0 (by omega)
  rw [Nat.zero_mul, List.drop_zero, hs] at hx
  obtain ⟨a, hK, hg⟩ := he enc w base spare held n _ x hx
  obtain ⟨b, hK', hg'⟩ := hr enc w base spare held n (cs.drop d.sz) (by rw [List.length_drop]; omega) (fun i hi => by
    obtain ⟨y, hy⟩ := h (i + 1) (by omega)
    refine ⟨y, ?_⟩
    rw [List.drop_drop, show d.sz + i * P.cellsOf e = (i + 1) * P.cellsOf e by rw [hs, Nat.add_mul]; omega]
    exact hy)
  exact ⟨(a, b), ⟨cs.take d.sz, cs.drop d.sz, (List.take_append_drop _ _).symm, hK, hK'⟩, hg, hg'⟩
theorem op_array {α β : Type} {P : Program} {t e : TypeId} {m : Nat} {d : Kd α} {good : α → Prop} (f : β → α) (hsurj : ∀ a, ∃ b, f b = a) (ht : P.underlying t = some (.array m e)) (hs : P.cellsOf t = d.sz) (h : ReadsAr P e m d good) :
    ReadsAs P t (Kd.iso d f) (fun b => good (f b)) := by
  intro H enc w base spare held fuel cs x hx
  obtain ⟨xs, n, rfl, _, hlen, hxs, hall⟩ := DataW.trod_array ht hx
  obtain ⟨a, hK, hg⟩ := h enc w base spare held n cs (by rw [hlen, hs]) (fun i hi => by
    have hi' : i < xs.length := by omega
    exact ⟨xs[i], by rw [hall i hi, List.getElem?_eq_getElem hi']⟩)
  obtain ⟨b, rfl⟩ := hsurj a
  exact ⟨b, hK, hg⟩
theorem z3X {P : Program} {w : World} {r : Reach} {base : Nat} {t e : TypeId} {m : Nat} {v : Value} (ht : P.underlying t = some (.array m e)) (h : Value.okWide P w r base t v) : ∃ cs, v = .agg cs ∧ cs.size = P.cellsOf t := by
  simp only [Value.okWide, ht] at h
  cases v <;> simp_all

/-- An argument that is a slice. -/
theorem arg_slice {α : Type} {P : Program} {H : Type} {enc : TypeId × Value → H} {W : World} {base : Nat} {spare : Nat → Bool} {held : Bool} {t e : TypeId} {d : Kd α} {good : List α → Prop} {v : Value} {dd : DataW H} {ps : List MemPlace}
    (hop : ReadsAs P t (Kd.slice e d) good) {e' : TypeId} (ht : P.underlying t = some (.slice e')) {r : Reach} {b : Nat} (hv : Value.okWide P W r b t v) (h : DataW.Trod enc P W base spare held t v dd ps) :
    ∃ (l : List α) (A : Option Addr) (c : Nat), v = .slice A l.length c ∧ l.length ≤ c ∧ Kd.C d W A l.length l ∧ good l := by
  obtain ⟨A, len, cap, rfl⟩ := okWide_slice ht hv
  obtain ⟨fuel, hf⟩ := h
  obtain ⟨l, ⟨A', c, hcs, hl, hC⟩, hg⟩ := hop enc W base spare held fuel _ _ hf
  simp [Value.cells] at hcs
  obtain ⟨rfl, rfl, rfl⟩ := hcs
  exact ⟨l, A, cap, rfl, hl, hC, hg⟩
theorem arg_int {P : Program} {H : Type} {enc : TypeId × Value → H} {W : World} {base : Nat} {spare : Nat → Bool} {held : Bool} {t : TypeId} {k : IntKind} {v : Value} {dd : DataW H} {ps : List MemPlace}
    (ht : P.underlying t = some (.int k)) {r : Reach} {b : Nat} (hv : Value.okWide P W r b t v) (h : DataW.Trod enc P W base spare held t v dd ps) :
    ∃ n, v = .int k n ∧ (Lit.int k n).wf = true := by
  obtain ⟨n, rfl⟩ := okWide_int ht hv
  obtain ⟨fuel, hf⟩ := h
  obtain ⟨l, hcs, hg⟩ := z5s ht enc W base spare held fuel _ _ hf
  have : n = l := by
    have h1 : ([Value.int k n] : List Value) = [.int k l] := hcs
    simpa using h1
  subst this
  exact ⟨n, rfl, hg⟩
theorem arg_bool {P : Program} {W : World} {t : TypeId} {v : Value} (ht : P.underlying t = some .bool) {r : Reach} {b : Nat} (hv : Value.okWide P W r b t v) : ∃ n, v = .bool n := okWide_bool ht hv
/-- An argument that is a struct: its cells. -/
theorem z4L {α : Type} {P : Program} {H : Type} {enc : TypeId × Value → H} {W : World} {base : Nat} {spare : Nat → Bool} {held : Bool} {t : TypeId} {fs : Array Field} {d : Kd α} {good : α → Prop} {v : Value} {dd : DataW H} {ps : List MemPlace}
    (hop : ReadsAs P t d good) (ht : P.underlying t = some (.struct fs)) {r : Reach} {b : Nat} (hv : Value.okWide P W r b t v) (h : DataW.Trod enc P W base spare held t v dd ps) :
    ∃ (a : α) (cs : List Value), v = .agg cs.toArray ∧ d.K W a cs ∧ good a := by
  obtain ⟨cs, rfl, _⟩ := okWide_struct ht hv
  obtain ⟨fuel, hf⟩ := h
  obtain ⟨a, hK, hg⟩ := hop enc W base spare held fuel _ _ hf
  exact ⟨a, cs.toList, by simp, hK, hg⟩
/-- An argument that is an array: its cells. -/
theorem arg_array {α : Type} {P : Program} {H : Type} {enc : TypeId × Value → H} {W : World} {base : Nat} {spare : Nat → Bool} {held : Bool} {t e : TypeId} {m : Nat} {d : Kd α} {good : α → Prop} {v : Value} {dd : DataW H} {ps : List MemPlace}
    (hop : ReadsAs P t d good) (ht : P.underlying t = some (.array m e)) {r : Reach} {b : Nat} (hv : Value.okWide P W r b t v) (h : DataW.Trod enc P W base spare held t v dd ps) :
    ∃ (a : α) (cs : List Value), v = .agg cs.toArray ∧ d.K W a cs ∧ good a := by
  obtain ⟨cs, rfl, _⟩ := z3X ht hv
  obtain ⟨fuel, hf⟩ := h
  obtain ⟨a, hK, hg⟩ := hop enc W base spare held fuel _ _ hf
  exact ⟨a, cs.toList, by simp, hK, hg⟩
end Go.Proofs.Ytngcaphdkgihmaa.Reads
-- Own text: the statement that is left of the law PackvPairs, and what a reading of its arguments is.
namespace Go.Proofs.Ytngcaphdkgihmaa.Stated.packvPairs
open Go.RowKit Go.Proofs.YtngcaphdkgihmaaW.PrintWords Go.Proofs.Ytngcaphdkgihmaa.P Go.Proofs.Ytngcaphdkgihmaa.Reads
def Pure : Prop := ∀ (x0 : Int) (x1 : S51), ((Lit.int .i64 x0).wf = true) → (((Lit.int .u64 x1.f0).wf = true) ∧ ((Lit.int .u64 x1.f1).wf = true)) → ∃ k, zc.f k x0 x1.f0 x1.f1 = some true
end Go.Proofs.Ytngcaphdkgihmaa.Stated.packvPairs
/- Rounds: what is told by enough of them; and the arithmetic of whole numbers as the printed functions spell it. Own text. -/
namespace Go.Proofs.YtngcaphdkgihmaaW.PrintWords
set_option linter.unusedVariables false
set_option linter.unusedSimpArgs false
namespace Ev
variable {α β : Type}
theorem ret (r : α) : Ev (fun _ => some r) r := ⟨0, fun _ _ => rfl⟩
theorem ret' {a r : α} (h : a = r) : Ev (fun _ => some a) r := h ▸ Ev.ret a
theorem const {o : Option α} {r : α} (h : o = some r) : Ev (fun _ => o) r := ⟨0, fun _ _ => h⟩
theorem pos {c : Prop} [Decidable c] {f g : Nat → Option α} {r : α} (h : c) (k : Ev f r) : Ev (fun n => if c then f n else g n) r := by
  simp only [if_pos h]; exact k
theorem neg {c : Prop} [Decidable c] {f g : Nat → Option α} {r : α} (h : ¬ c) (k : Ev g r) : Ev (fun n => if c then f n else g n) r := by
  simp only [if_neg h]; exact k
theorem bnd {g : Nat → Option α} {f : Nat → α → Option β} {a : α} {r : β} (h : Ev g a) (k : Ev (fun n => f n a) r) : Ev (fun n => (g n).bind (f n)) r := Ev.bind h k
theorem bnd0 {o : Option α} {f : Nat → α → Option β} {a : α} {r : β} (h : o = some a) (k : Ev (fun n => f n a) r) : Ev (fun n => o.bind (f n)) r := Ev.bind (Ev.const h) k
theorem uniq {g : Nat → Option α} {a b : α} (h : Ev g a) (k : Ev g b) : a = b := by
  obtain ⟨K, hK⟩ := h; obtain ⟨L, hL⟩ := k
  have := hK (max K L) (Nat.le_max_left _ _); rw [hL _ (Nat.le_max_right _ _)] at this
  exact (Option.some.inj this).symm
theorem eqn {g : Nat → Option α} {a b : α} (h : Ev g a) (e : a = b) : Ev g b := e ▸ h
end Ev
end Go.Proofs.YtngcaphdkgihmaaW.PrintWords
namespace Go.Proofs.Ytngcaphdkgihmaa.Ar
open Go.RowKit Go.Proofs.YtngcaphdkgihmaaW.PrintWords Go.Proofs.YtngcaphdkgihmaaW.PrintMore
set_option linter.unusedVariables false
set_option linter.unusedSimpArgs false
theorem i64_id {x : Int} (h0 : -9223372036854775808 ≤ x) (h1 : x ≤ 9223372036854775807) : IntKind.i64.wrap x = x := by rw [IntKind.wrap_i64]; omega
theorem z2o {x : Int} (h0 : -9223372036854775808 ≤ x) (h1 : x ≤ 9223372036854775807) : wrap64 x = x := by unfold wrap64; omega
theorem z1L {i L : Nat} (h : i < L) (hL : L ≤ 4611686018427387904) : wrap64 ((i : Int) + 1) = ((i + 1 : Nat) : Int) := by rw [z2o (by omega) (by omega)]; omega
theorem w64_add {i j : Nat} (h : i ≤ 2305843009213693952) (h' : j ≤ 2305843009213693952) : wrap64 ((i : Int) + (j : Int)) = ((i + j : Nat) : Int) := by rw [z2o (by omega) (by omega)]; omega
theorem w64_sub {i j : Nat} (h : j ≤ i) (h' : i ≤ 4611686018427387904) : wrap64 ((i : Int) - (j : Int)) = ((i - j : Nat) : Int) := by rw [z2o (by omega) (by omega)]; omega
theorem z2c {x : Int} (h0 : 0 ≤ x) (h1 : x < 18446744073709551616) : IntKind.u64.wrap x = x := by
  simp [IntKind.wrap, IntKind.bits, IntKind.signed]; omega
theorem z3K (w : Nat) (h : w ≤ 62) : shl .i64 1 (w : Int) = ((2 ^ w : Nat) : Int) := by
  unfold shl
  have h64 : IntKind.i64.bits = 64 := rfl
  rw [h64, Int.toNat_natCast, Nat.min_eq_left (by omega), Int.one_mul]
  have hp : (2 : Nat) ^ w ≤ 2 ^ 62 := Nat.pow_le_pow_right (by decide) h
  have hc : ((2 : Int) ^ w) = ((2 ^ w : Nat) : Int) := by simp
  rw [hc]
  have h62 : (2 : Nat) ^ 62 = 4611686018427387904 := by decide
  generalize 2 ^ w = p at hp ⊢
  exact i64_id (by omega) (by omega)
theorem z2l (w : Nat) (h : w ≤ 63) : shl .u64 1 (w : Int) = ((2 ^ w : Nat) : Int) := by
  unfold shl
  have h64 : IntKind.u64.bits = 64 := rfl
  rw [h64, Int.toNat_natCast, Nat.min_eq_left (by omega), Int.one_mul]
  have hp : (2 : Nat) ^ w ≤ 2 ^ 63 := Nat.pow_le_pow_right (by decide) h
  have hc : ((2 : Int) ^ w) = ((2 ^ w : Nat) : Int) := by simp
  rw [hc]
  have h63 : (2 : Nat) ^ 63 = 9223372036854775808 := by decide
  generalize 2 ^ w = p at hp ⊢
  exact z2c (by omega) (by omega)
theorem z3L (a w : Nat) (h : w ≤ 64) : shr .u64 (a : Int) (w : Int) = ((a / 2 ^ w : Nat) : Int) := by
  unfold shr
  have h64 : IntKind.u64.bits = 64 := rfl
  rw [h64, Int.toNat_natCast, Nat.min_eq_left h]; simp
theorem shr_i64 (a w : Nat) (h : w ≤ 64) : shr .i64 (a : Int) (w : Int) = ((a / 2 ^ w : Nat) : Int) := by
  unfold shr
  have h64 : IntKind.i64.bits = 64 := rfl
  rw [h64, Int.toNat_natCast, Nat.min_eq_left h]; simp
theorem z3A (op : BinOp) (a b : Nat) (ha : a < 2 ^ 64) (hb : b < 2 ^ 64) :
    (op = .and → Go.bits op .u64 a b = ((a &&& b : Nat) : Int)) ∧ (op = .or → Go.bits op .u64 a b = ((a ||| b : Nat) : Int)) ∧ (op = .xor → Go.bits op .u64 a b = ((a ^^^ b : Nat) : Int)) := by
  have ha' : a % 2 ^ IntKind.u64.bits = a := Nat.mod_eq_of_lt ha
  have hb' : b % 2 ^ IntKind.u64.bits = b := Nat.mod_eq_of_lt hb
  refine ⟨?_, ?_, ?_⟩ <;> rintro rfl <;> simp only [Go.bits, BitVec.ofInt_natCast, BitVec.toNat_and, BitVec.toNat_or, BitVec.toNat_xor, BitVec.toNat_ofNat, ha', hb']
  · exact z2c (Int.natCast_nonneg _) (by have := Nat.and_lt_two_pow a hb; omega)
  · exact z2c (Int.natCast_nonneg _) (by have := Nat.or_lt_two_pow ha hb; omega)
  · exact z2c (Int.natCast_nonneg _) (by have := Nat.xor_lt_two_pow ha hb; omega)
theorem z1Z (a b : Nat) (ha : a < 2 ^ 64) (hb : b < 2 ^ 64) : Go.bits .and .u64 a b = ((a &&& b : Nat) : Int) := (z3A .and a b ha hb).1 rfl
theorem z4y (a b : Nat) (ha : a < 2 ^ 64) (hb : b < 2 ^ 64) : Go.bits .or .u64 a b = ((a ||| b : Nat) : Int) := (z3A .or a b ha hb).2.1 rfl
theorem z1z (a b : Nat) (ha : a < 2 ^ 64) (hb : b < 2 ^ 64) : Go.bits .xor .u64 a b = ((a ^^^ b : Nat) : Int) := (z3A .xor a b ha hb).2.2 rfl
theorem z3R (x w : Nat) (hx : x < 2 ^ 63) (hw : w ≤ 62) : Go.bits .and .i64 (x : Int) (((2 ^ w : Nat) : Int) - 1) = ((x % 2 ^ w : Nat) : Int) := by
  have := Go.bits_mask .i64 63 (by decide) (fun n h0 h1 => i64_id (by omega) (by omega)) w (by omega) (x : Int) (by omega) (by exact_mod_cast hx)
  have hc : (((2 ^ w : Nat) : Int) - 1) = 2 ^ w - 1 := by simp
  rw [hc, this]; simp
theorem two_pow_le {w : Nat} (h : w ≤ 6) : 2 ^ w ≤ 64 := Nat.pow_le_pow_right (n := 2) (by decide) h
theorem wf_i64 {x : Int} (h : (Lit.int .i64 x).wf = true) : -9223372036854775808 ≤ x ∧ x ≤ 9223372036854775807 := by
  simp only [Lit.wf, IntKind.min, IntKind.max, IntKind.signed, IntKind.bits, Bool.and_eq_true, decide_eq_true_eq] at h; simp at h; omega
theorem z4G {x : Int} (h : (Lit.int .u64 x).wf = true) : 0 ≤ x ∧ x < 18446744073709551616 := by
  simp only [Lit.wf, IntKind.min, IntKind.max, IntKind.signed, IntKind.bits, Bool.and_eq_true, decide_eq_true_eq] at h; simp at h; omega
theorem rdOf_eq {α : Type} (d : α) (l : List α) (i : Nat) : rdOf d l (i : Int) = l.getD i d := by unfold rdOf; rw [Int.toNat_natCast]
end Go.Proofs.Ytngcaphdkgihmaa.Ar
/- The tower of fields of characteristic two, as pairs of pairs of bits: its laws. Own text; nothing of the program in it. -/
namespace Go.Proofs.Ytngcaphdkgihmaa.Tw
set_option linter.unusedVariables false
set_option linter.unusedSimpArgs false

/-- Level n: a bit, or two halves: the higher one and the lower one. -/
def T : Nat → Type
  | 0 => Bool
  | n + 1 => T n × T n
def zero : (n : Nat) → T n
  | 0 => false
  | n + 1 => (zero n, zero n)
def one : (n : Nat) → T n
  | 0 => true
  | n + 1 => (zero n, one n)
/-- The generator. -/
def gen : (n : Nat) → T n
  | 0 => true
  | n + 1 => (one n, zero n)
def add : {n : Nat} → T n → T n → T n
  | 0, a, b => Bool.xor a b
  | _ + 1, a, b => (add a.1 b.1, add a.2 b.2)
def mul : {n : Nat} → T n → T n → T n
  | 0, a, b => Bool.and a b
  | n + 1, a, b => (add (add (mul a.1 b.2) (mul a.2 b.1)) (mul (gen n) (mul a.1 b.1)), add (mul a.2 b.2) (mul a.1 b.1))
instance {n : Nat} : Add (T n) := ⟨add⟩
instance {n : Nat} : Mul (T n) := ⟨mul⟩
instance {n : Nat} : Zero (T n) := ⟨zero n⟩
instance {n : Nat} : One (T n) := ⟨one n⟩
instance : {n : Nat} → DecidableEq (T n)
  | 0 => inferInstanceAs (DecidableEq Bool)
  | n + 1 => let _ : DecidableEq (T n) := instDecidableEqT; inferInstanceAs (DecidableEq (T n × T n))
theorem z30 {n : Nat} (a b : T (n + 1)) : (a + b).1 = a.1 + b.1 := rfl
theorem z3x {n : Nat} (a b : T (n + 1)) : (a + b).2 = a.2 + b.2 := rfl
theorem z1I {n : Nat} (a b : T (n + 1)) : (a * b).1 = (a.1 * b.2 + a.2 * b.1) + gen n * (a.1 * b.1) := rfl
theorem z1J {n : Nat} (a b : T (n + 1)) : (a * b).2 = a.2 * b.2 + a.1 * b.1 := rfl
theorem z2W {n : Nat} : (0 : T (n + 1)).1 = 0 := rfl
theorem z2X {n : Nat} : (0 : T (n + 1)).2 = 0 := rfl
theorem z3F {n : Nat} : (1 : T (n + 1)).1 = 0 := rfl
theorem z3G {n : Nat} : (1 : T (n + 1)).2 = 1 := rfl
theorem z2h {n : Nat} : (gen (n + 1)).1 = 1 := rfl
theorem z2i {n : Nat} : (gen (n + 1)).2 = 0 := rfl
theorem z4t : gen 0 = 1 := rfl
/-- The element of two halves. -/
def mk {n : Nat} (a b : T n) : T (n + 1) := (a, b)
theorem z1X {n : Nat} (a b : T n) : (mk a b).1 = a := rfl
theorem z22 {n : Nat} (a b : T n) : (mk a b).2 = b := rfl
theorem ext {n : Nat} {a b : T (n + 1)} (h1 : a.1 = b.1) (h2 : a.2 = b.2) : a = b := Prod.ext h1 h2

theorem add_comm : {n : Nat} → (a b : T n) → a + b = b + a
  | 0, a, b => Bool.xor_comm a b
  | n + 1, a, b => ext (add_comm a.1 b.1) (add_comm a.2 b.2)
theorem add_assoc : {n : Nat} → (a b c : T n) → a + b + c = a + (b + c)
  | 0, a, b, c => Bool.xor_assoc a b c
  | n + 1, a, b, c => ext (add_assoc a.1 b.1 c.1) (add_assoc a.2 b.2 c.2)
theorem zero_add : {n : Nat} → (a : T n) → 0 + a = a
  | 0, a => Bool.false_xor a
  | n + 1, a => ext (zero_add a.1) (zero_add a.2)
theorem z1U : {n : Nat} → (a : T n) → a + a = 0
  | 0, a => Bool.xor_self a
  | n + 1, a => ext (z1U a.1) (z1U a.2)
theorem add_zero {n : Nat} (a : T n) : a + 0 = a := by rw [add_comm, zero_add]
theorem z1F {n : Nat} (a b c : T n) : a + (b + c) = b + (a + c) := by rw [← add_assoc, add_comm a b, add_assoc]
theorem z3P {n : Nat} (a b : T n) : a + (a + b) = b := by rw [← add_assoc, z1U, zero_add]
theorem z57 {n : Nat} {a b c : T n} (h : a + b = a + c) : b = c := by
  have := congrArg (a + ·) h
  simpa only [z3P] using this
theorem add_eq_zero {n : Nat} {a b : T n} (h : a + b = 0) : a = b := by
  have := congrArg (· + b) h
  simp only [add_assoc, z1U, add_zero, zero_add] at this
  exact this
theorem eq_add_of {n : Nat} {a b c : T n} (h : a + b = c) : a = c + b := by rw [← h, add_assoc, z1U, add_zero]

/-- The laws of products, all at once. -/
structure Laws (n : Nat) : Prop where
  comm : ∀ a b : T n, a * b = b * a
  zero_mul : ∀ a : T n, 0 * a = 0
  one_mul : ∀ a : T n, 1 * a = a
  z36 : ∀ a b c : T n, a * (b + c) = a * b + a * c
  assoc : ∀ a b c : T n, a * b * c = a * (b * c)
theorem laws : (n : Nat) → Laws n
  | 0 => ⟨Bool.and_comm, Bool.false_and, Bool.true_and, by intro a b c; cases a <;> cases b <;> cases c <;> rfl, Bool.and_assoc⟩
  | n + 1 => by
    obtain ⟨comm, zmul, omul, madd, massoc⟩ := laws n
    have addm : ∀ a b c : T n, (a + b) * c = a * c + b * c := fun a b c => by rw [comm, madd, comm c a, comm c b]
    have mulz : ∀ a : T n, a * 0 = 0 := fun a => by rw [comm, zmul]
    have mulo : ∀ a : T n, a * 1 = a := fun a => by rw [comm, omul]
    have lcomm : ∀ a b c : T n, a * (b * c) = b * (a * c) := fun a b c => by rw [← massoc, comm a b, massoc]
    refine ⟨fun a b => ext ?_ ?_, fun a => ext ?_ ?_, fun a => ext ?_ ?_, fun a b c => ext ?_ ?_, fun a b c => ext ?_ ?_⟩
    · simp only [z1I]; rw [comm a.1 b.2, comm a.2 b.1, comm a.1 b.1, add_comm (b.2 * a.1)]
    · simp only [z1J]; rw [comm a.2 b.2, comm a.1 b.1]
    · simp only [z1I, z2W, z2X, zmul, mulz, add_zero]
    · simp only [z1J, z2W, z2X, zmul, mulz, add_zero]
    · simp only [z1I, z3F, z3G, zmul, mulz, omul, add_zero, zero_add]
    · simp only [z1J, z3F, z3G, zmul, mulz, omul, add_zero, zero_add]
    · simp only [z1I, z30, z3x, madd, addm, add_assoc, z1F, add_comm]
    · simp only [z1J, z30, z3x, madd, addm, add_assoc, z1F, add_comm]
    · simp only [z1I, z1J, madd, addm, massoc, lcomm, comm, add_assoc, z1F, add_comm]
    · simp only [z1I, z1J, madd, addm, massoc, lcomm, comm, add_assoc, z1F, add_comm]
section
variable {n : Nat} (a b c d : T n)
theorem mul_comm : a * b = b * a := (laws n).comm a b
theorem mul_assoc : a * b * c = a * (b * c) := (laws n).assoc a b c
theorem mul_left_comm : a * (b * c) = b * (a * c) := by rw [← mul_assoc, mul_comm a b, mul_assoc]
theorem zero_mul : 0 * a = 0 := (laws n).zero_mul a
theorem z28 : a * 0 = 0 := by rw [mul_comm, zero_mul]
theorem one_mul : 1 * a = a := (laws n).one_mul a
theorem mul_one : a * 1 = a := by rw [mul_comm, one_mul]
theorem z36 : a * (b + c) = a * b + a * c := (laws n).z36 a b c
theorem add_mul : (a + b) * c = a * c + b * c := by rw [mul_comm, z36, mul_comm c a, mul_comm c b]
theorem add_sq : (a + b) * (a + b) = a * a + b * b := by
  rw [z36, add_mul, add_mul, mul_comm b a, add_assoc, ← add_assoc (a * b), z1U, zero_add]
end
end Go.Proofs.Ytngcaphdkgihmaa.Tw
/- Elements of the tower as numbers: bits of the lower half first. Own text; nothing of the program in it. -/
namespace Go.Proofs.Ytngcaphdkgihmaa.Tw
set_option linter.unusedVariables false
set_option linter.unusedSimpArgs false
/-- How many words of bits an element of a level is: 2 to the power 2^n. -/
def Q (n : Nat) : Nat := 2 ^ 2 ^ n
theorem z20 (n : Nat) : 0 < Q n := Nat.two_pow_pos _
theorem z2e (n : Nat) : Q (n + 1) = Q n * Q n := by unfold Q; rw [← Nat.pow_add, Nat.pow_succ 2 n, Nat.mul_two]
theorem z52 (n : Nat) : Q n ≤ Q (n + 1) := by rw [z2e]; exact Nat.le_mul_of_pos_left _ (z20 n)
theorem z2z {m n : Nat} (h : m ≤ n) : Q m ≤ Q n := Nat.pow_le_pow_right (by decide) (Nat.pow_le_pow_right (by decide) h)
theorem z4J : Q 6 = 2 ^ 64 := rfl
theorem z53 : Q 7 = 2 ^ 128 := rfl
def val : {n : Nat} → T n → Nat
  | 0, a => Bool.toNat a
  | n + 1, a => val a.1 * Q n + val a.2
def of : (n : Nat) → Nat → T n
  | 0, x => x % 2 == 1
  | n + 1, x => mk (of n (x / Q n)) (of n (x % Q n))
theorem val_zero_lvl (a : T 0) : val a = Bool.toNat a := rfl
theorem z1k {n : Nat} (a : T (n + 1)) : val a = val a.1 * Q n + val a.2 := rfl
theorem z1K (n x : Nat) : of (n + 1) x = mk (of n (x / Q n)) (of n (x % Q n)) := rfl
theorem z1a : {n : Nat} → (a : T n) → val a < Q n
  | 0, a => by cases a <;> decide
  | n + 1, a => by
    rw [z1k, z2e]
    have h1 := z1a a.1
    have h2 := z1a a.2
    have h3 : val a.1 * Q n + Q n ≤ Q n * Q n := by
      have := Nat.mul_le_mul_right (Q n) h1
      rw [Nat.succ_mul] at this; exact this
    omega
theorem val_div {n : Nat} (a : T (n + 1)) : val a / Q n = val a.1 := by
  rw [z1k, Nat.mul_comm, Nat.mul_add_div (z20 n), Nat.div_eq_of_lt (z1a a.2), Nat.add_zero]
theorem val_mod {n : Nat} (a : T (n + 1)) : val a % Q n = val a.2 := by
  rw [z1k, Nat.mul_comm, Nat.mul_add_mod, Nat.mod_eq_of_lt (z1a a.2)]
theorem z1w : {n : Nat} → (a : T n) → of n (val a) = a
  | 0, a => by cases a <;> rfl
  | n + 1, a => by rw [z1K, val_div, val_mod, z1w a.1, z1w a.2]; rfl
theorem z1O : (n : Nat) → (x : Nat) → x < Q n → val (of n x) = x
  | 0, x, h => by
    have h' : x < 2 := h
    have : x = 0 ∨ x = 1 := by omega
    rcases this with rfl | rfl <;> rfl
  | n + 1, x, h => by
    rw [z1K, z1k, z1X, z22]
    rw [z2e] at h
    rw [z1O n _ (Nat.div_lt_of_lt_mul h), z1O n _ (Nat.mod_lt _ (z20 n)), Nat.mul_comm]
    exact Nat.div_add_mod x (Q n)
theorem z2y {n : Nat} {a b : T n} (h : val a = val b) : a = b := by rw [← z1w a, h, z1w]
theorem z1q : (n : Nat) → val (0 : T n) = 0
  | 0 => rfl
  | n + 1 => by rw [z1k, z2W, z2X, z1q n, Nat.zero_mul]
theorem z2n : (n : Nat) → val (1 : T n) = 1
  | 0 => rfl
  | n + 1 => by rw [z1k, z3F, z3G, z1q n, z2n n, Nat.zero_mul]
theorem z2j (n : Nat) : of n 0 = 0 := by rw [← z1q n, z1w]
theorem of_one (n : Nat) : of n 1 = 1 := by rw [← z2n n, z1w]
theorem val_eq_zero {n : Nat} {a : T n} : val a = 0 ↔ a = 0 := ⟨fun h => z2y (h.trans (z1q n).symm), fun h => by rw [h, z1q]⟩
theorem z4H {n a b c d : Nat} (hb : b < Q n) (hd : d < Q n) : (a * Q n + b) ^^^ (c * Q n + d) = (a ^^^ c) * Q n + (b ^^^ d) := by
  have h1 : ((a * Q n + b) ^^^ (c * Q n + d)) / Q n = a ^^^ c := by
    unfold Q at *
    rw [Nat.xor_div_two_pow, Nat.mul_comm a, Nat.mul_comm c, Nat.mul_add_div (Nat.two_pow_pos _), Nat.mul_add_div (Nat.two_pow_pos _), Nat.div_eq_of_lt hb, Nat.div_eq_of_lt hd]; rfl
  have h2 : ((a * Q n + b) ^^^ (c * Q n + d)) % Q n = b ^^^ d := by
    unfold Q at *
    rw [Nat.xor_mod_two_pow, Nat.mul_comm a, Nat.mul_comm c, Nat.mul_add_mod, Nat.mul_add_mod, Nat.mod_eq_of_lt hb, Nat.mod_eq_of_lt hd]
  have := Nat.div_add_mod ((a * Q n + b) ^^^ (c * Q n + d)) (Q n)
  rw [h1, h2, Nat.mul_comm] at this
  exact this.symm
theorem z1r : {n : Nat} → (a b : T n) → val (a + b) = val a ^^^ val b
  | 0, a, b => by cases a <;> cases b <;> rfl
  | n + 1, a, b => by
    rw [z1k, z1k, z1k, z30, z3x, z1r a.1 b.1, z1r a.2 b.2, z4H (z1a _) (z1a _)]
theorem z1T {n x y : Nat} (hx : x < Q n) (hy : y < Q n) : x ^^^ y < Q n := Nat.xor_lt_two_pow hx hy
theorem z5r {n x y : Nat} (hx : x < Q n) (hy : y < Q n) : of n (x ^^^ y) = of n x + of n y :=
  z2y (by rw [z1O _ _ (z1T hx hy), z1r, z1O _ _ hx, z1O _ _ hy])
/-- A number of a lower level: the higher half is 0. -/
theorem z3W {n x : Nat} (h : x < Q n) : of (n + 1) x = mk 0 (of n x) := by
  rw [z1K, Nat.div_eq_of_lt h, Nat.mod_eq_of_lt h, z2j]
/-- One level up. -/
def up {n : Nat} (a : T n) : T (n + 1) := mk 0 a
theorem z2u {n : Nat} (a : T n) : (up a).1 = 0 := rfl
theorem z3t {n : Nat} (a : T n) : (up a).2 = a := rfl
theorem val_up {n : Nat} (a : T n) : val (up a) = val a := by rw [z1k, z2u, z3t, z1q, Nat.zero_mul, Nat.zero_add]
theorem up_add {n : Nat} (a b : T n) : up (a + b) = up a + up b := ext (by rw [z30, z2u, z2u, z2u, add_zero]) rfl
theorem up_mul {n : Nat} (a b : T n) : up (a * b) = up a * up b :=
  ext (by simp only [z1I, z2u, z3t, zero_mul, z28, add_zero]) (by simp only [z1J, z2u, z3t, zero_mul, add_zero])
theorem z2L {n : Nat} (a : T n) (b : T (n + 1)) : up a * b = mk (a * b.1) (a * b.2) :=
  ext (by simp only [z1I, z2u, z3t, zero_mul, z28, add_zero, zero_add, z1X]) (by simp only [z1J, z2u, z3t, zero_mul, add_zero, z22])
theorem up_zero (n : Nat) : up (0 : T n) = 0 := rfl
theorem up_one (n : Nat) : up (1 : T n) = 1 := rfl
theorem up_inj {n : Nat} {a b : T n} (h : up a = up b) : a = b := congrArg (fun x : T (n + 1) => x.2) h
/-- Many levels up. -/
def ups {n : Nat} : (d : Nat) → T n → T (n + d)
  | 0, a => a
  | d + 1, a => up (ups d a)
theorem ups_add {n : Nat} (a b : T n) : (d : Nat) → ups d (a + b) = ups d a + ups d b
  | 0 => rfl
  | d + 1 => by show up (ups d (a + b)) = _; rw [ups_add a b d, up_add]; rfl
theorem z5J {n : Nat} (a b : T n) : (d : Nat) → ups d (a * b) = ups d a * ups d b
  | 0 => rfl
  | d + 1 => by show up (ups d (a * b)) = _; rw [z5J a b d, up_mul]; rfl
theorem z3e {n : Nat} (a : T n) : (d : Nat) → val (ups d a) = val a
  | 0 => rfl
  | d + 1 => by show val (up (ups d a)) = _; rw [val_up, z3e a d]
theorem ups_zero {n : Nat} (d : Nat) : ups d (0 : T n) = 0 := z2y (by rw [z3e, z1q, z1q])
theorem ups_one {n : Nat} (d : Nat) : ups d (1 : T n) = 1 := z2y (by rw [z3e, z2n, z2n])
theorem ups_of {n d x : Nat} (h : x < Q n) : ups d (of n x) = of (n + d) x := z2y (by rw [z3e, z1O _ _ h, z1O _ _ (Nat.lt_of_lt_of_le h (z2z (Nat.le_add_right _ _)))])
/-- Products of numbers of a lower level are of it. -/
theorem z3d {n d x y : Nat} (hx : x < Q n) (hy : y < Q n) : val (of (n + d) x * of (n + d) y) = val (of n x * of n y) := by
  rw [← ups_of hx, ← ups_of hy, ← z5J, z3e]
theorem z2E {l m x y : Nat} (h : l ≤ m) (hx : x < Q l) (hy : y < Q l) : val (of m x * of m y) = val (of l x * of l y) := by
  obtain ⟨d, rfl⟩ := Nat.le.dest h
  exact z3d hx hy
theorem z4Q {l m x y : Nat} (h : l ≤ m) (hx : x < Q l) (hy : y < Q l) : val (of m x * of m y) < Q l := by
  rw [z2E h hx hy]; exact z1a _
end Go.Proofs.Ytngcaphdkgihmaa.Tw
/- What the functions of layers 1 and 2 on elements tell. Own text. -/
namespace Go.Proofs.Ytngcaphdkgihmaa.Sp
open Go.RowKit Go.Proofs.YtngcaphdkgihmaaW.PrintWords Go.Proofs.YtngcaphdkgihmaaW.PrintMore Go.Proofs.Ytngcaphdkgihmaa.P Go.Proofs.Ytngcaphdkgihmaa.Ar Go.Proofs.Ytngcaphdkgihmaa.Tw
set_option linter.unusedVariables false
set_option linter.unusedSimpArgs false
theorem z2Z {n : Nat} (h : n ≤ 6) : Q n ≤ 2 ^ 64 := z2z h
theorem Q_dvd {n : Nat} : Q n = 2 ^ 2 ^ n := rfl
theorem z1G {n : Nat} (h : n ≤ 5) : 2 ^ n ≤ 32 := Nat.pow_le_pow_right (n := 2) (by decide) h
theorem z2V {l : Nat} (h : l + 1 ≤ 1000) : wrap64 (((l + 1 : Nat) : Int) - 1) = (l : Int) := by rw [z2o (by omega) (by omega)]; omega
theorem z3w {n : Nat} (h : n ≤ 5) : Q n < 2 ^ 64 := Nat.pow_lt_pow_right (by decide) (by have := z1G h; omega)
theorem z34 {l : Nat} (hl : l ≤ 5) (x : Nat) (hx : x < 2 ^ 64) : z1b.f ((l + 1 : Nat) : Int) (x : Int) = some (((x / Q l : Nat) : Int), ((x % Q l : Nat) : Int)) := by
  unfold z1b.f
  have h32 := z1G hl
  have hQ := z3w hl
  have hm : IntKind.u64.wrap (((2 ^ 2 ^ l : Nat) : Int) - 1) = ((2 ^ 2 ^ l - 1 : Nat) : Int) := by
    have := Nat.two_pow_pos (2 ^ l)
    unfold Q at hQ
    generalize 2 ^ 2 ^ l = q at *
    rw [z2c (by omega) (by omega)]; omega
  rw [z2V (by omega), if_pos (Int.natCast_nonneg _), z3K l (by omega), if_pos (Int.natCast_nonneg _), z3L x (2 ^ l) (by omega), z2l (2 ^ l) (by omega), hm]
  rw [z1Z x _ hx (by have := Nat.two_pow_pos (2 ^ l); unfold Q at hQ; omega), Nat.and_two_pow_sub_one_eq_mod]
  rfl
theorem z5j {l : Nat} (hl : l ≤ 5) (h x : Nat) (hh : h < Q l) (hx : x < Q l) : z1c.f ((l + 1 : Nat) : Int) (h : Int) (x : Int) = some ((h * Q l + x : Nat) : Int) := by
  unfold z1c.f
  have h32 := z1G hl
  have hQ := z3w hl
  have h6 : Q (l + 1) ≤ 2 ^ 64 := z2Z (by omega)
  have hhx : h * Q l + Q l ≤ Q (l + 1) := by
    rw [z2e]
    have := Nat.mul_le_mul_right (Q l) hh
    rw [Nat.succ_mul] at this; exact this
  have hs : shl .u64 (h : Int) (((2 ^ l : Nat) : Int)) = ((h * Q l : Nat) : Int) := by
    unfold shl
    have h64 : IntKind.u64.bits = 64 := rfl
    rw [h64, Int.toNat_natCast, Nat.min_eq_left (by omega)]
    have hc : ((h : Int) * 2 ^ 2 ^ l) = ((h * Q l : Nat) : Int) := by unfold Q; simp
    rw [hc]
    have : h * Q l < 2 ^ 64 := by omega
    generalize h * Q l = z at *
    exact z2c (by omega) (by omega)
  rw [z2V (by omega), if_pos (by omega), z2l l (by omega), hs, z4y _ _ (by omega) (by omega)]
  congr 2
  unfold Q at *
  rw [Nat.mul_comm, ← Nat.two_pow_add_eq_or_of_lt hx]
theorem z5p : ∀ (l : Nat), l ≤ 6 → ∀ (x : Nat), x < Q l → Ev (fun k => zH.f k (l : Int) (x : Int)) ((val (gen l * of l x) : Nat) : Int) := by
  intro l
  induction l with
  | zero =>
    intro _ x hx
    refine Ev.step (fun k => by rw [zH.f]) (Ev.pos (by rfl) (Ev.ret' ?_))
    rw [z4t, one_mul, z1O 0 x hx]
  | succ l ih =>
    intro hl x hx
    have hx64 : x < 2 ^ 64 := Nat.lt_of_lt_of_le hx (z2Z hl)
    have hd : x / Q l < Q l := Nat.div_lt_of_lt_mul (by rw [← z2e]; exact hx)
    have hm : x % Q l < Q l := Nat.mod_lt _ (z20 l)
    have hQ := z3w (n := l) (by omega)
    refine Ev.step (fun k => by rw [zH.f]) (Ev.neg (by omega) (Ev.bnd0 (z34 (by omega) x hx64) ?_))
    simp only [z2V (show l + 1 ≤ 1000 by omega)]
    refine Ev.bnd (ih (by omega) _ hd) ?_
    have hv := z1a (gen l * of l (x / Q l))
    simp only [z1z _ _ (Nat.lt_trans hm hQ) (Nat.lt_trans hv hQ)]
    refine Ev.bnd0 (z5j (by omega) _ _ (z1T hm hv) hd) (Ev.ret' ?_)
    congr 1
    rw [z1k (gen (l + 1) * of (l + 1) x)]
    congr 1
    · congr 1
      have e : (gen (l + 1) * of (l + 1) x).1 = of l (x % Q l) + gen l * of l (x / Q l) := by
        rw [z1I, z2h, z2i, one_mul, zero_mul, one_mul, add_zero]; rfl
      rw [e, z1r, z1O _ _ hm]
    · have e : (gen (l + 1) * of (l + 1) x).2 = of l (x / Q l) := by
        rw [z1J, z2h, z2i, one_mul, zero_mul, zero_add]; rfl
      rw [e, z1O _ _ hd]
theorem karatsuba {n : Nat} (a1 a0 b1 b0 z : T n) : (a1 + a0) * (b1 + b0) + a1 * b1 + a0 * b0 + z = (a1 * b0 + a0 * b1) + z := by
  have : (a1 + a0) * (b1 + b0) + a1 * b1 + a0 * b0 = a1 * b0 + a0 * b1 := by
    simp only [z36, add_mul]
    have : ∀ p q r s : T n, p + q + (r + s) + p + s = q + r := fun p q r s => by
      rw [add_comm p q, add_assoc, add_assoc, add_assoc]
      rw [show p + (r + s + (p + s)) = (p + p) + (r + (s + s)) by simp only [add_assoc, z1F, add_comm]]
      rw [z1U, z1U, zero_add, add_zero]
    rw [show a1 * b1 + a0 * b1 + (a1 * b0 + a0 * b0) = a1 * b1 + a0 * b1 + (a1 * b0 + a0 * b0) from rfl, this, add_comm]
  rw [this]
theorem z4w : ∀ (l : Nat), l ≤ 6 → ∀ (x y : Nat), x < Q l → y < Q l → Ev (fun k => zu.f k (l : Int) (x : Int) (y : Int)) ((val (of l x * of l y) : Nat) : Int) := by
  intro l
  have hz : ∀ (l : Nat), l ≤ 6 → ∀ (x y : Nat), x < Q l → y < Q l → (l = 0 ∨ x = 0 ∨ y = 0) → Ev (fun k => zu.j0 k (l : Int) (x : Int) (y : Int) true) ((val (of l x * of l y) : Nat) : Int) := by
    intro l hl x y hx hy h
    have hQ := z2Z hl
    refine Ev.step (fun k => by rw [zu.j0]) (Ev.pos rfl (Ev.ret' ?_))
    rw [z1Z x y (by omega) (by omega)]
    have hxy : x &&& y < 2 ^ 64 := Nat.and_lt_two_pow _ (by omega)
    rw [show (1 : Int) = ((1 : Nat) : Int) from rfl, z1Z _ 1 hxy (by decide)]
    congr 1
    rcases h with rfl | rfl | rfl
    · have h1 : x < 2 := hx
      have h2 : y < 2 := hy
      rcases (by omega : x = 0 ∨ x = 1) with rfl | rfl <;> rcases (by omega : y = 0 ∨ y = 1) with rfl | rfl <;> rfl
    · rw [z2j, zero_mul, z1q]; simp
    · rw [z2j, z28, z1q]; simp
  induction l with
  | zero =>
    intro hl x y hx hy
    exact Ev.step (fun k => by rw [zu.f]) (Ev.pos (by rfl) (hz 0 hl x y hx hy (Or.inl rfl)))
  | succ l ih =>
    intro hl x y hx hy
    refine Ev.step (fun k => by rw [zu.f]) (Ev.neg (by omega) ?_)
    by_cases hx0 : x = 0
    · exact Ev.pos (by omega) (hz (l + 1) hl x y hx hy (Or.inr (Or.inl hx0)))
    refine Ev.neg (by omega) ?_
    by_cases hy0 : y = 0
    · rw [show ((y : Int) == 0) = true by simp [hy0]]
      exact hz (l + 1) hl x y hx hy (Or.inr (Or.inr hy0))
    rw [show ((y : Int) == 0) = false by simp [hy0]]
    have hQ := z3w (n := l) (by omega)
    have hx64 : x < 2 ^ 64 := Nat.lt_of_lt_of_le hx (z2Z hl)
    have hy64 : y < 2 ^ 64 := Nat.lt_of_lt_of_le hy (z2Z hl)
    have hxd : x / Q l < Q l := Nat.div_lt_of_lt_mul (by rw [← z2e]; exact hx)
    have hxm : x % Q l < Q l := Nat.mod_lt _ (z20 l)
    have hyd : y / Q l < Q l := Nat.div_lt_of_lt_mul (by rw [← z2e]; exact hy)
    have hym : y % Q l < Q l := Nat.mod_lt _ (z20 l)
    have hl5 : l ≤ 5 := by omega
    refine Ev.step (fun k => by rw [zu.j0]) (Ev.neg (by decide) (Ev.bnd0 (z34 hl5 x hx64) (Ev.bnd0 (z34 hl5 y hy64) ?_)))
    simp only [z2V (show l + 1 ≤ 1000 by omega)]
    refine Ev.bnd (ih (by omega) _ _ hxd hyd) (Ev.bnd (ih (by omega) _ _ hxm hym) ?_)
    simp only [z1z _ _ (Nat.lt_trans hxd hQ) (Nat.lt_trans hxm hQ), z1z _ _ (Nat.lt_trans hyd hQ) (Nat.lt_trans hym hQ)]
    refine Ev.bnd (ih (by omega) _ _ (z1T hxd hxm) (z1T hyd hym)) ?_
    have v1 := z1a (of l (x / Q l) * of l (y / Q l))
    have v2 := z1a (of l (x % Q l) * of l (y % Q l))
    have v3 := z1a (of l (x / Q l ^^^ x % Q l) * of l (y / Q l ^^^ y % Q l))
    refine Ev.bnd (z5p l (by omega) _ v1) ?_
    have v4 := z1a (gen l * of l (val (of l (x / Q l) * of l (y / Q l))))
    simp only [z1z _ _ (Nat.lt_trans v3 hQ) (Nat.lt_trans v1 hQ), z1z _ _ (Nat.lt_trans (z1T v3 v1) hQ) (Nat.lt_trans v2 hQ), z1z _ _ (Nat.lt_trans (z1T (z1T v3 v1) v2) hQ) (Nat.lt_trans v4 hQ), z1z _ _ (Nat.lt_trans v2 hQ) (Nat.lt_trans v1 hQ)]
    refine Ev.bnd0 (z5j (by omega) _ _ (z1T (z1T (z1T v3 v1) v2) v4) (z1T v2 v1)) (Ev.ret' ?_)
    congr 1
    rw [z1k (of (l + 1) x * of (l + 1) y)]
    congr 1
    · congr 1
      rw [z1I, z1K, z1K, z1X, z22, z1X, z22, ← karatsuba, z1r, z1r, z1r, z5r hxd hxm, z5r hyd hym, z1w]
    · rw [z1J, z1K, z1K, z1X, z22, z1X, z22, z1r]
end Go.Proofs.Ytngcaphdkgihmaa.Sp
namespace Go.Proofs.Ytngcaphdkgihmaa.P
open Go.RowKit Go.Proofs.YtngcaphdkgihmaaW.PrintWords Go.Proofs.YtngcaphdkgihmaaW.PrintLast Go.Proofs.YtngcaphdkgihmaaW.PrintMore
attribute [local go_sem] zX zZ z16 z17 zT zU zY z10   -- for this text's walks alone
set_option linter.unusedVariables false
set_option linter.unusedSimpArgs false
def z1m.f (a0_0 : Int) (a0_1 : Int) (a1_0 : Int) (a1_1 : Int) : Option (Int × Int):=some (Go.bits .xor .u64 a0_0 a1_0,Go.bits .xor .u64 a0_1 a1_1)
set_option maxHeartbeats 8000000 in
set_option maxRecDepth 100000 in
theorem z1m.calls (a0_0 : Int) (a0_1 : Int) (a1_0 : Int) (a1_1 : Int) (r1 : Int) (r2 : Int) (w : World) (h : z1m.f a0_0 a0_1 a1_0 a1_1 = some (r1,r2)) :
 Calls Try.prog 74 #[.agg #[.int .u64 a0_0,.int .u64 a0_1],.agg #[.int .u64 a1_0,.int .u64 a1_1]] w fun e w'=>e = .returned (.agg #[.int .u64 r1,.int .u64 r2]) ∧ Below w.heap.size w w':=by
 have hu61:=Try.underlying61
 have HB:=z2.mk (Below.refl w.heap.size w)
 have H : (some (Go.bits .xor .u64 a0_0 a1_0,Go.bits .xor .u64 a0_1 a1_1)) = some (r1,r2):=h
 clear h
 simp only [Option.some.injEq,Prod.mk.injEq] at H
 obtain ⟨rfl,rfl⟩:=H
 go_enter Try.func74,Try.ntmps74
 go_wp2_with (first|((with_reducible refine zG (N:=2) rfl ?_);refine zC ?hg (N:=2) ?hd (cs:=#[.int .u64 a0_0,.int .u64 a0_1]) (t:=61) ?hr ?_;(case hd=>rfl);(case hg=>rfl);(case hr=>first|(go_simp;done)|(go_simp;rfl));intro gb101 hg w3 hbox hb;have n0_:=z2.mk (zd (by repeat (first|(with_reducible first|exact HB.out|apply z7|apply z1|apply z6)|exact HB.out)) hb);have n1_:=z2.mk (hbox);have n2_:=z2.mk ((by rw [hg];exact (ze (by repeat (first|(with_reducible first|exact HB.out|apply z7|apply z1|apply z6)|exact HB.out))) : w.heap.size ≤ gb101));have n3_:=z2.mk ((by rw [hg];exact (ze (by repeat (first|(with_reducible first|exact HB.out|apply z7|apply z1|apply z6)|exact HB.out))) : w.heap.size ≤ gb101));clear HB;have HB:=n0_;have BK101:=n1_;have GW101:=n2_;have GE101:=n3_;clear n0_ n1_ n2_ n3_;clear hb hbox hg)|((with_reducible refine zG (N:=3) rfl ?_);refine zC ?hg (N:=3) ?hd (cs:=#[.int .u64 a1_0,.int .u64 a1_1]) (t:=61) ?hr ?_;(case hd=>rfl);(case hg=>rfl);(case hr=>first|(go_simp;done)|(go_simp;rfl));intro gb102 hg w4 hbox hb;have n0_:=z2.mk (z9 (g:=gb101) (o:=.cells #[.int .u64 a0_0,.int .u64 a0_1] 61 (0,0)) (by (with_reducible repeat (first|refine z4 ?_ _|refine z8 ?_|refine z3 ?_ _));exact BK101.out) hb);have n1_:=z2.mk (zd (by repeat (first|(with_reducible first|exact HB.out|apply z7|apply z1|apply z6|refine z5 ?_ GE101.out)|exact HB.out)) hb);have n2_:=z2.mk (hbox);have n3_:=z2.mk ((by rw [hg];exact (ze (by repeat (first|(with_reducible first|exact HB.out|apply z7|apply z1|apply z6|refine z5 ?_ GE101.out)|exact HB.out))) : w.heap.size ≤ gb102));have n4_:=z2.mk ((by rw [hg];exact (ze (by repeat (first|(with_reducible first|exact HB.out|apply z7|apply z1|apply z6|refine z5 ?_ GE101.out)|exact HB.out))) : w.heap.size ≤ gb102));have n5_:=z2.mk ((by rw [hg];exact Nat.ne_of_lt (zI (g:=gb101) (o:=.cells #[.int .u64 a0_0,.int .u64 a0_1] 61 (0,0)) (by (with_reducible repeat (first|refine z4 ?_ _|refine z8 ?_|refine z3 ?_ _));exact BK101.out)) : gb101 ≠ gb102));have n6_:=z2.mk ((by rw [hg];exact Nat.ne_of_gt (zI (g:=gb101) (o:=.cells #[.int .u64 a0_0,.int .u64 a0_1] 61 (0,0)) (by (with_reducible repeat (first|refine z4 ?_ _|refine z8 ?_|refine z3 ?_ _));exact BK101.out)) : gb102 ≠ gb101));clear BK101;clear HB;have BK101:=n0_;have HB:=n1_;have BK102:=n2_;have GW102:=n3_;have GE102:=n4_;have NB101_102:=n5_;have NB102_101:=n6_;clear n0_ n1_ n2_ n3_ n4_ n5_ n6_;clear hb hbox hg)|((with_reducible refine zG (N:=4) rfl ?_);refine zC ?hg (N:=4) ?hd (cs:=#[.int .u64 0,.int .u64 0]) (t:=61) ?hr ?_;(case hd=>rfl);(case hg=>rfl);(case hr=>first|(go_simp;done)|(go_simp;rfl));intro gb103 hg w5 hbox hb;have n0_:=z2.mk (z9 (g:=gb101) (o:=.cells #[.int .u64 a0_0,.int .u64 a0_1] 61 (0,0)) (by (with_reducible repeat (first|refine z4 ?_ _|refine z8 ?_|refine z3 ?_ _));exact BK101.out) hb);have n1_:=z2.mk (z9 (g:=gb102) (o:=.cells #[.int .u64 a1_0,.int .u64 a1_1] 61 (0,0)) (by (with_reducible repeat (first|refine z4 ?_ _|refine z8 ?_|refine z3 ?_ _));exact BK102.out) hb);have n2_:=z2.mk (zd (by repeat (first|(with_reducible first|exact HB.out|apply z7|apply z1|apply z6|refine z5 ?_ GE101.out|refine z5 ?_ GE102.out)|exact HB.out)) hb);have n3_:=z2.mk (hbox);have n4_:=z2.mk ((by rw [hg];exact (ze (by repeat (first|(with_reducible first|exact HB.out|apply z7|apply z1|apply z6|refine z5 ?_ GE101.out|refine z5 ?_ GE102.out)|exact HB.out))) : w.heap.size ≤ gb103));have n5_:=z2.mk ((by rw [hg];exact (ze (by repeat (first|(with_reducible first|exact HB.out|apply z7|apply z1|apply z6|refine z5 ?_ GE101.out|refine z5 ?_ GE102.out)|exact HB.out))) : w.heap.size ≤ gb103));have n6_:=z2.mk ((by rw [hg];exact Nat.ne_of_lt (zI (g:=gb101) (o:=.cells #[.int .u64 a0_0,.int .u64 a0_1] 61 (0,0)) (by (with_reducible repeat (first|refine z4 ?_ _|refine z8 ?_|refine z3 ?_ _));exact BK101.out)) : gb101 ≠ gb103));have n7_:=z2.mk ((by rw [hg];exact Nat.ne_of_gt (zI (g:=gb101) (o:=.cells #[.int .u64 a0_0,.int .u64 a0_1] 61 (0,0)) (by (with_reducible repeat (first|refine z4 ?_ _|refine z8 ?_|refine z3 ?_ _));exact BK101.out)) : gb103 ≠ gb101));have n8_:=z2.mk ((by rw [hg];exact Nat.ne_of_lt (zI (g:=gb102) (o:=.cells #[.int .u64 a1_0,.int .u64 a1_1] 61 (0,0)) (by (with_reducible repeat (first|refine z4 ?_ _|refine z8 ?_|refine z3 ?_ _));exact BK102.out)) : gb102 ≠ gb103));have n9_:=z2.mk ((by rw [hg];exact Nat.ne_of_gt (zI (g:=gb102) (o:=.cells #[.int .u64 a1_0,.int .u64 a1_1] 61 (0,0)) (by (with_reducible repeat (first|refine z4 ?_ _|refine z8 ?_|refine z3 ?_ _));exact BK102.out)) : gb103 ≠ gb102));clear BK101;clear BK102;clear HB;have BK101:=n0_;have BK102:=n1_;have HB:=n2_;have BK103:=n3_;have GW103:=n4_;have GE103:=n5_;have NB101_103:=n6_;have NB103_101:=n7_;have NB102_103:=n8_;have NB103_102:=n9_;clear n0_ n1_ n2_ n3_ n4_ n5_ n6_ n7_ n8_ n9_;clear hb hbox hg;have hnb6:=NB101_102.out;have hnc6:=NB102_101.out;have hnb7:=NB101_103.out;have hnc7:=NB103_101.out;have hcz8_0 : w5.cell? ⟨gb101,0,none⟩ = some (.int .u64 a0_0):=(za BK101.out 0).trans rfl;have hcz8_1 : w5.cell? ⟨gb101,1,none⟩ = some (.int .u64 a0_1):=(za BK101.out 1).trans rfl;have hfz8_0:=zb BK101.out 0;have hfz8_1:=zb BK101.out 1;have hnb9:=NB102_103.out;have hnc9:=NB103_102.out;have hcz10_0 : w5.cell? ⟨gb102,0,none⟩ = some (.int .u64 a1_0):=(za BK102.out 0).trans rfl;have hcz10_1 : w5.cell? ⟨gb102,1,none⟩ = some (.int .u64 a1_1):=(za BK102.out 1).trans rfl;have hfz10_0:=zb BK102.out 0;have hfz10_1:=zb BK102.out 1;have hcz11_0 : w5.cell? ⟨gb103,0,none⟩ = some (.int .u64 0):=(za BK103.out 0).trans rfl;have hcz11_1 : w5.cell? ⟨gb103,1,none⟩ = some (.int .u64 0):=(za BK103.out 1).trans rfl;have hfz11_0:=zb BK103.out 0;have hfz11_1:=zb BK103.out 1))
 refine bodyPost_ret (results_cell_row rfl _ _ gb103 61 #[.int .u64 (Go.bits .xor .u64 a0_0 a1_0),.int .u64 (Go.bits .xor .u64 a0_1 a1_1)] (0,0) _ rfl (by (with_reducible repeat (first|refine z4 ?_ _|refine z8 ?_|refine z3 ?_ _));refine zQ (cs:=#[.int .u64 (Go.bits .xor .u64 a0_0 a1_0),.int .u64 0]) ?_ 1 _ rfl;(with_reducible repeat (first|refine z4 ?_ _|refine z8 ?_|refine z3 ?_ _));refine zQ (cs:=#[.int .u64 0,.int .u64 0]) ?_ 0 _ rfl;(with_reducible repeat (first|refine z4 ?_ _|refine z8 ?_|refine z3 ?_ _));exact BK103.out) Try.underlying61 rfl (by kernel_rfl)) rfl ?_
 exact ⟨by first|rfl|(simp [zl,zm] <;> rfl)|(simp [*,zl,zm] <;> rfl),by repeat (first|(with_reducible first|exact HB.out|apply z7|apply z1|apply z6|refine z5 ?_ GE101.out|refine z5 ?_ GE102.out|refine z5 ?_ GE103.out)|exact HB.out)⟩
end Go.Proofs.Ytngcaphdkgihmaa.P
/- Elements of the greatest level, as the program and the document hold them: two words. Own text. -/
namespace Go.Proofs.Ytngcaphdkgihmaa.Sp
open Go.RowKit Go.Proofs.YtngcaphdkgihmaaW.PrintWords Go.Proofs.YtngcaphdkgihmaaW.PrintMore Go.Proofs.Ytngcaphdkgihmaa.P Go.Proofs.Ytngcaphdkgihmaa.Ar Go.Proofs.Ytngcaphdkgihmaa.Tw
set_option linter.unusedVariables false
set_option linter.unusedSimpArgs false
abbrev E := T 7
/-- The higher and the lower word. -/
def hi (x : E) : Int := ((val x.1 : Nat) : Int)
def lo (x : E) : Int := ((val x.2 : Nat) : Int)
def el (h l : Int) : E := mk (of 6 h.toNat) (of 6 l.toNat)
theorem hi_el {h l : Int} (h0 : 0 ≤ h) (h1 : h < 18446744073709551616) : hi (el h l) = h := by
  unfold hi el; rw [z1X, z1O 6 _ (by rw [z4J]; omega)]; omega
theorem lo_el {h l : Int} (h0 : 0 ≤ l) (h1 : l < 18446744073709551616) : lo (el h l) = l := by
  unfold lo el; rw [z22, z1O 6 _ (by rw [z4J]; omega)]; omega
theorem z4u {x y : E} (h : hi x = hi y) (l : lo x = lo y) : x = y := by
  unfold hi lo at *; exact ext (z2y (by omega)) (z2y (by omega))
theorem z2v : hi 0 = 0 := by unfold hi; rw [z2W, z1q]; rfl
theorem z2x : lo 0 = 0 := by unfold lo; rw [z2X, z1q]; rfl
theorem hi_one : hi 1 = 0 := by unfold hi; rw [z3F, z1q]; rfl
theorem lo_one : lo 1 = 1 := by unfold lo; rw [z3G, z2n]; rfl
theorem hi_bd (x : E) : 0 ≤ hi x ∧ hi x < 18446744073709551616 := by
  unfold hi; have := z1a x.1; rw [z4J] at this; omega
theorem z5n (x : E) : 0 ≤ lo x ∧ lo x < 18446744073709551616 := by
  unfold lo; have := z1a x.2; rw [z4J] at this; omega
theorem z3u (x : E) : val x = (hi x).toNat * 18446744073709551616 + (lo x).toNat := by
  unfold hi lo; rw [z1k, z4J]; simp
theorem eq_zero_iff (x : E) : x = 0 ↔ hi x = 0 ∧ lo x = 0 := ⟨fun h => by rw [h]; exact ⟨z2v, z2x⟩, fun h => z4u (h.1.trans z2v.symm) (h.2.trans z2x.symm)⟩
theorem xor_hi (x y : E) : Go.bits .xor .u64 (hi x) (hi y) = hi (x + y) := by
  unfold hi; rw [z1z _ _ (z1a x.1) (z1a y.1), z30, z1r]
theorem xor_lo (x y : E) : Go.bits .xor .u64 (lo x) (lo y) = lo (x + y) := by
  unfold lo; rw [z1z _ _ (z1a x.2) (z1a y.2), z3x, z1r]
/-- Of a level. -/
def InL (l : Nat) (x : E) : Prop := val x < Q l
instance (l : Nat) (x : E) : Decidable (InL l x) := by unfold InL; infer_instance
def OfS (L : Int) (x : E) : Prop := 0 ≤ L ∧ L ≤ 7 ∧ InL L.toNat x
instance (L : Int) (x : E) : Decidable (OfS L x) := by unfold OfS; infer_instance
theorem z5h (x : E) : InL 7 x := z1a x
theorem inL_zero (l : Nat) : InL l 0 := by unfold InL; rw [z1q]; exact z20 l
theorem inL_one (l : Nat) : InL l 1 := by unfold InL; rw [z2n]; exact Nat.lt_of_lt_of_le (by decide : 1 < Q 0) (z2z (Nat.zero_le _))
theorem inL_mono {l m : Nat} (h : l ≤ m) {x : E} (hx : InL l x) : InL m x := Nat.lt_of_lt_of_le hx (z2z h)
theorem inL_add {l : Nat} {x y : E} (hx : InL l x) (hy : InL l y) : InL l (x + y) := by
  unfold InL at *; rw [z1r]; exact z1T hx hy
theorem inL_mul {l : Nat} (hl : l ≤ 7) {x y : E} (hx : InL l x) (hy : InL l y) : InL l (x * y) := by
  unfold InL at *; have := z4Q hl hx hy; rwa [z1w, z1w] at this
theorem z5i {x : E} : InL 6 x ↔ hi x = 0 := by
  unfold InL; have h := z3u x; have h1 := hi_bd x; have h2 := z5n x
  rw [z4J, h]; constructor <;> intro g <;> omega
theorem z3B {l : Nat} (hl : l ≤ 6) {x : E} : InL l x ↔ hi x = 0 ∧ (lo x).toNat < Q l := by
  constructor
  · intro h
    have h6 := z5i.1 (inL_mono hl h)
    refine ⟨h6, ?_⟩
    unfold InL at h; rw [z3u, h6] at h; simpa using h
  · rintro ⟨h1, h2⟩
    unfold InL; rw [z3u, h1]; simpa using h2
theorem z4g (L : Int) (x : E) : Ev (fun k => zB.f k L (hi x) (lo x)) (decide (OfS L x)) := by
  unfold zB.f
  by_cases h0 : L < 0
  · refine Ev.pos h0 (Ev.step (fun k => by rw [zB.j0]) (Ev.pos rfl (Ev.ret' ?_)))
    symm; rw [decide_eq_false_iff_not]; rintro ⟨h, _⟩; omega
  refine Ev.neg h0 ?_
  by_cases h7 : L > 7
  · rw [decide_eq_true h7]
    refine Ev.step (fun k => by rw [zB.j0]) (Ev.pos rfl (Ev.ret' ?_))
    symm; rw [decide_eq_false_iff_not]; rintro ⟨_, h, _⟩; omega
  rw [decide_eq_false h7]
  refine Ev.step (fun k => by rw [zB.j0]) (Ev.neg (by decide) ?_)
  obtain ⟨l, rfl⟩ := Int.eq_ofNat_of_zero_le (show 0 ≤ L by omega)
  have hS : OfS (l : Int) x ↔ InL l x := by
    unfold OfS; rw [Int.toNat_natCast]; exact ⟨fun h => h.2.2, fun h => ⟨by omega, by omega, h⟩⟩
  by_cases c7 : (l : Int) = 7
  · refine Ev.pos c7 (Ev.ret' ?_)
    have : l = 7 := by omega
    subst this
    symm; rw [decide_eq_true_eq, hS]; exact z5h x
  refine Ev.neg c7 ?_
  by_cases c6 : (l : Int) = 6
  · refine Ev.pos c6 (Ev.ret' ?_)
    have : l = 6 := by omega
    subst this
    rw [Bool.eq_iff_iff, beq_iff_eq, decide_eq_true_eq, hS]; exact z5i.symm
  refine Ev.neg c6 ?_
  have hl5 : l ≤ 5 := by omega
  have hl := z3B (l := l) (by omega) (x := x)
  by_cases c0 : hi x = 0
  · refine Ev.pos c0 (Ev.pos (Int.natCast_nonneg _) (Ev.ret' ?_))
    have h32 := z1G hl5
    have hlo : lo x = (((lo x).toNat : Nat) : Int) := by have := z5n x; omega
    rw [z2l l (by omega), hlo, z3L _ (2 ^ l) (by omega)]
    rw [Bool.eq_iff_iff, beq_iff_eq, decide_eq_true_eq, hS, hl]
    have hq : (lo x).toNat / 2 ^ 2 ^ l = 0 ↔ (lo x).toNat < Q l := by
      rw [Nat.div_eq_zero_iff]; unfold Q
      have := Nat.two_pow_pos (2 ^ l)
      omega
    constructor
    · intro h; exact ⟨c0, hq.1 (by exact_mod_cast h)⟩
    · rintro ⟨_, h⟩; exact_mod_cast hq.2 h
  · refine Ev.neg c0 (Ev.ret' ?_)
    symm; rw [decide_eq_false_iff_not, hS, hl]; exact fun h => c0 h.1
theorem Add_eq (x y : E) : z1N.f (hi x) (lo x) (hi y) (lo y) = some (hi (x + y), lo (x + y)) := by
  unfold z1N.f; rw [xor_hi, xor_lo]
theorem z5B (x y : E) : z1m.f (hi x) (lo x) (hi y) (lo y) = some (hi (x + y), lo (x + y)) := by
  unfold z1m.f; rw [xor_hi, xor_lo]
theorem One_eq : z1x.f = some (hi 1, lo 1) := by unfold z1x.f; rw [hi_one, lo_one]
theorem Mul_out {L : Int} {x y : E} (h : ¬ (OfS L x ∧ OfS L y)) : Ev (fun k => zO.f k L (hi x) (lo x) (hi y) (lo y)) (0, 0) := by
  unfold zO.f
  refine Ev.bnd (z4g L x) ?_
  by_cases c : OfS L x
  · refine Ev.pos (decide_eq_true c) (Ev.bnd (z4g L y) ?_)
    rw [decide_eq_false (fun g => h ⟨c, g⟩)]
    exact Ev.step (fun k => by rw [zO.j0]) (Ev.pos (by rfl) (Ev.ret _))
  · exact Ev.neg (by simpa using c) (Ev.step (fun k => by rw [zO.j0]) (Ev.pos rfl (Ev.ret _)))
theorem Mul_ev {l : Nat} (hl : l ≤ 7) {x y : E} (hx : InL l x) (hy : InL l y) : Ev (fun k => zO.f k (l : Int) (hi x) (lo x) (hi y) (lo y)) (hi (x * y), lo (x * y)) := by
  unfold zO.f
  have hS : ∀ z, InL l z → OfS (l : Int) z := fun z hz => ⟨by omega, by omega, by rw [Int.toNat_natCast]; exact hz⟩
  refine Ev.bnd (z4g (l : Int) x) (Ev.pos (decide_eq_true (hS x hx)) (Ev.bnd (z4g (l : Int) y) ?_))
  rw [decide_eq_true (hS y hy)]
  refine Ev.step (fun k => by rw [zO.j0]) (Ev.neg (by decide) ?_)
  by_cases c : l ≤ 6
  · refine Ev.pos (by omega) ?_
    have ex := (z3B c).1 hx
    have ey := (z3B c).1 hy
    have e1 : lo x = (((lo x).toNat : Nat) : Int) := by have := z5n x; omega
    have e2 : lo y = (((lo y).toNat : Nat) : Int) := by have := z5n y; omega
    have ev := z4w l c (lo x).toNat (lo y).toNat ex.2 ey.2
    rw [← e1, ← e2] at ev
    refine Ev.bnd ev (Ev.ret' ?_)
    have hz := (z3B c).1 (inL_mul hl hx hy)
    have e3 : lo (x * y) = (((lo (x * y)).toNat : Nat) : Int) := by have := z5n (x * y); omega
    rw [hz.1, e3]
    congr 2
    have vx : val x = (lo x).toNat := by rw [z3u, ex.1]; simp
    have vy : val y = (lo y).toNat := by rw [z3u, ey.1]; simp
    have vz : val (x * y) = (lo (x * y)).toNat := by rw [z3u, hz.1]; simp
    rw [← vz, ← vx, ← vy, ← z2E hl hx hy, z1w, z1w]
  · have : l = 7 := by omega
    subst this
    refine Ev.neg (by decide) ?_
    have v1 := z1a x.1
    have v2 := z1a x.2
    have v3 := z1a y.1
    have v4 := z1a y.2
    have m1 := z4w 6 (by decide) _ _ v1 v3
    have m2 := z4w 6 (by decide) _ _ v2 v4
    have m3 := z4w 6 (by decide) _ _ (z1T v1 v2) (z1T v3 v4)
    rw [z1w, z1w] at m1 m2
    rw [← z1r, ← z1r, z1w, z1w] at m3
    have m4 := z5p 6 (by decide) _ (z1a (x.1 * y.1))
    rw [z1w] at m4
    refine Ev.bnd m1 (Ev.bnd m2 ?_)
    have e1 : Go.bits .xor .u64 (hi x) (lo x) = ((val (x.1 + x.2) : Nat) : Int) := by unfold hi lo; rw [z1z _ _ v1 v2, z1r]
    have e2 : Go.bits .xor .u64 (hi y) (lo y) = ((val (y.1 + y.2) : Nat) : Int) := by unfold hi lo; rw [z1z _ _ v3 v4, z1r]
    simp only [e1, e2]
    refine Ev.bnd m3 (Ev.bnd m4 (Ev.ret' ?_))
    rw [z1z _ _ (z1a _) (z1a _), ← z1r, z1z _ _ (z1a _) (z1a _), ← z1r, z1z _ _ (z1a _) (z1a _), ← z1r, z1z _ _ (z1a _) (z1a _), ← z1r, karatsuba]
    rfl
/-- The program's element, the document's. -/
def toS (x : E) : S51 := ⟨hi x, lo x⟩
def toR (x : E) : S61 := ⟨hi x, lo x⟩
def WfS (e : S51) : Prop := (0 ≤ e.f0 ∧ e.f0 < 18446744073709551616) ∧ (0 ≤ e.f1 ∧ e.f1 < 18446744073709551616)
theorem toS_f0 (x : E) : (toS x).f0 = hi x := rfl
theorem toS_f1 (x : E) : (toS x).f1 = lo x := rfl
theorem toR_f0 (x : E) : (toR x).f0 = hi x := rfl
theorem toR_f1 (x : E) : (toR x).f1 = lo x := rfl
theorem z4F : toS 0 = z51 := by unfold toS; rw [z2v, z2x]; rfl
theorem toR_zero : toR 0 = z61 := by unfold toR; rw [z2v, z2x]; rfl
theorem toS_el (e : S51) (h : WfS e) : toS (el e.f0 e.f1) = e := by unfold toS; rw [hi_el h.1.1 h.1.2, lo_el h.2.1 h.2.2]
theorem toS_inj {x y : E} (h : toS x = toS y) : x = y := by
  unfold toS at h; injection h with h1 h2; exact z4u h1 h2
theorem wf_of {e : S51} (h : (Lit.int .u64 e.f0).wf = true ∧ (Lit.int .u64 e.f1).wf = true) : WfS e := ⟨z4G h.1, z4G h.2⟩
/-- A list that came in is a list of elements. -/
theorem list_of (l : List S51) (h : ∀ e ∈ l, ((Lit.int .u64 e.f0).wf = true) ∧ ((Lit.int .u64 e.f1).wf = true)) : ∃ X : List E, l = X.map toS := by
  refine ⟨l.map fun e => el e.f0 e.f1, ?_⟩
  rw [List.map_map]
  conv => lhs; rw [← List.map_id l]
  apply List.map_congr_left
  intro e he
  exact (toS_el e (wf_of (h e he))).symm
theorem elem_of (e : S51) (h : ((Lit.int .u64 e.f0).wf = true) ∧ ((Lit.int .u64 e.f1).wf = true)) : ∃ x : E, e = toS x := ⟨_, (toS_el e (wf_of h)).symm⟩
theorem rdS (X : List E) (i : Nat) : zt (X.map toS) (i : Int) = toS (X.getD i 0) := by
  unfold zt; rw [Int.toNat_natCast, ← z4F, List.getD_eq_getElem?_getD, List.getD_eq_getElem?_getD, List.getElem?_map]
  cases X[i]? <;> rfl
theorem rdR (X : List E) (i : Nat) : z1B (X.map toR) (i : Int) = toR (X.getD i 0) := by
  unfold z1B; rw [Int.toNat_natCast, ← toR_zero, List.getD_eq_getElem?_getD, List.getD_eq_getElem?_getD, List.getElem?_map]
  cases X[i]? <;> rfl
end Go.Proofs.Ytngcaphdkgihmaa.Sp

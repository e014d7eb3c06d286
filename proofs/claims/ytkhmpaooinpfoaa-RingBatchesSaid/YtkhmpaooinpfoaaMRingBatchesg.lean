/- RingBatches: any parts batched, and their value, or the error; for levels up to 5, up to 40 parts and up to 6 elements. Own text. -/
import Derived.Test.YtkhmpaooinpfoaaRows
import Derived.WalkKit
import Derived.ProofKit
import Derived.OpenShut
import Derived.ShutString
import Derived.ChangeOld
import Derived.Below
import Derived.SizedLaws
import Derived.Carry
import Derived.Test.YtkhmpaooinpfoaaMRingBatchesb
import Derived.Test.YtkhmpaooinpfoaaMRingBatchesc
import Derived.Test.YtkhmpaooinpfoaaMRingBatchesd
import Derived.Test.YtkhmpaooinpfoaaMRingBatchese
import Derived.Test.YtkhmpaooinpfoaaMRingBatchesf
namespace Go.Proofs.Ytkhmpaooinpfoaa.P
open Go.RowKit Go.Proofs.YtkhmpaooinpfoaaW.PrintWords Go.Proofs.YtkhmpaooinpfoaaW.PrintLast Go.Proofs.YtkhmpaooinpfoaaW.PrintMore
attribute [local go_sem] z12 z14 z1i z1j zU zV z13 z15   -- for this text's walks alone
set_option linter.unusedVariables false
set_option linter.unusedSimpArgs false
def z1v.f (k : Nat) (a0 : Int) : Option (Int):=(zz.f k a0).bind fun t101=>(some t101)
theorem z1v.mono : ∀ a0 k,LeO (z1v.f k a0) (z1v.f (k + 1) a0):=by
 intro a0 k
 unfold z1v.f
 repeat' first
  | (with_reducible exact zz.mono _ _)
  | (with_reducible exact LeO.refl _)
  | (with_reducible exact LeO.none _)
  | (with_reducible refine LeO.ite ?_ ?_)
  | (with_reducible refine LeO.bind ?_ (fun _=>?_))
  | exact zz.mono _ _
  | exact LeO.none _
  | refine LeO.ite ?_ ?_
  | refine LeO.bind ?_ (fun _=>?_)
set_option maxHeartbeats 8000000 in
set_option maxRecDepth 100000 in
theorem z1v.calls (k : Nat) (a0 : Int) (r : Int) (w : World) (h : z1v.f k a0 = some r) :
 Calls Try.prog 96 #[.int .i64 a0] w fun e w'=>e = .returned (.int .i64 r) ∧ Drawn0 w w':=by
 have H : ((zz.f k a0).bind fun t101=>(some t101)) = some r:=h
 clear h
 replace H:=Option.bind_eq_some_iff.mp H
 obtain ⟨t101,A20,H⟩:=H
 replace H : (some t101) = some r:=H
 have A2:=z1.mk A20
 clear A20
 obtain rfl:=Option.some.inj H
 go_enter Try.func96,Try.ntmps96
 go_wp2_with (first|((with_reducible refine zi (f:=67) rfl ?_);refine goesL_ (some 4) rfl rfl Try.func67 zz90 rfl #[.int .i64 a0] rfl zz48 ?_;(with_reducible refine (zz.calls k a0 t101 _ A2.out).mono ?_);rintro e w' ⟨rfl,⟨nd,rfl⟩⟩;refine ⟨_,rfl,?_⟩))
 go_ret
 exact ⟨by first|rfl|(simp;done)|(simp [*];done),by repeat (first|exact Drawn0.refl _|apply Drawn0.step)⟩
end Go.Proofs.Ytkhmpaooinpfoaa.P
namespace Go.Proofs.Ytkhmpaooinpfoaa.P
open Go.RowKit Go.Proofs.YtkhmpaooinpfoaaW.PrintWords Go.Proofs.YtkhmpaooinpfoaaW.PrintLast Go.Proofs.YtkhmpaooinpfoaaW.PrintMore
attribute [local go_sem] z12 z14 z1i z1j zU zV z13 z15   -- for this text's walks alone
set_option linter.unusedVariables false
set_option linter.unusedSimpArgs false
def zD.l0 : Nat → Int → List (S40) → Int → Int → Int → Int → Int → Option ((List (S40)))
 | 0,_,_,_,_,_,_,_=>none
 | k + 1,x0,x7,x8,x102000,x102001,x103000,x103001=>(z1v.f k x0).bind fun t103=>(if x8 < t103 then ((zE.f k x102000 x102001 x8).bind fun t105=>(if t105 = true then (if x7.length < 8796093022208 then (zD.l0 k x0 (x7 ++ [(⟨x103000,x103001⟩ : S40)]) (wrap64 (x8 + 1)) x102000 x102001 x103000 x103001) else (none)) else (if x7.length < 8796093022208 then (zD.l0 k x0 (x7 ++ [(⟨0,0⟩ : S40)]) (wrap64 (x8 + 1)) x102000 x102001 x103000 x103001) else (none)))) else (some x7))
def zD.f (k : Nat) (a0 : Int) (a1_0 : Int) (a1_1 : Int) (a2_0 : Int) (a2_1 : Int) : Option ((List (S40))):=zD.l0 k a0 ([] : List (S40)) 0 a1_0 a1_1 a2_0 a2_1
theorem zD.z17 : ∀ k,(∀ y0 y1 y2 y3 y4 y5 y6,LeO (zD.l0 k y0 y1 y2 y3 y4 y5 y6) (zD.l0 (k + 1) y0 y1 y2 y3 y4 y5 y6))
 | 0=>fun _ _ _ _ _ _ _ r h=>by simp [zD.l0] at h
 | k + 1=>by
  have ih0:=zD.z17 k
  · intro y0 y1 y2 y3 y4 y5 y6
    unfold zD.l0
    repeat' first
    | (with_reducible exact ih0 _ _ _ _ _ _ _)
    | (with_reducible exact zE.mono _ _ _ _)
    | (with_reducible exact z1v.mono _ _)
    | (with_reducible exact LeO.refl _)
    | (with_reducible exact LeO.none _)
    | (with_reducible refine LeO.ite ?_ ?_)
    | (with_reducible refine LeO.bind ?_ (fun _=>?_))
    | exact ih0 _ _ _ _ _ _ _
    | exact zE.mono _ _ _ _
    | exact z1v.mono _ _
    | exact LeO.none _
    | refine LeO.ite ?_ ?_
    | refine LeO.bind ?_ (fun _=>?_)
theorem zD.mono : ∀ a0 a1 a2 a3 a4 k,LeO (zD.f k a0 a1 a2 a3 a4) (zD.f (k + 1) a0 a1 a2 a3 a4):=by
 intro a0 a1 a2 a3 a4 k
 have ih0:=zD.z17 k
 unfold zD.f
 repeat' first
  | (with_reducible exact ih0 _ _ _ _ _ _ _)
  | (with_reducible exact zE.mono _ _ _ _)
  | (with_reducible exact z1v.mono _ _)
  | (with_reducible exact LeO.refl _)
  | (with_reducible exact LeO.none _)
  | (with_reducible refine LeO.ite ?_ ?_)
  | (with_reducible refine LeO.bind ?_ (fun _=>?_))
  | exact ih0 _ _ _ _ _ _ _
  | exact zE.mono _ _ _ _
  | exact z1v.mono _ _
  | exact LeO.none _
  | refine LeO.ite ?_ ?_
  | refine LeO.bind ?_ (fun _=>?_)
set_option maxHeartbeats 8000000 in
set_option maxRecDepth 100000 in
theorem zD.calls (k : Nat) (a0 : Int) (a1_0 : Int) (a1_1 : Int) (a2_0 : Int) (a2_1 : Int) (r : List (S40)) (w : World) (h : zD.f k a0 a1_0 a1_1 a2_0 a2_1 = some r) :
 Calls Try.prog 97 #[.int .i64 a0,.agg #[.int .u64 a1_0,.int .u64 a1_1],.agg #[.int .u64 a2_0,.int .u64 a2_1]] w fun e w'=>∃ v0_ : Value,e = .returned (v0_) ∧ Kd.R k40 40 w' w.heap.size (fun _=>True) v0_ r ∧ Below w.heap.size w w':=by
 have hu40:=Try.underlying40
 have HB:=z1.mk (Below.refl w.heap.size w)
 have H : (zD.l0 k a0 ([] : List (S40)) 0 a1_0 a1_1 a2_0 a2_1) = some r:=h
 clear h
 have H':=z1.mk H
 clear H
 go_enter Try.func97,Try.ntmps97
 go_wp2_with (first|((with_reducible refine zp (N:=4) rfl ?_);refine zt ?hg (N:=4) ?hd (cs:=#[.int .u64 a1_0,.int .u64 a1_1]) (t:=40) ?hr ?_;(case hd=>rfl);(case hg=>rfl);(case hr=>first|(go_simp;done)|(go_simp;rfl));intro gb101 hg w4 hbox hb;have n0_:=z1.mk (z3 zz49 hb);have n1_:=z1.mk (hbox);have n2_:=z1.mk ((by rw [hg];exact (zb zz49) : w.heap.size ≤ gb101));have n3_:=z1.mk ((by rw [hg];exact (zb zz49) : w.heap.size ≤ gb101));clear HB;have HB:=n0_;have BK101:=n1_;have GW101:=n2_;have GE101:=n3_;clear n0_ n1_ n2_ n3_;clear hb hbox hg)|((with_reducible refine zp (N:=5) rfl ?_);refine zt ?hg (N:=5) ?hd (cs:=#[.int .u64 a2_0,.int .u64 a2_1]) (t:=40) ?hr ?_;(case hd=>rfl);(case hg=>rfl);(case hr=>first|(go_simp;done)|(go_simp;rfl));intro gb102 hg w5 hbox hb;have n0_:=z1.mk (zc (g:=gb101) (o:=.cells #[.int .u64 a1_0,.int .u64 a1_1] 40 (0,0)) zz50 hb);have n1_:=z1.mk (z3 zz43 hb);have n2_:=z1.mk (hbox);have n3_:=z1.mk ((by rw [hg];exact (zb zz43) : w.heap.size ≤ gb102));have n4_:=z1.mk ((by rw [hg];exact (zb zz43) : w.heap.size ≤ gb102));have n5_:=z1.mk ((by rw [hg];exact Nat.ne_of_lt (zL (g:=gb101) (o:=.cells #[.int .u64 a1_0,.int .u64 a1_1] 40 (0,0)) zz50) : gb101 ≠ gb102));have n6_:=z1.mk ((by rw [hg];exact Nat.ne_of_gt (zL (g:=gb101) (o:=.cells #[.int .u64 a1_0,.int .u64 a1_1] 40 (0,0)) zz50) : gb102 ≠ gb101));clear BK101;clear HB;have BK101:=n0_;have HB:=n1_;have BK102:=n2_;have GW102:=n3_;have GE102:=n4_;have NB101_102:=n5_;have NB102_101:=n6_;clear n0_ n1_ n2_ n3_ n4_ n5_ n6_;clear hb hbox hg))
 go_loopg [7,8] k (fun kq v7 v8 w'=>∃ (x7_1 : List (S40)) (x8_1 : Int),v8 = .int .i64 x8_1 ∧ z1 (zD.l0 kq a0 x7_1 x8_1 a1_0 a1_1 a2_0 a2_1 = some r) ∧ z1 (kq ≤ k) ∧ z1 (Kd.R k40 40 w' w.heap.size (fun k_=>k_ ≠ gb101 ∧ k_ ≠ gb102) v7 x7_1) ∧ z1 (w'.heap[gb101]? = some (.cells #[.int .u64 a1_0,.int .u64 a1_1] 40 (0,0))) ∧ z1 (w'.heap[gb102]? = some (.cells #[.int .u64 a2_0,.int .u64 a2_1] 40 (0,0))) ∧ z1 (Below w.heap.size w w'))
 case atStart=>exact ⟨(([] : List (S40))),(0),zz86,H',⟨Nat.le_refl _⟩,⟨by first|exact Kd.z2W _ _ _ _ _|exact Kd.z3k _ _ _ _ _|exact Kd.z3p _ _ _ _ _|exact Kd.z3m _ _ _ _ _|exact Kd.z3o _ _ _ _ _⟩,⟨by (with_reducible repeat (first|refine z5 ?_ _|refine z8 ?_|refine z4 ?_ _));exact BK101.out⟩,⟨by (with_reducible repeat (first|refine z5 ?_ _|refine z8 ?_|refine z4 ?_ _));exact BK102.out⟩,⟨by repeat (first|(with_reducible first|exact HB.out|apply zd|apply z2|apply z9|refine za ?_ GE101.out|refine za ?_ GE102.out)|exact HB.out)⟩⟩
 case round =>
  clear H'
  (try clear p2)
  obtain ⟨x7_1,x8_1,rfl,HA,HK1,HO_7,BK101,BK102,HB⟩:=hrel
  cases gk with
  | zero=>exact absurd HA.out (by simp [zD.l0])
  | succ k1 =>
   have H:=HA.out
   clear HA
   simp only [zD.l0] at H
   replace H:=Option.bind_eq_some_iff.mp H
   obtain ⟨t103,A60,H⟩:=H
   replace H : (if x8_1 < t103 then ((zE.f k1 a1_0 a1_1 x8_1).bind fun t105=>(if t105 = true then (if x7_1.length < 8796093022208 then (zD.l0 k1 a0 (x7_1 ++ [(⟨a2_0,a2_1⟩ : S40)]) (wrap64 (x8_1 + 1)) a1_0 a1_1 a2_0 a2_1) else (none)) else (if x7_1.length < 8796093022208 then (zD.l0 k1 a0 (x7_1 ++ [(⟨0,0⟩ : S40)]) (wrap64 (x8_1 + 1)) a1_0 a1_1 a2_0 a2_1) else (none)))) else (some x7_1)) = some r:=H
   have A6:=z1.mk A60
   clear A60
   by_cases c7 : x8_1 < t103
   rotate_left
   · rw [if_neg c7] at H
     have c7b0 : decide (x8_1 < t103) = false:=decide_eq_false c7
     clear c7
     obtain rfl:=Option.some.inj H
     go_wp2_with (first|((with_reducible refine zi (f:=96) rfl ?_);refine goesL_ (some 12) rfl rfl Try.func96 zz90 rfl #[.int .i64 a0] rfl zz48 ?_;(with_reducible refine (z1v.calls k1 a0 t103 _ A6.out).mono ?_);rintro e w' ⟨rfl,⟨nd,rfl⟩⟩;refine ⟨_,rfl,?_⟩))
     go_ret
     exact ⟨_,by first|rfl|(simp [zg,zh] <;> rfl)|(simp [*,zg,zh] <;> rfl),by (with_reducible repeat (first|apply Kd.zI|apply Kd.zJ|apply Kd.zT));exact Kd.z18 HO_7.out (fun _ hk=>trivial),by repeat (first|(with_reducible first|exact HB.out|apply zd|apply z2|apply z9|refine za ?_ GE101.out|refine za ?_ GE102.out)|exact HB.out)⟩
   rw [if_pos c7] at H
   have c7b0 : decide (x8_1 < t103) = true:=decide_eq_true c7
   clear c7
   replace H:=Option.bind_eq_some_iff.mp H
   obtain ⟨t105,A80,H⟩:=H
   replace H : (if t105 = true then (if x7_1.length < 8796093022208 then (zD.l0 k1 a0 (x7_1 ++ [(⟨a2_0,a2_1⟩ : S40)]) (wrap64 (x8_1 + 1)) a1_0 a1_1 a2_0 a2_1) else (none)) else (if x7_1.length < 8796093022208 then (zD.l0 k1 a0 (x7_1 ++ [(⟨0,0⟩ : S40)]) (wrap64 (x8_1 + 1)) a1_0 a1_1 a2_0 a2_1) else (none))) = some r:=H
   have A8:=z1.mk A80
   clear A80
   by_cases c9 : t105 = true
   · subst c9
     have H1 : (if x7_1.length < 8796093022208 then (zD.l0 k1 a0 (x7_1 ++ [(⟨a2_0,a2_1⟩ : S40)]) (wrap64 (x8_1 + 1)) a1_0 a1_1 a2_0 a2_1) else (none)) = some r:=by rw [if_pos rfl] at H;exact H
     clear H
     have H:=H1
     clear H1
     by_cases c10 : x7_1.length < 8796093022208
     rotate_left
     · rw [if_neg c10] at H
       exact absurd H zz93
     rw [if_pos c10] at H
     have LMc10:=z1.mk c10
     clear c10
     obtain ⟨y106,hy106⟩ : ∃ y_ : List (S40),y_ = (x7_1 ++ [(⟨a2_0,a2_1⟩ : S40)]):=⟨_,rfl⟩
     replace H : (zD.l0 k1 a0 y106 (wrap64 (x8_1 + 1)) a1_0 a1_1 a2_0 a2_1) = some r:=by first|(rw [hy106];with_reducible exact H)|(have H2_:=(Option.bind_some _ _).symm.trans H;rw [hy106];with_reducible exact H2_)|(have H2_:=(Option.bind_some _ _).symm.trans H;with_reducible exact H2_)|with_reducible exact H|(rw [hy106];exact H)|exact H
     have Ny106:=z1.mk hy106
     clear hy106
     have H':=z1.mk H
     clear H
     go_wp2_with (first|((with_reducible refine zi (f:=96) rfl ?_);refine goesL_ (some 12) rfl rfl Try.func96 zz90 rfl #[.int .i64 a0] rfl zz48 ?_;(with_reducible refine (z1v.calls k1 a0 t103 _ A6.out).mono ?_);rintro e w' ⟨rfl,⟨nd,rfl⟩⟩;refine ⟨_,rfl,?_⟩;(try (rw [z4F wr];generalize hq_ : World.drewN wr _ = wr;have n0_ : z1 (Kd.R k40 40 wr w.heap.size (fun k_=>k_ ≠ gb101 ∧ k_ ≠ gb102) u7 x7_1):=⟨by rw [← hq_];exact zz74⟩;have n1_ : z1 (wr.heap[gb101]? = some (.cells #[.int .u64 a1_0,.int .u64 a1_1] 40 (0,0))):=⟨by rw [← hq_];exact zz50⟩;have n2_ : z1 (wr.heap[gb102]? = some (.cells #[.int .u64 a2_0,.int .u64 a2_1] 40 (0,0))):=⟨by rw [← hq_];exact zz51⟩;have n3_ : z1 (Below w.heap.size w wr):=⟨by rw [← hq_];exact zz36⟩;clear HO_7 BK101 BK102 HB hq_;have HO_7:=n0_;have BK101:=n1_;have BK102:=n2_;have HB:=n3_;clear n0_ n1_ n2_ n3_)))|((with_reducible refine zp (N:=9) rfl ?_);refine zt ?hg (N:=9) ?hd (cs:=#[.int .u64 0,.int .u64 0]) (t:=40) ?hr ?_;(case hd=>rfl);(case hg=>rfl);(case hr=>first|(go_simp;done)|(go_simp;rfl));intro gb104 hg w11 hbox hb;have n0_:=z1.mk (Kd.zq (Kd.z1w zz74 gb104 (Nat.le_of_eq hg.symm)) hb);have n1_:=z1.mk (zc (g:=gb101) (o:=.cells #[.int .u64 a1_0,.int .u64 a1_1] 40 (0,0)) zz50 hb);have n2_:=z1.mk (zc (g:=gb102) (o:=.cells #[.int .u64 a2_0,.int .u64 a2_1] 40 (0,0)) zz51 hb);have n3_:=z1.mk (z3 zz36 hb);have n4_:=z1.mk (hbox);have n5_:=z1.mk ((by rw [hg];exact (zb zz36) : w.heap.size ≤ gb104));have n6_:=z1.mk ((by rw [hg];exact (zb zz36) : w.heap.size ≤ gb104));have n7_:=z1.mk ((by rw [hg];exact Nat.ne_of_lt (zL (g:=gb101) (o:=.cells #[.int .u64 a1_0,.int .u64 a1_1] 40 (0,0)) zz50) : gb101 ≠ gb104));have n8_:=z1.mk ((by rw [hg];exact Nat.ne_of_gt (zL (g:=gb101) (o:=.cells #[.int .u64 a1_0,.int .u64 a1_1] 40 (0,0)) zz50) : gb104 ≠ gb101));have n9_:=z1.mk ((by rw [hg];exact Nat.ne_of_lt (zL (g:=gb102) (o:=.cells #[.int .u64 a2_0,.int .u64 a2_1] 40 (0,0)) zz51) : gb102 ≠ gb104));have n10_:=z1.mk ((by rw [hg];exact Nat.ne_of_gt (zL (g:=gb102) (o:=.cells #[.int .u64 a2_0,.int .u64 a2_1] 40 (0,0)) zz51) : gb104 ≠ gb102));clear HO_7;clear BK101;clear BK102;clear HB;have HO_7:=n0_;have BK101:=n1_;have BK102:=n2_;have HB:=n3_;have BK104:=n4_;have GW104:=n5_;have GE104:=n6_;have NB101_104:=n7_;have NB104_101:=n8_;have NB102_104:=n9_;have NB104_102:=n10_;clear n0_ n1_ n2_ n3_ n4_ n5_ n6_ n7_ n8_ n9_ n10_;clear hb hbox hg;have hnb12:=NB101_102.out;have hnc12:=NB102_101.out;have hnb13:=NB101_104.out;have hnc13:=NB104_101.out;have hcz14_0 : w11.cell? ⟨gb101,0,none⟩ = some (.int .u64 a1_0):=(z7 BK101.out 0).trans rfl;have hcz14_1 : w11.cell? ⟨gb101,1,none⟩ = some (.int .u64 a1_1):=(z7 BK101.out 1).trans rfl;have hfz14_0:=z6 BK101.out 0;have hfz14_1:=z6 BK101.out 1)|((with_reducible refine zi (f:=104) rfl ?_);refine goesL_ (some 18) rfl rfl Try.func104 zz90 rfl #[.agg #[.int .u64 a1_0,.int .u64 a1_1],.int .i64 x8_1] rfl zz48 ?_;(with_reducible refine (zE.calls k1 a1_0 a1_1 x8_1 true _ A8.out).mono ?_);rintro e w15 ⟨rfl,hb⟩;refine ⟨_,rfl,?_⟩;have n0_:=z1.mk (Kd.zq zz74 hb);have n1_:=z1.mk (zc (g:=gb101) (o:=.cells #[.int .u64 a1_0,.int .u64 a1_1] 40 (0,0)) zz50 hb);have n2_:=z1.mk (zc (g:=gb102) (o:=.cells #[.int .u64 a2_0,.int .u64 a2_1] 40 (0,0)) zz51 hb);have n3_:=z1.mk (zc (g:=gb104) (o:=.cells #[.int .u64 0,.int .u64 0] 40 (0,0)) zz57 hb);have n4_:=z1.mk (z3 zz34 hb);clear HO_7;clear BK101;clear BK102;clear BK104;clear HB;have HO_7:=n0_;have BK101:=n1_;have BK102:=n2_;have BK104:=n3_;have HB:=n4_;clear n0_ n1_ n2_ n3_ n4_;(try clear hb);(try clear hb2);(try clear hk);(try clear hi);have hnb16:=NB102_104.out;have hnc16:=NB104_102.out;have hcz17_0 : w15.cell? ⟨gb102,0,none⟩ = some (.int .u64 a2_0):=(z7 BK102.out 0).trans rfl;have hcz17_1 : w15.cell? ⟨gb102,1,none⟩ = some (.int .u64 a2_1):=(z7 BK102.out 1).trans rfl;have hfz17_0:=z6 BK102.out 0;have hfz17_1:=z6 BK102.out 1;have hcz18_0 : w15.cell? ⟨gb104,0,none⟩ = some (.int .u64 0):=(z7 BK104.out 0).trans rfl;have hcz18_1 : w15.cell? ⟨gb104,1,none⟩ = some (.int .u64 0):=(z7 BK104.out 1).trans rfl;have hfz18_0:=z6 BK104.out 0;have hfz18_1:=z6 BK104.out 1)|((with_reducible refine z2f (b:=.append) (xs:=#[.tmp 20,.tmp 22]) rfl ?_);at_builtin;refine Kd.z3n k40 (w0:=w) w.heap.size rfl (.tmp 20) (.tmp 22) 36 40 (.agg #[(.int .u64 0),(.int .u64 0)]) 16 rfl Try.underlying36 info40 rfl zz91 zz92 u7 x7_1 (⟨a2_0,a2_1⟩ : S40) [.int .u64 a2_0,.int .u64 a2_1] (fun k_=>k_ ≠ gb101 ∧ k_ ≠ gb102 ∧ k_ ≠ gb104) (fun _=>False) rfl zz87 ?aP (fun _ hk=>hk.elim) ?aF ?aO ?aB ?aS ?aL ?_;(case aP=>exact z4W _ _ _ (⟨a2_0,a2_1⟩ : S40));(case aB=>exact zz34);(case aF=>exact (fun k_ hk=>⟨Kd.freshB (g:=gb101) (o:=.cells #[.int .u64 a1_0,.int .u64 a1_1] 40 (0,0)) zz15 k_ hk,Kd.freshB (g:=gb102) (o:=.cells #[.int .u64 a2_0,.int .u64 a2_1] 40 (0,0)) zz16 k_ hk,Kd.freshB (g:=gb104) (o:=.cells #[.int .u64 a2_0,.int .u64 a2_1] 40 (0,0)) zz7 k_ hk⟩));(case aO=>exact (by (with_reducible repeat (first|apply Kd.zI|apply Kd.zJ|apply Kd.zT));exact Kd.z18 (Kd.z1M (p:=⟨gb104,1,none⟩) (Kd.z1M (p:=⟨gb104,0,none⟩) (Kd.z18 HO_7.out (fun k_ hk=>(⟨hk,hk.2⟩ : _ ∧ k_ ≠ gb104))) (fun _ hk=>hk.2) (.int .u64 a2_0)) (fun _ hk=>hk.2) (.int .u64 a2_1)) (fun _ hk=>⟨hk.1.1.1,⟨hk.1.1.2,hk.1.2⟩⟩)));(case aS=>exact (zb zz34));(case aL=>have:=LMc10.out;omega);intro v107 w19 ho hb hg hat;rw [← Ny106.out] at ho;have n0_:=z1.mk (z1U (g:=gb101) (o:=.cells #[.int .u64 a1_0,.int .u64 a1_1] 40 (0,0)) zz15 hg (Kd.z2e HO_7.out (fun _ hk=>hk.1.1)));have n1_:=z1.mk (z1U (g:=gb102) (o:=.cells #[.int .u64 a2_0,.int .u64 a2_1] 40 (0,0)) zz16 hg (Kd.z2e HO_7.out (fun _ hk=>hk.1.2)));have n2_:=z1.mk (z1U (g:=gb104) (o:=.cells #[.int .u64 a2_0,.int .u64 a2_1] 40 (0,0)) zz7 hg (Kd.z2e HO_7.out (fun _ hk=>hk.2)));have n3_:=z1.mk (hb);have n4_:=z1.mk (ho);clear BK101;clear BK102;clear BK104;clear HB;clear HO_7;have BK101:=n0_;have BK102:=n1_;have BK104:=n2_;have HB:=n3_;have HO108:=n4_;clear n0_ n1_ n2_ n3_ n4_;clear ho hb hg hat))
     go_roundg k1
     case measure=>have:=HK1.out;omega
     case rel=>exact ⟨(y106),(wrap64 (x8_1 + 1)),zz86,H',⟨by have:=HK1.out;omega⟩,⟨by (with_reducible repeat (first|apply Kd.zI|apply Kd.zJ|apply Kd.zT));exact Kd.z18 HO108.out (fun _ hk=>⟨hk.1,hk.2.1⟩)⟩,⟨by (with_reducible repeat (first|refine z5 ?_ _|refine z8 ?_|refine z4 ?_ _));exact BK101.out⟩,⟨by (with_reducible repeat (first|refine z5 ?_ _|refine z8 ?_|refine z4 ?_ _));exact BK102.out⟩,⟨by repeat (first|(with_reducible first|exact HB.out|apply zd|apply z2|apply z9|refine za ?_ GE101.out|refine za ?_ GE102.out|refine za ?_ GE104.out)|exact HB.out)⟩⟩
   replace c9:=Bool.eq_false_iff.mpr c9
   subst c9
   have H1 : (if x7_1.length < 8796093022208 then (zD.l0 k1 a0 (x7_1 ++ [(⟨0,0⟩ : S40)]) (wrap64 (x8_1 + 1)) a1_0 a1_1 a2_0 a2_1) else (none)) = some r:=by rw [if_neg (show ¬ (false = true) by decide)] at H;exact H
   clear H
   have H:=H1
   clear H1
   by_cases c20 : x7_1.length < 8796093022208
   rotate_left
   · rw [if_neg c20] at H
     exact absurd H zz93
   rw [if_pos c20] at H
   have LMc20:=z1.mk c20
   clear c20
   obtain ⟨y109,hy109⟩ : ∃ y_ : List (S40),y_ = (x7_1 ++ [(⟨0,0⟩ : S40)]):=⟨_,rfl⟩
   replace H : (zD.l0 k1 a0 y109 (wrap64 (x8_1 + 1)) a1_0 a1_1 a2_0 a2_1) = some r:=by first|(rw [hy109];with_reducible exact H)|(have H2_:=(Option.bind_some _ _).symm.trans H;rw [hy109];with_reducible exact H2_)|(have H2_:=(Option.bind_some _ _).symm.trans H;with_reducible exact H2_)|with_reducible exact H|(rw [hy109];exact H)|exact H
   have Ny109:=z1.mk hy109
   clear hy109
   have H':=z1.mk H
   clear H
   go_wp2_with (first|((with_reducible refine zi (f:=96) rfl ?_);refine goesL_ (some 12) rfl rfl Try.func96 zz90 rfl #[.int .i64 a0] rfl zz48 ?_;(with_reducible refine (z1v.calls k1 a0 t103 _ A6.out).mono ?_);rintro e w' ⟨rfl,⟨nd,rfl⟩⟩;refine ⟨_,rfl,?_⟩)|((with_reducible refine zp (N:=9) rfl ?_);refine zt ?hg (N:=9) ?hd (cs:=#[.int .u64 0,.int .u64 0]) (t:=40) ?hr ?_;(case hd=>rfl);(case hg=>rfl);(case hr=>first|(go_simp;done)|(go_simp;rfl));intro gb104 hg w21 hbox hb;have n0_:=z1.mk (Kd.zq (Kd.z1w zz74 gb104 (Nat.le_of_eq hg.symm)) hb);have n1_:=z1.mk (zc (g:=gb101) (o:=.cells #[.int .u64 a1_0,.int .u64 a1_1] 40 (0,0)) zz50 hb);have n2_:=z1.mk (zc (g:=gb102) (o:=.cells #[.int .u64 a2_0,.int .u64 a2_1] 40 (0,0)) zz51 hb);have n3_:=z1.mk (z3 zz36 hb);have n4_:=z1.mk (hbox);have n5_:=z1.mk ((by rw [hg];exact (zb zz36) : w.heap.size ≤ gb104));have n6_:=z1.mk ((by rw [hg];exact (zb zz36) : w.heap.size ≤ gb104));have n7_:=z1.mk ((by rw [hg];exact Nat.ne_of_lt (zL (g:=gb101) (o:=.cells #[.int .u64 a1_0,.int .u64 a1_1] 40 (0,0)) zz50) : gb101 ≠ gb104));have n8_:=z1.mk ((by rw [hg];exact Nat.ne_of_gt (zL (g:=gb101) (o:=.cells #[.int .u64 a1_0,.int .u64 a1_1] 40 (0,0)) zz50) : gb104 ≠ gb101));have n9_:=z1.mk ((by rw [hg];exact Nat.ne_of_lt (zL (g:=gb102) (o:=.cells #[.int .u64 a2_0,.int .u64 a2_1] 40 (0,0)) zz51) : gb102 ≠ gb104));have n10_:=z1.mk ((by rw [hg];exact Nat.ne_of_gt (zL (g:=gb102) (o:=.cells #[.int .u64 a2_0,.int .u64 a2_1] 40 (0,0)) zz51) : gb104 ≠ gb102));clear HO_7;clear BK101;clear BK102;clear HB;have HO_7:=n0_;have BK101:=n1_;have BK102:=n2_;have HB:=n3_;have BK104:=n4_;have GW104:=n5_;have GE104:=n6_;have NB101_104:=n7_;have NB104_101:=n8_;have NB102_104:=n9_;have NB104_102:=n10_;clear n0_ n1_ n2_ n3_ n4_ n5_ n6_ n7_ n8_ n9_ n10_;clear hb hbox hg;have hnb22:=NB101_102.out;have hnc22:=NB102_101.out;have hnb23:=NB101_104.out;have hnc23:=NB104_101.out;have hcz24_0 : w21.cell? ⟨gb101,0,none⟩ = some (.int .u64 a1_0):=(z7 BK101.out 0).trans rfl;have hcz24_1 : w21.cell? ⟨gb101,1,none⟩ = some (.int .u64 a1_1):=(z7 BK101.out 1).trans rfl;have hfz24_0:=z6 BK101.out 0;have hfz24_1:=z6 BK101.out 1)|((with_reducible refine zi (f:=104) rfl ?_);refine goesL_ (some 18) rfl rfl Try.func104 zz90 rfl #[.agg #[.int .u64 a1_0,.int .u64 a1_1],.int .i64 x8_1] rfl zz48 ?_;(with_reducible refine (zE.calls k1 a1_0 a1_1 x8_1 false _ A8.out).mono ?_);rintro e w25 ⟨rfl,hb⟩;refine ⟨_,rfl,?_⟩;have n0_:=z1.mk (Kd.zq zz74 hb);have n1_:=z1.mk (zc (g:=gb101) (o:=.cells #[.int .u64 a1_0,.int .u64 a1_1] 40 (0,0)) zz50 hb);have n2_:=z1.mk (zc (g:=gb102) (o:=.cells #[.int .u64 a2_0,.int .u64 a2_1] 40 (0,0)) zz51 hb);have n3_:=z1.mk (zc (g:=gb104) (o:=.cells #[.int .u64 0,.int .u64 0] 40 (0,0)) zz57 hb);have n4_:=z1.mk (z3 zz34 hb);clear HO_7;clear BK101;clear BK102;clear BK104;clear HB;have HO_7:=n0_;have BK101:=n1_;have BK102:=n2_;have BK104:=n3_;have HB:=n4_;clear n0_ n1_ n2_ n3_ n4_;(try clear hb);(try clear hb2);(try clear hk);(try clear hi);have hnb26:=NB104_102.out;have hnc26:=NB102_104.out;have hcz27_0 : w25.cell? ⟨gb104,0,none⟩ = some (.int .u64 0):=(z7 BK104.out 0).trans rfl;have hcz27_1 : w25.cell? ⟨gb104,1,none⟩ = some (.int .u64 0):=(z7 BK104.out 1).trans rfl;have hfz27_0:=z6 BK104.out 0;have hfz27_1:=z6 BK104.out 1)|((with_reducible refine z2f (b:=.append) (xs:=#[.tmp 20,.tmp 22]) rfl ?_);at_builtin;refine Kd.z3n k40 (w0:=w) w.heap.size rfl (.tmp 20) (.tmp 22) 36 40 (.agg #[(.int .u64 0),(.int .u64 0)]) 16 rfl Try.underlying36 info40 rfl zz91 zz92 u7 x7_1 (⟨0,0⟩ : S40) [.int .u64 0,.int .u64 0] (fun k_=>k_ ≠ gb101 ∧ k_ ≠ gb102 ∧ k_ ≠ gb104) (fun _=>False) rfl rfl ?aP (fun _ hk=>hk.elim) ?aF ?aO ?aB ?aS ?aL ?_;(case aP=>exact z4W _ _ _ (⟨0,0⟩ : S40));(case aB=>exact zz34);(case aF=>exact (fun k_ hk=>⟨Kd.freshB (g:=gb101) (o:=.cells #[.int .u64 a1_0,.int .u64 a1_1] 40 (0,0)) zz50 k_ hk,Kd.freshB (g:=gb102) (o:=.cells #[.int .u64 a2_0,.int .u64 a2_1] 40 (0,0)) zz51 k_ hk,Kd.freshB (g:=gb104) (o:=.cells #[.int .u64 0,.int .u64 0] 40 (0,0)) zz57 k_ hk⟩));(case aO=>exact (by (with_reducible repeat (first|apply Kd.zI|apply Kd.zJ|apply Kd.zT));exact Kd.z18 HO_7.out (fun _ hk=>⟨hk.1.1,⟨hk.1.2,hk.2⟩⟩)));(case aS=>exact (zb zz34));(case aL=>have:=LMc20.out;omega);intro v110 w28 ho hb hg hat;rw [← Ny109.out] at ho;have n0_:=z1.mk (z1U (g:=gb101) (o:=.cells #[.int .u64 a1_0,.int .u64 a1_1] 40 (0,0)) zz50 hg (Kd.z2e HO_7.out (fun _ hk=>hk.1.1)));have n1_:=z1.mk (z1U (g:=gb102) (o:=.cells #[.int .u64 a2_0,.int .u64 a2_1] 40 (0,0)) zz51 hg (Kd.z2e HO_7.out (fun _ hk=>hk.1.2)));have n2_:=z1.mk (z1U (g:=gb104) (o:=.cells #[.int .u64 0,.int .u64 0] 40 (0,0)) zz57 hg (Kd.z2e HO_7.out (fun _ hk=>hk.2)));have n3_:=z1.mk (hb);have n4_:=z1.mk (ho);clear BK101;clear BK102;clear BK104;clear HB;clear HO_7;have BK101:=n0_;have BK102:=n1_;have BK104:=n2_;have HB:=n3_;have HO111:=n4_;clear n0_ n1_ n2_ n3_ n4_;clear ho hb hg hat))
   go_roundg k1
   case measure=>have:=HK1.out;omega
   case rel=>exact ⟨(y109),(wrap64 (x8_1 + 1)),zz86,H',⟨by have:=HK1.out;omega⟩,⟨by (with_reducible repeat (first|apply Kd.zI|apply Kd.zJ|apply Kd.zT));exact Kd.z18 HO111.out (fun _ hk=>⟨hk.1,hk.2.1⟩)⟩,⟨by (with_reducible repeat (first|refine z5 ?_ _|refine z8 ?_|refine z4 ?_ _));exact BK101.out⟩,⟨by (with_reducible repeat (first|refine z5 ?_ _|refine z8 ?_|refine z4 ?_ _));exact BK102.out⟩,⟨by repeat (first|(with_reducible first|exact HB.out|apply zd|apply z2|apply z9|refine za ?_ GE101.out|refine za ?_ GE102.out|refine za ?_ GE104.out)|exact HB.out)⟩⟩
end Go.Proofs.Ytkhmpaooinpfoaa.P
/- Pairs of elements: what is on the left, on the right, and the document's pairs. Own text. -/
namespace Go.Proofs.Ytkhmpaooinpfoaa.Sp
open Go.RowKit Go.Proofs.YtkhmpaooinpfoaaW.PrintWords Go.Proofs.YtkhmpaooinpfoaaW.PrintMore Go.Proofs.Ytkhmpaooinpfoaa.P Go.Proofs.Ytkhmpaooinpfoaa.Ar Go.Proofs.Ytkhmpaooinpfoaa.Tw
set_option linter.unusedVariables false
/-- The pair of x and y: y beside each bit that x has. -/
def pick (b : Bool) (y : E) : E := if b then y else 0
theorem z1D (y : E) : pick true y = y := if_pos rfl
theorem z1s (y : E) : pick false y = 0 := if_neg Bool.false_ne_true
def pairX (n : Nat) (x y : E) : List E := (List.range n).map fun i => pick ((val x).testBit i) y
theorem z2a (n : Nat) (x y : E) : (pairX n x y).length = n := by simp [pairX]
theorem z2M {α : Type} (f : Nat → α) (d : α) (n i : Nat) (h : i < n) : ((List.range n).map f).getD i d = f i := by
  rw [List.getD_eq_getElem?_getD, List.getElem?_map, List.getElem?_range h]; rfl
theorem z5D {α : Type} (f : Nat → α) (n : Nat) : (List.range (n + 1)).map f = (List.range n).map f ++ [f n] := by
  rw [List.range_succ, List.map_append]; rfl
theorem z6k (n : Nat) (x y : E) (i : Nat) (h : i < n) : (pairX n x y).getD i 0 = pick ((val x).testBit i) y := z2M (fun i => pick ((val x).testBit i) y) 0 n i h
theorem z4G (n : Nat) (x y : E) : pairX (n + 1) x y = pairX n x y ++ [pick ((val x).testBit n) y] := z5D _ n
theorem w128 {l : Nat} (hl : l ≤ 7) : 2 ^ l ≤ 128 := Nat.pow_le_pow_right (n := 2) (by decide) hl
theorem z7c {l : Nat} (hl : l ≤ 7) : Ev (fun k => z1u.f k (l : Int)) ((2 ^ l : Nat) : Int) := by
  obtain ⟨v, hv, ev⟩ := z5M (L := (l : Int)) ⟨by omega, by omega⟩
  unfold z1u.f
  refine Ev.bnd ev (Ev.neg hv (Ev.pos (Int.natCast_nonneg _) (Ev.ret' ?_)))
  exact z3I l (by omega)
theorem size_out {L : Int} (h : ¬ LvS L) : Ev (fun k => z1u.f k L) 0 := by
  unfold z1u.f
  exact Ev.bnd (z57 h) (Ev.pos rfl (Ev.ret _))
theorem lv_of {L : Int} {x : E} (h : OfS L x) : LvS L := ⟨h.1, h.2.1⟩
theorem left_l0 (x : E) (n : Nat) (hn : n ≤ 128) : ∀ (d i : Nat), i + d = n → Ev (fun k => z11.l0 k ((pairX i x 1 ++ List.replicate (n - i) 0).map toS) (bitsL x n) (n : Int) (i : Int)) ((pairX n x 1).map toS) := by
  intro d
  induction d with
  | zero =>
    intro i hid
    have : i = n := by omega
    subst this
    rw [Nat.sub_self, List.replicate_zero, List.append_nil]
    exact Ev.step (fun k => by rw [z11.l0]) (Ev.neg (by omega) (Ev.ret _))
  | succ d ih =>
    intro i hid
    have hi' : i < n := by omega
    have hih := ih (i + 1) (by omega)
    have hlb : (bitsL x n).length = n := by unfold bitsL; simp
    have hb : (bitsL x n).getD i false = (val x).testBit i := z2M _ false n i hi'
    have hp := z4G i x 1
    have hr : List.replicate (n - i) (0 : E) = 0 :: List.replicate (n - (i + 1)) 0 := by rw [show n - i = (n - (i + 1)) + 1 by omega, List.replicate_succ]
    have c3 : (i : Int) < (((pairX i x 1 ++ List.replicate (n - i) (0 : E)).map toS).length : Int) := by
      rw [List.length_map, List.length_append, z2a, List.length_replicate]; omega
    refine Ev.step (fun k => by rw [z11.l0]) (Ev.pos (by omega) (Ev.pos (Int.natCast_nonneg _) (Ev.pos (by rw [hlb]; omega) ?_)))
    simp only [z77, hb, z1O hi' (show n ≤ 4611686018427387904 by omega)]
    cases c : (val x).testBit i with
    | true =>
      refine Ev.pos rfl (Ev.bnd0 z6u (Ev.pos c3 ?_))
      have e : ((pairX i x 1 ++ List.replicate (n - i) (0 : E)).map toS).set (i : Int).toNat (⟨hi 1, lo 1⟩ : S30) = (pairX (i + 1) x 1 ++ List.replicate (n - (i + 1)) 0).map toS := by
        have : (⟨hi 1, lo 1⟩ : S30) = toS 1 := rfl
        rw [Int.toNat_natCast, this, ← List.map_set, hr, hp, c, z1D, List.append_assoc]
        congr 1
        rw [List.set_append_right _ _ (by rw [z2a]; exact Nat.le_refl _), z2a, Nat.sub_self, List.set_cons_zero]; rfl
      rw [e]; exact hih
    | false =>
      refine Ev.neg (by decide) ?_
      rw [hp, c, z1s, List.append_assoc] at hih
      rw [hr]; exact hih
theorem z3W (n : Nat) : List.replicate n z30 = (List.replicate n (0 : E)).map toS := by rw [List.map_replicate, z69]
/-- What stands on the left: x beside 1. -/
def leftO (L : Int) (x : E) : List E := if OfS L x then pairX (2 ^ L.toNat) x 1 else []
def rightO (L : Int) (x : E) : List E := if OfS L x then pairX (2 ^ L.toNat) 1 x else []
theorem Left_ev (L : Int) (x : E) : Ev (fun k => z11.f k L (hi x) (lo x)) ((leftO L x).map toS) := by
  unfold z11.f
  refine Ev.bnd (z4b L x) ?_
  by_cases c : OfS L x
  · obtain ⟨l, rfl⟩ := Int.eq_ofNat_of_zero_le c.1
    have hl : l ≤ 7 := by have := c.2.1; omega
    have h128 := w128 hl
    have e : leftO (l : Int) x = pairX (2 ^ l) x 1 := by unfold leftO; rw [if_pos c, Int.toNat_natCast]
    rw [e]
    have c128 : (((2 ^ l : Nat) : Int)).toNat ≤ 17592186044416 := by rw [Int.toNat_natCast]; exact Nat.le_trans h128 (by decide)
    refine Ev.pos (decide_eq_true c) ?_
    refine Ev.bnd (z7c hl) ?_
    refine Ev.pos (Int.natCast_nonneg _) ?_
    refine Ev.pos c128 ?_
    refine Ev.bnd (z3P hl x c) ?_
    have hlb : (bitsL x (2 ^ l)).length = 2 ^ l := by unfold bitsL; simp
    rw [hlb, z3W, Int.toNat_natCast]
    exact left_l0 x (2 ^ l) h128 (2 ^ l) 0 (Nat.zero_add _)
  · have e : leftO L x = [] := if_neg c
    rw [e]
    exact Ev.neg (by simpa using c) (Ev.ret _)
theorem One_ev (L : Int) : Ev (fun k => z2r.f k L) ((leftO L 1).map toS) := by
  unfold z2r.f
  exact Ev.bnd0 z6u (Ev.bnd (Left_ev L 1) (Ev.ret _))
theorem one_bit (i : Nat) : (val (1 : E)).testBit i = decide (i = 0) := by
  rw [z2R, show (1 : Nat) = 2 ^ 0 from rfl, Nat.testBit_two_pow]
  simp [eq_comm]
theorem z73 (n : Nat) (x : E) (hn : 0 < n) : pairX n 1 x = (List.replicate n (0 : E)).set 0 x := by
  apply List.ext_getElem
  · rw [z2a]; simp
  · intro i h1 h2
    rw [z2a] at h1
    have e1 : (pairX n 1 x)[i] = (pairX n 1 x).getD i 0 := by rw [List.getD_eq_getElem?_getD, List.getElem?_eq_getElem (by rw [z2a]; exact h1)]; rfl
    rw [e1, z6k n 1 x i h1, one_bit, List.getElem_set]
    by_cases c : i = 0
    · subst c; simp [z1D]
    · rw [decide_eq_false c, z1s, if_neg (fun h => c h.symm), List.getElem_replicate]
theorem Right_ev (L : Int) (x : E) : Ev (fun k => z29.f k L (hi x) (lo x)) ((rightO L x).map toS) := by
  unfold z29.f
  refine Ev.bnd (z4b L x) ?_
  by_cases c : OfS L x
  · obtain ⟨l, rfl⟩ := Int.eq_ofNat_of_zero_le c.1
    have hl : l ≤ 7 := by have := c.2.1; omega
    have h128 := w128 hl
    have h0 := Nat.two_pow_pos l
    have e : rightO (l : Int) x = pairX (2 ^ l) 1 x := by unfold rightO; rw [if_pos c, Int.toNat_natCast]
    rw [e, z73 _ _ h0]
    have c128 : (((2 ^ l : Nat) : Int)).toNat ≤ 17592186044416 := by rw [Int.toNat_natCast]; exact Nat.le_trans h128 (by decide)
    refine Ev.pos (decide_eq_true c) ?_
    refine Ev.bnd (z7c hl) ?_
    refine Ev.pos (Int.natCast_nonneg _) ?_
    refine Ev.pos c128 ?_
    refine Ev.bnd0 rfl ?_
    refine Ev.pos ?_ (Ev.ret' ?_)
    · rw [List.length_replicate, Int.toNat_natCast]; omega
    · rw [z3W, Int.toNat_natCast]
      have : (⟨hi x, lo x⟩ : S30) = toS x := rfl
      rw [this, ← List.map_set]; rfl
  · have e : rightO L x = [] := if_neg c
    rw [e]
    exact Ev.neg (by simpa using c) (Ev.ret _)
theorem N19_ev (l : Nat) (hl : l ≤ 61) : Ev (fun k => z1v.f k (l : Int)) ((2 ^ l : Nat) : Int) := by
  unfold z1v.f
  exact Ev.bnd (two_ev l hl) (Ev.ret _)
theorem pair_l0 (l : Nat) (hl : l ≤ 7) (x y : E) : ∀ (d i : Nat), i + d = 2 ^ l → Ev (fun k => zD.l0 k (l : Int) ((pairX i x y).map toR) (i : Int) (hi x) (lo x) (hi y) (lo y)) ((pairX (2 ^ l) x y).map toR) := by
  have h128 := w128 hl
  intro d
  induction d with
  | zero =>
    intro i hi
    have : i = 2 ^ l := by omega
    subst this
    exact Ev.step (fun k => by rw [zD.l0]) (Ev.bnd (N19_ev l (by omega)) (Ev.neg (Int.lt_irrefl _) (Ev.ret _)))
  | succ d ih =>
    intro i hi
    have hi' : i < 2 ^ l := by omega
    have hih := ih (i + 1) (by omega)
    have hp := z4G i x y
    have c3 : ((pairX i x y).map toR).length < 8796093022208 := by rw [List.length_map, z2a]; omega
    have hn19 := N19_ev l (by omega)
    refine Ev.step (fun k => by rw [zD.l0]) (Ev.bnd hn19 ?_)
    refine Ev.pos (show (i : Int) < ((2 ^ l : Nat) : Int) by omega) ?_
    refine Ev.bnd (z6s x i (by omega)) ?_
    simp only [z1O hi' (show 2 ^ l ≤ 4611686018427387904 by omega)]
    cases c : (val x).testBit i with
    | true =>
      rw [hp, c, z1D, List.map_append] at hih
      exact Ev.pos rfl (Ev.pos c3 hih)
    | false =>
      rw [hp, c, z1s, List.map_append] at hih
      refine Ev.neg (by decide) (Ev.pos c3 ?_)
      have e : [(⟨0, 0⟩ : S40)] = [(0 : E)].map toR := by
        show _ = [toR (0 : E)]
        unfold toR; rw [z2u, z2v]
      rw [e]; exact hih
theorem Pair_ev {l : Nat} (hl : l ≤ 7) (x y : E) : Ev (fun k => zD.f k (l : Int) (hi x) (lo x) (hi y) (lo y)) ((pairX (2 ^ l) x y).map toR) := by
  unfold zD.f
  exact pair_l0 l hl x y (2 ^ l) 0 (Nat.zero_add _)
end Go.Proofs.Ytkhmpaooinpfoaa.Sp
/- Sums of elements, weights and values of tables; lists of elements. Own text; nothing of the program in it. -/
namespace Go.Proofs.Ytkhmpaooinpfoaa.Sp
open Go.RowKit Go.Proofs.YtkhmpaooinpfoaaW.PrintWords Go.Proofs.YtkhmpaooinpfoaaW.PrintMore Go.Proofs.Ytkhmpaooinpfoaa.P Go.Proofs.Ytkhmpaooinpfoaa.Ar Go.Proofs.Ytkhmpaooinpfoaa.Tw
set_option linter.unusedVariables false
set_option linter.unusedSimpArgs false
/-- Sums. -/
def sumN (f : Nat → E) : Nat → E
  | 0 => 0
  | n + 1 => sumN f n + f n
theorem z1L {f g : Nat → E} : ∀ n, (∀ i, i < n → f i = g i) → sumN f n = sumN g n
  | 0, _ => rfl
  | n + 1, h => by rw [sumN, sumN, z1L n (fun i hi => h i (by omega)), h n (by omega)]
theorem z3d (f g : Nat → E) : ∀ n, sumN (fun i => f i + g i) n = sumN f n + sumN g n
  | 0 => (add_zero _).symm
  | n + 1 => by
    rw [sumN, sumN, sumN, z3d f g n]
    simp only [add_assoc, z2c]
theorem z66 (c : E) (f : Nat → E) : ∀ n, sumN (fun i => c * f i) n = c * sumN f n
  | 0 => (z2C _).symm
  | n + 1 => by rw [sumN, sumN, z66 c f n, mul_add]
theorem z4k : ∀ n, sumN (fun _ => (0 : E)) n = 0
  | 0 => rfl
  | n + 1 => by rw [sumN, z4k n, add_zero]
theorem z4i (f : Nat → E) : ∀ n, sumN f (2 * n) = sumN (fun i => f (2 * i) + f (2 * i + 1)) n
  | 0 => rfl
  | n + 1 => by
    rw [show 2 * (n + 1) = 2 * n + 1 + 1 by omega, sumN, sumN, sumN, z4i f n, add_assoc]
theorem z4K (f : Nat → E) (m : Nat) : ∀ n, sumN f (m + n) = sumN f m + sumN (fun i => f (m + i)) n
  | 0 => (add_zero _).symm
  | n + 1 => by rw [← Nat.add_assoc, sumN, sumN, z4K f m n, add_assoc]
/-- A corner's weight at a point. -/
def weight : List E → Nat → E
  | [], _ => 1
  | p :: ps, i => (if i % 2 = 1 then p else 1 + p) * weight ps (i / 2)
/-- A table's value at a point. -/
def value (X P : List E) : E := sumN (fun i => X.getD i 0 * weight P i) X.length
/-- A table bound in its first variable. -/
def first (r : E) (X : List E) : List E := (List.range (X.length / 2)).map fun i => X.getD (2 * i) 0 + r * (X.getD (2 * i) 0 + X.getD (2 * i + 1) 0)
def firsts : List E → List E → List E
  | [], X => X
  | r :: rs, X => firsts rs (first r X)
theorem z2X (r : E) (X : List E) : (first r X).length = X.length / 2 := by simp [first]
theorem z6h (r : E) (X : List E) (i : Nat) (h : i < X.length / 2) : (first r X).getD i 0 = X.getD (2 * i) 0 + r * (X.getD (2 * i) 0 + X.getD (2 * i + 1) 0) := by
  rw [List.getD_eq_getElem?_getD]; simp [first, h]
theorem z6g (a b r : E) : a + r * (a + b) = (1 + r) * a + r * b := by
  rw [add_mul, one_mul, mul_add, add_assoc]
theorem z5L (X : List E) (r : E) (P : List E) (h : X.length = 2 * (X.length / 2)) : value X (r :: P) = value (first r X) P := by
  unfold value
  rw [z2X]
  conv => lhs; rw [h]
  rw [z4i]
  apply z1L
  intro i hi
  rw [z6h r X i hi, weight, weight, if_neg (by omega), if_pos (by omega), show 2 * i / 2 = i by omega, show (2 * i + 1) / 2 = i by omega, z6g]
  rw [← mul_assoc, ← mul_assoc, mul_comm (X.getD (2 * i) 0), mul_comm (X.getD (2 * i + 1) 0), ← add_mul]
theorem pow_len {X : List E} {k : Nat} (h : X.length = 2 ^ (k + 1)) : X.length = 2 * (X.length / 2) := by rw [h, Nat.pow_succ]; omega
theorem z3t : ∀ (R X : List E) (k : Nat), X.length = 2 ^ k → R.length ≤ k → (firsts R X).length = 2 ^ (k - R.length)
  | [], X, k, h, _ => by rw [firsts, h]; rfl
  | r :: rs, X, k, h, hk => by
    rw [List.length_cons] at hk
    obtain ⟨k', rfl⟩ : ∃ k', k = k' + 1 := ⟨k - 1, by omega⟩
    rw [firsts, z3t rs (first r X) k' (by rw [z2X, h, Nat.pow_succ]; omega) (by omega), List.length_cons]
    congr 1; omega
theorem z3Q : ∀ (R X P : List E) (k : Nat), X.length = 2 ^ k → R.length ≤ k → value X (R ++ P) = value (firsts R X) P
  | [], X, P, k, _, _ => rfl
  | r :: rs, X, P, k, h, hk => by
    rw [List.length_cons] at hk
    obtain ⟨k', rfl⟩ : ∃ k', k = k' + 1 := ⟨k - 1, by omega⟩
    rw [List.cons_append, z5L X r (rs ++ P) (pow_len h), firsts]
    exact z3Q rs (first r X) P k' (by rw [z2X, h, Nat.pow_succ]; omega) (by omega)
theorem z7h {X : List E} (h : X.length = 1) : value X [] = X.getD 0 0 := by
  unfold value; rw [h, sumN, sumN, zero_add, weight, mul_one]
theorem value_eq (X P : List E) (h : X.length = 2 ^ P.length) : value X P = (firsts P X).getD 0 0 := by
  have := z3Q P X [] P.length h (Nat.le_refl _)
  rw [List.append_nil] at this
  rw [this, z7h (by rw [z3t P X P.length h (Nat.le_refl _), Nat.sub_self, Nat.pow_zero])]

/-- k of 2^k, as both tell it. -/
theorem map_set {α β : Type} (f : α → β) (X : List α) (i : Nat) (x : α) : (X.map f).set i (f x) = (X.set i x).map f := by rw [List.map_set]
theorem z68 (x : E) : (⟨hi x, lo x⟩ : S30) = toS x := rfl
theorem toR_mk (x : E) : (⟨hi x, lo x⟩ : S40) = toR x := rfl
theorem z4S {X : List E} {i : Nat} (h : i < X.length) (x : E) : (X.set i x).getD i 0 = x := by
  rw [List.getD_eq_getElem?_getD, List.getElem?_set_self h]; rfl
theorem getD_set_ne {X : List E} {i j : Nat} (h : i ≠ j) (x : E) : (X.set i x).getD j 0 = X.getD j 0 := by
  rw [List.getD_eq_getElem?_getD, List.getD_eq_getElem?_getD, List.getElem?_set_ne h]
theorem z3S {X Y : List E} (hl : X.length = Y.length) (h : ∀ i, i < X.length → X.getD i 0 = Y.getD i 0) : X = Y := by
  apply List.ext_getElem hl
  intro j h1 h2
  have := h j h1
  simpa [List.getD_eq_getElem?_getD, h1, h2] using this
theorem getD_take {X : List E} {i m : Nat} (h : i < m) : (X.take m).getD i 0 = X.getD i 0 := by
  rw [List.getD_eq_getElem?_getD, List.getD_eq_getElem?_getD, List.getElem?_take_of_lt h]
theorem z2t {l : Nat} {X : List E} (h : AllS (l : Int) X) (i : Nat) : InL l (X.getD i 0) := by
  rw [List.getD_eq_getElem?_getD]
  by_cases c : i < X.length
  · rw [List.getElem?_eq_getElem c]
    have := (h _ (List.getElem_mem c)).2.2
    rw [Int.toNat_natCast] at this; exact this
  · rw [List.getElem?_eq_none (by omega)]; exact z4V l
theorem allS_first {l : Nat} (hl : l ≤ 7) {X : List E} {r : E} (hX : AllS (l : Int) X) (hr : InL l r) : AllS (l : Int) (first r X) := by
  intro x hx
  unfold first at hx
  rw [List.mem_map] at hx
  obtain ⟨i, _, rfl⟩ := hx
  refine ⟨by omega, by omega, ?_⟩
  rw [Int.toNat_natCast]
  exact z4T (z2t hX _) (z49 hl hr (z4T (z2t hX _) (z2t hX _)))
theorem half_len (n : Nat) (h : n ≤ 1000000) : wrap64 ((n : Int) / 2) = ((n / 2 : Nat) : Int) := by rw [z2g (by omega) (by omega)]; omega
theorem w64_dbl {i : Nat} (h : i ≤ 1000000) : wrap64 (2 * (i : Int)) = ((2 * i : Nat) : Int) := by rw [z2g (by omega) (by omega)]; omega
end Go.Proofs.Ytkhmpaooinpfoaa.Sp
/- Sums of pairs of elements: bits of elements are sums, and a pair times an element on the left is the pair of the product. Own text; nothing of the program in it. -/
namespace Go.Proofs.Ytkhmpaooinpfoaa.Sp
open Go.RowKit Go.Proofs.YtkhmpaooinpfoaaW.PrintWords Go.Proofs.YtkhmpaooinpfoaaW.PrintMore Go.Proofs.Ytkhmpaooinpfoaa.P Go.Proofs.Ytkhmpaooinpfoaa.Ar Go.Proofs.Ytkhmpaooinpfoaa.Tw
set_option linter.unusedVariables false
theorem z3V (b : Bool) (y z : E) : pick b (y + z) = pick b y + pick b z := by
  cases b
  · rw [z1s, z1s, z1s, add_zero]
  · rw [z1D, z1D, z1D]
theorem z52 (b : Bool) (y z : E) : pick b (y * z) = pick b y * z := by
  cases b
  · rw [z1s, z1s, zero_mul]
  · rw [z1D, z1D]
theorem z5m (b : Bool) : pick b (0 : E) = 0 := by
  cases b
  · exact z1s _
  · exact z1D _
theorem pick_xor (a b : Bool) (y : E) : pick (a ^^ b) y = pick a y + pick b y := by
  cases a <;> cases b
  · show pick false y = _; rw [z1s, add_zero]
  · show pick true y = _; rw [z1s, z1D, zero_add]
  · show pick true y = _; rw [z1s, z1D, add_zero]
  · show pick false y = _; rw [z1s, z1D, z2q]
theorem z74 (a b : Bool) (y : E) : pick a (pick b y) = pick b (pick a y) := by
  cases a <;> cases b <;> simp only [z1D, z1s]
/-- Has an element the bit? -/
def hasB (x : E) (k : Nat) : Bool := (val x).testBit k
theorem hasB_add (x y : E) (k : Nat) : hasB (x + y) k = (hasB x k ^^ hasB y k) := by
  unfold hasB; rw [z1W, Nat.testBit_xor]
theorem z5i (k : Nat) : hasB 0 k = false := by unfold hasB; rw [z1Q, Nat.zero_testBit]
/-- What the bit k of z picks of y is a sum in z. -/
theorem z3w (x z y : E) (k : Nat) : pick (hasB (x + z) k) y = pick (hasB x k) y + pick (hasB z k) y := by rw [hasB_add, pick_xor]
theorem z3x (f : Nat → E) (y : E) (k : Nat) : ∀ n, pick (hasB (sumN f n) k) y = sumN (fun u => pick (hasB (f u) k) y) n
  | 0 => by rw [sumN, sumN, z5i, z1s]
  | n + 1 => by rw [sumN, sumN, z3w, z3x f y k n]
theorem z4t (b : Bool) (x y : E) (k : Nat) : pick (hasB (pick b x) k) y = pick b (pick (hasB x k) y) := by
  cases b
  · rw [z1s, z1s, z5i, z1s]
  · rw [z1D, z1D]
theorem z61 (b : Bool) (f : Nat → E) : ∀ n, pick b (sumN f n) = sumN (fun u => pick b (f u)) n
  | 0 => z5m b
  | n + 1 => by rw [sumN, sumN, z3V, z61 b f n]
theorem z4j (c : E) (f : Nat → E) (n : Nat) : sumN (fun i => f i * c) n = sumN f n * c := by
  rw [mul_comm, ← z66]
  exact z1L n (fun i _ => mul_comm _ _)
theorem z5s (f : Nat → Nat → E) (n : Nat) : ∀ m, sumN (fun i => sumN (fun j => f i j) m) n = sumN (fun j => sumN (fun i => f i j) n) m
  | 0 => z4k n
  | m + 1 => by
    rw [sumN, ← z5s f n m, ← z3d]
    exact z1L n (fun i _ => rfl)
theorem sumN_one (f : Nat → E) (n i : Nat) (hi : i < n) (h : ∀ j, j < n → j ≠ i → f j = 0) : sumN f n = f i := by
  induction n with
  | zero => omega
  | succ n ih =>
    rw [sumN]
    by_cases c : i = n
    · subst c
      have : sumN f i = 0 := by
        rw [z1L (g := fun _ => 0) i (fun j hj => h j (by omega) (by omega))]; exact z4k i
      rw [this, zero_add]
    · rw [ih (by omega) (fun j hj hne => h j (by omega) hne), h n (by omega) (fun e => c e.symm), add_zero]
theorem z55 {n : Nat} (hn : n < 128) : val (bitE n) = 2 ^ n := by
  unfold bitE
  exact z2l 7 _ (by rw [z5y]; exact Nat.pow_lt_pow_right (by decide) hn)
theorem val_pick (b : Bool) (x : E) : val (pick b x) = if b then val x else 0 := by
  cases b
  · rw [z1s, z1Q]; rfl
  · rw [z1D]; rfl
/-- An element is the sum of its bits. -/
theorem z4M (x : E) : ∀ n, n ≤ 128 → val (sumN (fun u => pick (hasB x u) (bitE u)) n) = val x % 2 ^ n
  | 0, _ => by rw [sumN, z1Q, Nat.pow_zero, Nat.mod_one]
  | n + 1, h => by
    rw [sumN, z1W, z4M x n (by omega), val_pick, z55 (by omega)]
    apply Nat.eq_of_testBit_eq
    intro j
    rw [Nat.testBit_xor, Nat.testBit_mod_two_pow, Nat.testBit_mod_two_pow]
    show _ = _
    unfold hasB
    generalize val x = v
    by_cases c : j = n
    · subst c
      cases hb : v.testBit j with
      | true => rw [if_pos rfl, Nat.testBit_two_pow_self]; simp
      | false => rw [if_neg Bool.false_ne_true, Nat.zero_testBit]; simp
    · have h2 : (if v.testBit n then 2 ^ n else 0 : Nat).testBit j = false := by
        cases v.testBit n with
        | true => rw [if_pos rfl, Nat.testBit_two_pow]; simp; omega
        | false => rw [if_neg Bool.false_ne_true, Nat.zero_testBit]
      rw [h2, Bool.xor_false]
      have : decide (j < n + 1) = decide (j < n) := by rw [decide_eq_decide]; omega
      rw [this]
theorem expand {l : Nat} (hl : l ≤ 7) {x : E} (hx : InL l x) : sumN (fun u => pick (hasB x u) (bitE u)) (2 ^ l) = x := by
  apply z2Q
  rw [z4M x (2 ^ l) (w128 hl)]
  exact Nat.mod_eq_of_lt hx
theorem z6A {l u : Nat} (hl : l ≤ 7) (hu : u < 2 ^ l) : InL l (bitE u) := by
  unfold InL Q
  rw [z55 (Nat.lt_of_lt_of_le hu (w128 hl))]
  exact Nat.pow_lt_pow_right (by decide) hu
theorem bitE_zero : bitE 0 = 1 := by
  apply z2Q; rw [z55 (by decide), z2R]
/-- The bits of a product are sums of those of the products of bits. -/
theorem has_mul {l : Nat} (hl : l ≤ 7) {x : E} (hx : InL l x) (a y : E) (k : Nat) : sumN (fun u => pick (hasB x u) (pick (hasB (bitE u * a) k) y)) (2 ^ l) = pick (hasB (x * a) k) y := by
  have h1 : x * a = sumN (fun u => pick (hasB x u) (bitE u * a)) (2 ^ l) := by
    conv => lhs; rw [← expand hl hx]
    rw [← z4j]
    exact z1L _ (fun u _ => (z52 _ _ _).symm)
  rw [h1, z3x]
  exact z1L _ (fun u _ => (z4t _ _ _ _).symm)
/-- Part k of a tensor times an element on the left, its parts times another one. -/
def actT (n : Nat) (t : Nat → E) (a p : E) (k : Nat) : E := sumN (fun u => pick (hasB (bitE u * a) k) (t u * p)) n
theorem z6w {l : Nat} (hl : l ≤ 7) {x : E} (hx : InL l x) (y a p : E) (k : Nat) : actT (2 ^ l) (fun u => pick (hasB x u) y) a p k = pick (hasB (x * a) k) (y * p) := by
  unfold actT
  rw [← has_mul hl hx a (y * p) k]
  exact z1L _ (fun u _ => by rw [← z52, z74])
theorem actT_congr (n : Nat) {t s : Nat → E} (a p : E) (k : Nat) (h : ∀ u, u < n → t u = s u) : actT n t a p k = actT n s a p k := by
  unfold actT; exact z1L _ (fun u hu => by rw [h u hu])
theorem actT_sum (n m : Nat) (t : Nat → Nat → E) (a p : E) (k : Nat) : actT n (fun u => sumN (fun i => t i u) m) a p k = sumN (fun i => actT n (t i) a p k) m := by
  unfold actT
  rw [z5s (fun i u => pick (hasB (bitE u * a) k) (t i u * p)) m n]
  exact z1L _ (fun u _ => by rw [← z4j, z61])
theorem actT_add (n : Nat) (t s : Nat → E) (a p : E) (k : Nat) : actT n (fun u => t u + s u) a p k = actT n t a p k + actT n s a p k := by
  unfold actT
  rw [← z3d]
  exact z1L _ (fun u _ => by rw [add_mul, z3V])
theorem z75 {l : Nat} {x : E} (b : Bool) (h : InL l x) : InL l (pick b x) := by
  cases b
  · rw [z1s]; exact z4V l
  · rw [z1D]; exact h
theorem z5J {l : Nat} (f : Nat → E) : ∀ n, (∀ i, i < n → InL l (f i)) → InL l (sumN f n)
  | 0, _ => z4V l
  | n + 1, h => by rw [sumN]; exact z4T (z5J f n (fun i hi => h i (by omega))) (h n (by omega))
theorem actT_in {l : Nat} (hl : l ≤ 7) (n : Nat) (t : Nat → E) (a p : E) (k : Nat) (ht : ∀ u, u < n → InL l (t u)) (hp : InL l p) : InL l (actT n t a p k) :=
  z5J _ n (fun u hu => z75 _ (z49 hl (ht u hu) hp))
/-- Weights, variable by variable from behind. -/
theorem z3C {l : Nat} (hl : l ≤ 7) : ∀ (P : List E) (i : Nat), (∀ p ∈ P, InL l p) → InL l (weight P i)
  | [], i, _ => z6L l
  | p :: ps, i, h => by
    have hp := h p List.mem_cons_self
    rw [weight]
    refine z49 hl ?_ (z3C hl ps (i / 2) (fun q hq => h q (List.mem_cons_of_mem _ hq)))
    split
    · exact hp
    · exact z4T (z6L l) hp
theorem z3j (p : E) : ∀ (P : List E) (i : Nat), weight (P ++ [p]) i = weight P i * (if i / 2 ^ P.length % 2 = 1 then p else 1 + p)
  | [], i => by
    show weight (p :: []) i = weight [] i * _
    rw [weight, weight, weight, mul_one, one_mul]
    simp
  | q :: Q, i => by
    show weight (q :: (Q ++ [p])) i = weight (q :: Q) i * _
    rw [weight, weight, z3j p Q (i / 2), mul_assoc, Nat.div_div_eq_div_mul, List.length_cons, Nat.pow_succ, Nat.mul_comm 2]
theorem z4o (b : Nat) : ∀ (P : List E) (i : Nat), i < 2 ^ P.length → weight P (2 ^ P.length * b + i) = weight P i
  | [], i, _ => rfl
  | q :: Q, i, h => by
    rw [List.length_cons, Nat.pow_succ] at h
    have e1 : (2 ^ (q :: Q).length * b + i) % 2 = i % 2 := by
      rw [List.length_cons, Nat.pow_succ, Nat.mul_comm (2 ^ Q.length) 2, Nat.mul_assoc]; omega
    have e2 : (2 ^ (q :: Q).length * b + i) / 2 = 2 ^ Q.length * b + i / 2 := by
      rw [List.length_cons, Nat.pow_succ, Nat.mul_comm (2 ^ Q.length) 2, Nat.mul_assoc]; omega
    rw [weight, weight, e1, e2, z4o b Q (i / 2) (by omega)]
theorem z3K (p : E) (P : List E) (i : Nat) (h : i < 2 ^ P.length) : weight (P ++ [p]) i = weight P i * (1 + p) := by
  rw [z3j, Nat.div_eq_of_lt h]; rfl
theorem z4p (p : E) (P : List E) (i : Nat) (h : i < 2 ^ P.length) : weight (P ++ [p]) (2 ^ P.length + i) = weight P i * p := by
  have h0 := z4o 1 P i h
  rw [Nat.mul_one] at h0
  have e : (2 ^ P.length + i) / 2 ^ P.length % 2 = 1 := by
    rw [Nat.add_div_left _ (Nat.two_pow_pos _), Nat.div_eq_of_lt h]
  rw [z3j, h0, e]; rfl
/-- How alike two points are, part by part. -/
def alikeX (P R : List E) (k : Nat) : E := sumN (fun i => pick (hasB (weight P i) k) (weight R i)) (2 ^ P.length)
theorem alikeX_nil (k : Nat) : alikeX [] [] k = pick (hasB 1 k) 1 := by
  unfold alikeX
  show sumN _ 1 = _
  rw [sumN, sumN, zero_add]; rfl
theorem alikeX_snoc {l : Nat} (hl : l ≤ 7) (P R : List E) (p r : E) (hP : ∀ x ∈ P, InL l x) (hlen : P.length = R.length) (k : Nat) :
    alikeX (P ++ [p]) (R ++ [r]) k = alikeX P R k + actT (2 ^ l) (alikeX P R) p 1 k + alikeX P R k * r := by
  have e1 : actT (2 ^ l) (alikeX P R) p 1 k = sumN (fun i => pick (hasB (weight P i * p) k) (weight R i)) (2 ^ P.length) := by
    unfold alikeX
    rw [actT_sum]
    exact z1L _ (fun i _ => by rw [z6w hl (z3C hl P i hP), mul_one])
  have e2 : alikeX P R k * r = sumN (fun i => pick (hasB (weight P i) k) (weight R i * r)) (2 ^ P.length) := by
    unfold alikeX
    rw [← z4j]
    exact z1L _ (fun i _ => (z52 _ _ _).symm)
  rw [e1, e2]
  unfold alikeX
  rw [← z3d, ← z3d, List.length_append, List.length_singleton, Nat.pow_succ, Nat.mul_two, z4K, ← z3d]
  apply z1L
  intro i hi
  have hi' : i < 2 ^ R.length := by rw [← hlen]; exact hi
  rw [z3K p P i hi, z4p p P i hi, z3K r R i hi', show 2 ^ P.length + i = 2 ^ R.length + i by rw [hlen], z4p r R i hi']
  generalize weight P i = w
  generalize weight R i = v
  rw [mul_add, mul_add, mul_one, mul_one, z3w, z3V, z3V]
  generalize pick (hasB w k) v = a
  generalize pick (hasB (w * p) k) v = b
  generalize pick (hasB w k) (v * r) = c
  generalize pick (hasB (w * p) k) (v * r) = d
  have : a + c + (b + d) + d = a + b + c := by
    rw [add_assoc (a + c), add_assoc b d d, z2q, add_zero, add_assoc a c b, add_comm c b, ← add_assoc]
  exact this
end Go.Proofs.Ytkhmpaooinpfoaa.Sp
namespace Go.Proofs.Ytkhmpaooinpfoaa.P
open Go.RowKit Go.Proofs.YtkhmpaooinpfoaaW.PrintWords Go.Proofs.YtkhmpaooinpfoaaW.PrintLast Go.Proofs.YtkhmpaooinpfoaaW.PrintMore
attribute [local go_sem] z12 z14 z1i z1j zU zV z13 z15   -- for this text's walks alone
set_option linter.unusedVariables false
set_option linter.unusedSimpArgs false
attribute [local go_sem high] eqA30
mutual
def zr.l0 : Nat → Int → List (S30) → List (S30) → Int → Int → Int → Int → Int → Int → Option ((List (S30)))
 | 0,_,_,_,_,_,_,_,_,_=>none
 | k + 1,x0,x1,x15,x16,x17,x102000,x102001,x103000,x103001=>if x17 < x16 then (if 0 ≤ x17 then (if x17 < (x15.length : Int) then ((zO.f k x0 ((rd_T30 x15 x17).f0) ((rd_T30 x15 x17).f1) x103000 x103001).bind fun bt105=>(if (bt105.1 == 0 && (bt105.2 == 0)) = true then (zr.l0 k x0 x1 x15 x16 (wrap64 (x17 + 1)) x102000 x102001 x103000 x103001) else ((zY.f k x17).bind fun bt108=>((zO.f k x0 bt108.1 bt108.2 x102000 x102001).bind fun bt110=>((zS.f k x0 bt110.1 bt110.2).bind fun t112=>(zr.l1 k x0 x1 x15 x16 x17 t112 (t112.length : Int) 0 x102000 x102001 x103000 x103001 bt105.1 bt105.2)))))) else (none)) else (none)) else (some x1)
def zr.l1 : Nat → Int → List (S30) → List (S30) → Int → Int → List Bool → Int → Int → Int → Int → Int → Int → Int → Int → Option ((List (S30)))
 | 0,_,_,_,_,_,_,_,_,_,_,_,_,_,_=>none
 | k + 1,x0,x1,x15,x16,x17,x35,x36,x37,x102000,x102001,x103000,x103001,x108000,x108001=>if x37 < x36 then (if 0 ≤ x37 then (if x37 < (x35.length : Int) then (if rdOf false x35 x37 = true then (if x37 < (x1.length : Int) then ((z1t.f ((rd_T30 x1 x37).f0) ((rd_T30 x1 x37).f1) x108000 x108001).bind fun bt117=>(zr.l1 k x0 (x1.set (x37 : Int).toNat (⟨bt117.1,bt117.2⟩ : S30)) x15 x16 x17 x35 x36 (wrap64 (x37 + 1)) x102000 x102001 x103000 x103001 x108000 x108001)) else (none)) else (zr.l1 k x0 x1 x15 x16 x17 x35 x36 (wrap64 (x37 + 1)) x102000 x102001 x103000 x103001 x108000 x108001)) else (none)) else (none)) else (zr.l0 k x0 x1 x15 x16 (wrap64 (x17 + 1)) x102000 x102001 x103000 x103001)
end
def zr.f (k : Nat) (a0 : Int) (l1 : List (S30)) (l2 : List (S30)) (a3_0 : Int) (a3_1 : Int) (a4_0 : Int) (a4_1 : Int) : Option ((List (S30))):=zr.l0 k a0 l1 l2 (l2.length : Int) 0 a3_0 a3_1 a4_0 a4_1
theorem zr.z17 : ∀ k,(∀ y0 y1 y2 y3 y4 y5 y6 y7 y8,LeO (zr.l0 k y0 y1 y2 y3 y4 y5 y6 y7 y8) (zr.l0 (k + 1) y0 y1 y2 y3 y4 y5 y6 y7 y8)) ∧ (∀ y0 y1 y2 y3 y4 y5 y6 y7 y8 y9 y10 y11 y12 y13,LeO (zr.l1 k y0 y1 y2 y3 y4 y5 y6 y7 y8 y9 y10 y11 y12 y13) (zr.l1 (k + 1) y0 y1 y2 y3 y4 y5 y6 y7 y8 y9 y10 y11 y12 y13))
 | 0=>⟨fun _ _ _ _ _ _ _ _ _ r h=>by simp [zr.l0] at h,fun _ _ _ _ _ _ _ _ _ _ _ _ _ _ r h=>by simp [zr.l1] at h⟩
 | k + 1=>by
  obtain ⟨ih0,ih1⟩:=zr.z17 k
  refine ⟨?_,?_⟩
  · intro y0 y1 y2 y3 y4 y5 y6 y7 y8
    unfold zr.l0
    repeat' first
    | (with_reducible exact ih0 _ _ _ _ _ _ _ _ _)
    | (with_reducible exact ih1 _ _ _ _ _ _ _ _ _ _ _ _ _ _)
    | (with_reducible exact zY.mono _ _)
    | (with_reducible exact zS.mono _ _ _ _)
    | (with_reducible exact zO.mono _ _ _ _ _ _)
    | (with_reducible exact LeO.refl _)
    | (with_reducible exact LeO.none _)
    | (with_reducible refine LeO.ite ?_ ?_)
    | (with_reducible refine LeO.bind ?_ (fun _=>?_))
    | exact ih0 _ _ _ _ _ _ _ _ _
    | exact ih1 _ _ _ _ _ _ _ _ _ _ _ _ _ _
    | exact zY.mono _ _
    | exact zS.mono _ _ _ _
    | exact zO.mono _ _ _ _ _ _
    | exact LeO.none _
    | refine LeO.ite ?_ ?_
    | refine LeO.bind ?_ (fun _=>?_)
  · intro y0 y1 y2 y3 y4 y5 y6 y7 y8 y9 y10 y11 y12 y13
    unfold zr.l1
    repeat' first
    | (with_reducible exact ih0 _ _ _ _ _ _ _ _ _)
    | (with_reducible exact ih1 _ _ _ _ _ _ _ _ _ _ _ _ _ _)
    | (with_reducible exact zY.mono _ _)
    | (with_reducible exact zS.mono _ _ _ _)
    | (with_reducible exact zO.mono _ _ _ _ _ _)
    | (with_reducible exact LeO.refl _)
    | (with_reducible exact LeO.none _)
    | (with_reducible refine LeO.ite ?_ ?_)
    | (with_reducible refine LeO.bind ?_ (fun _=>?_))
    | exact ih0 _ _ _ _ _ _ _ _ _
    | exact ih1 _ _ _ _ _ _ _ _ _ _ _ _ _ _
    | exact zY.mono _ _
    | exact zS.mono _ _ _ _
    | exact zO.mono _ _ _ _ _ _
    | exact LeO.none _
    | refine LeO.ite ?_ ?_
    | refine LeO.bind ?_ (fun _=>?_)
theorem zr.mono : ∀ a0 a1 a2 a3 a4 a5 a6 k,LeO (zr.f k a0 a1 a2 a3 a4 a5 a6) (zr.f (k + 1) a0 a1 a2 a3 a4 a5 a6):=by
 intro a0 a1 a2 a3 a4 a5 a6 k
 obtain ⟨ih0,ih1⟩:=zr.z17 k
 unfold zr.f
 repeat' first
  | (with_reducible exact ih0 _ _ _ _ _ _ _ _ _)
  | (with_reducible exact ih1 _ _ _ _ _ _ _ _ _ _ _ _ _ _)
  | (with_reducible exact zY.mono _ _)
  | (with_reducible exact zS.mono _ _ _ _)
  | (with_reducible exact zO.mono _ _ _ _ _ _)
  | (with_reducible exact LeO.refl _)
  | (with_reducible exact LeO.none _)
  | (with_reducible refine LeO.ite ?_ ?_)
  | (with_reducible refine LeO.bind ?_ (fun _=>?_))
  | exact ih0 _ _ _ _ _ _ _ _ _
  | exact ih1 _ _ _ _ _ _ _ _ _ _ _ _ _ _
  | exact zY.mono _ _
  | exact zS.mono _ _ _ _
  | exact zO.mono _ _ _ _ _ _
  | exact LeO.none _
  | refine LeO.ite ?_ ?_
  | refine LeO.bind ?_ (fun _=>?_)
def zr.T6 : Bool × List (List Nat × List Nat):=(true,[([],[]),([],[]),([],[]),([2],[2]),([],[]),([1,3,4,3],[1,3,4]),([0,5,5],[0,5]),([6],[6]),([],[])])
def zr.B6 : List Nat:=[0,0,0,4,0,30,63,127,0]
theorem zr.tab6 : rtab .any (opsOf Try.f93 6) = zr.T6:=by kernel_rfl
theorem zr.bits6 : waitsOk zr.T6.2 zr.B6 = true:=by kernel_rfl
def zr.T10 : Bool × List (List Nat × List Nat):=(true,[([],[]),([],[]),([],[]),([],[]),([2,3],[2,3]),([4],[4]),([],[]),([5,6],[5,6]),([0,1,0,1,2,3,4,5,6,7],[0,1]),([8,7,7,0,1,2,3,4,5,6,7],[7,8])])
def zr.B10 : List Nat:=[0,0,0,0,12,28,0,124,255,511]
theorem zr.tab10 : rtab .any (opsOf Try.f93 10) = zr.T10:=by kernel_rfl
theorem zr.bits10 : waitsOk zr.T10.2 zr.B10 = true:=by kernel_rfl
set_option maxHeartbeats 8000000 in
set_option maxRecDepth 100000 in
theorem zr.calls (k : Nat) (a0 : Int) (P1_ : Nat → Prop) (u9000_ : Value) (l1 : List (S30)) (A2 : Option Addr) (c2 : Nat) (l2 : List (S30)) (a3_0 : Int) (a3_1 : Int) (a4_0 : Int) (a4_1 : Int) (r : List (S30)) (w0 w : World) (hB : Below w0.heap.size w0 w) (ho1 : Kd.R k30 30 w w0.heap.size P1_ u9000_ l1) (hr2 : ∀ W_,Kept w W_ (fun k_=>P1_ k_) → Kd.C k30 W_ A2 l2.length l2) (hc2 : l2.length ≤ c2) (h : zr.f k a0 l1 l2 a3_0 a3_1 a4_0 a4_1 = some r) :
 Calls Try.prog 93 #[.int .i64 a0,u9000_,.slice A2 l2.length c2,.agg #[.int .u64 a3_0,.int .u64 a3_1],.agg #[.int .u64 a4_0,.int .u64 a4_1]] w fun e w'=>e = .returned (.tuple #[]) ∧ Kd.R k30 30 w' w0.heap.size (fun k_=>(P1_ k_ ∨ w.heap.size ≤ k_)) u9000_ r ∧ Below w0.heap.size w0 w' ∧ Kept w w' (fun k_=>P1_ k_):=by
 have hu30:=Try.underlying30
 have HO1:=z1.mk (show Kd.R k30 30 w w0.heap.size (fun k_=>(P1_ k_ ∨ w.heap.size ≤ k_)) u9000_ l1 from Kd.z18 ho1 (fun k_ hk=>(.inl hk)))
 have HR2:=z1.mk hr2
 have HC2:=z1.mk hc2
 clear hr2 hc2
 have HK:=z1.mk (Kept.refl w (fun k_=>P1_ k_))
 have HW0:=z1.mk hB.size
 have HB:=z1.mk hB
 clear hB
 have H : (zr.l0 k a0 l1 l2 (l2.length : Int) 0 a3_0 a3_1 a4_0 a4_1) = some r:=h
 clear h
 have H':=z1.mk H
 clear H
 go_enter Try.func93,Try.ntmps93
 go_wp2_with (first|((with_reducible refine zp (N:=8) rfl ?_);refine zt ?hg (N:=8) ?hd (cs:=#[.int .u64 a3_0,.int .u64 a3_1]) (t:=30) ?hr ?_;(case hd=>rfl);(case hg=>rfl);(case hr=>first|(go_simp;done)|(go_simp;rfl));intro gb101 hg w6 hbox hb;have n0_:=z1.mk (Kd.zq (Kd.z1w zz76 gb101 (Nat.le_of_eq hg.symm)) hb);have n1_:=z1.mk (Kept.below (S:=(fun k_=>P1_ k_)) (by repeat (first|(with_reducible first|exact HK.out|apply Kept.alloc|apply Kept.drewN|apply Kept.drew)|exact HK.out)) hb);have n2_:=z1.mk (z3 zz49 hb);have n3_:=z1.mk (hbox);have n4_:=z1.mk ((by rw [hg];exact (by first|exact HK.out.1|exact (show Kept w _ (fun k_=>P1_ k_) from by repeat (first|(with_reducible first|exact HK.out|apply Kept.alloc|apply Kept.drewN|apply Kept.drew)|exact HK.out)).1) : w.heap.size ≤ gb101));have n5_:=z1.mk ((by rw [hg];exact (zb zz49) : w0.heap.size ≤ gb101));clear HO1;clear HK;clear HB;have HO1:=n0_;have HK:=n1_;have HB:=n2_;have BK101:=n3_;have GW101:=n4_;have GE101:=n5_;clear n0_ n1_ n2_ n3_ n4_ n5_;clear hb hbox hg)|((with_reducible refine zp (N:=9) rfl ?_);refine zt ?hg (N:=9) ?hd (cs:=#[.int .u64 a4_0,.int .u64 a4_1]) (t:=30) ?hr ?_;(case hd=>rfl);(case hg=>rfl);(case hr=>first|(go_simp;done)|(go_simp;rfl));intro gb102 hg w7 hbox hb;have n0_:=z1.mk (Kd.zq (Kd.z1w zz76 gb102 (Nat.le_of_eq hg.symm)) hb);have n1_:=z1.mk (zc (g:=gb101) (o:=.cells #[.int .u64 a3_0,.int .u64 a3_1] 30 (0,0)) zz50 hb);have n2_:=z1.mk (Kept.below (S:=(fun k_=>P1_ k_)) (by repeat (first|(with_reducible first|exact HK.out|apply Kept.alloc|apply Kept.drewN|apply Kept.drew|refine Kept.setCell ?_ (.inr GW101.out) _)|exact HK.out)) hb);have n3_:=z1.mk (z3 zz43 hb);have n4_:=z1.mk (hbox);have n5_:=z1.mk ((by rw [hg];exact (by first|exact HK.out.1|exact (show Kept w _ (fun k_=>P1_ k_) from by repeat (first|(with_reducible first|exact HK.out|apply Kept.alloc|apply Kept.drewN|apply Kept.drew|refine Kept.setCell ?_ (.inr GW101.out) _)|exact HK.out)).1) : w.heap.size ≤ gb102));have n6_:=z1.mk ((by rw [hg];exact (zb zz43) : w0.heap.size ≤ gb102));have n7_:=z1.mk ((by rw [hg];exact Nat.ne_of_lt (zL (g:=gb101) (o:=.cells #[.int .u64 a3_0,.int .u64 a3_1] 30 (0,0)) zz50) : gb101 ≠ gb102));have n8_:=z1.mk ((by rw [hg];exact Nat.ne_of_gt (zL (g:=gb101) (o:=.cells #[.int .u64 a3_0,.int .u64 a3_1] 30 (0,0)) zz50) : gb102 ≠ gb101));clear HO1;clear BK101;clear HK;clear HB;have HO1:=n0_;have BK101:=n1_;have HK:=n2_;have HB:=n3_;have BK102:=n4_;have GW102:=n5_;have GE102:=n6_;have NB101_102:=n7_;have NB102_101:=n8_;clear n0_ n1_ n2_ n3_ n4_ n5_ n6_ n7_ n8_;clear hb hbox hg))
 go_loopg [17] k (fun kq v17 w'=>∃ (x1_1 : List (S30)) (x17_1 : Int) (x102000_1 : Int) (x102001_1 : Int) (x103000_1 : Int) (x103001_1 : Int),v17 = .int .i64 x17_1 ∧ z1 (zr.l0 kq a0 x1_1 l2 (l2.length : Int) x17_1 x102000_1 x102001_1 x103000_1 x103001_1 = some r) ∧ z1 (kq ≤ k) ∧ z1 (Kd.R k30 30 w' w0.heap.size (fun k_=>(P1_ k_ ∨ w.heap.size ≤ k_) ∧ k_ ≠ gb101 ∧ k_ ≠ gb102) u9000_ x1_1) ∧ z1 (w'.heap[gb101]? = some (.cells #[.int .u64 x102000_1,.int .u64 x102001_1] 30 (0,0))) ∧ z1 (w'.heap[gb102]? = some (.cells #[.int .u64 x103000_1,.int .u64 x103001_1] 30 (0,0))) ∧ z1 (Kept w w' (fun k_=>P1_ k_)) ∧ z1 (Below w0.heap.size w0 w'))
 case atStart=>exact ⟨(l1),(0),(a3_0),(a3_1),(a4_0),(a4_1),zz86,H',⟨Nat.le_refl _⟩,⟨by (with_reducible repeat (first|apply Kd.zI|apply Kd.zJ|apply Kd.zT));exact Kd.z18 HO1.out (fun _ hk=>⟨hk.1.1,⟨hk.1.2,hk.2⟩⟩)⟩,⟨by (with_reducible repeat (first|refine z5 ?_ _|refine z8 ?_|refine z4 ?_ _));exact BK101.out⟩,⟨by (with_reducible repeat (first|refine z5 ?_ _|refine z8 ?_|refine z4 ?_ _));exact BK102.out⟩,⟨by repeat (first|(with_reducible first|exact HK.out|apply Kept.alloc|apply Kept.drewN|apply Kept.drew|refine Kept.setCell ?_ (.inr GW101.out) _|refine Kept.setCell ?_ (.inr GW102.out) _)|exact HK.out)⟩,⟨by repeat (first|(with_reducible first|exact HB.out|apply zd|apply z2|apply z9|refine za ?_ GE101.out|refine za ?_ GE102.out)|exact HB.out)⟩⟩
 case round =>
  clear H'
  (try clear c2);(try clear p2)
  obtain ⟨x1_1,x17_1,x102000_1,x102001_1,x103000_1,x103001_1,rfl,HA,HK1,HO_1,BK101,BK102,HK,HB⟩:=hrel
  cases gk with
  | zero=>exact absurd HA.out (by simp [zr.l0])
  | succ k1 =>
   have H:=HA.out
   clear HA
   simp only [zr.l0] at H
   by_cases c8 : x17_1 < (l2.length : Int)
   rotate_left
   · rw [if_neg c8] at H
     have c8b0 : decide (x17_1 < (l2.length : Int)) = false:=decide_eq_false c8
     clear c8
     obtain rfl:=Option.some.inj H
     go_wp2
     first|go_end0|((try simp only [Exit.inBlock,Exit.then]);refine bodyPost_ret (results_none rfl _ _ _) rfl ?_)
     exact ⟨by first|rfl|(simp [zg,zh] <;> rfl)|(simp [*,zg,zh] <;> rfl),by (with_reducible repeat (first|apply Kd.zI|apply Kd.zJ|apply Kd.zT));exact Kd.z18 HO_1.out (fun _ hk=>hk.1),by repeat (first|(with_reducible first|exact HB.out|apply zd|apply z2|apply z9|refine za ?_ GE101.out|refine za ?_ GE102.out)|exact HB.out),by repeat (first|(with_reducible first|exact HK.out|apply Kept.alloc|apply Kept.drewN|apply Kept.drew|refine Kept.setCell ?_ (.inr GW101.out) _|refine Kept.setCell ?_ (.inr GW102.out) _)|exact HK.out)⟩
   rw [if_pos c8] at H
   have c8b0 : decide (x17_1 < (l2.length : Int)) = true:=decide_eq_true c8
   clear c8
   by_cases c9 : 0 ≤ x17_1
   rotate_left
   · rw [if_neg c9] at H
     exact absurd H zz93
   rw [if_pos c9] at H
   have c9b0 : decide (0 ≤ x17_1) = true:=decide_eq_true c9
   clear c9
   by_cases c10 : x17_1 < (l2.length : Int)
   rotate_left
   · rw [if_neg c10] at H
     exact absurd H zz93
   rw [if_pos c10] at H
   have c10b0 : decide (x17_1 < (l2.length : Int)) = true:=decide_eq_true c10
   clear c10
   replace H:=Option.bind_eq_some_iff.mp H
   obtain ⟨⟨t105,t106⟩,A110,H⟩:=H
   replace H : (if (t105 == 0 && (t106 == 0)) = true then (zr.l0 k1 a0 x1_1 l2 (l2.length : Int) (wrap64 (x17_1 + 1)) x102000_1 x102001_1 x103000_1 x103001_1) else ((zY.f k1 x17_1).bind fun bt108=>((zO.f k1 a0 bt108.1 bt108.2 x102000_1 x102001_1).bind fun bt110=>((zS.f k1 a0 bt110.1 bt110.2).bind fun t112=>(zr.l1 k1 a0 x1_1 l2 (l2.length : Int) x17_1 t112 (t112.length : Int) 0 x102000_1 x102001_1 x103000_1 x103001_1 t105 t106))))) = some r:=H
   have A11:=z1.mk A110
   clear A110
   by_cases c12 : (t105 == 0 && (t106 == 0)) = true
   · rw [if_pos c12] at H
     have c12b0 : (t105 == 0 && (t106 == 0)) = true:=c12
     (try (have c12b1 : decide (t105 = 0 && (t106 == 0)) = true:=by simpa using c12))
     (try (have c12b2 : (t105 == 0 && (t106 == 0)) = true:=by simpa using c12))
     clear c12
     have H':=z1.mk H
     clear H
     have p103 : 0 ≤ (x17_1 : Int):=of_decide_eq_true zz85
     have q103 : x17_1 < (l2.length : Int):=of_decide_eq_true zz85
     obtain ⟨ad103,e103,hx103_0,hx103_1⟩:=z20 (Kd.z4x HR2.out HK.out) x17_1 p103 q103
     cases e103
     replace p103:=eq_true p103
     replace q103:=eq_true q103
     go_wp2_with (first|((with_reducible refine zp (N:=11) rfl ?_);refine zt ?hg (N:=11) ?hd (cs:=#[.int .u64 0,.int .u64 0]) (t:=30) ?hr ?_;(case hd=>rfl);(case hg=>rfl);(case hr=>first|(go_simp;done)|(go_simp;rfl));intro gb104 hg w13 hbox hb;have n0_:=z1.mk (Kd.zq (Kd.z1w zz75 gb104 (Nat.le_of_eq hg.symm)) hb);have n1_:=z1.mk (zc (g:=gb101) (o:=.cells #[.int .u64 x102000_1,.int .u64 x102001_1] 30 (0,0)) zz50 hb);have n2_:=z1.mk (zc (g:=gb102) (o:=.cells #[.int .u64 x103000_1,.int .u64 x103001_1] 30 (0,0)) zz51 hb);have n3_:=z1.mk (Kept.below (S:=(fun k_=>P1_ k_)) zz35 hb);have n4_:=z1.mk (z3 zz36 hb);have n5_:=z1.mk (hbox);have n6_:=z1.mk ((by rw [hg];exact zz28 : w.heap.size ≤ gb104));have n7_:=z1.mk ((by rw [hg];exact (zb zz36) : w0.heap.size ≤ gb104));have n8_:=z1.mk ((by rw [hg];exact Nat.ne_of_lt (zL (g:=gb101) (o:=.cells #[.int .u64 x102000_1,.int .u64 x102001_1] 30 (0,0)) zz50) : gb101 ≠ gb104));have n9_:=z1.mk ((by rw [hg];exact Nat.ne_of_gt (zL (g:=gb101) (o:=.cells #[.int .u64 x102000_1,.int .u64 x102001_1] 30 (0,0)) zz50) : gb104 ≠ gb101));have n10_:=z1.mk ((by rw [hg];exact Nat.ne_of_lt (zL (g:=gb102) (o:=.cells #[.int .u64 x103000_1,.int .u64 x103001_1] 30 (0,0)) zz51) : gb102 ≠ gb104));have n11_:=z1.mk ((by rw [hg];exact Nat.ne_of_gt (zL (g:=gb102) (o:=.cells #[.int .u64 x103000_1,.int .u64 x103001_1] 30 (0,0)) zz51) : gb104 ≠ gb102));clear HO_1;clear BK101;clear BK102;clear HK;clear HB;have HO_1:=n0_;have BK101:=n1_;have BK102:=n2_;have HK:=n3_;have HB:=n4_;have BK104:=n5_;have GW104:=n6_;have GE104:=n7_;have NB101_104:=n8_;have NB104_101:=n9_;have NB102_104:=n10_;have NB104_102:=n11_;clear n0_ n1_ n2_ n3_ n4_ n5_ n6_ n7_ n8_ n9_ n10_ n11_;clear hb hbox hg;have hnb14:=NB104_101.out;have hnc14:=NB101_104.out;have hnb15:=NB104_102.out;have hnc15:=NB102_104.out;have hcz16_0 : w13.cell? ⟨gb104,0,none⟩ = some (.int .u64 0):=(z7 BK104.out 0).trans rfl;have hcz16_1 : w13.cell? ⟨gb104,1,none⟩ = some (.int .u64 0):=(z7 BK104.out 1).trans rfl;have hfz16_0:=z6 BK104.out 0;have hfz16_1:=z6 BK104.out 1;have hnb17:=NB102_101.out;have hnc17:=NB101_102.out;have hcz18_0 : w13.cell? ⟨gb102,0,none⟩ = some (.int .u64 x103000_1):=(z7 BK102.out 0).trans rfl;have hcz18_1 : w13.cell? ⟨gb102,1,none⟩ = some (.int .u64 x103001_1):=(z7 BK102.out 1).trans rfl;have hfz18_0:=z6 BK102.out 0;have hfz18_1:=z6 BK102.out 1)|((with_reducible refine zi (f:=78) rfl ?_);refine goesL_ (some 25) rfl rfl Try.func78 zz90 rfl #[.int .i64 a0,.agg #[.int .u64 ((rd_T30 l2 x17_1).f0),.int .u64 ((rd_T30 l2 x17_1).f1)],.agg #[.int .u64 x103000_1,.int .u64 x103001_1]] rfl zz48 ?_;(with_reducible refine (zO.calls k1 a0 ((rd_T30 l2 x17_1).f0) ((rd_T30 l2 x17_1).f1) x103000_1 x103001_1 t105 t106 _ A11.out).mono ?_);rintro e w19 ⟨rfl,hb⟩;refine ⟨_,rfl,?_⟩;have n0_:=z1.mk (Kd.zq zz19 hb);have n1_:=z1.mk (zc (g:=gb101) (o:=.cells #[.int .u64 x102000_1,.int .u64 x102001_1] 30 (0,0)) zz15 hb);have n2_:=z1.mk (zc (g:=gb102) (o:=.cells #[.int .u64 x103000_1,.int .u64 x103001_1] 30 (0,0)) zz16 hb);have n3_:=z1.mk (zc (g:=gb104) (o:=.cells #[.int .u64 ((rd_T30 l2 x17_1).f0),.int .u64 ((rd_T30 l2 x17_1).f1)] 30 (0,0)) zz3 hb);have n4_:=z1.mk (Kept.below (S:=(fun k_=>P1_ k_)) zz32 hb);have n5_:=z1.mk (z3 zz34 hb);clear HO_1;clear BK101;clear BK102;clear BK104;clear HK;clear HB;have HO_1:=n0_;have BK101:=n1_;have BK102:=n2_;have BK104:=n3_;have HK:=n4_;have HB:=n5_;clear n0_ n1_ n2_ n3_ n4_ n5_;(try clear hb);(try clear hb2);(try clear hk);(try clear hi))|((with_reducible refine zp (N:=12) rfl ?_);refine zt ?hg (N:=12) ?hd (cs:=#[.int .u64 0,.int .u64 0]) (t:=30) ?hr ?_;(case hd=>rfl);(case hg=>rfl);(case hr=>first|(go_simp;done)|(go_simp;rfl));intro gb107 hg w20 hbox hb;have n0_:=z1.mk (Kd.zq (Kd.z1w zz75 gb107 (Nat.le_of_eq hg.symm)) hb);have n1_:=z1.mk (zc (g:=gb101) (o:=.cells #[.int .u64 x102000_1,.int .u64 x102001_1] 30 (0,0)) zz50 hb);have n2_:=z1.mk (zc (g:=gb102) (o:=.cells #[.int .u64 x103000_1,.int .u64 x103001_1] 30 (0,0)) zz51 hb);have n3_:=z1.mk (zc (g:=gb104) (o:=.cells #[.int .u64 ((rd_T30 l2 x17_1).f0),.int .u64 ((rd_T30 l2 x17_1).f1)] 30 (0,0)) zz57 hb);have n4_:=z1.mk (Kept.below (S:=(fun k_=>P1_ k_)) zz32 hb);have n5_:=z1.mk (z3 zz34 hb);have n6_:=z1.mk (hbox);have n7_:=z1.mk ((by rw [hg];exact zz22 : w.heap.size ≤ gb107));have n8_:=z1.mk ((by rw [hg];exact (zb zz34) : w0.heap.size ≤ gb107));have n9_:=z1.mk ((by rw [hg];exact Nat.ne_of_lt (zL (g:=gb101) (o:=.cells #[.int .u64 x102000_1,.int .u64 x102001_1] 30 (0,0)) zz50) : gb101 ≠ gb107));have n10_:=z1.mk ((by rw [hg];exact Nat.ne_of_gt (zL (g:=gb101) (o:=.cells #[.int .u64 x102000_1,.int .u64 x102001_1] 30 (0,0)) zz50) : gb107 ≠ gb101));have n11_:=z1.mk ((by rw [hg];exact Nat.ne_of_lt (zL (g:=gb102) (o:=.cells #[.int .u64 x103000_1,.int .u64 x103001_1] 30 (0,0)) zz51) : gb102 ≠ gb107));have n12_:=z1.mk ((by rw [hg];exact Nat.ne_of_gt (zL (g:=gb102) (o:=.cells #[.int .u64 x103000_1,.int .u64 x103001_1] 30 (0,0)) zz51) : gb107 ≠ gb102));have n13_:=z1.mk ((by rw [hg];exact Nat.ne_of_lt (zL (g:=gb104) (o:=.cells #[.int .u64 ((rd_T30 l2 x17_1).f0),.int .u64 ((rd_T30 l2 x17_1).f1)] 30 (0,0)) zz57) : gb104 ≠ gb107));have n14_:=z1.mk ((by rw [hg];exact Nat.ne_of_gt (zL (g:=gb104) (o:=.cells #[.int .u64 ((rd_T30 l2 x17_1).f0),.int .u64 ((rd_T30 l2 x17_1).f1)] 30 (0,0)) zz57) : gb107 ≠ gb104));clear HO_1;clear BK101;clear BK102;clear BK104;clear HK;clear HB;have HO_1:=n0_;have BK101:=n1_;have BK102:=n2_;have BK104:=n3_;have HK:=n4_;have HB:=n5_;have BK107:=n6_;have GW107:=n7_;have GE107:=n8_;have NB101_107:=n9_;have NB107_101:=n10_;have NB102_107:=n11_;have NB107_102:=n12_;have NB104_107:=n13_;have NB107_104:=n14_;clear n0_ n1_ n2_ n3_ n4_ n5_ n6_ n7_ n8_ n9_ n10_ n11_ n12_ n13_ n14_;clear hb hbox hg;have hnb21:=NB107_101.out;have hnc21:=NB101_107.out;have hnb22:=NB107_102.out;have hnc22:=NB102_107.out;have hnb23:=NB107_104.out;have hnc23:=NB104_107.out;have hcz24_0 : w20.cell? ⟨gb107,0,none⟩ = some (.int .u64 0):=(z7 BK107.out 0).trans rfl;have hcz24_1 : w20.cell? ⟨gb107,1,none⟩ = some (.int .u64 0):=(z7 BK107.out 1).trans rfl;have hfz24_0:=z6 BK107.out 0;have hfz24_1:=z6 BK107.out 1))
     go_roundg k1
     case measure=>have:=HK1.out;omega
     case rel=>exact ⟨(x1_1),(wrap64 (x17_1 + 1)),(x102000_1),(x102001_1),(x103000_1),(x103001_1),zz86,H',⟨by have:=HK1.out;omega⟩,⟨by (with_reducible repeat (first|apply Kd.zI|apply Kd.zJ|apply Kd.zT));exact Kd.z18 (Kd.z1M (p:=⟨gb107,1,none⟩) (Kd.z1M (p:=⟨gb107,0,none⟩) (Kd.z18 HO_1.out (fun k_ hk=>(⟨hk,hk.2⟩ : _ ∧ k_ ≠ gb107))) (fun _ hk=>hk.2) (.int .u64 t105)) (fun _ hk=>hk.2) (.int .u64 t106)) (fun _ hk=>⟨hk.1.1.1.1,⟨hk.1.1.1.2.1,hk.1.1.1.2.2⟩⟩)⟩,⟨by (with_reducible repeat (first|refine z5 ?_ _|refine z8 ?_|refine z4 ?_ _));refine zZ ?_ NB101_107.out _;(with_reducible repeat (first|refine z5 ?_ _|refine z8 ?_|refine z4 ?_ _));refine zZ ?_ NB101_107.out _;(with_reducible repeat (first|refine z5 ?_ _|refine z8 ?_|refine z4 ?_ _));exact BK101.out⟩,⟨by (with_reducible repeat (first|refine z5 ?_ _|refine z8 ?_|refine z4 ?_ _));refine zZ ?_ NB102_107.out _;(with_reducible repeat (first|refine z5 ?_ _|refine z8 ?_|refine z4 ?_ _));refine zZ ?_ NB102_107.out _;(with_reducible repeat (first|refine z5 ?_ _|refine z8 ?_|refine z4 ?_ _));exact BK102.out⟩,⟨by repeat (first|(with_reducible first|exact HK.out|apply Kept.alloc|apply Kept.drewN|apply Kept.drew|refine Kept.setCell ?_ (.inr GW101.out) _|refine Kept.setCell ?_ (.inr GW102.out) _|refine Kept.setCell ?_ (.inr GW104.out) _|refine Kept.setCell ?_ (.inr GW107.out) _)|exact HK.out)⟩,⟨by repeat (first|(with_reducible first|exact HB.out|apply zd|apply z2|apply z9|refine za ?_ GE101.out|refine za ?_ GE102.out|refine za ?_ GE104.out|refine za ?_ GE107.out)|exact HB.out)⟩⟩
   rw [if_neg c12] at H
   have c12b0 : (t105 == 0 && (t106 == 0)) = false:=by simpa using c12
   (try (have c12b1 : decide (t105 = 0 && (t106 == 0)) = false:=by simpa using c12))
   (try (have c12b2 : (t105 == 0 && (t106 == 0)) = false:=by simpa using c12))
   (try (have c12b3 : ¬ (t105 = 0 && (t106 == 0)):=by simpa using c12))
   clear c12
   replace H:=Option.bind_eq_some_iff.mp H
   obtain ⟨⟨t108,t109⟩,A250,H⟩:=H
   replace H : ((zO.f k1 a0 t108 t109 x102000_1 x102001_1).bind fun bt110=>((zS.f k1 a0 bt110.1 bt110.2).bind fun t112=>(zr.l1 k1 a0 x1_1 l2 (l2.length : Int) x17_1 t112 (t112.length : Int) 0 x102000_1 x102001_1 x103000_1 x103001_1 t105 t106))) = some r:=H
   have A25:=z1.mk A250
   clear A250
   replace H:=Option.bind_eq_some_iff.mp H
   obtain ⟨⟨t110,t111⟩,A260,H⟩:=H
   replace H : ((zS.f k1 a0 t110 t111).bind fun t112=>(zr.l1 k1 a0 x1_1 l2 (l2.length : Int) x17_1 t112 (t112.length : Int) 0 x102000_1 x102001_1 x103000_1 x103001_1 t105 t106)) = some r:=H
   have A26:=z1.mk A260
   clear A260
   replace H:=Option.bind_eq_some_iff.mp H
   obtain ⟨t112,A270,H⟩:=H
   replace H : (zr.l1 k1 a0 x1_1 l2 (l2.length : Int) x17_1 t112 (t112.length : Int) 0 x102000_1 x102001_1 x103000_1 x103001_1 t105 t106) = some r:=H
   have A27:=z1.mk A270
   clear A270
   have H':=z1.mk H
   clear H
   have p103 : 0 ≤ (x17_1 : Int):=of_decide_eq_true zz85
   have q103 : x17_1 < (l2.length : Int):=of_decide_eq_true zz85
   obtain ⟨ad103,e103,hx103_0,hx103_1⟩:=z20 (Kd.z4x HR2.out HK.out) x17_1 p103 q103
   cases e103
   replace p103:=eq_true p103
   replace q103:=eq_true q103
   try go_wp2_with (first|((with_reducible refine zp (N:=11) rfl ?_);refine zt ?hg (N:=11) ?hd (cs:=#[.int .u64 0,.int .u64 0]) (t:=30) ?hr ?_;(case hd=>rfl);(case hg=>rfl);(case hr=>first|(go_simp;done)|(go_simp;rfl));intro gb104 hg w28 hbox hb;have n0_:=z1.mk (Kd.zq (Kd.z1w zz75 gb104 (Nat.le_of_eq hg.symm)) hb);have n1_:=z1.mk (zc (g:=gb101) (o:=.cells #[.int .u64 x102000_1,.int .u64 x102001_1] 30 (0,0)) zz50 hb);have n2_:=z1.mk (zc (g:=gb102) (o:=.cells #[.int .u64 x103000_1,.int .u64 x103001_1] 30 (0,0)) zz51 hb);have n3_:=z1.mk (Kept.below (S:=(fun k_=>P1_ k_)) zz35 hb);have n4_:=z1.mk (z3 zz36 hb);have n5_:=z1.mk (hbox);have n6_:=z1.mk ((by rw [hg];exact zz28 : w.heap.size ≤ gb104));have n7_:=z1.mk ((by rw [hg];exact (zb zz36) : w0.heap.size ≤ gb104));have n8_:=z1.mk ((by rw [hg];exact Nat.ne_of_lt (zL (g:=gb101) (o:=.cells #[.int .u64 x102000_1,.int .u64 x102001_1] 30 (0,0)) zz50) : gb101 ≠ gb104));have n9_:=z1.mk ((by rw [hg];exact Nat.ne_of_gt (zL (g:=gb101) (o:=.cells #[.int .u64 x102000_1,.int .u64 x102001_1] 30 (0,0)) zz50) : gb104 ≠ gb101));have n10_:=z1.mk ((by rw [hg];exact Nat.ne_of_lt (zL (g:=gb102) (o:=.cells #[.int .u64 x103000_1,.int .u64 x103001_1] 30 (0,0)) zz51) : gb102 ≠ gb104));have n11_:=z1.mk ((by rw [hg];exact Nat.ne_of_gt (zL (g:=gb102) (o:=.cells #[.int .u64 x103000_1,.int .u64 x103001_1] 30 (0,0)) zz51) : gb104 ≠ gb102));clear HO_1;clear BK101;clear BK102;clear HK;clear HB;have HO_1:=n0_;have BK101:=n1_;have BK102:=n2_;have HK:=n3_;have HB:=n4_;have BK104:=n5_;have GW104:=n6_;have GE104:=n7_;have NB101_104:=n8_;have NB104_101:=n9_;have NB102_104:=n10_;have NB104_102:=n11_;clear n0_ n1_ n2_ n3_ n4_ n5_ n6_ n7_ n8_ n9_ n10_ n11_;clear hb hbox hg;have hnb29:=NB104_101.out;have hnc29:=NB101_104.out;have hnb30:=NB104_102.out;have hnc30:=NB102_104.out;have hcz31_0 : w28.cell? ⟨gb104,0,none⟩ = some (.int .u64 0):=(z7 BK104.out 0).trans rfl;have hcz31_1 : w28.cell? ⟨gb104,1,none⟩ = some (.int .u64 0):=(z7 BK104.out 1).trans rfl;have hfz31_0:=z6 BK104.out 0;have hfz31_1:=z6 BK104.out 1;have hnb32:=NB102_101.out;have hnc32:=NB101_102.out;have hcz33_0 : w28.cell? ⟨gb102,0,none⟩ = some (.int .u64 x103000_1):=(z7 BK102.out 0).trans rfl;have hcz33_1 : w28.cell? ⟨gb102,1,none⟩ = some (.int .u64 x103001_1):=(z7 BK102.out 1).trans rfl;have hfz33_0:=z6 BK102.out 0;have hfz33_1:=z6 BK102.out 1)|((with_reducible refine zi (f:=78) rfl ?_);refine goesL_ (some 25) rfl rfl Try.func78 zz90 rfl #[.int .i64 a0,.agg #[.int .u64 ((rd_T30 l2 x17_1).f0),.int .u64 ((rd_T30 l2 x17_1).f1)],.agg #[.int .u64 x103000_1,.int .u64 x103001_1]] rfl zz48 ?_;(with_reducible refine (zO.calls k1 a0 ((rd_T30 l2 x17_1).f0) ((rd_T30 l2 x17_1).f1) x103000_1 x103001_1 t105 t106 _ A11.out).mono ?_);rintro e w34 ⟨rfl,hb⟩;refine ⟨_,rfl,?_⟩;have n0_:=z1.mk (Kd.zq zz19 hb);have n1_:=z1.mk (zc (g:=gb101) (o:=.cells #[.int .u64 x102000_1,.int .u64 x102001_1] 30 (0,0)) zz15 hb);have n2_:=z1.mk (zc (g:=gb102) (o:=.cells #[.int .u64 x103000_1,.int .u64 x103001_1] 30 (0,0)) zz16 hb);have n3_:=z1.mk (zc (g:=gb104) (o:=.cells #[.int .u64 ((rd_T30 l2 x17_1).f0),.int .u64 ((rd_T30 l2 x17_1).f1)] 30 (0,0)) zz3 hb);have n4_:=z1.mk (Kept.below (S:=(fun k_=>P1_ k_)) zz32 hb);have n5_:=z1.mk (z3 zz34 hb);clear HO_1;clear BK101;clear BK102;clear BK104;clear HK;clear HB;have HO_1:=n0_;have BK101:=n1_;have BK102:=n2_;have BK104:=n3_;have HK:=n4_;have HB:=n5_;clear n0_ n1_ n2_ n3_ n4_ n5_;(try clear hb);(try clear hb2);(try clear hk);(try clear hi))|((with_reducible refine zp (N:=12) rfl ?_);refine zt ?hg (N:=12) ?hd (cs:=#[.int .u64 0,.int .u64 0]) (t:=30) ?hr ?_;(case hd=>rfl);(case hg=>rfl);(case hr=>first|(go_simp;done)|(go_simp;rfl));intro gb107 hg w35 hbox hb;have n0_:=z1.mk (Kd.zq (Kd.z1w zz75 gb107 (Nat.le_of_eq hg.symm)) hb);have n1_:=z1.mk (zc (g:=gb101) (o:=.cells #[.int .u64 x102000_1,.int .u64 x102001_1] 30 (0,0)) zz50 hb);have n2_:=z1.mk (zc (g:=gb102) (o:=.cells #[.int .u64 x103000_1,.int .u64 x103001_1] 30 (0,0)) zz51 hb);have n3_:=z1.mk (zc (g:=gb104) (o:=.cells #[.int .u64 ((rd_T30 l2 x17_1).f0),.int .u64 ((rd_T30 l2 x17_1).f1)] 30 (0,0)) zz57 hb);have n4_:=z1.mk (Kept.below (S:=(fun k_=>P1_ k_)) zz32 hb);have n5_:=z1.mk (z3 zz34 hb);have n6_:=z1.mk (hbox);have n7_:=z1.mk ((by rw [hg];exact zz22 : w.heap.size ≤ gb107));have n8_:=z1.mk ((by rw [hg];exact (zb zz34) : w0.heap.size ≤ gb107));have n9_:=z1.mk ((by rw [hg];exact Nat.ne_of_lt (zL (g:=gb101) (o:=.cells #[.int .u64 x102000_1,.int .u64 x102001_1] 30 (0,0)) zz50) : gb101 ≠ gb107));have n10_:=z1.mk ((by rw [hg];exact Nat.ne_of_gt (zL (g:=gb101) (o:=.cells #[.int .u64 x102000_1,.int .u64 x102001_1] 30 (0,0)) zz50) : gb107 ≠ gb101));have n11_:=z1.mk ((by rw [hg];exact Nat.ne_of_lt (zL (g:=gb102) (o:=.cells #[.int .u64 x103000_1,.int .u64 x103001_1] 30 (0,0)) zz51) : gb102 ≠ gb107));have n12_:=z1.mk ((by rw [hg];exact Nat.ne_of_gt (zL (g:=gb102) (o:=.cells #[.int .u64 x103000_1,.int .u64 x103001_1] 30 (0,0)) zz51) : gb107 ≠ gb102));have n13_:=z1.mk ((by rw [hg];exact Nat.ne_of_lt (zL (g:=gb104) (o:=.cells #[.int .u64 ((rd_T30 l2 x17_1).f0),.int .u64 ((rd_T30 l2 x17_1).f1)] 30 (0,0)) zz57) : gb104 ≠ gb107));have n14_:=z1.mk ((by rw [hg];exact Nat.ne_of_gt (zL (g:=gb104) (o:=.cells #[.int .u64 ((rd_T30 l2 x17_1).f0),.int .u64 ((rd_T30 l2 x17_1).f1)] 30 (0,0)) zz57) : gb107 ≠ gb104));clear HO_1;clear BK101;clear BK102;clear BK104;clear HK;clear HB;have HO_1:=n0_;have BK101:=n1_;have BK102:=n2_;have BK104:=n3_;have HK:=n4_;have HB:=n5_;have BK107:=n6_;have GW107:=n7_;have GE107:=n8_;have NB101_107:=n9_;have NB107_101:=n10_;have NB102_107:=n11_;have NB107_102:=n12_;have NB104_107:=n13_;have NB107_104:=n14_;clear n0_ n1_ n2_ n3_ n4_ n5_ n6_ n7_ n8_ n9_ n10_ n11_ n12_ n13_ n14_;clear hb hbox hg;have hnb36:=NB107_101.out;have hnc36:=NB101_107.out;have hnb37:=NB107_102.out;have hnc37:=NB102_107.out;have hnb38:=NB107_104.out;have hnc38:=NB104_107.out;have hcz39_0 : w35.cell? ⟨gb107,0,none⟩ = some (.int .u64 0):=(z7 BK107.out 0).trans rfl;have hcz39_1 : w35.cell? ⟨gb107,1,none⟩ = some (.int .u64 0):=(z7 BK107.out 1).trans rfl;have hfz39_0:=z6 BK107.out 0;have hfz39_1:=z6 BK107.out 1))
   have n0_ : z1 (Kd.R k30 30 ((w35.setCell ⟨gb107,0,none⟩ (.int .u64 t105)).setCell ⟨gb107,1,none⟩ (.int .u64 t106)) w0.heap.size (fun k_=>(P1_ k_ ∨ w.heap.size ≤ k_) ∧ k_ ≠ gb101 ∧ k_ ≠ gb102 ∧ k_ ≠ gb104 ∧ k_ ≠ gb107) u9000_ x1_1):=⟨by (with_reducible repeat (first|apply Kd.zI|apply Kd.zJ|apply Kd.zT));exact Kd.z18 (Kd.z1M (p:=⟨gb107,1,none⟩) (Kd.z1M (p:=⟨gb107,0,none⟩) (Kd.z18 HO_1.out (fun k_ hk=>(⟨hk,hk.2⟩ : _ ∧ k_ ≠ gb107))) (fun _ hk=>hk.2) (.int .u64 t105)) (fun _ hk=>hk.2) (.int .u64 t106)) (fun _ hk=>⟨hk.1.1.1.1,⟨hk.1.1.1.2.1,⟨hk.1.1.1.2.2,⟨hk.1.1.2,hk.1.2⟩⟩⟩⟩)⟩
   have n1_ : z1 (((w35.setCell ⟨gb107,0,none⟩ (.int .u64 t105)).setCell ⟨gb107,1,none⟩ (.int .u64 t106)).heap[gb101]? = some (.cells #[.int .u64 x102000_1,.int .u64 x102001_1] 30 (0,0))):=⟨by (with_reducible repeat (first|refine z5 ?_ _|refine z8 ?_|refine z4 ?_ _));refine zZ ?_ NB101_107.out _;(with_reducible repeat (first|refine z5 ?_ _|refine z8 ?_|refine z4 ?_ _));refine zZ ?_ NB101_107.out _;(with_reducible repeat (first|refine z5 ?_ _|refine z8 ?_|refine z4 ?_ _));exact BK101.out⟩
   have n2_ : z1 (((w35.setCell ⟨gb107,0,none⟩ (.int .u64 t105)).setCell ⟨gb107,1,none⟩ (.int .u64 t106)).heap[gb102]? = some (.cells #[.int .u64 x103000_1,.int .u64 x103001_1] 30 (0,0))):=⟨by (with_reducible repeat (first|refine z5 ?_ _|refine z8 ?_|refine z4 ?_ _));refine zZ ?_ NB102_107.out _;(with_reducible repeat (first|refine z5 ?_ _|refine z8 ?_|refine z4 ?_ _));refine zZ ?_ NB102_107.out _;(with_reducible repeat (first|refine z5 ?_ _|refine z8 ?_|refine z4 ?_ _));exact BK102.out⟩
   have n3_ : z1 (((w35.setCell ⟨gb107,0,none⟩ (.int .u64 t105)).setCell ⟨gb107,1,none⟩ (.int .u64 t106)).heap[gb104]? = some (.cells #[.int .u64 ((rd_T30 l2 x17_1).f0),.int .u64 ((rd_T30 l2 x17_1).f1)] 30 (0,0))):=⟨by (with_reducible repeat (first|refine z5 ?_ _|refine z8 ?_|refine z4 ?_ _));refine zZ ?_ NB104_107.out _;(with_reducible repeat (first|refine z5 ?_ _|refine z8 ?_|refine z4 ?_ _));refine zZ ?_ NB104_107.out _;(with_reducible repeat (first|refine z5 ?_ _|refine z8 ?_|refine z4 ?_ _));exact BK104.out⟩
   have n4_ : z1 (((w35.setCell ⟨gb107,0,none⟩ (.int .u64 t105)).setCell ⟨gb107,1,none⟩ (.int .u64 t106)).heap[gb107]? = some (.cells #[.int .u64 t105,.int .u64 t106] 30 (0,0))):=⟨by (with_reducible repeat (first|refine z5 ?_ _|refine z8 ?_|refine z4 ?_ _));refine zX (cs:=#[.int .u64 t105,.int .u64 0]) ?_ 1 _ rfl;(with_reducible repeat (first|refine z5 ?_ _|refine z8 ?_|refine z4 ?_ _));refine zX (cs:=#[.int .u64 0,.int .u64 0]) ?_ 0 _ rfl;(with_reducible repeat (first|refine z5 ?_ _|refine z8 ?_|refine z4 ?_ _));exact BK107.out⟩
   have n5_ : z1 (Kept w ((w35.setCell ⟨gb107,0,none⟩ (.int .u64 t105)).setCell ⟨gb107,1,none⟩ (.int .u64 t106)) (fun k_=>P1_ k_)):=⟨by repeat (first|(with_reducible first|exact HK.out|apply Kept.alloc|apply Kept.drewN|apply Kept.drew|refine Kept.setCell ?_ (.inr GW101.out) _|refine Kept.setCell ?_ (.inr GW102.out) _|refine Kept.setCell ?_ (.inr GW104.out) _|refine Kept.setCell ?_ (.inr GW107.out) _)|exact HK.out)⟩
   have n6_ : z1 (Below w0.heap.size w0 ((w35.setCell ⟨gb107,0,none⟩ (.int .u64 t105)).setCell ⟨gb107,1,none⟩ (.int .u64 t106))):=⟨by repeat (first|(with_reducible first|exact HB.out|apply zd|apply z2|apply z9|refine za ?_ GE101.out|refine za ?_ GE102.out|refine za ?_ GE104.out|refine za ?_ GE107.out)|exact HB.out)⟩
   (try clear HO_1)
   (try clear BK101)
   (try clear BK102)
   (try clear BK104)
   (try clear BK107)
   (try clear HK)
   (try clear HB)
   generalize ((w35.setCell ⟨gb107,0,none⟩ (.int .u64 t105)).setCell ⟨gb107,1,none⟩ (.int .u64 t106)) = w40 at n0_ n1_ n2_ n3_ n4_ n5_ n6_ ⊢
   have HO_1:=n0_
   have BK101:=n1_
   have BK102:=n2_
   have BK104:=n3_
   have BK107:=n4_
   have HK:=n5_
   have HB:=n6_
   clear n0_ n1_ n2_ n3_ n4_ n5_ n6_
   have n0_:=z1.mk (Kd.zT HO_1.out)
   have n1_:=z1.mk (z8 BK101.out)
   have n2_:=z1.mk (z8 BK102.out)
   have n3_:=z1.mk (z8 BK104.out)
   have n4_:=z1.mk (z8 BK107.out)
   have n5_:=z1.mk (Kept.drew HK.out)
   have n6_:=z1.mk (z9 HB.out)
   clear HO_1
   clear BK101
   clear BK102
   clear BK104
   clear BK107
   clear HK
   clear HB
   have HO_1:=n0_
   have BK101:=n1_
   have BK102:=n2_
   have BK104:=n3_
   have BK107:=n4_
   have HK:=n5_
   have HB:=n6_
   clear n0_ n1_ n2_ n3_ n4_ n5_ n6_
   refine start_ (n:=9) (S:=fun w'=>w'.cell? ⟨gb101,0,none⟩ = some (.int .u64 x102000_1) ∧ w'.cell? ⟨gb101,1,none⟩ = some (.int .u64 x102001_1)) (ds:=[]) #[false,false,false,false,false,false,false,false,false] zz90 rfl rfl ⟨(z7 BK101.out 0).trans rfl,(z7 BK101.out 1).trans rfl⟩ (fun hHeld=>?_);refine z25 zr.tab6 zr.bits6 (fun HT_ HW_=>?_)
   generalize w40.drew = w41 at HO_1 BK101 BK102 BK104 BK107 HK HB hHeld ⊢
   refine pure_ (i:=0) (N:=some 29) (v:=?_) (a':=?_) #[true,false,false,false,false,false,false,false,false] rfl rfl (z19 HT_.out zz90) (fun _ _ _ h=>h) (Or.inl ⟨by rfl,?_⟩) ?_ ?_
   rotate_left
   · intro w'
     go_simp
     with_reducible rfl
   rotate_left
   · simp only [Act.put,List.setIfInBounds_toArray,List.set_cons_zero,List.set_cons_succ,zH,zP]
     rfl
   refine pure_ (i:=1) (N:=some 30) (v:=?_) (a':=?_) #[true,true,false,false,false,false,false,false,false] rfl rfl (z19 HT_.out zz90) (fun _ _ _ h=>h) (Or.inl ⟨by rfl,?_⟩) ?_ ?_
   rotate_left
   · intro w'
     go_simp
     with_reducible rfl
   rotate_left
   · simp only [Act.put,List.setIfInBounds_toArray,List.set_cons_zero,List.set_cons_succ,zH,zP]
     rfl
   refine pure_ (i:=2) (N:=some 31) (v:=?_) (a':=?_) #[true,true,true,false,false,false,false,false,false] rfl rfl (z19 HT_.out zz90) (fun _ _ _ h=>h) (Or.inl ⟨by rfl,?_⟩) ?_ ?_
   rotate_left
   · intro w'
     go_simp
     with_reducible rfl
   rotate_left
   · simp only [Act.put,List.setIfInBounds_toArray,List.set_cons_zero,List.set_cons_succ,zH,zP]
     rfl
   refine pure_ (i:=8) (N:=some 37) (v:=?_) (a':=?_) #[true,true,true,false,false,false,false,false,true] rfl rfl (z19 HT_.out zz90) (fun _ _ _ h=>h) (Or.inl ⟨by rfl,?_⟩) ?_ ?_
   rotate_left
   · intro w'
     go_simp
     with_reducible rfl
   rotate_left
   · simp only [Act.put,List.setIfInBounds_toArray,List.set_cons_zero,List.set_cons_succ,zH,zP]
     rfl
   refine take_ (i:=4) (N:=some 33) (v:=?_) (a':=?_) #[true,true,true,false,true,false,false,false,true] rfl rfl (z1I HT_.out HW_.out zz90) (fun _ _ _ h=>h) (Or.inl ⟨by rfl,?_⟩) hHeld ?_ ?_
   rotate_left
   · rintro w' ⟨s0,s1⟩
     go_simp
     with_reducible rfl
   rotate_left
   · simp only [Act.put,List.setIfInBounds_toArray,List.set_cons_zero,List.set_cons_succ,zH,zP]
     rfl
   refine one_ (i:=3) (N:=some 32) #[true,true,true,true,true,false,false,false,true] rfl rfl (z1N HT_.out zz90) zz91 (fun K hK=>?_)
   refine goes_ Try.func94 zz90 rfl #[.int .i64 x17_1] zz94 rfl rfl zz48 ?_
   with_reducible refine (zY.calls k1 x17_1 t108 t109 _ A25.out).mono ?_
   rintro e w42 ⟨rfl,hb⟩
   refine ⟨_,rfl,?_⟩
   have n0_:=z1.mk (Kd.zq zz75 hb)
   have n1_:=z1.mk (zc (g:=gb101) (o:=.cells #[.int .u64 x102000_1,.int .u64 x102001_1] 30 (0,0)) zz50 hb)
   have n2_:=z1.mk (zc (g:=gb102) (o:=.cells #[.int .u64 x103000_1,.int .u64 x103001_1] 30 (0,0)) zz51 hb)
   have n3_:=z1.mk (zc (g:=gb104) (o:=.cells #[.int .u64 ((rd_T30 l2 x17_1).f0),.int .u64 ((rd_T30 l2 x17_1).f1)] 30 (0,0)) zz57 hb)
   have n4_:=z1.mk (zc (g:=gb107) (o:=.cells #[.int .u64 t105,.int .u64 t106] 30 (0,0)) zz59 hb)
   have n5_:=z1.mk (Kept.below (S:=(fun k_=>P1_ k_)) zz26 hb)
   have n6_:=z1.mk (z3 zz31 hb)
   clear HO_1
   clear BK101
   clear BK102
   clear BK104
   clear BK107
   clear HK
   clear HB
   have HO_1:=n0_
   have BK101:=n1_
   have BK102:=n2_
   have BK104:=n3_
   have BK107:=n4_
   have HK:=n5_
   have HB:=n6_
   clear n0_ n1_ n2_ n3_ n4_ n5_ n6_
   (try clear hb)
   (try clear hb2)
   (try clear hk)
   (try clear hi)
   refine hK.out _ _ ⟨(z7 BK101.out 0).trans rfl,(z7 BK101.out 1).trans rfl⟩ (fun hHeld=>?_)
   clear hK K
   refine norm_ (a':=?_) ?_ ?_
   rotate_left
   · show Act.put _ (some 32) _ = _
     simp only [Act.put,List.setIfInBounds_toArray,List.set_cons_zero,List.set_cons_succ,zH,zP]
     rfl
   refine one_ (i:=5) (N:=some 34) #[true,true,true,true,true,true,false,false,true] rfl rfl (z1N HT_.out zz90) zz91 (fun K hK=>?_)
   refine goes_ Try.func78 zz90 rfl #[.int .i64 a0,.agg #[.int .u64 t108,.int .u64 t109],.agg #[.int .u64 x102000_1,.int .u64 x102001_1]] zz94 rfl rfl zz48 ?_
   with_reducible refine (zO.calls k1 a0 t108 t109 x102000_1 x102001_1 t110 t111 _ A26.out).mono ?_
   rintro e w43 ⟨rfl,hb⟩
   refine ⟨_,rfl,?_⟩
   have n0_:=z1.mk (Kd.zq zz75 hb)
   have n1_:=z1.mk (zc (g:=gb101) (o:=.cells #[.int .u64 x102000_1,.int .u64 x102001_1] 30 (0,0)) zz50 hb)
   have n2_:=z1.mk (zc (g:=gb102) (o:=.cells #[.int .u64 x103000_1,.int .u64 x103001_1] 30 (0,0)) zz51 hb)
   have n3_:=z1.mk (zc (g:=gb104) (o:=.cells #[.int .u64 ((rd_T30 l2 x17_1).f0),.int .u64 ((rd_T30 l2 x17_1).f1)] 30 (0,0)) zz57 hb)
   have n4_:=z1.mk (zc (g:=gb107) (o:=.cells #[.int .u64 t105,.int .u64 t106] 30 (0,0)) zz59 hb)
   have n5_:=z1.mk (Kept.below (S:=(fun k_=>P1_ k_)) zz26 hb)
   have n6_:=z1.mk (z3 zz31 hb)
   clear HO_1
   clear BK101
   clear BK102
   clear BK104
   clear BK107
   clear HK
   clear HB
   have HO_1:=n0_
   have BK101:=n1_
   have BK102:=n2_
   have BK104:=n3_
   have BK107:=n4_
   have HK:=n5_
   have HB:=n6_
   clear n0_ n1_ n2_ n3_ n4_ n5_ n6_
   (try clear hb)
   (try clear hb2)
   (try clear hk)
   (try clear hi)
   refine hK.out _ _ ⟨(z7 BK101.out 0).trans rfl,(z7 BK101.out 1).trans rfl⟩ (fun hHeld=>?_)
   clear hK K
   refine norm_ (a':=?_) ?_ ?_
   rotate_left
   · show Act.put _ (some 34) _ = _
     simp only [Act.put,List.setIfInBounds_toArray,List.set_cons_zero,List.set_cons_succ,zH,zP]
     rfl
   refine one_ (i:=6) (N:=some 35) #[true,true,true,true,true,true,true,false,true] rfl rfl (z1N HT_.out zz90) zz91 (fun K hK=>?_)
   refine goes_ Try.func125 zz90 rfl #[.int .i64 a0,.agg #[.int .u64 t110,.int .u64 t111]] zz94 rfl rfl zz48 ?_
   with_reducible refine (zS.calls k1 a0 t110 t111 t112 _ A27.out).mono ?_
   rintro e w44 ⟨v113,rfl,ho0,hb⟩
   refine ⟨_,rfl,?_⟩
   have n0_:=z1.mk (Kd.zq zz75 hb)
   have n1_:=z1.mk (Kd.z1h (Kd.R_newM (M:=fun k_=>(P1_ k_ ∨ w.heap.size ≤ k_)) ho0 (by first|exact HK.out.1|exact (show Kept w _ (fun k_=>P1_ k_) from by repeat (first|(with_reducible first|exact HK.out|apply Kept.alloc|apply Kept.drewN|apply Kept.drew|refine Kept.setCell ?_ (.inr GW101.out) _|refine Kept.setCell ?_ (.inr GW102.out) _|refine Kept.setCell ?_ (.inr GW104.out) _|refine Kept.setCell ?_ (.inr GW107.out) _)|exact HK.out)).1) (fun k_ h_=>.inr h_)) (zb zz31))
   have n2_:=z1.mk (zc (g:=gb101) (o:=.cells #[.int .u64 x102000_1,.int .u64 x102001_1] 30 (0,0)) zz50 hb)
   have n3_:=z1.mk (zc (g:=gb102) (o:=.cells #[.int .u64 x103000_1,.int .u64 x103001_1] 30 (0,0)) zz51 hb)
   have n4_:=z1.mk (zc (g:=gb104) (o:=.cells #[.int .u64 ((rd_T30 l2 x17_1).f0),.int .u64 ((rd_T30 l2 x17_1).f1)] 30 (0,0)) zz57 hb)
   have n5_:=z1.mk (zc (g:=gb107) (o:=.cells #[.int .u64 t105,.int .u64 t106] 30 (0,0)) zz59 hb)
   have n6_:=z1.mk (Kept.below (S:=(fun k_=>P1_ k_)) zz26 hb)
   have n7_:=z1.mk (z3 zz31 hb)
   clear HO_1
   clear BK101
   clear BK102
   clear BK104
   clear BK107
   clear HK
   clear HB
   have HO_1:=n0_
   have HO114:=n1_
   have BK101:=n2_
   have BK102:=n3_
   have BK104:=n4_
   have BK107:=n5_
   have HK:=n6_
   have HB:=n7_
   clear n0_ n1_ n2_ n3_ n4_ n5_ n6_ n7_
   (try clear hb)
   (try clear hb2)
   (try clear hk)
   (try clear hi)
   (try clear ho0)
   obtain ⟨Ao45,co45,eo45⟩:=Kd.z1q HO114.out
   (first|subst eo45|(injection eo45 with f1_ f2_ f3_;have f4_:=f1_.symm;have f5_:=f3_.symm;clear f1_ f2_ f3_;subst f4_;subst f5_))
   refine hK.out _ _ ⟨(z7 BK101.out 0).trans rfl,(z7 BK101.out 1).trans rfl⟩ (fun hHeld=>?_)
   clear hK K
   refine norm_ (a':=?_) ?_ ?_
   rotate_left
   · show Act.put _ (some 35) _ = _
     simp only [Act.put,List.setIfInBounds_toArray,List.set_cons_zero,List.set_cons_succ,zH,zP]
     rfl
   refine pure_ (i:=7) (N:=some 36) (v:=?_) (a':=?_) #[true,true,true,true,true,true,true,true,true] rfl rfl (z19 HT_.out zz90) (fun _ _ _ h=>h) (Or.inl ⟨by rfl,?_⟩) ?_ ?_
   rotate_left
   · intro w'
     go_simp
     with_reducible rfl
   rotate_left
   · simp only [Act.put,List.setIfInBounds_toArray,List.set_cons_zero,List.set_cons_succ,zH,zP]
     rfl
   refine done_ (z2i HT_.out zz90) ?_
   try go_wp2
   go_loopg [37] k1 (fun kq v37 w'=>∃ (x1_2 : List (S30)) (x37_2 : Int) (x102000_2 : Int) (x102001_2 : Int) (x103000_2 : Int) (x103001_2 : Int) (x105000_2 : Int) (x105001_2 : Int) (x108000_2 : Int) (x108001_2 : Int),v37 = .int .i64 x37_2 ∧ z1 (zr.l1 kq a0 x1_2 l2 (l2.length : Int) x17_1 t112 (t112.length : Int) x37_2 x102000_2 x102001_2 x103000_2 x103001_2 x108000_2 x108001_2 = some r) ∧ z1 (kq ≤ k1) ∧ z1 (Kd.R k30 30 w' w0.heap.size (fun k_=>(P1_ k_ ∨ w.heap.size ≤ k_) ∧ k_ ≠ gb101 ∧ k_ ≠ gb102 ∧ k_ ≠ gb104 ∧ k_ ≠ gb107) u9000_ x1_2) ∧ z1 (Kd.R Kd.bool 4 w' w0.heap.size (fun k_=>(P1_ k_ ∨ w.heap.size ≤ k_)) (.slice Ao45 t112.length co45) t112) ∧ z1 (w'.heap[gb101]? = some (.cells #[.int .u64 x102000_2,.int .u64 x102001_2] 30 (0,0))) ∧ z1 (w'.heap[gb102]? = some (.cells #[.int .u64 x103000_2,.int .u64 x103001_2] 30 (0,0))) ∧ z1 (w'.heap[gb104]? = some (.cells #[.int .u64 x105000_2,.int .u64 x105001_2] 30 (0,0))) ∧ z1 (w'.heap[gb107]? = some (.cells #[.int .u64 x108000_2,.int .u64 x108001_2] 30 (0,0))) ∧ z1 (Kept w w' (fun k_=>P1_ k_)) ∧ z1 (Below w0.heap.size w0 w'))
   case atStart=>exact ⟨(x1_1),(0),(x102000_1),(x102001_1),(x103000_1),(x103001_1),((rd_T30 l2 x17_1).f0),((rd_T30 l2 x17_1).f1),(t105),(t106),zz86,H',⟨Nat.le_refl _⟩,⟨by (with_reducible repeat (first|apply Kd.zI|apply Kd.zJ|apply Kd.zT));exact HO_1.out⟩,⟨by (with_reducible repeat (first|apply Kd.zI|apply Kd.zJ|apply Kd.zT));exact Kd.z18 HO114.out (fun _ hk=>hk.1)⟩,⟨by (with_reducible repeat (first|refine z5 ?_ _|refine z8 ?_|refine z4 ?_ _));exact BK101.out⟩,⟨by (with_reducible repeat (first|refine z5 ?_ _|refine z8 ?_|refine z4 ?_ _));exact BK102.out⟩,⟨by (with_reducible repeat (first|refine z5 ?_ _|refine z8 ?_|refine z4 ?_ _));exact BK104.out⟩,⟨by (with_reducible repeat (first|refine z5 ?_ _|refine z8 ?_|refine z4 ?_ _));exact BK107.out⟩,⟨by repeat (first|(with_reducible first|exact HK.out|apply Kept.alloc|apply Kept.drewN|apply Kept.drew|refine Kept.setCell ?_ (.inr GW101.out) _|refine Kept.setCell ?_ (.inr GW102.out) _|refine Kept.setCell ?_ (.inr GW104.out) _|refine Kept.setCell ?_ (.inr GW107.out) _)|exact HK.out)⟩,⟨by repeat (first|(with_reducible first|exact HB.out|apply zd|apply z2|apply z9|refine za ?_ GE101.out|refine za ?_ GE102.out|refine za ?_ GE104.out|refine za ?_ GE107.out)|exact HB.out)⟩⟩
   case round =>
    clear H'
    (try clear c1);(try clear p1);(try clear q1);(try clear hx1);(try clear c2);(try clear p2);(try clear c3);(try clear p6);(try clear c7);(try clear c8);(try clear c8b0);(try clear c9);(try clear c9b0);(try clear c10);(try clear c10b0);(try clear p10);(try clear q10);(try clear hx10);(try clear c12);(try clear c12b0);(try clear c12b1);(try clear c12b2);(try clear c14);(try clear c15);(try clear c17);(try clear c21);(try clear c22);(try clear c23);(try clear c29);(try clear c30);(try clear c32);(try clear c36);(try clear c37);(try clear c38);(try clear hcz16_0);(try clear hcz16_1);(try clear hcz18_0);(try clear hcz18_1);(try clear hcz24_0);(try clear hcz24_1);(try clear hcz31_0);(try clear hcz31_1);(try clear hcz33_0);(try clear hcz33_1);(try clear hcz39_0);(try clear hcz39_1);(try clear hfz16_0);(try clear hfz16_1);(try clear hfz18_0);(try clear hfz18_1);(try clear hfz24_0);(try clear hfz24_1);(try clear hfz31_0);(try clear hfz31_1);(try clear hfz33_0);(try clear hfz33_1);(try clear hfz39_0);(try clear hfz39_1);(try clear hx103_0);(try clear hx103_1);(try clear p103);(try clear p2);(try clear q103)
    obtain ⟨x1_2,x37_2,x102000_2,x102001_2,x103000_2,x103001_2,x105000_2,x105001_2,x108000_2,x108001_2,rfl,HA,HK2,HO_1,HO_35,BK101,BK102,BK104,BK107,HK,HB⟩:=hrel
    cases gk with
    | zero=>exact absurd HA.out (by simp [zr.l1])
    | succ k2 =>
     have H:=HA.out
     clear HA
     simp only [zr.l1] at H
     by_cases c46 : x37_2 < (t112.length : Int)
     rotate_left
     · rw [if_neg c46] at H
       have c46b0 : decide (x37_2 < (t112.length : Int)) = false:=decide_eq_false c46
       clear c46
       have H':=z1.mk H
       clear H
       go_wp2
       go_roundg k2
       case measure=>have:=HK1.out;have:=HK2.out;omega
       case rel=>exact ⟨(x1_2),(wrap64 (x17_1 + 1)),(x102000_2),(x102001_2),(x103000_2),(x103001_2),zz86,H',⟨by have:=HK1.out;have:=HK2.out;omega⟩,⟨by (with_reducible repeat (first|apply Kd.zI|apply Kd.zJ|apply Kd.zT));exact Kd.z18 HO_1.out (fun _ hk=>⟨hk.1,⟨hk.2.1,hk.2.2.1⟩⟩)⟩,⟨by (with_reducible repeat (first|refine z5 ?_ _|refine z8 ?_|refine z4 ?_ _));exact BK101.out⟩,⟨by (with_reducible repeat (first|refine z5 ?_ _|refine z8 ?_|refine z4 ?_ _));exact BK102.out⟩,⟨by repeat (first|(with_reducible first|exact HK.out|apply Kept.alloc|apply Kept.drewN|apply Kept.drew|refine Kept.setCell ?_ (.inr GW101.out) _|refine Kept.setCell ?_ (.inr GW102.out) _|refine Kept.setCell ?_ (.inr GW104.out) _|refine Kept.setCell ?_ (.inr GW107.out) _)|exact HK.out)⟩,⟨by repeat (first|(with_reducible first|exact HB.out|apply zd|apply z2|apply z9|refine za ?_ GE101.out|refine za ?_ GE102.out|refine za ?_ GE104.out|refine za ?_ GE107.out)|exact HB.out)⟩⟩
     rw [if_pos c46] at H
     have c46b0 : decide (x37_2 < (t112.length : Int)) = true:=decide_eq_true c46
     clear c46
     by_cases c47 : 0 ≤ x37_2
     rotate_left
     · rw [if_neg c47] at H
       exact absurd H zz93
     rw [if_pos c47] at H
     have c47b0 : decide (0 ≤ x37_2) = true:=decide_eq_true c47
     clear c47
     by_cases c48 : x37_2 < (t112.length : Int)
     rotate_left
     · rw [if_neg c48] at H
       exact absurd H zz93
     rw [if_pos c48] at H
     have c48b0 : decide (x37_2 < (t112.length : Int)) = true:=decide_eq_true c48
     clear c48
     obtain ⟨bq49,hbq49⟩ : ∃ b_ : Bool,b_ = (rdOf false t112 x37_2):=⟨_,rfl⟩
     replace H : (if bq49 = true then (if x37_2 < (x1_2.length : Int) then ((z1t.f ((rd_T30 x1_2 x37_2).f0) ((rd_T30 x1_2 x37_2).f1) x108000_2 x108001_2).bind fun bt117=>(zr.l1 k2 a0 (x1_2.set (x37_2 : Int).toNat (⟨bt117.1,bt117.2⟩ : S30)) l2 (l2.length : Int) x17_1 t112 (t112.length : Int) (wrap64 (x37_2 + 1)) x102000_2 x102001_2 x103000_2 x103001_2 x108000_2 x108001_2)) else (none)) else (zr.l1 k2 a0 x1_2 l2 (l2.length : Int) x17_1 t112 (t112.length : Int) (wrap64 (x37_2 + 1)) x102000_2 x102001_2 x103000_2 x103001_2 x108000_2 x108001_2)) = some r:=by rw [← hbq49] at H;exact H
     have Nbq49:=z1.mk hbq49
     clear hbq49
     by_cases c50 : bq49 = true
     rotate_left
     · replace c50:=Bool.eq_false_iff.mpr c50
       subst c50
       have H1 : (zr.l1 k2 a0 x1_2 l2 (l2.length : Int) x17_1 t112 (t112.length : Int) (wrap64 (x37_2 + 1)) x102000_2 x102001_2 x103000_2 x103001_2 x108000_2 x108001_2) = some r:=by rw [if_neg (show ¬ (false = true) by decide)] at H;exact H
       clear H
       have H:=H1
       clear H1
       have H':=z1.mk H
       clear H
       have p115 : 0 ≤ (x37_2 : Int):=of_decide_eq_true zz85
       have q115 : x37_2 < (t112.length : Int):=of_decide_eq_true zz85
       obtain ⟨ad115,e115,hx115_0⟩:=Kd.z3E (Kd.zs HO_35.out).2.2 x37_2 p115 q115
       (try rw [← Nbq49.out] at hx115_0)
       cases e115
       replace p115:=eq_true p115
       replace q115:=eq_true q115
       go_wp2
       go_roundg k2
       case measure=>have:=HK1.out;have:=HK2.out;omega
       case rel=>exact ⟨(x1_2),(wrap64 (x37_2 + 1)),(x102000_2),(x102001_2),(x103000_2),(x103001_2),(x105000_2),(x105001_2),(x108000_2),(x108001_2),zz86,H',⟨by have:=HK1.out;have:=HK2.out;omega⟩,⟨by (with_reducible repeat (first|apply Kd.zI|apply Kd.zJ|apply Kd.zT));exact HO_1.out⟩,⟨by (with_reducible repeat (first|apply Kd.zI|apply Kd.zJ|apply Kd.zT));exact HO_35.out⟩,⟨by (with_reducible repeat (first|refine z5 ?_ _|refine z8 ?_|refine z4 ?_ _));exact BK101.out⟩,⟨by (with_reducible repeat (first|refine z5 ?_ _|refine z8 ?_|refine z4 ?_ _));exact BK102.out⟩,⟨by (with_reducible repeat (first|refine z5 ?_ _|refine z8 ?_|refine z4 ?_ _));exact BK104.out⟩,⟨by (with_reducible repeat (first|refine z5 ?_ _|refine z8 ?_|refine z4 ?_ _));exact BK107.out⟩,⟨by repeat (first|(with_reducible first|exact HK.out|apply Kept.alloc|apply Kept.drewN|apply Kept.drew|refine Kept.setCell ?_ (.inr GW101.out) _|refine Kept.setCell ?_ (.inr GW102.out) _|refine Kept.setCell ?_ (.inr GW104.out) _|refine Kept.setCell ?_ (.inr GW107.out) _)|exact HK.out)⟩,⟨by repeat (first|(with_reducible first|exact HB.out|apply zd|apply z2|apply z9|refine za ?_ GE101.out|refine za ?_ GE102.out|refine za ?_ GE104.out|refine za ?_ GE107.out)|exact HB.out)⟩⟩
     subst c50
     have H1 : (if x37_2 < (x1_2.length : Int) then ((z1t.f ((rd_T30 x1_2 x37_2).f0) ((rd_T30 x1_2 x37_2).f1) x108000_2 x108001_2).bind fun bt117=>(zr.l1 k2 a0 (x1_2.set (x37_2 : Int).toNat (⟨bt117.1,bt117.2⟩ : S30)) l2 (l2.length : Int) x17_1 t112 (t112.length : Int) (wrap64 (x37_2 + 1)) x102000_2 x102001_2 x103000_2 x103001_2 x108000_2 x108001_2)) else (none)) = some r:=by rw [if_pos rfl] at H;exact H
     clear H
     have H:=H1
     clear H1
     by_cases c51 : x37_2 < (x1_2.length : Int)
     rotate_left
     · rw [if_neg c51] at H
       exact absurd H zz93
     rw [if_pos c51] at H
     have c51b0 : decide (x37_2 < (x1_2.length : Int)) = true:=decide_eq_true c51
     clear c51
     replace H:=Option.bind_eq_some_iff.mp H
     obtain ⟨⟨t117,t118⟩,A520,H⟩:=H
     replace H : (zr.l1 k2 a0 (x1_2.set (x37_2 : Int).toNat (⟨t117,t118⟩ : S30)) l2 (l2.length : Int) x17_1 t112 (t112.length : Int) (wrap64 (x37_2 + 1)) x102000_2 x102001_2 x103000_2 x103001_2 x108000_2 x108001_2) = some r:=H
     have A52:=z1.mk A520
     clear A520
     obtain ⟨y119,hy119⟩ : ∃ y_ : List (S30),y_ = (x1_2.set (x37_2 : Int).toNat (⟨t117,t118⟩ : S30)):=⟨_,rfl⟩
     replace H : (zr.l1 k2 a0 y119 l2 (l2.length : Int) x17_1 t112 (t112.length : Int) (wrap64 (x37_2 + 1)) x102000_2 x102001_2 x103000_2 x103001_2 x108000_2 x108001_2) = some r:=by first|(rw [hy119];with_reducible exact H)|(have H2_:=(Option.bind_some _ _).symm.trans H;rw [hy119];with_reducible exact H2_)|(have H2_:=(Option.bind_some _ _).symm.trans H;with_reducible exact H2_)|with_reducible exact H|(rw [hy119];exact H)|exact H
     have Ny119:=z1.mk hy119
     clear hy119
     have H':=z1.mk H
     clear H
     have p115 : 0 ≤ (x37_2 : Int):=of_decide_eq_true zz85
     have q115 : x37_2 < (t112.length : Int):=of_decide_eq_true zz85
     obtain ⟨ad115,e115,hx115_0⟩:=Kd.z3E (Kd.zs HO_35.out).2.2 x37_2 p115 q115
     (try rw [← Nbq49.out] at hx115_0)
     cases e115
     replace p115:=eq_true p115
     replace q115:=eq_true q115
     try go_wp2
     have n0_:=z1.mk (Kd.zT HO_1.out)
     have n1_:=z1.mk (Kd.zT HO_35.out)
     have n2_:=z1.mk (z8 BK101.out)
     have n3_:=z1.mk (z8 BK102.out)
     have n4_:=z1.mk (z8 BK104.out)
     have n5_:=z1.mk (z8 BK107.out)
     have n6_:=z1.mk (Kept.drew HK.out)
     have n7_:=z1.mk (z9 HB.out)
     clear HO_1
     clear HO_35
     clear BK101
     clear BK102
     clear BK104
     clear BK107
     clear HK
     clear HB
     have HO_1:=n0_
     have HO_35:=n1_
     have BK101:=n2_
     have BK102:=n3_
     have BK104:=n4_
     have BK107:=n5_
     have HK:=n6_
     have HB:=n7_
     clear n0_ n1_ n2_ n3_ n4_ n5_ n6_ n7_
     obtain ⟨Ao55,co55,eo55⟩:=Kd.z1q HO_1.out
     (first|subst eo55|(injection eo55 with f1_ f2_ f3_;have f4_:=f1_.symm;have f5_:=f3_.symm;clear f1_ f2_ f3_;subst f4_;subst f5_))
     have p116 : 0 ≤ (x37_2 : Int):=of_decide_eq_true zz85
     have q116 : x37_2 < (x1_2.length : Int):=of_decide_eq_true zz85
     obtain ⟨ad116,e116,hx116_0,hx116_1⟩:=z20 (Kd.zs HO_1.out).2.2 x37_2 p116 q116
     cases e116
     replace p116:=eq_true p116
     replace q116:=eq_true q116
     refine start_ (n:=10) (S:=fun w'=>w'.cell? ⟨gb107,0,none⟩ = some (.int .u64 x108000_2) ∧ w'.cell? ⟨gb107,1,none⟩ = some (.int .u64 x108001_2) ∧ w'.cell? (ad116.add ((x37_2).toNat * 2)) = some (.int .u64 ((rd_T30 x1_2 x37_2).f0)) ∧ w'.cell? ⟨(ad116.add ((x37_2).toNat * 2)).block,(ad116.add ((x37_2).toNat * 2)).off + 1,none⟩ = some (.int .u64 ((rd_T30 x1_2 x37_2).f1))) (ds:=[9]) #[false,false,false,false,false,false,false,false,false,false] zz90 rfl rfl ⟨(z7 BK107.out 0).trans rfl,(z7 BK107.out 1).trans rfl,hx116_0,hx116_1⟩ (fun hHeld=>?_);refine z25 zr.tab10 zr.bits10 (fun HT_ HW_=>?_)
     generalize wr.drew = w54 at HO_1 HO_35 BK101 BK102 BK104 BK107 HK HB hx116_0 hx116_1 hHeld ⊢
     refine pure_ (i:=0) (N:=some 43) (v:=?_) (a':=?_) #[true,false,false,false,false,false,false,false,false,false] rfl rfl (z19 HT_.out zz90) (fun _ _ _ h=>h) (Or.inl ⟨by rfl,?_⟩) ?_ ?_
     rotate_left
     · intro w'
       go_simp
       with_reducible rfl
     rotate_left
     · simp only [Act.put,List.setIfInBounds_toArray,List.set_cons_zero,List.set_cons_succ,zH,zP]
       rfl
     refine pure_ (i:=1) (N:=some 44) (v:=?_) (a':=?_) #[true,true,false,false,false,false,false,false,false,false] rfl rfl (z19 HT_.out zz90) (fun _ _ _ h=>h) (Or.inl ⟨by rfl,?_⟩) ?_ ?_
     rotate_left
     · intro w'
       go_simp
       with_reducible rfl
     rotate_left
     · simp only [Act.put,List.setIfInBounds_toArray,List.set_cons_zero,List.set_cons_succ,zH,zP]
       rfl
     refine pure_ (i:=2) (N:=some 45) (v:=?_) (a':=?_) #[true,true,true,false,false,false,false,false,false,false] rfl rfl (z19 HT_.out zz90) (fun _ _ _ h=>h) (Or.inl ⟨by rfl,?_⟩) ?_ ?_
     rotate_left
     · intro w'
       go_simp
       with_reducible rfl
     rotate_left
     · simp only [Act.put,List.setIfInBounds_toArray,List.set_cons_zero,List.set_cons_succ,zH,zP]
       rfl
     refine pure_ (i:=3) (N:=some 46) (v:=?_) (a':=?_) #[true,true,true,true,false,false,false,false,false,false] rfl rfl (z19 HT_.out zz90) (fun _ _ _ h=>h) (Or.inl ⟨by rfl,?_⟩) ?_ ?_
     rotate_left
     · intro w'
       go_simp
       with_reducible rfl
     rotate_left
     · simp only [Act.put,List.setIfInBounds_toArray,List.set_cons_zero,List.set_cons_succ,zH,zP]
       rfl
     refine pure_ (i:=4) (N:=some 47) (v:=?_) (a':=?_) #[true,true,true,true,true,false,false,false,false,false] rfl rfl (z19 HT_.out zz90) (fun _ _ _ h=>h) (Or.inl ⟨by rfl,?_⟩) ?_ ?_
     rotate_left
     · intro w'
       go_simp
       with_reducible rfl
     rotate_left
     · simp only [Act.put,List.setIfInBounds_toArray,List.set_cons_zero,List.set_cons_succ,zH,zP]
       rfl
     refine take_ (i:=5) (N:=some 48) (v:=?_) (a':=?_) #[true,true,true,true,true,true,false,false,false,false] rfl rfl (z1I HT_.out HW_.out zz90) (fun _ _ _ h=>h) (Or.inl ⟨by rfl,?_⟩) hHeld ?_ ?_
     rotate_left
     · rintro w' ⟨s0,s1,s2,s3⟩
       go_simp
       with_reducible rfl
     rotate_left
     · simp only [Act.put,List.setIfInBounds_toArray,List.set_cons_zero,List.set_cons_succ,zH,zP]
       rfl
     refine take_ (i:=6) (N:=some 49) (v:=?_) (a':=?_) #[true,true,true,true,true,true,true,false,false,false] rfl rfl (z1I HT_.out HW_.out zz90) (fun _ _ _ h=>h) (Or.inl ⟨by rfl,?_⟩) hHeld ?_ ?_
     rotate_left
     · rintro w' ⟨s0,s1,s2,s3⟩
       go_simp
       with_reducible rfl
     rotate_left
     · simp only [Act.put,List.setIfInBounds_toArray,List.set_cons_zero,List.set_cons_succ,zH,zP]
       rfl
     refine one_ (i:=7) (N:=some 50) #[true,true,true,true,true,true,true,true,false,false] rfl rfl (z1N HT_.out zz90) zz91 (fun K hK=>?_)
     refine goes_ Try.func64 zz90 rfl #[.agg #[.int .u64 ((rd_T30 x1_2 x37_2).f0),.int .u64 ((rd_T30 x1_2 x37_2).f1)],.agg #[.int .u64 x108000_2,.int .u64 x108001_2]] zz94 rfl rfl zz48 ?_
     with_reducible refine (z1t.calls ((rd_T30 x1_2 x37_2).f0) ((rd_T30 x1_2 x37_2).f1) x108000_2 x108001_2 t117 t118 _ A52.out).mono ?_
     rintro e w56 ⟨rfl,hb⟩
     have HS2_:=(hb.cell (World.block_lt_of_cell? _ _ (hHeld.2.2.1))).trans (hHeld.2.2.1)
     have HS3_:=(hb.cell (World.block_lt_of_cell? _ _ (hHeld.2.2.2))).trans (hHeld.2.2.2)
     refine ⟨_,rfl,?_⟩
     have n0_:=z1.mk (Kd.zq zz75 hb)
     have n1_:=z1.mk (Kd.zq (by (with_reducible repeat (first|apply Kd.zI|apply Kd.zJ|apply Kd.zT));exact HO_35.out) hb)
     have n2_:=z1.mk (zc (g:=gb101) (o:=.cells #[.int .u64 x102000_2,.int .u64 x102001_2] 30 (0,0)) zz50 hb)
     have n3_:=z1.mk (zc (g:=gb102) (o:=.cells #[.int .u64 x103000_2,.int .u64 x103001_2] 30 (0,0)) zz51 hb)
     have n4_:=z1.mk (zc (g:=gb104) (o:=.cells #[.int .u64 x105000_2,.int .u64 x105001_2] 30 (0,0)) zz57 hb)
     have n5_:=z1.mk (zc (g:=gb107) (o:=.cells #[.int .u64 x108000_2,.int .u64 x108001_2] 30 (0,0)) zz59 hb)
     have n6_:=z1.mk (Kept.below (S:=(fun k_=>P1_ k_)) zz26 hb)
     have n7_:=z1.mk (z3 zz31 hb)
     clear HO_1
     clear HO_35
     clear BK101
     clear BK102
     clear BK104
     clear BK107
     clear HK
     clear HB
     have HO_1:=n0_
     have HO_35:=n1_
     have BK101:=n2_
     have BK102:=n3_
     have BK104:=n4_
     have BK107:=n5_
     have HK:=n6_
     have HB:=n7_
     clear n0_ n1_ n2_ n3_ n4_ n5_ n6_ n7_
     (try clear hb)
     (try clear hb2)
     (try clear hk)
     (try clear hi)
     have p53 : 0 ≤ (x37_2 : Int):=of_decide_eq_true zz85
     have q53 : (x37_2 : Int) < ((x1_2.length : Int) : Int):=of_decide_eq_true zz85
     obtain ⟨go53,co53,eo53,gb53,gl53,cl53,HG53⟩:=Kd.z43 HO_1.out zz92
     (first|cases eo53|(injection eo53 with ea_ en_ ec_;(first|subst ea_|(injection ea_ with ea_;subst ea_));subst ec_;clear en_))
     have GB53:=z1.mk gb53
     have GG53:=z1.mk HG53
     clear gb53 gl53 HG53
     have HMgo53:=z1.mk (show (P1_ go53 ∨ w.heap.size ≤ go53) from (HO_1.out.1 _ rfl).1)
     (first|simp only [z27] at hx116_0|skip)
     (first|simp only [z27] at hx116_1|skip)
     obtain ⟨ce53,hcl53,hM53,hcc53,hfr53⟩:=Kd.z2x HO_1.out z30 (x37_2 : Int) p53 q53
     obtain rfl:=z1V hM53
     have hx53_0 : World.cell? _ ⟨go53,(x37_2 : Int).toNat * 2,none⟩ = some (.int .u64 ((rd_T30 x1_2 x37_2).f0)):=hcc53 0 _ rfl
     have hx53_1 : World.cell? _ ⟨go53,(x37_2 : Int).toNat * 2 + 1,none⟩ = some (.int .u64 ((rd_T30 x1_2 x37_2).f1)):=hcc53 1 _ rfl
     have hf53_0 : World.frozen? _ ⟨go53,(x37_2 : Int).toNat * 2,none⟩ = false:=hfr53 0
     have hf53_1 : World.frozen? _ ⟨go53,(x37_2 : Int).toNat * 2 + 1,none⟩ = false:=hfr53 1
     clear hcl53 hcc53 hfr53 hM53
     replace p53:=eq_true p53
     replace q53:=eq_true q53
     obtain ⟨ce57,hcl57,hM57,hcc57,hfr57⟩:=Kd.z2x HO_1.out z30 (x37_2 : Int) (of_decide_eq_true zz85) (by have h_ : (x37_2 : Int) < ((x1_2.length : Int) : Int):=of_decide_eq_true zz85;first|exact h_|(have e_:=(Kd.zs HO_1.out).1;omega)|simpa using h_)
     obtain rfl:=z1V hM57
     have HP57:=(Kd.z5A HO_1.out (x37_2 : Int) (of_decide_eq_true zz85) (by have h_ : (x37_2 : Int) < ((x1_2.length : Int) : Int):=of_decide_eq_true zz85;first|exact h_|(have e_:=(Kd.zs HO_1.out).1;omega)|simpa using h_) (seg:=[.int .u64 t117,.int .u64 t118]) (j:=0) hcl57 hcc57 (show 2 ≤ 2 from by decide) (x':=(⟨t117,t118⟩ : S30)) (z1J _ _ _ (⟨t117,t118⟩ : S30) ) (fun _ hk=>hk)).1
     rw [← Ny119.out] at HP57
     have HQ57:=z1.mk HP57
     clear hcl57 hcc57 hfr57 hM57 HP57
     refine hK.out _ _ ⟨(z7 BK107.out 0).trans rfl,(z7 BK107.out 1).trans rfl,HS2_,HS3_⟩ (fun hHeld=>?_)
     clear hK K
     refine norm_ (a':=?_) ?_ ?_
     rotate_left
     · show Act.put _ (some 50) _ = _
       simp only [Act.put,List.setIfInBounds_toArray,List.set_cons_zero,List.set_cons_succ,zH,zP]
       rfl
     refine pure_ (i:=8) (N:=some 51) (v:=?_) (a':=?_) #[true,true,true,true,true,true,true,true,true,false] rfl rfl (z19 HT_.out zz90) (fun _ _ _ h=>h) (Or.inl ⟨by rfl,?_⟩) ?_ ?_
     rotate_left
     · intro w'
       go_simp
       with_reducible rfl
     rotate_left
     · simp only [Act.put,List.setIfInBounds_toArray,List.set_cons_zero,List.set_cons_succ,zH,zP]
       rfl
     refine last_ (i:=9) (N:=none) #[true,true,true,true,true,true,true,true,true,true] rfl rfl (z1N HT_.out zz90) zz91 (fun K hK=>?_)
     refine skip_ (w1:=?_) zz94 rfl ?_ ?_
     rotate_left
     · go_simp
       rfl
     refine hK.out _ _ ?_
     clear hK K
     refine done_ (z2i HT_.out zz90) ?_
     try go_wp2
     go_roundg k2
     case measure=>have:=HK1.out;have:=HK2.out;omega
     case rel=>exact ⟨(y119),(wrap64 (x37_2 + 1)),(x102000_2),(x102001_2),(x103000_2),(x103001_2),(x105000_2),(x105001_2),(x108000_2),(x108001_2),zz86,H',⟨by have:=HK1.out;have:=HK2.out;omega⟩,⟨by (with_reducible repeat (first|apply Kd.zI|apply Kd.zJ|apply Kd.zT));exact HQ57.out⟩,⟨by (with_reducible repeat (first|apply Kd.zI|apply Kd.zJ|apply Kd.zT));exact Kd.z18 (Kd.z1M (p:=⟨go53,(x37_2 : Int).toNat * 2 + 1,none⟩) (Kd.z1M (p:=⟨go53,(x37_2 : Int).toNat * 2,none⟩) (Kd.z3g HO_35.out GG53.out zz91) (fun _ hk=>hk.2) (.int .u64 t117)) (fun _ hk=>hk.2) (.int .u64 t118)) (fun _ hk=>hk.1)⟩,⟨by (with_reducible repeat (first|refine z5 ?_ _|refine z8 ?_|refine z4 ?_ _));refine zZ ?_ zz81 _;(with_reducible repeat (first|refine z5 ?_ _|refine z8 ?_|refine z4 ?_ _));refine zZ ?_ zz81 _;(with_reducible repeat (first|refine z5 ?_ _|refine z8 ?_|refine z4 ?_ _));exact BK101.out⟩,⟨by (with_reducible repeat (first|refine z5 ?_ _|refine z8 ?_|refine z4 ?_ _));refine zZ ?_ zz79 _;(with_reducible repeat (first|refine z5 ?_ _|refine z8 ?_|refine z4 ?_ _));refine zZ ?_ zz79 _;(with_reducible repeat (first|refine z5 ?_ _|refine z8 ?_|refine z4 ?_ _));exact BK102.out⟩,⟨by (with_reducible repeat (first|refine z5 ?_ _|refine z8 ?_|refine z4 ?_ _));refine zZ ?_ zz77 _;(with_reducible repeat (first|refine z5 ?_ _|refine z8 ?_|refine z4 ?_ _));refine zZ ?_ zz77 _;(with_reducible repeat (first|refine z5 ?_ _|refine z8 ?_|refine z4 ?_ _));exact BK104.out⟩,⟨by (with_reducible repeat (first|refine z5 ?_ _|refine z8 ?_|refine z4 ?_ _));refine zZ ?_ zz78 _;(with_reducible repeat (first|refine z5 ?_ _|refine z8 ?_|refine z4 ?_ _));refine zZ ?_ zz78 _;(with_reducible repeat (first|refine z5 ?_ _|refine z8 ?_|refine z4 ?_ _));exact BK107.out⟩,⟨by repeat (first|(with_reducible first|exact HK.out|apply Kept.alloc|apply Kept.drewN|apply Kept.drew|refine Kept.setCell ?_ HMgo53.out _|refine Kept.setCell ?_ HMgo53.out _|refine Kept.setCell ?_ (.inr GW101.out) _|refine Kept.setCell ?_ (.inr GW102.out) _|refine Kept.setCell ?_ (.inr GW104.out) _|refine Kept.setCell ?_ (.inr GW107.out) _)|exact HK.out)⟩,⟨by repeat (first|(with_reducible first|exact HB.out|apply zd|apply z2|apply z9|refine za ?_ GB53.out|refine za ?_ GB53.out|refine za ?_ GE101.out|refine za ?_ GE102.out|refine za ?_ GE104.out|refine za ?_ GE107.out)|exact HB.out)⟩⟩
end Go.Proofs.Ytkhmpaooinpfoaa.P
/- The program's sums of pairs: a tensor times an element on the left, parts by another one, added to one. Own text. -/
namespace Go.Proofs.Ytkhmpaooinpfoaa.Sp
open Go.RowKit Go.Proofs.YtkhmpaooinpfoaaW.PrintWords Go.Proofs.YtkhmpaooinpfoaaW.PrintMore Go.Proofs.Ytkhmpaooinpfoaa.P Go.Proofs.Ytkhmpaooinpfoaa.Ar Go.Proofs.Ytkhmpaooinpfoaa.Tw
set_option linter.unusedVariables false
/-- A list of so many elements. -/
def tabL (n : Nat) (f : Nat → E) : List E := (List.range n).map f
theorem z1n (n : Nat) (f : Nat → E) : (tabL n f).length = n := by simp [tabL]
theorem z22 (n : Nat) (f : Nat → E) (i : Nat) (h : i < n) : (tabL n f).getD i 0 = f i := z2M f 0 n i h
theorem z1T (n : Nat) {f g : Nat → E} (h : ∀ i, i < n → f i = g i) : tabL n f = tabL n g := by
  unfold tabL
  apply List.map_congr_left
  intro i hi
  exact h i (List.mem_range.1 hi)
theorem tabL_self (X : List E) : tabL X.length (fun i => X.getD i 0) = X := by
  apply z3S (z1n _ _)
  intro i hi
  rw [z1n] at hi
  exact z22 _ _ i hi
theorem z3X (n : Nat) (f g : Nat → E) (i : Nat) (hi : i < n) (hg : ∀ k, k < n → k ≠ i → g k = f k) : (tabL n f).set i (g i) = tabL n g := by
  apply z3S
  · rw [List.length_set, z1n, z1n]
  · intro k hk
    rw [List.length_set, z1n] at hk
    rw [z22 n g k hk]
    by_cases c : i = k
    · subst c
      exact z4S (by rw [z1n]; exact hi) _
    · rw [getD_set_ne c, z22 n f k hk, hg k hk (fun e => c e.symm)]
theorem z3e (n : Nat) : List.replicate n (0 : E) = tabL n (fun _ => 0) := by
  apply z3S
  · rw [List.length_replicate, z1n]
  · intro i hi
    rw [List.length_replicate] at hi
    rw [z22 n _ i hi, List.getD_eq_getElem?_getD, List.getElem?_replicate, if_pos hi]; rfl
theorem z67 {l : Nat} (hl : l ≤ 7) (n : Nat) (f : Nat → E) (h : ∀ i, i < n → InL l (f i)) : AllS (l : Int) (tabL n f) := by
  intro x hx
  unfold tabL at hx
  obtain ⟨i, hi, rfl⟩ := List.mem_map.1 hx
  exact ⟨by omega, by omega, by rw [Int.toNat_natCast]; exact h i (List.mem_range.1 hi)⟩
theorem ofS_of {l : Nat} (hl : l ≤ 7) {x : E} (h : InL l x) : OfS (l : Int) x := ⟨by omega, by omega, by rw [Int.toNat_natCast]; exact h⟩
theorem inL_of {l : Nat} {x : E} (h : OfS (l : Int) x) : InL l x := by have := h.2.2; rwa [Int.toNat_natCast] at this
/-- One product's bits, each with y, added to what there is. -/
def bitAdd (f : Nat → E) (z y : E) (i k : Nat) : E := f k + pick (decide (k < i) && hasB z k) y
theorem z47 (f : Nat → E) (z y : E) (k : Nat) : bitAdd f z y 0 k = f k := by
  unfold bitAdd
  rw [decide_eq_false (Nat.not_lt_zero k), Bool.false_and, z1s, add_zero]
theorem z3s (f : Nat → E) (z y : E) (i : Nat) : bitAdd f z y i i = f i := by
  unfold bitAdd
  rw [decide_eq_false (Nat.lt_irrefl i), Bool.false_and, z1s, add_zero]
theorem z2L (f : Nat → E) (z y : E) (i k : Nat) (h : k ≠ i) : bitAdd f z y (i + 1) k = bitAdd f z y i k := by
  unfold bitAdd
  have : decide (k < i + 1) = decide (k < i) := by rw [decide_eq_decide]; omega
  rw [this]
theorem z39 (f : Nat → E) (z y : E) (i : Nat) : bitAdd f z y (i + 1) i = f i + pick (hasB z i) y := by
  unfold bitAdd
  rw [decide_eq_true (Nat.lt_succ_self i), Bool.true_and]
theorem z4C (f : Nat → E) (z y : E) (n k : Nat) (h : k < n) : bitAdd f z y n k = f k + pick (hasB z k) y := by
  unfold bitAdd
  rw [decide_eq_true h, Bool.true_and]
theorem z6D {l : Nat} (hl : l ≤ 7) (f : Nat → E) (z y a p : E) (TS : List S30) (m u : Int) {R : List S30}
    (h : Ev (fun q => zr.l0 q (l : Int) ((tabL (2 ^ l) (fun k => f k + pick (hasB z k) y)).map toS) TS m (wrap64 (u + 1)) (hi a) (lo a) (hi p) (lo p)) R) :
    ∀ (d i : Nat), i + d = 2 ^ l → Ev (fun q => zr.l1 q (l : Int) ((tabL (2 ^ l) (bitAdd f z y i)).map toS) TS m u (bitsL z (2 ^ l)) ((2 ^ l : Nat) : Int) (i : Int) (hi a) (lo a) (hi p) (lo p) (hi y) (lo y)) R := by
  have h128 := w128 hl
  have hlb : (bitsL z (2 ^ l)).length = 2 ^ l := by unfold bitsL; simp
  intro d
  induction d with
  | zero =>
    intro i hid
    have : i = 2 ^ l := by omega
    subst this
    refine Ev.step (fun q => by rw [zr.l1]) (Ev.neg (Int.lt_irrefl _) ?_)
    rw [z1T _ (fun k hk => z4C f z y (2 ^ l) k hk)]
    exact h
  | succ d ih =>
    intro i hid
    have hi' : i < 2 ^ l := by omega
    have hih := ih (i + 1) (by omega)
    have hb : rdOf false (bitsL z (2 ^ l)) (i : Int) = hasB z i := by rw [z77]; exact z2M _ false _ i hi'
    have hg : (tabL (2 ^ l) (bitAdd f z y i)).getD i 0 = f i := by rw [z22 _ _ i hi', z3s]
    have c3 : (i : Int) < (((tabL (2 ^ l) (bitAdd f z y i)).map toS).length : Int) := by rw [List.length_map, z1n]; omega
    refine Ev.step (fun q => by rw [zr.l1]) (Ev.pos (by omega) (Ev.pos (Int.natCast_nonneg _) (Ev.pos (by rw [hlb]; omega) ?_)))
    simp only [hb, z1O hi' (show 2 ^ l ≤ 4611686018427387904 by omega)]
    cases c : hasB z i with
    | true =>
      refine Ev.pos rfl (Ev.pos c3 ?_)
      simp only [rdS, hg, z35, z36]
      refine Ev.bnd0 (z5N _ _) ?_
      have e : ((tabL (2 ^ l) (bitAdd f z y i)).map toS).set (i : Int).toNat (⟨hi (f i + y), lo (f i + y)⟩ : S30) = (tabL (2 ^ l) (bitAdd f z y (i + 1))).map toS := by
        rw [Int.toNat_natCast, z68, map_set]
        have hn := z39 f z y i
        rw [c, z1D] at hn
        rw [← hn, z3X _ _ _ i hi' (fun k _ hne => z2L f z y i k hne)]
      rw [e]; exact hih
    | false =>
      refine Ev.neg Bool.false_ne_true ?_
      have e : tabL (2 ^ l) (bitAdd f z y (i + 1)) = tabL (2 ^ l) (bitAdd f z y i) := by
        apply z1T
        intro k _
        by_cases ck : k = i
        · subst ck; rw [z39, c, z1s, add_zero, z3s]
        · exact z2L f z y i k ck
      rw [← e]; exact hih
theorem z6C {l : Nat} (hl : l ≤ 7) (T : List E) (a p : E) (hT : AllS (l : Int) T) (hTl : T.length ≤ 2 ^ l) (ha : InL l a) (hp : InL l p) (f : Nat → E) :
    ∀ (d u : Nat), u + d = T.length → Ev (fun q => zr.l0 q (l : Int) ((tabL (2 ^ l) (fun k => f k + actT u (fun i => T.getD i 0) a p k)).map toS) (T.map toS) (T.length : Int) (u : Int) (hi a) (lo a) (hi p) (lo p))
      ((tabL (2 ^ l) (fun k => f k + actT T.length (fun i => T.getD i 0) a p k)).map toS) := by
  have h128 := w128 hl
  intro d
  induction d with
  | zero =>
    intro u hu
    have : u = T.length := by omega
    subst this
    exact Ev.step (fun q => by rw [zr.l0]) (Ev.neg (Int.lt_irrefl _) (Ev.ret _))
  | succ d ih =>
    intro u hu
    have hu' : u < T.length := by omega
    have hih := ih (u + 1) (by omega)
    have hw := z1O hu' (show T.length ≤ 4611686018427387904 by omega)
    have hs : ∀ k, actT (u + 1) (fun i => T.getD i 0) a p k = actT u (fun i => T.getD i 0) a p k + pick (hasB (bitE u * a) k) (T.getD u 0 * p) := fun k => by
      unfold actT; rw [sumN]
    have hf : (fun k => f k + actT (u + 1) (fun i => T.getD i 0) a p k) = fun k => (f k + actT u (fun i => T.getD i 0) a p k) + pick (hasB (bitE u * a) k) (T.getD u 0 * p) := by
      funext k; rw [hs, add_assoc]
    rw [hf] at hih
    refine Ev.step (fun q => by rw [zr.l0]) (Ev.pos (by omega) (Ev.pos (Int.natCast_nonneg _) (Ev.pos (by rw [List.length_map]; omega) ?_)))
    simp only [rdS, z35, z36]
    refine Ev.bnd (z5P hl (z2t hT u) hp) ?_
    simp only [eq_none]
    by_cases c : T.getD u 0 * p = 0
    · refine Ev.pos (decide_eq_true c) ?_
      rw [hw]
      have e : (fun k => (f k + actT u (fun i => T.getD i 0) a p k) + pick (hasB (bitE u * a) k) (T.getD u 0 * p)) = fun k => f k + actT u (fun i => T.getD i 0) a p k := by
        funext k; rw [c, z5m, add_zero]
      rw [e] at hih
      exact hih
    · refine Ev.neg (by rw [decide_eq_false c]; exact Bool.false_ne_true) ?_
      refine Ev.bnd (z2P u (by omega)) ?_
      have hbe := z6A hl (show u < 2 ^ l by omega)
      refine Ev.bnd (z5P hl hbe ha) ?_
      refine Ev.bnd (z3P hl (bitE u * a) (ofS_of hl (z49 hl hbe ha))) ?_
      have hlb : (bitsL (bitE u * a) (2 ^ l)).length = 2 ^ l := by unfold bitsL; simp
      rw [hlb]
      have e0 : tabL (2 ^ l) (fun k => f k + actT u (fun i => T.getD i 0) a p k) = tabL (2 ^ l) (bitAdd (fun k => f k + actT u (fun i => T.getD i 0) a p k) (bitE u * a) (T.getD u 0 * p) 0) :=
        z1T _ (fun k _ => (z47 (fun k => f k + actT u (fun i => T.getD i 0) a p k) (bitE u * a) (T.getD u 0 * p) k).symm)
      rw [e0]
      refine z6D hl (fun k => f k + actT u (fun i => T.getD i 0) a p k) (bitE u * a) (T.getD u 0 * p) a p _ _ _ ?_ (2 ^ l) 0 (Nat.zero_add _)
      rw [hw]
      exact hih
theorem byLeft_ev {l : Nat} (hl : l ≤ 7) (f : Nat → E) (T : List E) (a p : E) (hT : AllS (l : Int) T) (hTl : T.length ≤ 2 ^ l) (ha : InL l a) (hp : InL l p) :
    Ev (fun q => zr.f q (l : Int) ((tabL (2 ^ l) f).map toS) (T.map toS) (hi a) (lo a) (hi p) (lo p)) ((tabL (2 ^ l) (fun k => f k + actT T.length (fun i => T.getD i 0) a p k)).map toS) := by
  unfold zr.f
  rw [List.length_map]
  have := z6C hl T a p hT hTl ha hp f T.length 0 (Nat.zero_add _)
  have e : tabL (2 ^ l) (fun k => f k + actT 0 (fun i => T.getD i 0) a p k) = tabL (2 ^ l) f := z1T _ (fun k _ => by
    show f k + sumN _ 0 = f k
    rw [sumN, add_zero])
  rw [e] at this
  exact this
end Go.Proofs.Ytkhmpaooinpfoaa.Sp
/- Elements as rows of bits: the leading bit, whether bits stand below n, bits turned about. Own text. -/
namespace Go.Proofs.Ytkhmpaooinpfoaa.Sp
open Go.RowKit Go.Proofs.YtkhmpaooinpfoaaW.PrintWords Go.Proofs.YtkhmpaooinpfoaaW.PrintMore Go.Proofs.Ytkhmpaooinpfoaa.P Go.Proofs.Ytkhmpaooinpfoaa.Ar Go.Proofs.Ytkhmpaooinpfoaa.Tw
set_option linter.unusedVariables false
/-- How many bits a number has. -/
def blen (n : Nat) : Nat := if n = 0 then 0 else Nat.log2 n + 1
theorem z3h (n k : Nat) : blen n ≤ k ↔ n < 2 ^ k := by
  unfold blen
  by_cases h : n = 0
  · rw [if_pos h, h]
    exact ⟨fun _ => Nat.two_pow_pos k, fun _ => Nat.zero_le _⟩
  · rw [if_neg h, ← Nat.log2_lt h]
    exact ⟨fun h => h, fun h => h⟩
theorem z2I (n s : Nat) (h : 2 ^ s ≤ n) : blen n = blen (n / 2 ^ s) + s := by
  have key : ∀ k, blen n ≤ k + s ↔ blen (n / 2 ^ s) ≤ k := by
    intro k
    rw [z3h, z3h, Nat.div_lt_iff_lt_mul (Nat.two_pow_pos s), ← Nat.pow_add]
  have hs : s ≤ blen n := by
    apply Classical.byContradiction
    intro g
    have := (z3h n s).1 (by omega)
    omega
  have h1 := (key (blen (n / 2 ^ s))).2 (Nat.le_refl _)
  have h2 := (key (blen n - s)).1 (by omega)
  omega
def len8 : ByteArray := ⟨#[0, 1, 2, 2, 3, 3, 3, 3, 4, 4, 4, 4, 4, 4, 4, 4, 5, 5, 5, 5, 5, 5, 5, 5, 5, 5, 5, 5, 5, 5, 5, 5, 6, 6, 6, 6, 6, 6, 6, 6, 6, 6, 6, 6, 6, 6, 6, 6, 6, 6, 6, 6, 6, 6, 6, 6, 6, 6, 6, 6, 6, 6, 6, 6, 7, 7, 7, 7, 7, 7, 7, 7, 7, 7, 7, 7, 7, 7, 7, 7, 7, 7, 7, 7, 7, 7, 7, 7, 7, 7, 7, 7, 7, 7, 7, 7, 7, 7, 7, 7, 7, 7, 7, 7, 7, 7, 7, 7, 7, 7, 7, 7, 7, 7, 7, 7, 7, 7, 7, 7, 7, 7, 7, 7, 7, 7, 7, 7, 8, 8, 8, 8, 8, 8, 8, 8, 8, 8, 8, 8, 8, 8, 8, 8, 8, 8, 8, 8, 8, 8, 8, 8, 8, 8, 8, 8, 8, 8, 8, 8, 8, 8, 8, 8, 8, 8, 8, 8, 8, 8, 8, 8, 8, 8, 8, 8, 8, 8, 8, 8, 8, 8, 8, 8, 8, 8, 8, 8, 8, 8, 8, 8, 8, 8, 8, 8, 8, 8, 8, 8, 8, 8, 8, 8, 8, 8, 8, 8, 8, 8, 8, 8, 8, 8, 8, 8, 8, 8, 8, 8, 8, 8, 8, 8, 8, 8, 8, 8, 8, 8, 8, 8, 8, 8, 8, 8, 8, 8, 8, 8, 8, 8, 8, 8, 8, 8, 8, 8, 8, 8, 8, 8, 8, 8, 8, 8]⟩
theorem len8_eq : ∀ b : Nat, b < 256 → bt len8 (b : Int) = ((blen b : Nat) : Int) := by decide +kernel
theorem len_j0 (n : Nat) (hn : n < 2 ^ 32) (x : Nat) (hx : x ≤ 1000) : Ev (fun k => z1k.j0 k (n : Int) (x : Int)) ((x + blen n : Nat) : Int) := by
  have fin : ∀ (m y : Nat), m < 256 → y ≤ 2000 → wrap64 ((y : Int) + wrap64 (bt len8 (m : Int))) = ((y + blen m : Nat) : Int) := by
    intro m y hm hy
    have hb : blen m ≤ 8 := (z3h m 8).2 hm
    rw [len8_eq m hm, z2g (x := ((blen m : Nat) : Int)) (by omega) (by omega)]
    exact w64_add (by omega) (by omega)
  have e16 : wrap64 ((x : Int) + 16) = ((x + 16 : Nat) : Int) := by rw [z2g (by omega) (by omega)]; omega
  have e8 : wrap64 ((x : Int) + 8) = ((x + 8 : Nat) : Int) := by rw [z2g (by omega) (by omega)]; omega
  have e24 : wrap64 ((((x + 16 : Nat) : Int)) + 8) = ((x + 24 : Nat) : Int) := by rw [z2g (by omega) (by omega)]; omega
  refine Ev.step (fun k => by rw [z1k.j0]) ?_
  by_cases c1 : (n : Int) ≥ 65536
  · refine Ev.pos c1 ?_
    have hb := z2I n 16 (by omega)
    have q1 : (n : Int) / 65536 = ((n / 2 ^ 16 : Nat) : Int) := by omega
    rw [q1, e16, e24]
    generalize hq : n / 2 ^ 16 = q at hb
    have hq16 : q < 65536 := by omega
    by_cases c2 : (q : Int) ≥ 256
    · refine Ev.pos c2 ?_
      have hb2 := z2I q 8 (by omega)
      have q2 : ((q : Int) / 256) % 256 = ((q / 2 ^ 8 : Nat) : Int) := by omega
      rw [q2]
      refine Ev.pos (Int.natCast_nonneg _) (Ev.pos (by omega) (Ev.ret' ?_))
      have := fin (q / 2 ^ 8) (x + 24) (by omega) (by omega)
      refine this.trans ?_
      omega
    · refine Ev.neg c2 ?_
      have q2 : (q : Int) % 256 = (q : Int) := by omega
      rw [q2]
      refine Ev.pos (Int.natCast_nonneg _) (Ev.pos (by omega) (Ev.ret' ?_))
      have := fin q (x + 16) (by omega) (by omega)
      refine this.trans ?_
      omega
  · refine Ev.neg c1 ?_
    by_cases c2 : (n : Int) ≥ 256
    · refine Ev.pos c2 ?_
      have hb2 := z2I n 8 (by omega)
      have q2 : ((n : Int) / 256) % 256 = ((n / 2 ^ 8 : Nat) : Int) := by omega
      rw [q2, e8]
      refine Ev.pos (Int.natCast_nonneg _) (Ev.pos (by omega) (Ev.ret' ?_))
      have := fin (n / 2 ^ 8) (x + 8) (by omega) (by omega)
      refine this.trans ?_
      omega
    · refine Ev.neg c2 ?_
      have q2 : (n : Int) % 256 = (n : Int) := by omega
      rw [q2]
      refine Ev.pos (Int.natCast_nonneg _) (Ev.pos (by omega) (Ev.ret' ?_))
      exact fin n x (by omega) (by omega)
theorem z5O (n : Nat) (hn : n < 2 ^ 64) : Ev (fun k => z1k.f k (n : Int)) ((blen n : Nat) : Int) := by
  unfold z1k.f
  by_cases c : (n : Int) ≥ 4294967296
  · refine Ev.pos c ?_
    have q1 : (n : Int) / 4294967296 = ((n / 2 ^ 32 : Nat) : Int) := by omega
    have hb := z2I n 32 (by omega)
    rw [q1, hb, Nat.add_comm]
    exact len_j0 (n / 2 ^ 32) (by omega) 32 (by decide)
  · refine Ev.neg c ?_
    have := len_j0 n (by omega) 0 (by decide)
    rw [Nat.zero_add] at this
    exact this
/-- The leading bit. -/
theorem lead_ev (x : E) : Ev (fun k => z1P.f k (hi x) (lo x)) (((blen (val x) : Nat) : Int) - 1) := by
  have h1 := hi_bd x
  have h2 := z6i x
  have hv := z4l x
  unfold z1P.f
  obtain ⟨h, hh⟩ := Int.eq_ofNat_of_zero_le h1.1
  obtain ⟨l, hl⟩ := Int.eq_ofNat_of_zero_le h2.1
  rw [hh] at h1 hv ⊢
  rw [hl] at h2 hv ⊢
  rw [Int.toNat_natCast, Int.toNat_natCast] at hv
  by_cases c : (h : Int) = 0
  · refine Ev.pos c (Ev.bnd (z5O l (by omega)) (Ev.ret' ?_))
    have : val x = l := by omega
    rw [this]
    have hb : blen l ≤ 64 := (z3h l 64).2 (by omega)
    exact z2g (by omega) (by omega)
  · refine Ev.neg c (Ev.bnd (z5O h (by omega)) (Ev.ret' ?_))
    have hb : blen h ≤ 64 := (z3h h 64).2 (by omega)
    have hs := z2I (val x) 64 (by omega)
    have hd : val x / 2 ^ 64 = h := by omega
    rw [hd] at hs
    rw [hs, z2g (by omega) (by omega)]
    omega
/-- Do all elements have bits below n alone? -/
def InN (n : Nat) (X : List E) : Prop := ∀ x ∈ X, val x < 2 ^ n
instance (n : Nat) (X : List E) : Decidable (InN n X) := by unfold InN; infer_instance
theorem z5x (n : Nat) (hn : n ≤ 1000000) : ∀ (X : List E), Ev (fun k => zK.f k (X.map toS) (n : Int)) (decide (InN n X))
  | [] => by refine Ev.ret' ?_; symm; rw [decide_eq_true_eq]; intro x hx; cases hx
  | x :: xs => by
    show Ev (fun k => (zK.q.f k (n : Int) (toS x).f0 (toS x).f1).bind fun b => if b = true then zK.all k (n : Int) (xs.map toS) else some false) _
    have hq : Ev (fun k => zK.q.f k (n : Int) (hi x) (lo x)) (decide (val x < 2 ^ n)) := by
      unfold zK.q.f
      refine Ev.bnd (lead_ev x) (Ev.ret' ?_)
      have := z3h (val x) n
      by_cases c : val x < 2 ^ n
      · have h2 := this.2 c
        rw [decide_eq_true c, decide_eq_false (show ¬ (((blen (val x) : Nat) : Int) - 1 ≥ (n : Int)) by omega)]; rfl
      · have h2 : ¬ blen (val x) ≤ n := fun h => c (this.1 h)
        rw [decide_eq_false c, decide_eq_true (show ((blen (val x) : Nat) : Int) - 1 ≥ (n : Int) by omega)]; rfl
    refine Ev.bnd hq ?_
    have hd : InN n (x :: xs) ↔ val x < 2 ^ n ∧ InN n xs := List.forall_mem_cons
    by_cases c : val x < 2 ^ n
    · refine Ev.pos (decide_eq_true c) ((z5x n hn xs).eqn ?_)
      rw [decide_eq_decide, hd]; exact ⟨fun h => ⟨c, h⟩, fun h => h.2⟩
    · refine Ev.neg (by simpa using c) (Ev.ret' ?_)
      symm; rw [decide_eq_false_iff_not, hd]; exact fun h => c h.1
theorem z6m (x : E) (n : Nat) (hn : n < 128) : Ev (fun k => z1E.f k (hi x) (lo x) (n : Int)) (hasB x n) := by
  unfold z1E.f
  exact Ev.bnd (z2P n hn) (Ev.ret' (hasBits x n hn))
/-- Bits turned about, as far as one has come. -/
def turnN (X : List E) (m j : Nat) : E := sumN (fun i => pick (hasB (X.getD i 0) j) (bitE i)) m
def turnL (X : List E) (n : Nat) : List E := tabL n (turnN X X.length)
theorem turn_l1 (n : Nat) (hn : n ≤ 128) (f : Nat → E) (z : E) (i : Nat) (hi128 : i < 128) (XS : List S30) (m : Int) {R : List S30 × Int}
    (h : Ev (fun k => zC.l0 k (n : Int) ((tabL n (fun q => f q + pick (hasB z q) (bitE i))).map toS) XS m (wrap64 ((i : Int) + 1))) R) :
    ∀ (d j : Nat), j + d = n → Ev (fun k => zC.l1 k (n : Int) ((tabL n (bitAdd f z (bitE i) j)).map toS) (i : Int) XS m (i : Int) (n : Int) (j : Int) (hi z) (lo z)) R := by
  intro d
  induction d with
  | zero =>
    intro j hj
    have : j = n := by omega
    subst this
    refine Ev.step (fun k => by rw [zC.l1]) (Ev.neg (Int.lt_irrefl _) ?_)
    rw [z1T _ (fun q hq => z4C f z (bitE i) j q hq)]
    exact h
  | succ d ih =>
    intro j hj
    have hj' : j < n := by omega
    have hih := ih (j + 1) (by omega)
    have hg : (tabL n (bitAdd f z (bitE i) j)).getD j 0 = f j := by rw [z22 _ _ j hj', z3s]
    have c3 : (j : Int) < (((tabL n (bitAdd f z (bitE i) j)).map toS).length : Int) := by rw [List.length_map, z1n]; omega
    refine Ev.step (fun k => by rw [zC.l1]) (Ev.pos (by omega) (Ev.bnd (z6m z j (by omega)) ?_))
    cases c : hasB z j with
    | true =>
      refine Ev.pos rfl (Ev.pos (Int.natCast_nonneg _) (Ev.pos c3 (Ev.bnd (z2P i hi128) ?_)))
      simp only [rdS, hg, z35, z36]
      refine Ev.bnd0 (z5N _ _) ?_
      have e : ((tabL n (bitAdd f z (bitE i) j)).map toS).set (j : Int).toNat (⟨hi (f j + bitE i), lo (f j + bitE i)⟩ : S30) = (tabL n (bitAdd f z (bitE i) (j + 1))).map toS := by
        rw [Int.toNat_natCast, z68, map_set]
        have hn2 := z39 f z (bitE i) j
        rw [c, z1D] at hn2
        rw [← hn2, z3X _ _ _ j hj' (fun q _ hne => z2L f z (bitE i) j q hne)]
      simp only [e, z1O hj' (show n ≤ 4611686018427387904 by omega)]
      exact hih
    | false =>
      refine Ev.neg Bool.false_ne_true ?_
      have e : tabL n (bitAdd f z (bitE i) (j + 1)) = tabL n (bitAdd f z (bitE i) j) := by
        apply z1T
        intro q _
        by_cases cq : q = j
        · subst cq; rw [z39, c, z1s, add_zero, z3s]
        · exact z2L f z (bitE i) j q cq
      rw [z1O hj' (by omega), ← e]; exact hih
theorem turn_l0 (X : List E) (hX : X.length ≤ 128) (n : Nat) (hn : n ≤ 128) : ∀ (d i : Nat), i + d = X.length →
    Ev (fun k => zC.l0 k (n : Int) ((tabL n (turnN X i)).map toS) (X.map toS) (X.length : Int) (i : Int)) ((turnL X n).map toS, 0) := by
  intro d
  induction d with
  | zero =>
    intro i hid
    have : i = X.length := by omega
    subst this
    refine Ev.step (fun k => by rw [zC.l0]) ?_
    exact Ev.neg (Int.lt_irrefl _) (Ev.ret _)
  | succ d ih =>
    intro i hid
    have hi' : i < X.length := by omega
    have hih := ih (i + 1) (by omega)
    have c3 : (i : Int) < ((X.map toS).length : Int) := by rw [List.length_map]; omega
    refine Ev.step (fun k => by rw [zC.l0]) (Ev.pos (by omega) (Ev.pos (Int.natCast_nonneg _) (Ev.pos c3 ?_)))
    simp only [rdS, z35, z36]
    have e0 : tabL n (turnN X i) = tabL n (bitAdd (turnN X i) (X.getD i 0) (bitE i) 0) := z1T _ (fun q _ => (z47 _ _ _ q).symm)
    rw [e0]
    refine turn_l1 n hn (turnN X i) (X.getD i 0) i (by omega) _ _ ?_ n 0 (Nat.zero_add _)
    rw [z1O hi' (by omega)]
    have e1 : tabL n (fun q => turnN X i q + pick (hasB (X.getD i 0) q) (bitE i)) = tabL n (turnN X (i + 1)) := z1T _ (fun q _ => by
      show _ = sumN _ (i + 1)
      rw [sumN]; rfl)
    rw [e1]
    exact hih
theorem Turn_ev (X : List E) (hX : X.length ≤ 128) (n : Nat) (hn : n ≤ 128) (hin : InN n X) : Ev (fun k => zC.f k (X.map toS) (n : Int)) ((turnL X n).map toS, 0) := by
  unfold zC.f
  rw [List.length_map]
  refine Ev.neg (by omega) (Ev.neg (by omega) ?_)
  rw [decide_eq_false (show ¬ ((n : Int) > 128) by omega)]
  refine Ev.step (fun k => by rw [zC.j0]) (Ev.neg (by decide) (Ev.bnd (z5x n (by omega) X) ?_))
  refine Ev.pos (decide_eq_true hin) ?_
  refine Ev.pos (Int.natCast_nonneg _) ?_
  refine Ev.pos (show ((n : Nat) : Int).toNat ≤ 17592186044416 by rw [Int.toNat_natCast]; omega) ?_
  rw [List.length_map, Int.toNat_natCast, z3W, z3e]
  have e0 : tabL n (fun _ => (0 : E)) = tabL n (turnN X 0) := rfl
  rw [e0]
  exact turn_l0 X hX n hn X.length 0 (Nat.zero_add _)
end Go.Proofs.Ytkhmpaooinpfoaa.Sp
/- Are all of a level? as layer 15 asks. Own text. -/
namespace Go.Proofs.Ytkhmpaooinpfoaa.Sp
open Go.RowKit Go.Proofs.YtkhmpaooinpfoaaW.PrintWords Go.Proofs.YtkhmpaooinpfoaaW.PrintMore Go.Proofs.Ytkhmpaooinpfoaa.P Go.Proofs.Ytkhmpaooinpfoaa.Ar Go.Proofs.Ytkhmpaooinpfoaa.Tw
set_option linter.unusedVariables false
set_option linter.unusedSimpArgs false
theorem z4E (L : Int) : ∀ (X : List E), Ev (fun k => z1y.f k L (X.map toS)) (decide (AllS L X))
  | [] => by refine Ev.ret' ?_; symm; rw [decide_eq_true_eq]; intro x hx; cases hx
  | x :: xs => by
    show Ev (fun k => (zF.f k L (toS x).f0 (toS x).f1).bind fun b => if b = true then z1y.all k L (xs.map toS) else some false) _
    refine Ev.bnd (z4b L x) ?_
    have hd : AllS L (x :: xs) ↔ OfS L x ∧ AllS L xs := List.forall_mem_cons
    by_cases c : OfS L x
    · refine Ev.pos (decide_eq_true c) ((z4E L xs).eqn ?_)
      rw [decide_eq_decide, hd]; exact ⟨fun h => ⟨c, h⟩, fun h => h.2⟩
    · refine Ev.neg (by simpa using c) (Ev.ret' ?_)
      symm; rw [decide_eq_false_iff_not, hd]; exact fun h => c h.1
end Go.Proofs.Ytkhmpaooinpfoaa.Sp
/- The weights of all corners, as the program doubles them. Own text. -/
namespace Go.Proofs.Ytkhmpaooinpfoaa.Sp
open Go.RowKit Go.Proofs.YtkhmpaooinpfoaaW.PrintWords Go.Proofs.YtkhmpaooinpfoaaW.PrintMore Go.Proofs.Ytkhmpaooinpfoaa.P Go.Proofs.Ytkhmpaooinpfoaa.Ar Go.Proofs.Ytkhmpaooinpfoaa.Tw
set_option linter.unusedVariables false
def weightsL (P : List E) : List E := tabL (2 ^ P.length) (weight P)
theorem z5K (m n : Nat) (f g : Nat → E) : tabL m f ++ tabL n g = tabL (m + n) (fun i => if i < m then f i else g (i - m)) := by
  apply z3S
  · rw [List.length_append, z1n, z1n, z1n]
  · intro i hi
    rw [List.length_append, z1n, z1n] at hi
    rw [z22 (m + n) _ i hi, List.getD_eq_getElem?_getD]
    by_cases c : i < m
    · rw [if_pos c, List.getElem?_append_left (by rw [z1n]; exact c), ← List.getD_eq_getElem?_getD, z22 m f i c]
    · rw [if_neg c, List.getElem?_append_right (by rw [z1n]; omega), z1n, ← List.getD_eq_getElem?_getD, z22 n g (i - m) (by omega)]
theorem z56 (P : List E) (p : E) : tabL (2 ^ P.length) (fun i => weight P i + weight P i * p) ++ tabL (2 ^ P.length) (fun i => weight P i * p) = weightsL (P ++ [p]) := by
  unfold weightsL
  rw [z5K, List.length_append, List.length_singleton, Nat.pow_succ, Nat.mul_two]
  apply z1T
  intro i hi
  by_cases c : i < 2 ^ P.length
  · rw [if_pos c, z3K p P i c, mul_add, mul_one]
  · rw [if_neg c]
    have := z4p p P (i - 2 ^ P.length) (by omega)
    rw [show 2 ^ P.length + (i - 2 ^ P.length) = i by omega] at this
    exact this.symm
theorem pickd_at (i : Nat) (y : E) : pick (decide (i < i)) y = 0 := by rw [decide_eq_false (Nat.lt_irrefl i), z1s]
theorem z4c (i : Nat) (y : E) : pick (decide (i < i + 1)) y = y := by rw [decide_eq_true (Nat.lt_succ_self i), z1D]
theorem z4H (i k : Nat) (y : E) (h : k ≠ i) : pick (decide (k < i + 1)) y = pick (decide (k < i)) y := by
  have : decide (k < i + 1) = decide (k < i) := by rw [decide_eq_decide]; omega
  rw [this]
theorem z62 (n k : Nat) (y : E) (h : k < n) : pick (decide (k < n)) y = y := by rw [decide_eq_true h, z1D]
theorem z4I (k : Nat) (y : E) : pick (decide (k < 0)) y = 0 := by rw [decide_eq_false (Nat.not_lt_zero k), z1s]
theorem z6p {l : Nat} (hl : l ≤ 7) (n : Nat) (hn : n ≤ 1000000) (w : Nat → E) (hw : ∀ i, i < n → InL l (w i)) (x : E) (hx : InL l x) (PS : List S30) (m j : Int) {R : List S30}
    (h : Ev (fun q => zj.l0 q (l : Int) ((tabL n (fun i => w i + w i * x) ++ tabL n (fun i => w i * x)).map toS) PS m (wrap64 (j + 1))) R) :
    ∀ (d i : Nat), i + d = n → Ev (fun q => zj.l1 q (l : Int) ((tabL n (fun k => w k + pick (decide (k < i)) (w k * x))).map toS) ((tabL n (fun k => pick (decide (k < i)) (w k * x))).map toS) PS m j (n : Int) (i : Int) (hi x) (lo x)) R := by
  intro d
  induction d with
  | zero =>
    intro i hid
    have : i = n := by omega
    subst this
    refine Ev.step (fun q => by rw [zj.l1]) (Ev.neg (Int.lt_irrefl _) ?_)
    have e1 : tabL i (fun k => w k + pick (decide (k < i)) (w k * x)) = tabL i (fun k => w k + w k * x) := z1T _ (fun k hk => by rw [z62 i k _ hk])
    have e2 : tabL i (fun k => pick (decide (k < i)) (w k * x)) = tabL i (fun k => w k * x) := z1T _ (fun k hk => z62 i k _ hk)
    rw [e1, e2]
    refine Ev.pos (by rw [List.length_map, List.length_map, z1n, z1n]; omega) ?_
    rw [← List.map_append]
    exact h
  | succ d ih =>
    intro i hid
    have hi' : i < n := by omega
    have hih := ih (i + 1) (by omega)
    have g1 : (tabL n (fun k => w k + pick (decide (k < i)) (w k * x))).getD i 0 = w i := by rw [z22 _ _ i hi', pickd_at, add_zero]
    have c3 : (i : Int) < (((tabL n (fun k => w k + pick (decide (k < i)) (w k * x))).map toS).length : Int) := by rw [List.length_map, z1n]; omega
    have c4 : (i : Int) < (((tabL n (fun k => pick (decide (k < i)) (w k * x))).map toS).length : Int) := by rw [List.length_map, z1n]; omega
    have eu : ((tabL n (fun k => pick (decide (k < i)) (w k * x))).map toS).set (i : Int).toNat (⟨hi (w i * x), lo (w i * x)⟩ : S30) = (tabL n (fun k => pick (decide (k < i + 1)) (w k * x))).map toS := by
      rw [Int.toNat_natCast, z68, map_set]
      have hn2 := z4c i (w i * x)
      conv => lhs; rw [← hn2]
      rw [z3X n _ (fun k => pick (decide (k < i + 1)) (w k * x)) i hi' (fun k _ hne => z4H i k _ hne)]
    have eo : ((tabL n (fun k => w k + pick (decide (k < i)) (w k * x))).map toS).set (i : Int).toNat (⟨hi (w i + w i * x), lo (w i + w i * x)⟩ : S30) = (tabL n (fun k => w k + pick (decide (k < i + 1)) (w k * x))).map toS := by
      rw [Int.toNat_natCast, z68, map_set]
      have hn2 := z4c i (w i * x)
      conv => lhs; rw [← hn2]
      rw [z3X n _ (fun k => w k + pick (decide (k < i + 1)) (w k * x)) i hi' (fun k _ hne => by show w k + _ = w k + _; rw [z4H i k _ hne])]
    have g2 : (tabL n (fun k => pick (decide (k < i + 1)) (w k * x))).getD i 0 = w i * x := by rw [z22 _ _ i hi', z4c]
    refine Ev.step (fun q => by rw [zj.l1]) (Ev.pos (by omega) (Ev.pos (Int.natCast_nonneg _) (Ev.pos c3 ?_)))
    simp only [rdS, g1, z35, z36]
    refine Ev.bnd (z5P hl (hw i hi') hx) (Ev.pos c4 (Ev.bnd0 rfl ?_))
    simp only [eu, rdS, g2, z35, z36]
    refine Ev.bnd0 (z5N _ _) ?_
    simp only [eo, z1O hi' (show n ≤ 4611686018427387904 by omega)]
    exact hih
theorem z6K {l : Nat} {P : List E} (h : AllS (l : Int) P) : ∀ p ∈ P, InL l p := fun p hp => inL_of (h p hp)
theorem z6o {l : Nat} (hl : l ≤ 7) (P : List E) (hP : AllS (l : Int) P) (hPl : P.length ≤ 16) : ∀ (d j : Nat), j + d = P.length →
    Ev (fun q => zj.l0 q (l : Int) ((weightsL (P.take j)).map toS) (P.map toS) (P.length : Int) (j : Int)) ((weightsL P).map toS) := by
  intro d
  induction d with
  | zero =>
    intro j hj
    have : j = P.length := by omega
    subst this
    rw [List.take_length]
    exact Ev.step (fun q => by rw [zj.l0]) (Ev.neg (Int.lt_irrefl _) (Ev.ret _))
  | succ d ih =>
    intro j hj
    have hj' : j < P.length := by omega
    have hih := ih (j + 1) (by omega)
    have htl : (P.take j).length = j := by rw [List.length_take]; omega
    have hp16 : 2 ^ j ≤ 2 ^ 16 := Nat.pow_le_pow_right (by decide) (by omega)
    have hwl : (weightsL (P.take j)).length = 2 ^ j := by unfold weightsL; rw [z1n, htl]
    have hg : P.getD j 0 = P[j] := by rw [List.getD_eq_getElem?_getD, List.getElem?_eq_getElem hj']; rfl
    rw [List.take_succ_eq_append_getElem hj', ← hg, ← z56, htl] at hih
    refine Ev.step (fun q => by rw [zj.l0]) (Ev.pos (by omega) (Ev.pos (Int.natCast_nonneg _) (Ev.pos (by rw [List.length_map]; omega) ?_)))
    rw [List.length_map, hwl]
    refine Ev.pos (Int.natCast_nonneg _) (Ev.pos (by rw [Int.toNat_natCast]; omega) ?_)
    simp only [rdS, z35, z36]
    have e0 : weightsL (P.take j) = tabL (2 ^ j) (fun k => weight (P.take j) k + pick (decide (k < 0)) (weight (P.take j) k * P.getD j 0)) := by
      unfold weightsL; rw [htl]
      exact z1T _ (fun k _ => by rw [z4I, add_zero])
    have e1 : List.replicate ((2 ^ j : Nat) : Int).toNat z30 = (tabL (2 ^ j) (fun k => pick (decide (k < 0)) (weight (P.take j) k * P.getD j 0))).map toS := by
      rw [Int.toNat_natCast, z3W, z3e]
      exact congrArg (List.map toS) (z1T _ (fun k _ => (z4I _ _).symm))
    rw [e0, e1]
    refine z6p hl (2 ^ j) (by omega) (weight (P.take j)) (fun i _ => z3C hl _ i (fun p hp => z6K hP p (List.mem_of_mem_take hp))) (P.getD j 0) (z2t hP j) _ _ _ ?_ (2 ^ j) 0 (Nat.zero_add _)
    rw [z1O hj' (show P.length ≤ 4611686018427387904 by omega)]
    exact hih
/-- The weights, or nothing. -/
def weightsO (L : Int) (P : List E) : List E := if LvS L ∧ P.length ≤ 16 ∧ AllS L P then weightsL P else []
theorem z4y (L : Int) (P : List E) : Ev (fun q => zj.f q L (P.map toS)) ((weightsO L P).map toS) := by
  have hT : ¬ (LvS L ∧ P.length ≤ 16 ∧ AllS L P) → Ev (fun q => zj.j0 q L (P.map toS) true) ((weightsO L P).map toS) := by
    intro h
    have e : weightsO L P = [] := if_neg h
    rw [e]
    refine Ev.step (fun q => by rw [zj.j0]) ?_
    exact Ev.pos rfl (Ev.ret _)
  unfold zj.f
  rw [List.length_map]
  by_cases hL : LvS L
  rotate_left
  · exact Ev.bnd (z57 hL) (Ev.pos rfl (hT (fun h => hL h.1)))
  obtain ⟨v, hv, hw⟩ := z5M hL
  refine Ev.bnd hw (Ev.neg hv ?_)
  by_cases hl : (P.length : Int) > 16
  · exact Ev.pos hl (hT (fun h => by have := h.2.1; omega))
  refine Ev.neg hl (Ev.bnd (z4E L P) ?_)
  by_cases hA : AllS L P
  rotate_left
  · rw [decide_eq_false hA]; exact hT (fun h => hA h.2.2)
  rw [decide_eq_true hA]
  have e : weightsO L P = weightsL P := if_pos ⟨hL, by omega, hA⟩
  rw [e]
  obtain ⟨l, rfl⟩ := Int.eq_ofNat_of_zero_le hL.1
  refine Ev.step (fun q => by rw [zj.j0]) (Ev.neg (by decide) (Ev.bnd0 z6u ?_))
  rw [List.length_map]
  have := z6o (by have := hL.2; omega) P hA (by omega) P.length 0 (Nat.zero_add _)
  have e0 : (weightsL (P.take 0)).map toS = [(⟨hi 1, lo 1⟩ : S30)] := rfl
  rw [e0] at this
  exact this
end Go.Proofs.Ytkhmpaooinpfoaa.Sp
/- The program's sums of products. Own text. -/
namespace Go.Proofs.Ytkhmpaooinpfoaa.Sp
open Go.RowKit Go.Proofs.YtkhmpaooinpfoaaW.PrintWords Go.Proofs.YtkhmpaooinpfoaaW.PrintMore Go.Proofs.Ytkhmpaooinpfoaa.P Go.Proofs.Ytkhmpaooinpfoaa.Ar Go.Proofs.Ytkhmpaooinpfoaa.Tw
set_option linter.unusedVariables false
theorem dot_l0 {l : Nat} (hl : l ≤ 7) (X Y : List E) (hX : AllS (l : Int) X) (hY : AllS (l : Int) Y) (hlen : X.length = Y.length) (hn : X.length ≤ 1000000) : ∀ (d i : Nat), i + d = X.length →
    Ev (fun k => zN.l0 k (l : Int) (X.map toS) (Y.map toS) (X.length : Int) (i : Int) (hi (sumN (fun j => X.getD j 0 * Y.getD j 0) i)) (lo (sumN (fun j => X.getD j 0 * Y.getD j 0) i))) (hi (sumN (fun j => X.getD j 0 * Y.getD j 0) X.length), lo (sumN (fun j => X.getD j 0 * Y.getD j 0) X.length)) := by
  intro d
  induction d with
  | zero =>
    intro i hid
    have : i = X.length := by omega
    subst this
    refine Ev.step (fun k => by rw [zN.l0]) ?_
    exact Ev.neg (Int.lt_irrefl _) (Ev.ret _)
  | succ d ih =>
    intro i hid
    have hi' : i < X.length := by omega
    have hih := ih (i + 1) (by omega)
    have hx : OfS (l : Int) (X.getD i 0) := by
      have : X.getD i 0 = X[i] := by rw [List.getD_eq_getElem?_getD, List.getElem?_eq_getElem hi']; rfl
      rw [this]; exact hX _ (List.getElem_mem hi')
    have hy : OfS (l : Int) (Y.getD i 0) := by
      have h2 : i < Y.length := by omega
      have : Y.getD i 0 = Y[i] := by rw [List.getD_eq_getElem?_getD, List.getElem?_eq_getElem h2]; rfl
      rw [this]; exact hY _ (List.getElem_mem h2)
    have c1 : (i : Int) < ((X.map toS).length : Int) := by rw [List.length_map]; omega
    have c2 : (i : Int) < ((Y.map toS).length : Int) := by rw [List.length_map]; omega
    have hs : sumN (fun j => X.getD j 0 * Y.getD j 0) (i + 1) = sumN (fun j => X.getD j 0 * Y.getD j 0) i + X.getD i 0 * Y.getD i 0 := by rw [sumN]
    rw [hs] at hih
    refine Ev.step (fun k => by rw [zN.l0]) (Ev.pos (by omega) (Ev.pos (Int.natCast_nonneg _) (Ev.pos c1 ?_)))
    simp only [rdS, z35, z36]
    refine Ev.bnd (z4b (l : Int) _) (Ev.pos (decide_eq_true hx) (Ev.pos c2 (Ev.bnd (z4b (l : Int) _) ?_)))
    rw [decide_eq_true hy]
    refine Ev.step (fun k => by rw [zN.j1]) (Ev.neg (by decide) (Ev.pos (Int.natCast_nonneg _) (Ev.pos c1 (Ev.pos c2 ?_))))
    simp only [rdS, z35, z36]
    refine Ev.bnd (z5P hl (z2t hX i) (z2t hY i)) (Ev.bnd0 (z5N _ _) ?_)
    simp only [z1O hi' (show X.length ≤ 4611686018427387904 by omega)]
    exact hih
theorem Dot_ev {l : Nat} (hl : l ≤ 7) (X Y : List E) (hX : AllS (l : Int) X) (hY : AllS (l : Int) Y) (hlen : X.length = Y.length) (hn : X.length ≤ 1000000) :
    Ev (fun k => zN.f k (l : Int) (X.map toS) (Y.map toS)) (hi (sumN (fun j => X.getD j 0 * Y.getD j 0) X.length), lo (sumN (fun j => X.getD j 0 * Y.getD j 0) X.length)) := by
  unfold zN.f
  rw [List.length_map, List.length_map]
  refine Ev.pos (by omega) ?_
  have := dot_l0 hl X Y hX hY hlen hn X.length 0 (Nat.zero_add _)
  have e : sumN (fun j => X.getD j 0 * Y.getD j 0) 0 = 0 := rfl
  rw [e, z2u, z2v] at this
  exact this
end Go.Proofs.Ytkhmpaooinpfoaa.Sp
/- The document's weights. Own text. -/
namespace Go.Proofs.Ytkhmpaooinpfoaa.Sp
open Go.RowKit Go.Proofs.YtkhmpaooinpfoaaW.PrintWords Go.Proofs.YtkhmpaooinpfoaaW.PrintMore Go.Proofs.Ytkhmpaooinpfoaa.P Go.Proofs.Ytkhmpaooinpfoaa.Ar Go.Proofs.Ytkhmpaooinpfoaa.Tw
set_option linter.unusedVariables false
set_option linter.unusedSimpArgs false
/-- The document's weights and values. -/
theorem z5r : z1H.f = some (hi 1, lo 1) := by unfold z1H.f; rw [hi_one, lo_one]
theorem z7i (P : List E) (hP : P.length ≤ 1000000) : ∀ (d j n : Nat) (acc : E), j + d = P.length → n ≤ 4611686018427387904 →
    Ev (fun q => zl.l0 q (P.map toR) (n : Int) (j : Int) (hi acc) (lo acc)) (hi (acc * weight (P.drop j) n), lo (acc * weight (P.drop j) n)) := by
  intro d
  induction d with
  | zero =>
    intro j n acc hj hn
    refine Ev.step (fun q => by rw [zl.l0]) (Ev.neg (by rw [List.length_map]; omega) (Ev.ret' ?_))
    rw [List.drop_eq_nil_of_le (by omega), weight, mul_one]
  | succ d ih =>
    intro j n acc hj hn
    have hj' : j < P.length := by omega
    have e1 : Int.tmod (n : Int) 2 = ((n % 2 : Nat) : Int) := by rw [Int.tmod_eq_emod_of_nonneg (by omega)]; omega
    have e2 : wrap64 (Int.tdiv (n : Int) 2) = ((n / 2 : Nat) : Int) := by
      rw [Int.tdiv_eq_ediv_of_nonneg (by omega), z2g (by omega) (by omega)]; omega
    have hw : weight (P.drop j) n = (if n % 2 = 1 then P.getD j 0 else 1 + P.getD j 0) * weight (P.drop (j + 1)) (n / 2) := by
      rw [List.drop_eq_getElem_cons hj', weight]
      have : P.getD j 0 = P[j] := by rw [List.getD_eq_getElem?_getD, List.getElem?_eq_getElem hj']; rfl
      rw [this]
    refine Ev.step (fun q => by rw [zl.l0]) (Ev.pos (by rw [List.length_map]; omega) ?_)
    simp only [e1, e2, rdR, z5t, z5u, z1O hj' (show P.length ≤ 4611686018427387904 by omega)]
    by_cases c : n % 2 = 1
    · refine Ev.pos (by omega) (Ev.pos (Int.natCast_nonneg _) (Ev.bnd (z38 _ _) ?_))
      rw [hw, if_pos c, ← mul_assoc]
      exact ih (j + 1) (n / 2) _ (by omega) (by omega)
    · refine Ev.neg (by omega) (Ev.bnd0 z5r (Ev.pos (Int.natCast_nonneg _) (Ev.bnd0 (z32 _ _) (Ev.bnd (z38 _ _) ?_))))
      rw [hw, if_neg c, ← mul_assoc]
      exact ih (j + 1) (n / 2) _ (by omega) (by omega)
theorem z5w (P : List E) (hP : P.length ≤ 1000000) (n : Nat) (hn : n ≤ 4611686018427387904) : Ev (fun q => zl.f q (P.map toR) (n : Int)) (hi (weight P n), lo (weight P n)) := by
  unfold zl.f
  refine Ev.bnd0 z5r ?_
  have := z7i P hP P.length 0 n 1 (by omega) hn
  rw [List.drop_zero, one_mul] at this
  exact this
end Go.Proofs.Ytkhmpaooinpfoaa.Sp
/- The document's values. Own text. -/
namespace Go.Proofs.Ytkhmpaooinpfoaa.Sp
open Go.RowKit Go.Proofs.YtkhmpaooinpfoaaW.PrintWords Go.Proofs.YtkhmpaooinpfoaaW.PrintMore Go.Proofs.Ytkhmpaooinpfoaa.P Go.Proofs.Ytkhmpaooinpfoaa.Ar Go.Proofs.Ytkhmpaooinpfoaa.Tw
set_option linter.unusedVariables false
set_option linter.unusedSimpArgs false
theorem value_l0 (X P : List E) (hX : X.length ≤ 1000000) (hP : P.length ≤ 1000000) : ∀ (d i : Nat), i + d = X.length →
    Ev (fun q => zn.l0 q (X.map toR) (P.map toR) (i : Int) (hi (sumN (fun i => X.getD i 0 * weight P i) i)) (lo (sumN (fun i => X.getD i 0 * weight P i) i))) (hi (value X P), lo (value X P)) := by
  intro d
  induction d with
  | zero =>
    intro i hid
    have : i = X.length := by omega
    subst this
    have hno : ¬ ((X.length : Int) < ((X.map toR).length : Int)) := by rw [List.length_map]; omega
    refine Ev.step (fun q => by rw [zn.l0]) (Ev.neg hno ?_)
    exact Ev.ret' rfl
  | succ d ih =>
    intro i hid
    have hi' : i < X.length := by omega
    refine Ev.step (fun q => by rw [zn.l0]) (Ev.pos (by rw [List.length_map]; omega) (Ev.pos (Int.natCast_nonneg _) (Ev.bnd (z5w P hP i (by omega)) ?_)))
    simp only [rdR, z5t, z5u, z1O hi' (show X.length ≤ 4611686018427387904 by omega)]
    refine Ev.bnd (z38 _ _) (Ev.bnd0 (z32 _ _) ?_)
    exact ih (i + 1) (by omega)
theorem value_ev (X P : List E) (hX : X.length ≤ 1000000) (hP : P.length ≤ 1000000) : Ev (fun q => zn.f q (X.map toR) (P.map toR)) (hi (value X P), lo (value X P)) := by
  have := value_l0 X P hX hP X.length 0 (by omega)
  rw [sumN, z2u, z2v] at this
  exact this
end Go.Proofs.Ytkhmpaooinpfoaa.Sp
/- Parts, their value at a point, and batched. Own text. -/
namespace Go.Proofs.Ytkhmpaooinpfoaa.Sp
open Go.RowKit Go.Proofs.YtkhmpaooinpfoaaW.PrintWords Go.Proofs.YtkhmpaooinpfoaaW.PrintMore Go.Proofs.Ytkhmpaooinpfoaa.P Go.Proofs.Ytkhmpaooinpfoaa.Ar Go.Proofs.Ytkhmpaooinpfoaa.Tw
set_option linter.unusedVariables false
theorem z3H (L : Int) : ∀ (X : List E), Ev (fun k => z1b.f k L (X.map toS)) (decide (AllS L X))
  | [] => by refine Ev.ret' ?_; symm; rw [decide_eq_true_eq]; intro x hx; cases hx
  | x :: xs => by
    show Ev (fun k => (zF.f k L (toS x).f0 (toS x).f1).bind fun b => if b = true then z1b.all k L (xs.map toS) else some false) _
    refine Ev.bnd (z4b L x) ?_
    have hd : AllS L (x :: xs) ↔ OfS L x ∧ AllS L xs := List.forall_mem_cons
    by_cases c : OfS L x
    · refine Ev.pos (decide_eq_true c) ((z3H L xs).eqn ?_)
      rw [decide_eq_decide, hd]; exact ⟨fun h => ⟨c, h⟩, fun h => h.2⟩
    · refine Ev.neg (by simpa using c) (Ev.ret' ?_)
      symm; rw [decide_eq_false_iff_not, hd]; exact fun h => c h.1
/-- What hinders parts and a point. -/
def mayE (L : Int) (X P : List E) : Int := if LvS L then (if X.length = 2 ^ L.toNat ∧ (P.length : Int) = L then (if AllS L X ∧ AllS L P then 0 else 5) else 6) else 1
theorem z5X (L : Int) (X P : List E) : Ev (fun k => z1o.f k L (X.map toS) (P.map toS)) (mayE L X P) := by
  unfold z1o.f
  by_cases hL : LvS L
  rotate_left
  · have e : mayE L X P = 1 := if_neg hL
    rw [e]
    exact Ev.bnd (z57 hL) (Ev.pos rfl (Ev.ret _))
  obtain ⟨v, hv, hw⟩ := z5M hL
  obtain ⟨l, rfl⟩ := Int.eq_ofNat_of_zero_le hL.1
  have hl : l ≤ 7 := by have := hL.2; omega
  have he : mayE (l : Int) X P = if X.length = 2 ^ l ∧ P.length = l then (if AllS (l : Int) X ∧ AllS (l : Int) P then 0 else 5) else 6 := by
    unfold mayE
    rw [if_pos hL, Int.toNat_natCast]
    by_cases c : X.length = 2 ^ l ∧ P.length = l
    · rw [if_pos c, if_pos ⟨c.1, by rw [c.2]⟩]
    · rw [if_neg c, if_neg (fun h => c ⟨h.1, by have := h.2; omega⟩)]
  rw [he]
  refine Ev.bnd hw (Ev.neg hv (Ev.pos (Int.natCast_nonneg _) ?_))
  rw [z3I l (by omega), List.length_map, List.length_map]
  have h6 : ¬ (X.length = 2 ^ l ∧ P.length = l) → Ev (fun k => z1o.j0 k (l : Int) (X.map toS) (P.map toS) true) (if X.length = 2 ^ l ∧ P.length = l then (if AllS (l : Int) X ∧ AllS (l : Int) P then 0 else 5) else 6) := by
    intro h
    rw [if_neg h]
    refine Ev.step (fun k => by rw [z1o.j0]) ?_
    exact Ev.pos rfl (Ev.ret _)
  by_cases c1 : X.length = 2 ^ l
  rotate_left
  · exact Ev.neg (by omega) (h6 (fun h => c1 h.1))
  refine Ev.pos (by omega) ?_
  by_cases c2 : P.length = l
  rotate_left
  · have : ((P.length : Int) != (l : Int)) = true := by rw [bne_iff_ne]; omega
    rw [this]
    exact h6 (fun h => c2 h.2)
  have : ((P.length : Int) != (l : Int)) = false := by rw [bne_eq_false_iff_eq]; omega
  rw [this, if_pos ⟨c1, c2⟩]
  refine Ev.step (fun k => by rw [z1o.j0]) (Ev.neg (by decide) (Ev.bnd (z3H (l : Int) X) ?_))
  by_cases cx : AllS (l : Int) X
  rotate_left
  · rw [if_neg (fun h => cx h.1)]
    exact Ev.neg (by rw [decide_eq_false cx]; exact Bool.false_ne_true) (Ev.ret _)
  refine Ev.pos (decide_eq_true cx) (Ev.bnd (z3H (l : Int) P) ?_)
  by_cases cp : AllS (l : Int) P
  · have e : (if AllS (l : Int) X ∧ AllS (l : Int) P then (0 : Int) else 5) = 0 := if_pos ⟨cx, cp⟩
    rw [e]
    exact Ev.pos (decide_eq_true cp) (Ev.ret _)
  · have e : (if AllS (l : Int) X ∧ AllS (l : Int) P then (0 : Int) else 5) = 5 := if_neg (fun h => cp h.2)
    rw [e]
    exact Ev.neg (by rw [decide_eq_false cp]; exact Bool.false_ne_true) (Ev.ret _)
theorem z5H (L : Int) (X P : List E) (hX : X.length ≤ 1000000) (hP : P.length ≤ 1000000) : Ev (fun k => zm.f k L (X.map toR) (P.map toR)) (mayE L X P) := by
  have h1 : ¬ LvS L → Ev (fun k => zm.j0 k L (X.map toR) (P.map toR) true) (mayE L X P) := by
    intro h
    have e : mayE L X P = 1 := if_neg h
    rw [e]
    refine Ev.step (fun k => by rw [zm.j0]) ?_
    exact Ev.pos rfl (Ev.ret _)
  unfold zm.f
  by_cases g0 : L < 0
  · exact Ev.pos g0 (h1 (by unfold LvS; omega))
  refine Ev.neg g0 ?_
  by_cases g7 : L > 7
  · rw [decide_eq_true g7]; exact h1 (by unfold LvS; omega)
  rw [decide_eq_false g7]
  have hL : LvS L := ⟨by omega, by omega⟩
  obtain ⟨l, rfl⟩ := Int.eq_ofNat_of_zero_le hL.1
  have hl : l ≤ 7 := by have := hL.2; omega
  have he : mayE (l : Int) X P = if X.length = 2 ^ l ∧ P.length = l then (if AllS (l : Int) X ∧ AllS (l : Int) P then 0 else 5) else 6 := by
    unfold mayE
    rw [if_pos hL, Int.toNat_natCast]
    by_cases c : X.length = 2 ^ l ∧ P.length = l
    · rw [if_pos c, if_pos ⟨c.1, by rw [c.2]⟩]
    · rw [if_neg c, if_neg (fun h => c ⟨h.1, by have := h.2; omega⟩)]
  rw [he]
  refine Ev.step (fun k => by rw [zm.j0]) (Ev.neg (by decide) (Ev.bnd (two_ev l (by omega)) ?_))
  rw [List.length_map, List.length_map]
  have h6 : ¬ (X.length = 2 ^ l ∧ P.length = l) → Ev (fun k => zm.j1 k (l : Int) (X.map toR) (P.map toR) true) (if X.length = 2 ^ l ∧ P.length = l then (if AllS (l : Int) X ∧ AllS (l : Int) P then 0 else 5) else 6) := by
    intro h
    rw [if_neg h]
    refine Ev.step (fun k => by rw [zm.j1]) ?_
    exact Ev.pos rfl (Ev.ret _)
  by_cases c1 : X.length = 2 ^ l
  rotate_left
  · exact Ev.neg (by omega) (h6 (fun h => c1 h.1))
  refine Ev.pos (by omega) ?_
  by_cases c2 : P.length = l
  rotate_left
  · have : ((P.length : Int) != (l : Int)) = true := by rw [bne_iff_ne]; omega
    rw [this]
    exact h6 (fun h => c2 h.2)
  have : ((P.length : Int) != (l : Int)) = false := by rw [bne_eq_false_iff_eq]; omega
  rw [this, if_pos ⟨c1, c2⟩]
  refine Ev.step (fun k => by rw [zm.j1]) (Ev.neg (by decide) (Ev.bnd (All_ev (l : Int) X hX) ?_))
  by_cases cx : AllS (l : Int) X
  rotate_left
  · rw [if_neg (fun h => cx h.1)]
    exact Ev.neg (by rw [decide_eq_false cx]; exact Bool.false_ne_true) (Ev.ret _)
  refine Ev.pos (decide_eq_true cx) (Ev.bnd (All_ev (l : Int) P hP) ?_)
  by_cases cp : AllS (l : Int) P
  · have e : (if AllS (l : Int) X ∧ AllS (l : Int) P then (0 : Int) else 5) = 0 := if_pos ⟨cx, cp⟩
    rw [e]
    exact Ev.pos (decide_eq_true cp) (Ev.ret _)
  · have e : (if AllS (l : Int) X ∧ AllS (l : Int) P then (0 : Int) else 5) = 5 := if_neg (fun h => cp h.2)
    rw [e]
    exact Ev.neg (by rw [decide_eq_false cp]; exact Bool.false_ne_true) (Ev.ret _)
theorem may_in {L : Int} {X P : List E} (h : mayE L X P = 0) : ∃ l : Nat, L = (l : Int) ∧ l ≤ 7 ∧ X.length = 2 ^ l ∧ P.length = l ∧ AllS (l : Int) X ∧ AllS (l : Int) P := by
  unfold mayE at h
  split at h
  · next hL =>
    split at h
    · next hlen =>
      split at h
      · next hall =>
        obtain ⟨l, rfl⟩ := Int.eq_ofNat_of_zero_le hL.1
        have h1 := hlen.1
        rw [Int.toNat_natCast] at h1
        exact ⟨l, rfl, by have := hL.2; omega, h1, by have := hlen.2; omega, hall.1, hall.2⟩
      · omega
    · omega
  · omega
theorem z4q {l : Nat} (hl : l ≤ 7) (P : List E) (hP : AllS (l : Int) P) : AllS (l : Int) (weightsL P) := z67 hl _ _ (fun i _ => z3C hl P i (z6K hP))
theorem z7g (X P : List E) (h : X.length = 2 ^ P.length) : sumN (fun j => (weightsL P).getD j 0 * X.getD j 0) (weightsL P).length = value X P := by
  unfold value
  have hw : (weightsL P).length = 2 ^ P.length := z1n _ _
  rw [hw, h]
  apply z1L
  intro i hi'
  have : (weightsL P).getD i 0 = weight P i := z22 _ _ i hi'
  rw [this, mul_comm]
theorem z6e (L : Int) (X P : List E) : Ev (fun k => z1g.f k L (X.map toS) (P.map toS)) (if mayE L X P = 0 then (hi (value X P), lo (value X P), 0) else (0, 0, mayE L X P)) := by
  unfold z1g.f
  refine Ev.bnd (z5X L X P) ?_
  by_cases c : mayE L X P = 0
  rotate_left
  · rw [if_neg c]
    exact Ev.neg c (Ev.ret _)
  rw [if_pos c]
  obtain ⟨l, rfl, hl, hX, hP, aX, aP⟩ := may_in c
  have h128 := w128 hl
  have hw := z4y (l : Int) P
  have e1 : weightsO (l : Int) P = weightsL P := if_pos ⟨⟨by omega, by omega⟩, by omega, aP⟩
  rw [e1] at hw
  have hwl : (weightsL P).length = X.length := by
    have : (weightsL P).length = 2 ^ P.length := z1n _ _
    rw [this, hX, hP]
  refine Ev.pos c (Ev.bnd hw (Ev.bnd (Dot_ev hl (weightsL P) X (z4q hl P aP) aX hwl (by omega)) (Ev.ret' ?_)))
  rw [z7g X P (by rw [hX, hP])]
/-- Parts, batched. -/
def batch (X P : List E) : E := sumN (fun u => weight P u * turnN X X.length u) X.length
theorem Batch_ev (L : Int) (X P : List E) : Ev (fun k => z1C.f k L (X.map toS) (P.map toS)) (if mayE L X P = 0 then (hi (batch X P), lo (batch X P), 0) else (0, 0, mayE L X P)) := by
  unfold z1C.f
  refine Ev.bnd (z5X L X P) ?_
  by_cases c : mayE L X P = 0
  rotate_left
  · rw [if_neg c]
    exact Ev.neg c (Ev.ret _)
  rw [if_pos c]
  obtain ⟨l, rfl, hl, hX, hP, aX, aP⟩ := may_in c
  have h128 := w128 hl
  have hw := z4y (l : Int) P
  have e1 : weightsO (l : Int) P = weightsL P := if_pos ⟨⟨by omega, by omega⟩, by omega, aP⟩
  rw [e1] at hw
  have hin : InN (2 ^ l) X := fun x hx => inL_of (aX x hx)
  have ht := Turn_ev X (by omega) (2 ^ l) h128 hin
  have hwl : (weightsL P).length = (turnL X (2 ^ l)).length := by
    have h1 : (weightsL P).length = 2 ^ P.length := z1n _ _
    have h2 : (turnL X (2 ^ l)).length = 2 ^ l := z1n _ _
    rw [h1, h2, hP]
  have hta : AllS (l : Int) (turnL X (2 ^ l)) := z67 hl _ _ (fun j _ => z5J _ _ (fun i hi' => z75 _ (z6A hl (by omega))))
  have hw2 : (weightsL P).length = X.length := by
    have : (weightsL P).length = 2 ^ P.length := z1n _ _
    rw [this, hX, hP]
  refine Ev.pos c (Ev.pos (Int.natCast_nonneg _) ?_)
  rw [z3I l (by omega)]
  refine Ev.bnd ht (Ev.bnd hw (Ev.bnd (Dot_ev hl (weightsL P) (turnL X (2 ^ l)) (z4q hl P aP) hta hwl (by omega)) (Ev.ret' ?_)))
  have e2 : sumN (fun j => (weightsL P).getD j 0 * (turnL X (2 ^ l)).getD j 0) (weightsL P).length = batch X P := by
    unfold batch
    rw [hw2]
    apply z1L
    intro u hu
    have h1 : (weightsL P).getD u 0 = weight P u := z22 _ _ u (by rw [hP, ← hX]; exact hu)
    have h2 : (turnL X (2 ^ l)).getD u 0 = turnN X X.length u := z22 _ _ u (by rw [← hX]; exact hu)
    rw [h1, h2]
  rw [e2]
/-- The document's batch. -/
theorem z5G (X P : List E) (hX : X.length ≤ 128) (hP : P.length ≤ 1000) (u : Nat) (hu : u < X.length) (acc : E) {R : Int × Int}
    (h : Ev (fun k => zk.l0 k (X.map toR) (P.map toR) ((u + 1 : Nat) : Int) (hi (acc + weight P u * turnN X X.length u)) (lo (acc + weight P u * turnN X X.length u))) R) :
    ∀ (d v : Nat), v + d = X.length → Ev (fun k => zk.l1 k (X.map toR) (P.map toR) (u : Int) (v : Int) (hi acc) (lo acc) (hi (turnN X v u)) (lo (turnN X v u))) R := by
  intro d
  induction d with
  | zero =>
    intro v hv
    have : v = X.length := by omega
    subst this
    refine Ev.step (fun k => by rw [zk.l1]) ?_
    rw [List.length_map]
    refine Ev.neg (Int.lt_irrefl _) ?_
    refine Ev.bnd (z5w P (by omega) u (by omega)) (Ev.bnd (z38 _ _) (Ev.bnd0 (z32 _ _) ?_))
    rw [z1O hu (by omega)]
    exact h
  | succ d ih =>
    intro v hv
    have hv' : v < X.length := by omega
    have hih := ih (v + 1) (by omega)
    have hs : turnN X (v + 1) u = turnN X v u + pick (hasB (X.getD v 0) u) (bitE v) := by unfold turnN; rw [sumN]
    have c1 : (v : Int) < ((X.map toR).length : Int) := by rw [List.length_map]; omega
    have hh : Ev (fun k => zE.f k (hi (X.getD v 0)) (lo (X.getD v 0)) (u : Int)) (hasB (X.getD v 0) u) := z6s _ u (by omega)
    refine Ev.step (fun k => by rw [zk.l1]) (Ev.pos c1 (Ev.pos (Int.natCast_nonneg _) ?_))
    simp only [rdR, z5t, z5u]
    refine Ev.bnd hh ?_
    simp only [z1O hv' (show X.length ≤ 4611686018427387904 by omega)]
    cases c : hasB (X.getD v 0) u with
    | true =>
      rw [c, z1D] at hs
      rw [hs] at hih
      exact Ev.pos rfl (Ev.bnd (z5q v (by omega)) (Ev.bnd0 (z32 _ _) hih))
    | false =>
      rw [c, z1s, add_zero] at hs
      rw [hs] at hih
      exact Ev.neg Bool.false_ne_true hih
theorem z5F (X P : List E) (hX : X.length ≤ 128) (hP : P.length ≤ 1000) : ∀ (d u : Nat), u + d = X.length →
    Ev (fun k => zk.l0 k (X.map toR) (P.map toR) (u : Int) (hi (sumN (fun u => weight P u * turnN X X.length u) u)) (lo (sumN (fun u => weight P u * turnN X X.length u) u))) (hi (batch X P), lo (batch X P)) := by
  intro d
  induction d with
  | zero =>
    intro u hu
    have : u = X.length := by omega
    subst this
    refine Ev.step (fun k => by rw [zk.l0]) ?_
    rw [List.length_map]
    exact Ev.neg (Int.lt_irrefl _) (Ev.ret _)
  | succ d ih =>
    intro u hu
    have hu' : u < X.length := by omega
    have hih := ih (u + 1) (by omega)
    have hs : sumN (fun u => weight P u * turnN X X.length u) (u + 1) = sumN (fun u => weight P u * turnN X X.length u) u + weight P u * turnN X X.length u := by rw [sumN]
    rw [hs] at hih
    refine Ev.step (fun k => by rw [zk.l0]) ?_
    rw [List.length_map]
    refine Ev.pos (by omega) ?_
    have e0 : turnN X 0 u = 0 := rfl
    have := z5G X P hX hP u hu' (sumN (fun u => weight P u * turnN X X.length u) u) hih X.length 0 (Nat.zero_add _)
    rw [e0, z2u, z2v] at this
    exact this
theorem z5E (X P : List E) (hX : X.length ≤ 128) (hP : P.length ≤ 1000) : Ev (fun k => zk.f k (X.map toR) (P.map toR)) (hi (batch X P), lo (batch X P)) := by
  unfold zk.f
  have := z5F X P hX hP X.length 0 (Nat.zero_add _)
  have e : sumN (fun u => weight P u * turnN X X.length u) 0 = 0 := rfl
  rw [e, z2u, z2v] at this
  exact this
end Go.Proofs.Ytkhmpaooinpfoaa.Sp
namespace Go.Proofs.Ytkhmpaooinpfoaa.Sp
open Go.RowKit Go.Proofs.YtkhmpaooinpfoaaW.PrintWords Go.Proofs.YtkhmpaooinpfoaaW.PrintMore Go.Proofs.Ytkhmpaooinpfoaa.P Go.Proofs.Ytkhmpaooinpfoaa.Ar Go.Proofs.Ytkhmpaooinpfoaa.Tw
set_option linter.unusedVariables false
theorem z3F : Ev (fun k => zM.f k) true := Ev.of zM.mono (k := 60) (by decide +kernel)
theorem z4A (L : Int) (X P : List E) (b : Bool) (hb : b = false → X.length ≤ 40 ∧ P.length ≤ 6) : Ev (fun k => ze.j0 k L (X.map toS) (P.map toS) b) true := by
  refine Ev.step (fun k => by rw [ze.j0]) ?_
  cases b with
  | true => exact Ev.pos rfl (Ev.bnd z3F (Ev.ret _))
  | false =>
    obtain ⟨hX, hP⟩ := hb rfl
    refine Ev.neg (by decide) ?_
    refine Ev.bnd (Ref_ev X (by omega)) ?_
    refine Ev.bnd (Ref_ev P (by omega)) ?_
    refine Ev.bnd (Batch_ev L X P) ?_
    refine Ev.bnd (z6e L X P) ?_
    refine Ev.bnd (z5H L X P (by omega) (by omega)) ?_
    by_cases c : mayE L X P = 0
    · rw [if_pos c, if_pos c, c]
      refine Ev.pos rfl ?_
      have e : ((0 : Int) != 0) = false := rfl
      simp only [e]
      refine Ev.step (fun k => by rw [ze.j1]) (Ev.neg (by decide) (Ev.pos rfl ?_))
      refine Ev.bnd z3F ?_
      refine Ev.pos rfl ?_
      refine Ev.bnd (z5E X P (by omega) (by omega)) ?_
      refine Ev.pos (by simp) ?_
      refine Ev.bnd (value_ev X P (by omega) (by omega)) ?_
      exact Ev.ret' (by simp)
    · rw [if_neg c, if_neg c]
      refine Ev.pos rfl ?_
      have e : (mayE L X P != mayE L X P) = false := by simp
      simp only [e]
      refine Ev.step (fun k => by rw [ze.j1]) (Ev.neg (by decide) (Ev.neg c ?_))
      refine Ev.bnd z3F ?_
      refine Ev.pos rfl ?_
      refine Ev.pos (by decide) ?_
      exact Ev.ret' (by decide)
end Go.Proofs.Ytkhmpaooinpfoaa.Sp
namespace Go.Proofs.Ytkhmpaooinpfoaa.Pure
open Go.RowKit Go.Proofs.YtkhmpaooinpfoaaW.PrintWords Go.Proofs.YtkhmpaooinpfoaaW.PrintMore Go.Proofs.Ytkhmpaooinpfoaa.P Go.Proofs.Ytkhmpaooinpfoaa.Ar Go.Proofs.Ytkhmpaooinpfoaa.Tw Go.Proofs.Ytkhmpaooinpfoaa.Sp
set_option linter.unusedVariables false
theorem RingBatches : Stated.ringBatches.Pure := by
  intro L l1 l2 h0 h1 h2
  obtain ⟨X, rfl⟩ := z6S l1 h1.1
  obtain ⟨P, rfl⟩ := z6S l2 h2.1
  refine Ev.rounds (g := fun k => ze.f k L (X.map toS) (P.map toS)) ?_
  unfold ze.f
  simp only [List.length_map]
  have hT := z4A L X P true (fun h => by cases h)
  have hN : Ev (fun k => if (X.length : Int) > 40 then ze.j0 k L (X.map toS) (P.map toS) true else ze.j0 k L (X.map toS) (P.map toS) (decide ((P.length : Int) > 6))) true := by
    by_cases c : (X.length : Int) > 40
    · exact Ev.pos c hT
    · exact Ev.neg c (z4A L X P _ (fun h => ⟨by omega, by have := of_decide_eq_false h; omega⟩))
  by_cases c1 : L > 5
  · refine Ev.pos c1 ?_
    by_cases c2 : L ≤ 7
    · exact Ev.pos c2 hT
    · exact Ev.neg c2 hN
  · exact Ev.neg c1 hN
end Go.Proofs.Ytkhmpaooinpfoaa.Pure
-- Own text, written by wip/tools/gen.py: the row of the law RingBatches, out of its pure statement (PureRingBatches) and the walk.
namespace Go.Proofs.Ytkhmpaooinpfoaa.ringBatches
open Go.ChangeShapes Go.WideShapes Go.ChangeAt Go.RowKit Go.Proofs.YtkhmpaooinpfoaaW.PrintWords Go.Proofs.Ytkhmpaooinpfoaa.P Go.Proofs.Ytkhmpaooinpfoaa.Reads
set_option linter.unusedVariables false
set_option linter.unusedSimpArgs false
theorem own : ownKnob Try.prog.godebug = none := by kernel_rfl
theorem laidOut : laidOutB Try.prog = true := by kernel_rfl
theorem op30 : ReadsAs Try.prog 30 k30 (fun x => ((Lit.int .u64 x.f0).wf = true) ∧ ((Lit.int .u64 x.f1).wf = true)) :=
  (z6Y (fun x : S30 => (x.f0, x.f1)) (fun a => ⟨⟨a.1, a.2⟩, rfl⟩) Try.underlying30 rfl (by kernel_rfl) (z6Z (by kernel_rfl) (by kernel_rfl) (z6X Try.underlying28) (z70 (by kernel_rfl) (by kernel_rfl) (z6X Try.underlying28)) (by intro g hg; simp only [List.mem_cons, List.not_mem_nil, or_false] at hg; rcases hg with rfl <;> exact of_decide_eq_true (by kernel_rfl))))
theorem op24 : ReadsAs Try.prog 24 (Kd.slice 30 k30) (fun l => (∀ x_ ∈ l, ((Lit.int .u64 x_.f0).wf = true) ∧ ((Lit.int .u64 x_.f1).wf = true)) ∧ l.length ≤ maxLen) := op_slice Try.underlying24 (by kernel_rfl) op30
set_option maxRecDepth 100000 in
theorem lifted (os : Os) (started : os.Started) (H : Type) (enc : TypeId × Value → H) :
    ReturnsInHanded {} Try.checked os 10 .any (Rows.ringBatchesSpec.pre6 enc Try.prog Try.f10 Rows.ringBatchesRow.domain false) (Rows.ringBatchesSpec.post enc Try.prog Try.f10 false true false false) := by
  refine returnsInHanded_of_change_sized (C := Try.checked) own started (by kernel_rfl) Try.func10
    (ChangeSpec.witness6 (enc := enc) (C := Try.checked) false ⟨#[], #[.int .i64 0, .slice none 0 0, .slice none 0 0], []⟩ 8 (by kernel_rfl) (by kernel_rfl) (by kernel_rfl) (by kernel_rfl)) ?_
  intro W base args ds gs before hval0 hW hcnd hsz0 _
  have hval : ∀ (j : Nat) t v, Try.f10.params[j]? = some t → args[j]? = some v → Value.okWide Try.prog W .any base t v := hval0
  have hW' := hW
  obtain ⟨p, q, hA0, hV, rfl, hfz, hnd⟩ := hW
  have hA : DataW.TrodAll enc Try.prog W 0 (fun _ => true) true Try.f10.params.toList args.toList ds p := hA0
  rw [Try.params10] at hA hval
  obtain ⟨v0, vs0, d0, ds0, p0, q0, hargs, rfl, rfl, h0, r0⟩ := trodAll_cons hA
  obtain ⟨v1, vs1, d1, ds1, p1, q1, rfl, rfl, rfl, h1, r1⟩ := trodAll_cons r0
  obtain ⟨v2, vs2, d2, ds2, p2, q2, rfl, rfl, rfl, h2, r2⟩ := trodAll_cons r1
  obtain ⟨rfl, rfl, rfl⟩ := trodAll_nil r2
  obtain rfl : args = #[v0, v1, v2] := by cases args; simp_all
  obtain ⟨rfl, rfl⟩ := trodVars_none hV
  have k0 := h0
  have lt0 : ∀ x ∈ p0, x.block < W.heap.size := by obtain ⟨m, hm⟩ := k0; exact DataW.trod_lt m _ _ _ hm
  obtain ⟨x0, rfl, g0⟩ := arg_int Try.underlying3 (hval 0 3 v0 rfl rfl) h0
  have k1 := h1
  have lt1 : ∀ x ∈ p1, x.block < W.heap.size := by obtain ⟨m, hm⟩ := k1; exact DataW.trod_lt m _ _ _ hm
  obtain ⟨x1, A1, c1, rfl, hc1, hr1, g1⟩ := z5e op24 Try.underlying24 (hval 1 24 v1 rfl rfl) h1
  have k2 := h2
  have lt2 : ∀ x ∈ p2, x.block < W.heap.size := by obtain ⟨m, hm⟩ := k2; exact DataW.trod_lt m _ _ _ hm
  obtain ⟨x2, A2, c2, rfl, hc2, hr2, g2⟩ := z5e op24 Try.underlying24 (hval 2 24 v2 rfl rfl) h2
  clear hA0 hval0 hsz0
  obtain ⟨k, hpure⟩ := Pure.RingBatches x0 x1 x2 g0 g1 g2
  refine (ze.calls k x0 _ _ x1 _ _ x2 true W hr1 hc1 hr2 hc2 hpure).mono fun e W' hh => ?_
  obtain ⟨rfl, bel0⟩ := hh
  have bel : Below W.heap.size W W' := bel0
  exact ⟨_, rfl, _, _, _, [], _, [], hW', trodAll_mk1 (shut_bool Try.underlying4 _), (trodAll_cons_mk (Below.trod laidOut (by kernel_rfl) (of_decide_eq_true (by kernel_rfl)) k0 bel lt0) (trodAll_cons_mk (Below.trod laidOut (by kernel_rfl) (of_decide_eq_true (by kernel_rfl)) k1 bel lt1) (trodAll_cons_mk (Below.trod laidOut (by kernel_rfl) (of_decide_eq_true (by kernel_rfl)) k2 bel lt2) trodAll_mk0))), rfl, bel.frame _, fun h => by cases h⟩
theorem over : Rows.ringBatchesRow.holds Try.pinned (OpenSpec.ofChange Rows.ringBatchesSpec) :=
  OpenClaim.holds_of_wide 10 Try.f10 rfl rfl rfl rfl rfl rfl rfl ⟨rfl, rfl, rfl, rfl, rfl⟩ rfl rfl rfl rfl rfl (by kernel_rfl) Try.func10 (by kernel_rfl)
    (of_decide_eq_true (by kernel_rfl)) (by unfold Func.isWrapper; first | (rw [if_pos (by decide +kernel)]; kernel_rfl) | (rw [if_neg (by decide +kernel)]; exact ⟨rfl, rfl⟩))
    (fun os started H enc _ => lifted os started H enc)
theorem proved : Rows.RingBatchesSaid := over
#print axioms proved
end Go.Proofs.Ytkhmpaooinpfoaa.ringBatches
namespace Go.Proofs.Ytkhmpaooinpfoaa
/-- The row, under a short name, for the claim. -/
theorem ringBatches_holds : Rows.RingBatchesSaid := ringBatches.proved
end Go.Proofs.Ytkhmpaooinpfoaa

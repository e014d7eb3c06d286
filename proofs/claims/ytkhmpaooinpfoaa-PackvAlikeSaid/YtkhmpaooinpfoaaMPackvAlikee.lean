/- Own text: merged by wip/tools/pack.py out of what the law PackvAlike reaches. -/
import Derived.Test.YtkhmpaooinpfoaaMPackvAlikeb
import Derived.Test.YtkhmpaooinpfoaaMPackvAlikec
import Derived.Test.YtkhmpaooinpfoaaMPackvAliked
namespace Go.Proofs.Ytkhmpaooinpfoaa.P
open Go.RowKit Go.Proofs.YtkhmpaooinpfoaaW.PrintWords Go.Proofs.YtkhmpaooinpfoaaW.PrintLast Go.Proofs.YtkhmpaooinpfoaaW.PrintMore
attribute [local go_sem] z15 z17 z1f z1g zW zX z16 z18   -- for this text's walks alone
set_option linter.unusedVariables false
set_option linter.unusedSimpArgs false
def z1h.f (k : Nat) (a0 : Int) : Option (Int):=(zD.f k a0).bind fun t101=>(some t101)
theorem z1h.mono : ∀ a0 k,LeO (z1h.f k a0) (z1h.f (k + 1) a0):=by
 intro a0 k
 unfold z1h.f
 repeat' first
  | (with_reducible exact zD.mono _ _)
  | (with_reducible exact LeO.refl _)
  | (with_reducible exact LeO.none _)
  | (with_reducible refine LeO.ite ?_ ?_)
  | (with_reducible refine LeO.bind ?_ (fun _=>?_))
  | exact zD.mono _ _
  | exact LeO.none _
  | refine LeO.ite ?_ ?_
  | refine LeO.bind ?_ (fun _=>?_)
set_option maxHeartbeats 8000000 in
set_option maxRecDepth 100000 in
theorem z1h.calls (k : Nat) (a0 : Int) (r : Int) (w : World) (h : z1h.f k a0 = some r) :
 Calls Try.prog 96 #[.int .i64 a0] w fun e w'=>e = .returned (.int .i64 r) ∧ Drawn0 w w':=by
 have H : ((zD.f k a0).bind fun t101=>(some t101)) = some r:=h
 clear h
 replace H:=Option.bind_eq_some_iff.mp H
 obtain ⟨t101,A20,H⟩:=H
 replace H : (some t101) = some r:=H
 have A2:=z2.mk A20
 clear A20
 obtain rfl:=Option.some.inj H
 go_enter Try.func96,Try.ntmps96
 go_wp2_with (first|((with_reducible refine zj (f:=67) rfl ?_);refine goesL_ (some 4) rfl rfl Try.func67 (by kernel_rfl) rfl #[.int .i64 a0] rfl (by (try simp only [List.map_toArray,List.map_cons,List.map_nil]);first|done|rfl|(simp only [List.length_drop,List.length_take];rfl)) ?_;(with_reducible refine (zD.calls k a0 t101 _ A2.out).mono ?_);rintro e w' ⟨rfl,⟨nd,rfl⟩⟩;refine ⟨_,rfl,?_⟩))
 go_ret
 exact ⟨by first|rfl|(simp;done)|(simp [*];done),by repeat (first|exact Drawn0.refl _|apply Drawn0.step)⟩
end Go.Proofs.Ytkhmpaooinpfoaa.P
namespace Go.Proofs.Ytkhmpaooinpfoaa.P
open Go.RowKit Go.Proofs.YtkhmpaooinpfoaaW.PrintWords Go.Proofs.YtkhmpaooinpfoaaW.PrintLast Go.Proofs.YtkhmpaooinpfoaaW.PrintMore
attribute [local go_sem] z15 z17 z1f z1g zW zX z16 z18   -- for this text's walks alone
set_option linter.unusedVariables false
set_option linter.unusedSimpArgs false
def zw.l0 : Nat → Int → List (S40) → Int → Int → Int → Int → Int → Option ((List (S40)))
 | 0,_,_,_,_,_,_,_=>none
 | k + 1,x0,x7,x8,x102000,x102001,x103000,x103001=>(z1h.f k x0).bind fun t103=>(if x8 < t103 then ((zS.f k x102000 x102001 x8).bind fun t105=>(if t105 = true then (if x7.length < 8796093022208 then (zw.l0 k x0 (x7 ++ [(⟨x103000,x103001⟩ : S40)]) (wrap64 (x8 + 1)) x102000 x102001 x103000 x103001) else (none)) else (if x7.length < 8796093022208 then (zw.l0 k x0 (x7 ++ [(⟨0,0⟩ : S40)]) (wrap64 (x8 + 1)) x102000 x102001 x103000 x103001) else (none)))) else (some x7))
def zw.f (k : Nat) (a0 : Int) (a1_0 : Int) (a1_1 : Int) (a2_0 : Int) (a2_1 : Int) : Option ((List (S40))):=zw.l0 k a0 ([] : List (S40)) 0 a1_0 a1_1 a2_0 a2_1
theorem zw.z1b : ∀ k,(∀ y0 y1 y2 y3 y4 y5 y6,LeO (zw.l0 k y0 y1 y2 y3 y4 y5 y6) (zw.l0 (k + 1) y0 y1 y2 y3 y4 y5 y6))
 | 0=>fun _ _ _ _ _ _ _ r h=>by simp [zw.l0] at h
 | k + 1=>by
  have ih0:=zw.z1b k
  · intro y0 y1 y2 y3 y4 y5 y6
    unfold zw.l0
    repeat' first
    | (with_reducible exact ih0 _ _ _ _ _ _ _)
    | (with_reducible exact zS.mono _ _ _ _)
    | (with_reducible exact z1h.mono _ _)
    | (with_reducible exact LeO.refl _)
    | (with_reducible exact LeO.none _)
    | (with_reducible refine LeO.ite ?_ ?_)
    | (with_reducible refine LeO.bind ?_ (fun _=>?_))
    | exact ih0 _ _ _ _ _ _ _
    | exact zS.mono _ _ _ _
    | exact z1h.mono _ _
    | exact LeO.none _
    | refine LeO.ite ?_ ?_
    | refine LeO.bind ?_ (fun _=>?_)
theorem zw.mono : ∀ a0 a1 a2 a3 a4 k,LeO (zw.f k a0 a1 a2 a3 a4) (zw.f (k + 1) a0 a1 a2 a3 a4):=by
 intro a0 a1 a2 a3 a4 k
 have ih0:=zw.z1b k
 unfold zw.f
 repeat' first
  | (with_reducible exact ih0 _ _ _ _ _ _ _)
  | (with_reducible exact zS.mono _ _ _ _)
  | (with_reducible exact z1h.mono _ _)
  | (with_reducible exact LeO.refl _)
  | (with_reducible exact LeO.none _)
  | (with_reducible refine LeO.ite ?_ ?_)
  | (with_reducible refine LeO.bind ?_ (fun _=>?_))
  | exact ih0 _ _ _ _ _ _ _
  | exact zS.mono _ _ _ _
  | exact z1h.mono _ _
  | exact LeO.none _
  | refine LeO.ite ?_ ?_
  | refine LeO.bind ?_ (fun _=>?_)
set_option maxHeartbeats 8000000 in
set_option maxRecDepth 100000 in
theorem zw.calls (k : Nat) (a0 : Int) (a1_0 : Int) (a1_1 : Int) (a2_0 : Int) (a2_1 : Int) (r : List (S40)) (w : World) (h : zw.f k a0 a1_0 a1_1 a2_0 a2_1 = some r) :
 Calls Try.prog 97 #[.int .i64 a0,.agg #[.int .u64 a1_0,.int .u64 a1_1],.agg #[.int .u64 a2_0,.int .u64 a2_1]] w fun e w'=>∃ v0_ : Value,e = .returned (v0_) ∧ Kd.R k40 40 w' w.heap.size (fun _=>True) v0_ r ∧ Below w.heap.size w w':=by
 have hu40:=Try.underlying40
 have HB:=z2.mk (Below.refl w.heap.size w)
 have H : (zw.l0 k a0 ([] : List (S40)) 0 a1_0 a1_1 a2_0 a2_1) = some r:=h
 clear h
 have H':=z2.mk H
 clear H
 go_enter Try.func97,Try.ntmps97
 go_wp2_with (first|((with_reducible refine zK (N:=4) rfl ?_);refine zJ ?hg (N:=4) ?hd (cs:=#[.int .u64 a1_0,.int .u64 a1_1]) (t:=40) ?hr ?_;(case hd=>rfl);(case hg=>rfl);(case hr=>first|(go_simp;done)|(go_simp;rfl));intro gb101 hg w4 hbox hb;have n0_:=z2.mk (za (by repeat (first|(with_reducible first|exact HB.out|apply z4|apply z1|apply z3)|exact HB.out)) hb);have n1_:=z2.mk (hbox);have n2_:=z2.mk ((by rw [hg];exact (zb (by repeat (first|(with_reducible first|exact HB.out|apply z4|apply z1|apply z3)|exact HB.out))) : w.heap.size ≤ gb101));have n3_:=z2.mk ((by rw [hg];exact (zb (by repeat (first|(with_reducible first|exact HB.out|apply z4|apply z1|apply z3)|exact HB.out))) : w.heap.size ≤ gb101));clear HB;have HB:=n0_;have BK101:=n1_;have GW101:=n2_;have GE101:=n3_;clear n0_ n1_ n2_ n3_;clear hb hbox hg)|((with_reducible refine zK (N:=5) rfl ?_);refine zJ ?hg (N:=5) ?hd (cs:=#[.int .u64 a2_0,.int .u64 a2_1]) (t:=40) ?hr ?_;(case hd=>rfl);(case hg=>rfl);(case hr=>first|(go_simp;done)|(go_simp;rfl));intro gb102 hg w5 hbox hb;have n0_:=z2.mk (zg (g:=gb101) (o:=.cells #[.int .u64 a1_0,.int .u64 a1_1] 40 (0,0)) (by (with_reducible repeat (first|refine z6 ?_ _|refine z8 ?_|refine z5 ?_ _));exact BK101.out) hb);have n1_:=z2.mk (za (by repeat (first|(with_reducible first|exact HB.out|apply z4|apply z1|apply z3|refine z9 ?_ GE101.out)|exact HB.out)) hb);have n2_:=z2.mk (hbox);have n3_:=z2.mk ((by rw [hg];exact (zb (by repeat (first|(with_reducible first|exact HB.out|apply z4|apply z1|apply z3|refine z9 ?_ GE101.out)|exact HB.out))) : w.heap.size ≤ gb102));have n4_:=z2.mk ((by rw [hg];exact (zb (by repeat (first|(with_reducible first|exact HB.out|apply z4|apply z1|apply z3|refine z9 ?_ GE101.out)|exact HB.out))) : w.heap.size ≤ gb102));have n5_:=z2.mk ((by rw [hg];exact Nat.ne_of_lt (zV (g:=gb101) (o:=.cells #[.int .u64 a1_0,.int .u64 a1_1] 40 (0,0)) (by (with_reducible repeat (first|refine z6 ?_ _|refine z8 ?_|refine z5 ?_ _));exact BK101.out)) : gb101 ≠ gb102));have n6_:=z2.mk ((by rw [hg];exact Nat.ne_of_gt (zV (g:=gb101) (o:=.cells #[.int .u64 a1_0,.int .u64 a1_1] 40 (0,0)) (by (with_reducible repeat (first|refine z6 ?_ _|refine z8 ?_|refine z5 ?_ _));exact BK101.out)) : gb102 ≠ gb101));clear BK101;clear HB;have BK101:=n0_;have HB:=n1_;have BK102:=n2_;have GW102:=n3_;have GE102:=n4_;have NB101_102:=n5_;have NB102_101:=n6_;clear n0_ n1_ n2_ n3_ n4_ n5_ n6_;clear hb hbox hg))
 go_loopg [7,8] k (fun kq v7 v8 w'=>∃ (x7_1 : List (S40)) (x8_1 : Int),v8 = .int .i64 x8_1 ∧ z2 (zw.l0 kq a0 x7_1 x8_1 a1_0 a1_1 a2_0 a2_1 = some r) ∧ z2 (kq ≤ k) ∧ z2 (Kd.R k40 40 w' w.heap.size (fun k_=>k_ ≠ gb101 ∧ k_ ≠ gb102) v7 x7_1) ∧ z2 (w'.heap[gb101]? = some (.cells #[.int .u64 a1_0,.int .u64 a1_1] 40 (0,0))) ∧ z2 (w'.heap[gb102]? = some (.cells #[.int .u64 a2_0,.int .u64 a2_1] 40 (0,0))) ∧ z2 (Below w.heap.size w w'))
 case atStart=>exact ⟨(([] : List (S40))),(0),(by first|rfl|(simp;done)|(simp [*];done)),H',⟨Nat.le_refl _⟩,⟨by first|exact Kd.z2C _ _ _ _ _|exact Kd.z3k _ _ _ _ _|exact Kd.z3o _ _ _ _ _|exact Kd.z3m _ _ _ _ _|exact Kd.z3n _ _ _ _ _⟩,⟨by (with_reducible repeat (first|refine z6 ?_ _|refine z8 ?_|refine z5 ?_ _));exact BK101.out⟩,⟨by (with_reducible repeat (first|refine z6 ?_ _|refine z8 ?_|refine z5 ?_ _));exact BK102.out⟩,⟨by repeat (first|(with_reducible first|exact HB.out|apply z4|apply z1|apply z3|refine z9 ?_ GE101.out|refine z9 ?_ GE102.out)|exact HB.out)⟩⟩
 case round =>
  clear H'
  (try clear p2)
  obtain ⟨x7_1,x8_1,rfl,HA,HK1,HO_7,BK101,BK102,HB⟩:=hrel
  cases gk with
  | zero=>exact absurd HA.out (by simp [zw.l0])
  | succ k1 =>
   have H:=HA.out
   clear HA
   simp only [zw.l0] at H
   replace H:=Option.bind_eq_some_iff.mp H
   obtain ⟨t103,A60,H⟩:=H
   replace H : (if x8_1 < t103 then ((zS.f k1 a1_0 a1_1 x8_1).bind fun t105=>(if t105 = true then (if x7_1.length < 8796093022208 then (zw.l0 k1 a0 (x7_1 ++ [(⟨a2_0,a2_1⟩ : S40)]) (wrap64 (x8_1 + 1)) a1_0 a1_1 a2_0 a2_1) else (none)) else (if x7_1.length < 8796093022208 then (zw.l0 k1 a0 (x7_1 ++ [(⟨0,0⟩ : S40)]) (wrap64 (x8_1 + 1)) a1_0 a1_1 a2_0 a2_1) else (none)))) else (some x7_1)) = some r:=H
   have A6:=z2.mk A60
   clear A60
   by_cases c7 : x8_1 < t103
   rotate_left
   · rw [if_neg c7] at H
     have c7b0 : decide (x8_1 < t103) = false:=decide_eq_false c7
     clear c7
     obtain rfl:=Option.some.inj H
     go_wp2_with (first|((with_reducible refine zj (f:=96) rfl ?_);refine goesL_ (some 12) rfl rfl Try.func96 (by kernel_rfl) rfl #[.int .i64 a0] rfl (by (try simp only [List.map_toArray,List.map_cons,List.map_nil]);first|done|rfl|(simp only [List.length_drop,List.length_take];rfl)) ?_;(with_reducible refine (z1h.calls k1 a0 t103 _ A6.out).mono ?_);rintro e w' ⟨rfl,⟨nd,rfl⟩⟩;refine ⟨_,rfl,?_⟩))
     go_ret
     exact ⟨_,by first|rfl|(simp [zk,zl] <;> rfl)|(simp [*,zk,zl] <;> rfl),by (with_reducible repeat (first|apply Kd.ze|apply Kd.zf|apply Kd.zo));exact Kd.zY HO_7.out (fun _ hk=>trivial),by repeat (first|(with_reducible first|exact HB.out|apply z4|apply z1|apply z3|refine z9 ?_ GE101.out|refine z9 ?_ GE102.out)|exact HB.out)⟩
   rw [if_pos c7] at H
   have c7b0 : decide (x8_1 < t103) = true:=decide_eq_true c7
   clear c7
   replace H:=Option.bind_eq_some_iff.mp H
   obtain ⟨t105,A80,H⟩:=H
   replace H : (if t105 = true then (if x7_1.length < 8796093022208 then (zw.l0 k1 a0 (x7_1 ++ [(⟨a2_0,a2_1⟩ : S40)]) (wrap64 (x8_1 + 1)) a1_0 a1_1 a2_0 a2_1) else (none)) else (if x7_1.length < 8796093022208 then (zw.l0 k1 a0 (x7_1 ++ [(⟨0,0⟩ : S40)]) (wrap64 (x8_1 + 1)) a1_0 a1_1 a2_0 a2_1) else (none))) = some r:=H
   have A8:=z2.mk A80
   clear A80
   by_cases c9 : t105 = true
   · subst c9
     have H1 : (if x7_1.length < 8796093022208 then (zw.l0 k1 a0 (x7_1 ++ [(⟨a2_0,a2_1⟩ : S40)]) (wrap64 (x8_1 + 1)) a1_0 a1_1 a2_0 a2_1) else (none)) = some r:=by rw [if_pos rfl] at H;exact H
     clear H
     have H:=H1
     clear H1
     by_cases c10 : x7_1.length < 8796093022208
     rotate_left
     · rw [if_neg c10] at H
       exact absurd H (by simp)
     rw [if_pos c10] at H
     have LMc10:=z2.mk c10
     clear c10
     obtain ⟨y106,hy106⟩ : ∃ y_ : List (S40),y_ = (x7_1 ++ [(⟨a2_0,a2_1⟩ : S40)]):=⟨_,rfl⟩
     replace H : (zw.l0 k1 a0 y106 (wrap64 (x8_1 + 1)) a1_0 a1_1 a2_0 a2_1) = some r:=by first|(rw [hy106];with_reducible exact H)|(have H2_:=(Option.bind_some _ _).symm.trans H;rw [hy106];with_reducible exact H2_)|(have H2_:=(Option.bind_some _ _).symm.trans H;with_reducible exact H2_)|with_reducible exact H|(rw [hy106];exact H)|exact H
     have Ny106:=z2.mk hy106
     clear hy106
     have H':=z2.mk H
     clear H
     go_wp2_with (first|((with_reducible refine zj (f:=96) rfl ?_);refine goesL_ (some 12) rfl rfl Try.func96 (by kernel_rfl) rfl #[.int .i64 a0] rfl (by (try simp only [List.map_toArray,List.map_cons,List.map_nil]);first|done|rfl|(simp only [List.length_drop,List.length_take];rfl)) ?_;(with_reducible refine (z1h.calls k1 a0 t103 _ A6.out).mono ?_);rintro e w' ⟨rfl,⟨nd,rfl⟩⟩;refine ⟨_,rfl,?_⟩;(try (rw [z50 wr];generalize hq_ : World.drewN wr _ = wr;have n0_ : z2 (Kd.R k40 40 wr w.heap.size (fun k_=>k_ ≠ gb101 ∧ k_ ≠ gb102) u7 x7_1):=⟨by rw [← hq_];exact (by (with_reducible repeat (first|apply Kd.ze|apply Kd.zf|apply Kd.zo));exact HO_7.out)⟩;have n1_ : z2 (wr.heap[gb101]? = some (.cells #[.int .u64 a1_0,.int .u64 a1_1] 40 (0,0))):=⟨by rw [← hq_];exact (by (with_reducible repeat (first|refine z6 ?_ _|refine z8 ?_|refine z5 ?_ _));exact BK101.out)⟩;have n2_ : z2 (wr.heap[gb102]? = some (.cells #[.int .u64 a2_0,.int .u64 a2_1] 40 (0,0))):=⟨by rw [← hq_];exact (by (with_reducible repeat (first|refine z6 ?_ _|refine z8 ?_|refine z5 ?_ _));exact BK102.out)⟩;have n3_ : z2 (Below w.heap.size w wr):=⟨by rw [← hq_];exact (by repeat (first|(with_reducible first|exact HB.out|apply z4|apply z1|apply z3|refine z9 ?_ GE101.out|refine z9 ?_ GE102.out)|exact HB.out))⟩;clear HO_7 BK101 BK102 HB hq_;have HO_7:=n0_;have BK101:=n1_;have BK102:=n2_;have HB:=n3_;clear n0_ n1_ n2_ n3_)))|((with_reducible refine zK (N:=9) rfl ?_);refine zJ ?hg (N:=9) ?hd (cs:=#[.int .u64 0,.int .u64 0]) (t:=40) ?hr ?_;(case hd=>rfl);(case hg=>rfl);(case hr=>first|(go_simp;done)|(go_simp;rfl));intro gb104 hg w11 hbox hb;have n0_:=z2.mk (Kd.zO (Kd.z1R (by (with_reducible repeat (first|apply Kd.ze|apply Kd.zf|apply Kd.zo));exact HO_7.out) gb104 (Nat.le_of_eq hg.symm)) hb);have n1_:=z2.mk (zg (g:=gb101) (o:=.cells #[.int .u64 a1_0,.int .u64 a1_1] 40 (0,0)) (by (with_reducible repeat (first|refine z6 ?_ _|refine z8 ?_|refine z5 ?_ _));exact BK101.out) hb);have n2_:=z2.mk (zg (g:=gb102) (o:=.cells #[.int .u64 a2_0,.int .u64 a2_1] 40 (0,0)) (by (with_reducible repeat (first|refine z6 ?_ _|refine z8 ?_|refine z5 ?_ _));exact BK102.out) hb);have n3_:=z2.mk (za (by repeat (first|(with_reducible first|exact HB.out|apply z4|apply z1|apply z3|refine z9 ?_ GE101.out|refine z9 ?_ GE102.out)|exact HB.out)) hb);have n4_:=z2.mk (hbox);have n5_:=z2.mk ((by rw [hg];exact (zb (by repeat (first|(with_reducible first|exact HB.out|apply z4|apply z1|apply z3|refine z9 ?_ GE101.out|refine z9 ?_ GE102.out)|exact HB.out))) : w.heap.size ≤ gb104));have n6_:=z2.mk ((by rw [hg];exact (zb (by repeat (first|(with_reducible first|exact HB.out|apply z4|apply z1|apply z3|refine z9 ?_ GE101.out|refine z9 ?_ GE102.out)|exact HB.out))) : w.heap.size ≤ gb104));have n7_:=z2.mk ((by rw [hg];exact Nat.ne_of_lt (zV (g:=gb101) (o:=.cells #[.int .u64 a1_0,.int .u64 a1_1] 40 (0,0)) (by (with_reducible repeat (first|refine z6 ?_ _|refine z8 ?_|refine z5 ?_ _));exact BK101.out)) : gb101 ≠ gb104));have n8_:=z2.mk ((by rw [hg];exact Nat.ne_of_gt (zV (g:=gb101) (o:=.cells #[.int .u64 a1_0,.int .u64 a1_1] 40 (0,0)) (by (with_reducible repeat (first|refine z6 ?_ _|refine z8 ?_|refine z5 ?_ _));exact BK101.out)) : gb104 ≠ gb101));have n9_:=z2.mk ((by rw [hg];exact Nat.ne_of_lt (zV (g:=gb102) (o:=.cells #[.int .u64 a2_0,.int .u64 a2_1] 40 (0,0)) (by (with_reducible repeat (first|refine z6 ?_ _|refine z8 ?_|refine z5 ?_ _));exact BK102.out)) : gb102 ≠ gb104));have n10_:=z2.mk ((by rw [hg];exact Nat.ne_of_gt (zV (g:=gb102) (o:=.cells #[.int .u64 a2_0,.int .u64 a2_1] 40 (0,0)) (by (with_reducible repeat (first|refine z6 ?_ _|refine z8 ?_|refine z5 ?_ _));exact BK102.out)) : gb104 ≠ gb102));clear HO_7;clear BK101;clear BK102;clear HB;have HO_7:=n0_;have BK101:=n1_;have BK102:=n2_;have HB:=n3_;have BK104:=n4_;have GW104:=n5_;have GE104:=n6_;have NB101_104:=n7_;have NB104_101:=n8_;have NB102_104:=n9_;have NB104_102:=n10_;clear n0_ n1_ n2_ n3_ n4_ n5_ n6_ n7_ n8_ n9_ n10_;clear hb hbox hg;have hnb12:=NB101_102.out;have hnc12:=NB102_101.out;have hnb13:=NB101_104.out;have hnc13:=NB104_101.out;have hcz14_0 : w11.cell? ⟨gb101,0,none⟩ = some (.int .u64 a1_0):=(zc BK101.out 0).trans rfl;have hcz14_1 : w11.cell? ⟨gb101,1,none⟩ = some (.int .u64 a1_1):=(zc BK101.out 1).trans rfl;have hfz14_0:=zd BK101.out 0;have hfz14_1:=zd BK101.out 1)|((with_reducible refine zj (f:=104) rfl ?_);refine goesL_ (some 18) rfl rfl Try.func104 (by kernel_rfl) rfl #[.agg #[.int .u64 a1_0,.int .u64 a1_1],.int .i64 x8_1] rfl (by (try simp only [List.map_toArray,List.map_cons,List.map_nil]);first|done|rfl|(simp only [List.length_drop,List.length_take];rfl)) ?_;(with_reducible refine (zS.calls k1 a1_0 a1_1 x8_1 true _ A8.out).mono ?_);rintro e w15 ⟨rfl,hb⟩;refine ⟨_,rfl,?_⟩;have n0_:=z2.mk (Kd.zO (by (with_reducible repeat (first|apply Kd.ze|apply Kd.zf|apply Kd.zo));exact HO_7.out) hb);have n1_:=z2.mk (zg (g:=gb101) (o:=.cells #[.int .u64 a1_0,.int .u64 a1_1] 40 (0,0)) (by (with_reducible repeat (first|refine z6 ?_ _|refine z8 ?_|refine z5 ?_ _));exact BK101.out) hb);have n2_:=z2.mk (zg (g:=gb102) (o:=.cells #[.int .u64 a2_0,.int .u64 a2_1] 40 (0,0)) (by (with_reducible repeat (first|refine z6 ?_ _|refine z8 ?_|refine z5 ?_ _));exact BK102.out) hb);have n3_:=z2.mk (zg (g:=gb104) (o:=.cells #[.int .u64 0,.int .u64 0] 40 (0,0)) (by (with_reducible repeat (first|refine z6 ?_ _|refine z8 ?_|refine z5 ?_ _));exact BK104.out) hb);have n4_:=z2.mk (za (by repeat (first|(with_reducible first|exact HB.out|apply z4|apply z1|apply z3|refine z9 ?_ GE101.out|refine z9 ?_ GE102.out|refine z9 ?_ GE104.out)|exact HB.out)) hb);clear HO_7;clear BK101;clear BK102;clear BK104;clear HB;have HO_7:=n0_;have BK101:=n1_;have BK102:=n2_;have BK104:=n3_;have HB:=n4_;clear n0_ n1_ n2_ n3_ n4_;(try clear hb);(try clear hb2);(try clear hk);(try clear hi);have hnb16:=NB102_104.out;have hnc16:=NB104_102.out;have hcz17_0 : w15.cell? ⟨gb102,0,none⟩ = some (.int .u64 a2_0):=(zc BK102.out 0).trans rfl;have hcz17_1 : w15.cell? ⟨gb102,1,none⟩ = some (.int .u64 a2_1):=(zc BK102.out 1).trans rfl;have hfz17_0:=zd BK102.out 0;have hfz17_1:=zd BK102.out 1;have hcz18_0 : w15.cell? ⟨gb104,0,none⟩ = some (.int .u64 0):=(zc BK104.out 0).trans rfl;have hcz18_1 : w15.cell? ⟨gb104,1,none⟩ = some (.int .u64 0):=(zc BK104.out 1).trans rfl;have hfz18_0:=zd BK104.out 0;have hfz18_1:=zd BK104.out 1)|((with_reducible refine z20 (b:=.append) (xs:=#[.tmp 20,.tmp 22]) rfl ?_);at_builtin;refine Kd.z3W k40 (w0:=w) w.heap.size rfl (.tmp 20) (.tmp 22) 36 40 (.agg #[(.int .u64 0),(.int .u64 0)]) 16 rfl Try.underlying36 info40 rfl (by decide) (by omega) u7 x7_1 (⟨a2_0,a2_1⟩ : S40) [.int .u64 a2_0,.int .u64 a2_1] (fun k_=>k_ ≠ gb101 ∧ k_ ≠ gb102 ∧ k_ ≠ gb104) (fun _=>False) rfl (by first|(go_simp;done)|(go_simp;rfl)) ?aP (fun _ hk=>hk.elim) ?aF ?aO ?aB ?aS ?aL ?_;(case aP=>exact z4l _ _ _ (⟨a2_0,a2_1⟩ : S40));(case aB=>exact (by repeat (first|(with_reducible first|exact HB.out|apply z4|apply z1|apply z3|refine z9 ?_ GE101.out|refine z9 ?_ GE102.out|refine z9 ?_ GE104.out)|exact HB.out)));(case aF=>exact (fun k_ hk=>⟨Kd.freshB (g:=gb101) (o:=.cells #[.int .u64 a1_0,.int .u64 a1_1] 40 (0,0)) (by (with_reducible repeat (first|refine z6 ?_ _|refine z8 ?_|refine z5 ?_ _));refine z13 ?_ NB101_104.out _;(with_reducible repeat (first|refine z6 ?_ _|refine z8 ?_|refine z5 ?_ _));refine z13 ?_ NB101_104.out _;(with_reducible repeat (first|refine z6 ?_ _|refine z8 ?_|refine z5 ?_ _));exact BK101.out) k_ hk,Kd.freshB (g:=gb102) (o:=.cells #[.int .u64 a2_0,.int .u64 a2_1] 40 (0,0)) (by (with_reducible repeat (first|refine z6 ?_ _|refine z8 ?_|refine z5 ?_ _));refine z13 ?_ NB102_104.out _;(with_reducible repeat (first|refine z6 ?_ _|refine z8 ?_|refine z5 ?_ _));refine z13 ?_ NB102_104.out _;(with_reducible repeat (first|refine z6 ?_ _|refine z8 ?_|refine z5 ?_ _));exact BK102.out) k_ hk,Kd.freshB (g:=gb104) (o:=.cells #[.int .u64 a2_0,.int .u64 a2_1] 40 (0,0)) (by (with_reducible repeat (first|refine z6 ?_ _|refine z8 ?_|refine z5 ?_ _));refine z11 (cs:=#[.int .u64 a2_0,.int .u64 0]) ?_ 1 _ rfl;(with_reducible repeat (first|refine z6 ?_ _|refine z8 ?_|refine z5 ?_ _));refine z11 (cs:=#[.int .u64 0,.int .u64 0]) ?_ 0 _ rfl;(with_reducible repeat (first|refine z6 ?_ _|refine z8 ?_|refine z5 ?_ _));exact BK104.out) k_ hk⟩));(case aO=>exact (by (with_reducible repeat (first|apply Kd.ze|apply Kd.zf|apply Kd.zo));exact Kd.zY (Kd.z22 (p:=⟨gb104,1,none⟩) (Kd.z22 (p:=⟨gb104,0,none⟩) (Kd.zY HO_7.out (fun k_ hk=>(⟨hk,hk.2⟩ : _ ∧ k_ ≠ gb104))) (fun _ hk=>hk.2) (.int .u64 a2_0)) (fun _ hk=>hk.2) (.int .u64 a2_1)) (fun _ hk=>⟨hk.1.1.1,⟨hk.1.1.2,hk.1.2⟩⟩)));(case aS=>exact (zb (by repeat (first|(with_reducible first|exact HB.out|apply z4|apply z1|apply z3|refine z9 ?_ GE101.out|refine z9 ?_ GE102.out|refine z9 ?_ GE104.out)|exact HB.out))));(case aL=>have:=LMc10.out;omega);intro v107 w19 ho hb hg hat;rw [← Ny106.out] at ho;have n0_:=z2.mk (z1Y (g:=gb101) (o:=.cells #[.int .u64 a1_0,.int .u64 a1_1] 40 (0,0)) (by (with_reducible repeat (first|refine z6 ?_ _|refine z8 ?_|refine z5 ?_ _));refine z13 ?_ NB101_104.out _;(with_reducible repeat (first|refine z6 ?_ _|refine z8 ?_|refine z5 ?_ _));refine z13 ?_ NB101_104.out _;(with_reducible repeat (first|refine z6 ?_ _|refine z8 ?_|refine z5 ?_ _));exact BK101.out) hg (Kd.z27 HO_7.out (fun _ hk=>hk.1.1)));have n1_:=z2.mk (z1Y (g:=gb102) (o:=.cells #[.int .u64 a2_0,.int .u64 a2_1] 40 (0,0)) (by (with_reducible repeat (first|refine z6 ?_ _|refine z8 ?_|refine z5 ?_ _));refine z13 ?_ NB102_104.out _;(with_reducible repeat (first|refine z6 ?_ _|refine z8 ?_|refine z5 ?_ _));refine z13 ?_ NB102_104.out _;(with_reducible repeat (first|refine z6 ?_ _|refine z8 ?_|refine z5 ?_ _));exact BK102.out) hg (Kd.z27 HO_7.out (fun _ hk=>hk.1.2)));have n2_:=z2.mk (z1Y (g:=gb104) (o:=.cells #[.int .u64 a2_0,.int .u64 a2_1] 40 (0,0)) (by (with_reducible repeat (first|refine z6 ?_ _|refine z8 ?_|refine z5 ?_ _));refine z11 (cs:=#[.int .u64 a2_0,.int .u64 0]) ?_ 1 _ rfl;(with_reducible repeat (first|refine z6 ?_ _|refine z8 ?_|refine z5 ?_ _));refine z11 (cs:=#[.int .u64 0,.int .u64 0]) ?_ 0 _ rfl;(with_reducible repeat (first|refine z6 ?_ _|refine z8 ?_|refine z5 ?_ _));exact BK104.out) hg (Kd.z27 HO_7.out (fun _ hk=>hk.2)));have n3_:=z2.mk (hb);have n4_:=z2.mk (ho);clear BK101;clear BK102;clear BK104;clear HB;clear HO_7;have BK101:=n0_;have BK102:=n1_;have BK104:=n2_;have HB:=n3_;have HO108:=n4_;clear n0_ n1_ n2_ n3_ n4_;clear ho hb hg hat))
     go_roundg k1
     case measure=>have:=HK1.out;omega
     case rel=>exact ⟨(y106),(wrap64 (x8_1 + 1)),(by first|rfl|(simp;done)|(simp [*];done)),H',⟨by have:=HK1.out;omega⟩,⟨by (with_reducible repeat (first|apply Kd.ze|apply Kd.zf|apply Kd.zo));exact Kd.zY HO108.out (fun _ hk=>⟨hk.1,hk.2.1⟩)⟩,⟨by (with_reducible repeat (first|refine z6 ?_ _|refine z8 ?_|refine z5 ?_ _));exact BK101.out⟩,⟨by (with_reducible repeat (first|refine z6 ?_ _|refine z8 ?_|refine z5 ?_ _));exact BK102.out⟩,⟨by repeat (first|(with_reducible first|exact HB.out|apply z4|apply z1|apply z3|refine z9 ?_ GE101.out|refine z9 ?_ GE102.out|refine z9 ?_ GE104.out)|exact HB.out)⟩⟩
   replace c9:=Bool.eq_false_iff.mpr c9
   subst c9
   have H1 : (if x7_1.length < 8796093022208 then (zw.l0 k1 a0 (x7_1 ++ [(⟨0,0⟩ : S40)]) (wrap64 (x8_1 + 1)) a1_0 a1_1 a2_0 a2_1) else (none)) = some r:=by rw [if_neg (show ¬ (false = true) by decide)] at H;exact H
   clear H
   have H:=H1
   clear H1
   by_cases c20 : x7_1.length < 8796093022208
   rotate_left
   · rw [if_neg c20] at H
     exact absurd H (by simp)
   rw [if_pos c20] at H
   have LMc20:=z2.mk c20
   clear c20
   obtain ⟨y109,hy109⟩ : ∃ y_ : List (S40),y_ = (x7_1 ++ [(⟨0,0⟩ : S40)]):=⟨_,rfl⟩
   replace H : (zw.l0 k1 a0 y109 (wrap64 (x8_1 + 1)) a1_0 a1_1 a2_0 a2_1) = some r:=by first|(rw [hy109];with_reducible exact H)|(have H2_:=(Option.bind_some _ _).symm.trans H;rw [hy109];with_reducible exact H2_)|(have H2_:=(Option.bind_some _ _).symm.trans H;with_reducible exact H2_)|with_reducible exact H|(rw [hy109];exact H)|exact H
   have Ny109:=z2.mk hy109
   clear hy109
   have H':=z2.mk H
   clear H
   go_wp2_with (first|((with_reducible refine zj (f:=96) rfl ?_);refine goesL_ (some 12) rfl rfl Try.func96 (by kernel_rfl) rfl #[.int .i64 a0] rfl (by (try simp only [List.map_toArray,List.map_cons,List.map_nil]);first|done|rfl|(simp only [List.length_drop,List.length_take];rfl)) ?_;(with_reducible refine (z1h.calls k1 a0 t103 _ A6.out).mono ?_);rintro e w' ⟨rfl,⟨nd,rfl⟩⟩;refine ⟨_,rfl,?_⟩)|((with_reducible refine zK (N:=9) rfl ?_);refine zJ ?hg (N:=9) ?hd (cs:=#[.int .u64 0,.int .u64 0]) (t:=40) ?hr ?_;(case hd=>rfl);(case hg=>rfl);(case hr=>first|(go_simp;done)|(go_simp;rfl));intro gb104 hg w21 hbox hb;have n0_:=z2.mk (Kd.zO (Kd.z1R (by (with_reducible repeat (first|apply Kd.ze|apply Kd.zf|apply Kd.zo));exact HO_7.out) gb104 (Nat.le_of_eq hg.symm)) hb);have n1_:=z2.mk (zg (g:=gb101) (o:=.cells #[.int .u64 a1_0,.int .u64 a1_1] 40 (0,0)) (by (with_reducible repeat (first|refine z6 ?_ _|refine z8 ?_|refine z5 ?_ _));exact BK101.out) hb);have n2_:=z2.mk (zg (g:=gb102) (o:=.cells #[.int .u64 a2_0,.int .u64 a2_1] 40 (0,0)) (by (with_reducible repeat (first|refine z6 ?_ _|refine z8 ?_|refine z5 ?_ _));exact BK102.out) hb);have n3_:=z2.mk (za (by repeat (first|(with_reducible first|exact HB.out|apply z4|apply z1|apply z3|refine z9 ?_ GE101.out|refine z9 ?_ GE102.out)|exact HB.out)) hb);have n4_:=z2.mk (hbox);have n5_:=z2.mk ((by rw [hg];exact (zb (by repeat (first|(with_reducible first|exact HB.out|apply z4|apply z1|apply z3|refine z9 ?_ GE101.out|refine z9 ?_ GE102.out)|exact HB.out))) : w.heap.size ≤ gb104));have n6_:=z2.mk ((by rw [hg];exact (zb (by repeat (first|(with_reducible first|exact HB.out|apply z4|apply z1|apply z3|refine z9 ?_ GE101.out|refine z9 ?_ GE102.out)|exact HB.out))) : w.heap.size ≤ gb104));have n7_:=z2.mk ((by rw [hg];exact Nat.ne_of_lt (zV (g:=gb101) (o:=.cells #[.int .u64 a1_0,.int .u64 a1_1] 40 (0,0)) (by (with_reducible repeat (first|refine z6 ?_ _|refine z8 ?_|refine z5 ?_ _));exact BK101.out)) : gb101 ≠ gb104));have n8_:=z2.mk ((by rw [hg];exact Nat.ne_of_gt (zV (g:=gb101) (o:=.cells #[.int .u64 a1_0,.int .u64 a1_1] 40 (0,0)) (by (with_reducible repeat (first|refine z6 ?_ _|refine z8 ?_|refine z5 ?_ _));exact BK101.out)) : gb104 ≠ gb101));have n9_:=z2.mk ((by rw [hg];exact Nat.ne_of_lt (zV (g:=gb102) (o:=.cells #[.int .u64 a2_0,.int .u64 a2_1] 40 (0,0)) (by (with_reducible repeat (first|refine z6 ?_ _|refine z8 ?_|refine z5 ?_ _));exact BK102.out)) : gb102 ≠ gb104));have n10_:=z2.mk ((by rw [hg];exact Nat.ne_of_gt (zV (g:=gb102) (o:=.cells #[.int .u64 a2_0,.int .u64 a2_1] 40 (0,0)) (by (with_reducible repeat (first|refine z6 ?_ _|refine z8 ?_|refine z5 ?_ _));exact BK102.out)) : gb104 ≠ gb102));clear HO_7;clear BK101;clear BK102;clear HB;have HO_7:=n0_;have BK101:=n1_;have BK102:=n2_;have HB:=n3_;have BK104:=n4_;have GW104:=n5_;have GE104:=n6_;have NB101_104:=n7_;have NB104_101:=n8_;have NB102_104:=n9_;have NB104_102:=n10_;clear n0_ n1_ n2_ n3_ n4_ n5_ n6_ n7_ n8_ n9_ n10_;clear hb hbox hg;have hnb22:=NB101_102.out;have hnc22:=NB102_101.out;have hnb23:=NB101_104.out;have hnc23:=NB104_101.out;have hcz24_0 : w21.cell? ⟨gb101,0,none⟩ = some (.int .u64 a1_0):=(zc BK101.out 0).trans rfl;have hcz24_1 : w21.cell? ⟨gb101,1,none⟩ = some (.int .u64 a1_1):=(zc BK101.out 1).trans rfl;have hfz24_0:=zd BK101.out 0;have hfz24_1:=zd BK101.out 1)|((with_reducible refine zj (f:=104) rfl ?_);refine goesL_ (some 18) rfl rfl Try.func104 (by kernel_rfl) rfl #[.agg #[.int .u64 a1_0,.int .u64 a1_1],.int .i64 x8_1] rfl (by (try simp only [List.map_toArray,List.map_cons,List.map_nil]);first|done|rfl|(simp only [List.length_drop,List.length_take];rfl)) ?_;(with_reducible refine (zS.calls k1 a1_0 a1_1 x8_1 false _ A8.out).mono ?_);rintro e w25 ⟨rfl,hb⟩;refine ⟨_,rfl,?_⟩;have n0_:=z2.mk (Kd.zO (by (with_reducible repeat (first|apply Kd.ze|apply Kd.zf|apply Kd.zo));exact HO_7.out) hb);have n1_:=z2.mk (zg (g:=gb101) (o:=.cells #[.int .u64 a1_0,.int .u64 a1_1] 40 (0,0)) (by (with_reducible repeat (first|refine z6 ?_ _|refine z8 ?_|refine z5 ?_ _));exact BK101.out) hb);have n2_:=z2.mk (zg (g:=gb102) (o:=.cells #[.int .u64 a2_0,.int .u64 a2_1] 40 (0,0)) (by (with_reducible repeat (first|refine z6 ?_ _|refine z8 ?_|refine z5 ?_ _));exact BK102.out) hb);have n3_:=z2.mk (zg (g:=gb104) (o:=.cells #[.int .u64 0,.int .u64 0] 40 (0,0)) (by (with_reducible repeat (first|refine z6 ?_ _|refine z8 ?_|refine z5 ?_ _));exact BK104.out) hb);have n4_:=z2.mk (za (by repeat (first|(with_reducible first|exact HB.out|apply z4|apply z1|apply z3|refine z9 ?_ GE101.out|refine z9 ?_ GE102.out|refine z9 ?_ GE104.out)|exact HB.out)) hb);clear HO_7;clear BK101;clear BK102;clear BK104;clear HB;have HO_7:=n0_;have BK101:=n1_;have BK102:=n2_;have BK104:=n3_;have HB:=n4_;clear n0_ n1_ n2_ n3_ n4_;(try clear hb);(try clear hb2);(try clear hk);(try clear hi);have hnb26:=NB104_102.out;have hnc26:=NB102_104.out;have hcz27_0 : w25.cell? ⟨gb104,0,none⟩ = some (.int .u64 0):=(zc BK104.out 0).trans rfl;have hcz27_1 : w25.cell? ⟨gb104,1,none⟩ = some (.int .u64 0):=(zc BK104.out 1).trans rfl;have hfz27_0:=zd BK104.out 0;have hfz27_1:=zd BK104.out 1)|((with_reducible refine z20 (b:=.append) (xs:=#[.tmp 20,.tmp 22]) rfl ?_);at_builtin;refine Kd.z3W k40 (w0:=w) w.heap.size rfl (.tmp 20) (.tmp 22) 36 40 (.agg #[(.int .u64 0),(.int .u64 0)]) 16 rfl Try.underlying36 info40 rfl (by decide) (by omega) u7 x7_1 (⟨0,0⟩ : S40) [.int .u64 0,.int .u64 0] (fun k_=>k_ ≠ gb101 ∧ k_ ≠ gb102 ∧ k_ ≠ gb104) (fun _=>False) rfl rfl ?aP (fun _ hk=>hk.elim) ?aF ?aO ?aB ?aS ?aL ?_;(case aP=>exact z4l _ _ _ (⟨0,0⟩ : S40));(case aB=>exact (by repeat (first|(with_reducible first|exact HB.out|apply z4|apply z1|apply z3|refine z9 ?_ GE101.out|refine z9 ?_ GE102.out|refine z9 ?_ GE104.out)|exact HB.out)));(case aF=>exact (fun k_ hk=>⟨Kd.freshB (g:=gb101) (o:=.cells #[.int .u64 a1_0,.int .u64 a1_1] 40 (0,0)) (by (with_reducible repeat (first|refine z6 ?_ _|refine z8 ?_|refine z5 ?_ _));exact BK101.out) k_ hk,Kd.freshB (g:=gb102) (o:=.cells #[.int .u64 a2_0,.int .u64 a2_1] 40 (0,0)) (by (with_reducible repeat (first|refine z6 ?_ _|refine z8 ?_|refine z5 ?_ _));exact BK102.out) k_ hk,Kd.freshB (g:=gb104) (o:=.cells #[.int .u64 0,.int .u64 0] 40 (0,0)) (by (with_reducible repeat (first|refine z6 ?_ _|refine z8 ?_|refine z5 ?_ _));exact BK104.out) k_ hk⟩));(case aO=>exact (by (with_reducible repeat (first|apply Kd.ze|apply Kd.zf|apply Kd.zo));exact Kd.zY HO_7.out (fun _ hk=>⟨hk.1.1,⟨hk.1.2,hk.2⟩⟩)));(case aS=>exact (zb (by repeat (first|(with_reducible first|exact HB.out|apply z4|apply z1|apply z3|refine z9 ?_ GE101.out|refine z9 ?_ GE102.out|refine z9 ?_ GE104.out)|exact HB.out))));(case aL=>have:=LMc20.out;omega);intro v110 w28 ho hb hg hat;rw [← Ny109.out] at ho;have n0_:=z2.mk (z1Y (g:=gb101) (o:=.cells #[.int .u64 a1_0,.int .u64 a1_1] 40 (0,0)) (by (with_reducible repeat (first|refine z6 ?_ _|refine z8 ?_|refine z5 ?_ _));exact BK101.out) hg (Kd.z27 HO_7.out (fun _ hk=>hk.1.1)));have n1_:=z2.mk (z1Y (g:=gb102) (o:=.cells #[.int .u64 a2_0,.int .u64 a2_1] 40 (0,0)) (by (with_reducible repeat (first|refine z6 ?_ _|refine z8 ?_|refine z5 ?_ _));exact BK102.out) hg (Kd.z27 HO_7.out (fun _ hk=>hk.1.2)));have n2_:=z2.mk (z1Y (g:=gb104) (o:=.cells #[.int .u64 0,.int .u64 0] 40 (0,0)) (by (with_reducible repeat (first|refine z6 ?_ _|refine z8 ?_|refine z5 ?_ _));exact BK104.out) hg (Kd.z27 HO_7.out (fun _ hk=>hk.2)));have n3_:=z2.mk (hb);have n4_:=z2.mk (ho);clear BK101;clear BK102;clear BK104;clear HB;clear HO_7;have BK101:=n0_;have BK102:=n1_;have BK104:=n2_;have HB:=n3_;have HO111:=n4_;clear n0_ n1_ n2_ n3_ n4_;clear ho hb hg hat))
   go_roundg k1
   case measure=>have:=HK1.out;omega
   case rel=>exact ⟨(y109),(wrap64 (x8_1 + 1)),(by first|rfl|(simp;done)|(simp [*];done)),H',⟨by have:=HK1.out;omega⟩,⟨by (with_reducible repeat (first|apply Kd.ze|apply Kd.zf|apply Kd.zo));exact Kd.zY HO111.out (fun _ hk=>⟨hk.1,hk.2.1⟩)⟩,⟨by (with_reducible repeat (first|refine z6 ?_ _|refine z8 ?_|refine z5 ?_ _));exact BK101.out⟩,⟨by (with_reducible repeat (first|refine z6 ?_ _|refine z8 ?_|refine z5 ?_ _));exact BK102.out⟩,⟨by repeat (first|(with_reducible first|exact HB.out|apply z4|apply z1|apply z3|refine z9 ?_ GE101.out|refine z9 ?_ GE102.out|refine z9 ?_ GE104.out)|exact HB.out)⟩⟩
end Go.Proofs.Ytkhmpaooinpfoaa.P
namespace Go.Proofs.Ytkhmpaooinpfoaa.P
open Go.RowKit Go.Proofs.YtkhmpaooinpfoaaW.PrintWords Go.Proofs.YtkhmpaooinpfoaaW.PrintLast Go.Proofs.YtkhmpaooinpfoaaW.PrintMore
attribute [local go_sem] z15 z17 z1f z1g zW zX z16 z18   -- for this text's walks alone
set_option linter.unusedVariables false
set_option linter.unusedSimpArgs false
def zr.l0 : Nat → Int → List (S40) → List (S40) → List (S40) → Int → Option ((List (S40)))
 | 0,_,_,_,_,_=>none
 | k + 1,x0,x1,x2,x8,x9=>(zD.f k (x1.length : Int)).bind fun t105=>(if x9 < t105 then ((zp.f k x1 x9).bind fun bt106=>((zp.f k x2 x9).bind fun bt108=>((zw.f k x0 bt106.1 bt106.2 bt108.1 bt108.2).bind fun t110=>((zz.f k x8 t110).bind fun t113=>(zr.l0 k x0 x1 x2 t113 (wrap64 (x9 + 1))))))) else (some x8))
def zr.f (k : Nat) (a0 : Int) (l1 : List (S40)) (l2 : List (S40)) : Option ((List (S40))):=(zw.f k a0 0 0 0 0).bind fun t102=>(zr.l0 k a0 l1 l2 t102 0)
theorem zr.z1b : ∀ k,(∀ y0 y1 y2 y3 y4,LeO (zr.l0 k y0 y1 y2 y3 y4) (zr.l0 (k + 1) y0 y1 y2 y3 y4))
 | 0=>fun _ _ _ _ _ r h=>by simp [zr.l0] at h
 | k + 1=>by
  have ih0:=zr.z1b k
  · intro y0 y1 y2 y3 y4
    unfold zr.l0
    repeat' first
    | (with_reducible exact ih0 _ _ _ _ _)
    | (with_reducible exact zD.mono _ _)
    | (with_reducible exact zp.mono _ _ _)
    | (with_reducible exact zz.mono _ _ _)
    | (with_reducible exact zw.mono _ _ _ _ _ _)
    | (with_reducible exact LeO.refl _)
    | (with_reducible exact LeO.none _)
    | (with_reducible refine LeO.ite ?_ ?_)
    | (with_reducible refine LeO.bind ?_ (fun _=>?_))
    | exact ih0 _ _ _ _ _
    | exact zD.mono _ _
    | exact zp.mono _ _ _
    | exact zz.mono _ _ _
    | exact zw.mono _ _ _ _ _ _
    | exact LeO.none _
    | refine LeO.ite ?_ ?_
    | refine LeO.bind ?_ (fun _=>?_)
theorem zr.mono : ∀ a0 a1 a2 k,LeO (zr.f k a0 a1 a2) (zr.f (k + 1) a0 a1 a2):=by
 intro a0 a1 a2 k
 have ih0:=zr.z1b k
 unfold zr.f
 repeat' first
  | (with_reducible exact ih0 _ _ _ _ _)
  | (with_reducible exact zD.mono _ _)
  | (with_reducible exact zp.mono _ _ _)
  | (with_reducible exact zz.mono _ _ _)
  | (with_reducible exact zw.mono _ _ _ _ _ _)
  | (with_reducible exact LeO.refl _)
  | (with_reducible exact LeO.none _)
  | (with_reducible refine LeO.ite ?_ ?_)
  | (with_reducible refine LeO.bind ?_ (fun _=>?_))
  | exact ih0 _ _ _ _ _
  | exact zD.mono _ _
  | exact zp.mono _ _ _
  | exact zz.mono _ _ _
  | exact zw.mono _ _ _ _ _ _
  | exact LeO.none _
  | refine LeO.ite ?_ ?_
  | refine LeO.bind ?_ (fun _=>?_)
set_option maxHeartbeats 8000000 in
set_option maxRecDepth 100000 in
theorem zr.calls (k : Nat) (a0 : Int) (A1 : Option Addr) (c1 : Nat) (l1 : List (S40)) (A2 : Option Addr) (c2 : Nat) (l2 : List (S40)) (r : List (S40)) (w : World) (hr1 : Kd.C k40 w A1 l1.length l1) (hc1 : l1.length ≤ c1) (hr2 : Kd.C k40 w A2 l2.length l2) (hc2 : l2.length ≤ c2) (h : zr.f k a0 l1 l2 = some r) :
 Calls Try.prog 51 #[.int .i64 a0,.slice A1 l1.length c1,.slice A2 l2.length c2] w fun e w'=>∃ v0_ : Value,e = .returned (v0_) ∧ Kd.R k40 40 w' w.heap.size (fun _=>True) v0_ r ∧ Below w.heap.size w w':=by
 have hu40:=Try.underlying40
 have HR1:=z2.mk hr1
 have HC1:=z2.mk hc1
 clear hr1 hc1
 have HR2:=z2.mk hr2
 have HC2:=z2.mk hc2
 clear hr2 hc2
 have HB:=z2.mk (Below.refl w.heap.size w)
 have H : ((zw.f k a0 0 0 0 0).bind fun t102=>(zr.l0 k a0 l1 l2 t102 0)) = some r:=h
 clear h
 replace H:=Option.bind_eq_some_iff.mp H
 obtain ⟨t102,A40,H⟩:=H
 replace H : (zr.l0 k a0 l1 l2 t102 0) = some r:=H
 have A4:=z2.mk A40
 clear A40
 have H':=z2.mk H
 clear H
 go_enter Try.func51,Try.ntmps51
 go_wp2_with (first|((with_reducible refine zK (N:=7) rfl ?_);refine zJ ?hg (N:=7) ?hd (cs:=#[.int .u64 0,.int .u64 0]) (t:=40) ?hr ?_;(case hd=>rfl);(case hg=>rfl);(case hr=>first|(go_simp;done)|(go_simp;rfl));intro gb101 hg w5 hbox hb;have n0_:=z2.mk (za (by repeat (first|(with_reducible first|exact HB.out|apply z4|apply z1|apply z3)|exact HB.out)) hb);have n1_:=z2.mk (hbox);have n2_:=z2.mk ((by rw [hg];exact (zb (by repeat (first|(with_reducible first|exact HB.out|apply z4|apply z1|apply z3)|exact HB.out))) : w.heap.size ≤ gb101));have n3_:=z2.mk ((by rw [hg];exact (zb (by repeat (first|(with_reducible first|exact HB.out|apply z4|apply z1|apply z3)|exact HB.out))) : w.heap.size ≤ gb101));clear HB;have HB:=n0_;have BK101:=n1_;have GW101:=n2_;have GE101:=n3_;clear n0_ n1_ n2_ n3_;clear hb hbox hg;have hcz6_0 : w5.cell? ⟨gb101,0,none⟩ = some (.int .u64 0):=(zc BK101.out 0).trans rfl;have hcz6_1 : w5.cell? ⟨gb101,1,none⟩ = some (.int .u64 0):=(zc BK101.out 1).trans rfl;have hfz6_0:=zd BK101.out 0;have hfz6_1:=zd BK101.out 1)|((with_reducible refine zj (f:=97) rfl ?_);refine goesL_ (some 13) rfl rfl Try.func97 (by kernel_rfl) rfl #[.int .i64 a0,.agg #[.int .u64 0,.int .u64 0],.agg #[.int .u64 0,.int .u64 0]] rfl (by (try simp only [List.map_toArray,List.map_cons,List.map_nil]);first|done|rfl|(simp only [List.length_drop,List.length_take];rfl)) ?_;(with_reducible refine (zw.calls k a0 0 0 0 0 t102 _ A4.out).mono ?_);rintro e w7 ⟨v103,rfl,ho0,hb⟩;refine ⟨_,rfl,?_⟩;have n0_:=z2.mk (Kd.z1l (Kd.z4a ho0 (g:=gb101) (o:=.cells #[.int .u64 0,.int .u64 0] 40 (0,0)) (by (with_reducible repeat (first|refine z6 ?_ _|refine z8 ?_|refine z5 ?_ _));exact BK101.out)) (zb (by repeat (first|(with_reducible first|exact HB.out|apply z4|apply z1|apply z3|refine z9 ?_ GE101.out)|exact HB.out))));have n1_:=z2.mk (zg (g:=gb101) (o:=.cells #[.int .u64 0,.int .u64 0] 40 (0,0)) (by (with_reducible repeat (first|refine z6 ?_ _|refine z8 ?_|refine z5 ?_ _));exact BK101.out) hb);have n2_:=z2.mk (za (by repeat (first|(with_reducible first|exact HB.out|apply z4|apply z1|apply z3|refine z9 ?_ GE101.out)|exact HB.out)) hb);clear BK101;clear HB;have HO104:=n0_;have BK101:=n1_;have HB:=n2_;clear n0_ n1_ n2_;(try clear hb);(try clear hb2);(try clear hk);(try clear hi);(try clear ho0)))
 go_loopg [8,9] k (fun kq v8 v9 w'=>∃ (x8_1 : List (S40)) (x9_1 : Int),v9 = .int .i64 x9_1 ∧ z2 (zr.l0 kq a0 l1 l2 x8_1 x9_1 = some r) ∧ z2 (kq ≤ k) ∧ z2 (Kd.R k40 40 w' w.heap.size (fun k_=>k_ ≠ gb101) v8 x8_1) ∧ z2 (w'.heap[gb101]? = some (.cells #[.int .u64 0,.int .u64 0] 40 (0,0))) ∧ z2 (Below w.heap.size w w'))
 case atStart=>exact ⟨(t102),(0),(by first|rfl|(simp;done)|(simp [*];done)),H',⟨Nat.le_refl _⟩,⟨by (with_reducible repeat (first|apply Kd.ze|apply Kd.zf|apply Kd.zo));exact Kd.zY HO104.out (fun _ hk=>hk.2)⟩,⟨by (with_reducible repeat (first|refine z6 ?_ _|refine z8 ?_|refine z5 ?_ _));exact BK101.out⟩,⟨by repeat (first|(with_reducible first|exact HB.out|apply z4|apply z1|apply z3|refine z9 ?_ GE101.out)|exact HB.out)⟩⟩
 case round =>
  clear H'
  (try clear c1);(try clear c2);(try clear p2);(try clear c5);(try clear hcz6_0);(try clear hcz6_1);(try clear hfz6_0);(try clear hfz6_1)
  obtain ⟨x8_1,x9_1,rfl,HA,HK1,HO_8,BK101,HB⟩:=hrel
  cases gk with
  | zero=>exact absurd HA.out (by simp [zr.l0])
  | succ k1 =>
   have H:=HA.out
   clear HA
   simp only [zr.l0] at H
   replace H:=Option.bind_eq_some_iff.mp H
   obtain ⟨t105,A80,H⟩:=H
   replace H : (if x9_1 < t105 then ((zp.f k1 l1 x9_1).bind fun bt106=>((zp.f k1 l2 x9_1).bind fun bt108=>((zw.f k1 a0 bt106.1 bt106.2 bt108.1 bt108.2).bind fun t110=>((zz.f k1 x8_1 t110).bind fun t113=>(zr.l0 k1 a0 l1 l2 t113 (wrap64 (x9_1 + 1))))))) else (some x8_1)) = some r:=H
   have A8:=z2.mk A80
   clear A80
   by_cases c9 : x9_1 < t105
   rotate_left
   · rw [if_neg c9] at H
     have c9b0 : decide (x9_1 < t105) = false:=decide_eq_false c9
     clear c9
     obtain rfl:=Option.some.inj H
     go_wp2_with (first|((with_reducible refine zj (f:=67) rfl ?_);refine goesL_ (some 17) rfl rfl Try.func67 (by kernel_rfl) rfl #[.int .i64 (l1.length : Int)] rfl (by (try simp only [List.map_toArray,List.map_cons,List.map_nil]);first|done|rfl|(simp only [List.length_drop,List.length_take];rfl)) ?_;(with_reducible refine (zD.calls k1 (l1.length : Int) t105 _ A8.out).mono ?_);rintro e w' ⟨rfl,⟨nd,rfl⟩⟩;refine ⟨_,rfl,?_⟩))
     go_ret
     exact ⟨_,by first|rfl|(simp [zk,zl] <;> rfl)|(simp [*,zk,zl] <;> rfl),by (with_reducible repeat (first|apply Kd.ze|apply Kd.zf|apply Kd.zo));exact Kd.zY HO_8.out (fun _ hk=>trivial),by repeat (first|(with_reducible first|exact HB.out|apply z4|apply z1|apply z3|refine z9 ?_ GE101.out)|exact HB.out)⟩
   rw [if_pos c9] at H
   have c9b0 : decide (x9_1 < t105) = true:=decide_eq_true c9
   clear c9
   replace H:=Option.bind_eq_some_iff.mp H
   obtain ⟨⟨t106,t107⟩,A100,H⟩:=H
   replace H : ((zp.f k1 l2 x9_1).bind fun bt108=>((zw.f k1 a0 t106 t107 bt108.1 bt108.2).bind fun t110=>((zz.f k1 x8_1 t110).bind fun t113=>(zr.l0 k1 a0 l1 l2 t113 (wrap64 (x9_1 + 1)))))) = some r:=H
   have A10:=z2.mk A100
   clear A100
   replace H:=Option.bind_eq_some_iff.mp H
   obtain ⟨⟨t108,t109⟩,A110,H⟩:=H
   replace H : ((zw.f k1 a0 t106 t107 t108 t109).bind fun t110=>((zz.f k1 x8_1 t110).bind fun t113=>(zr.l0 k1 a0 l1 l2 t113 (wrap64 (x9_1 + 1))))) = some r:=H
   have A11:=z2.mk A110
   clear A110
   replace H:=Option.bind_eq_some_iff.mp H
   obtain ⟨t110,A120,H⟩:=H
   replace H : ((zz.f k1 x8_1 t110).bind fun t113=>(zr.l0 k1 a0 l1 l2 t113 (wrap64 (x9_1 + 1)))) = some r:=H
   have A12:=z2.mk A120
   clear A120
   replace H:=Option.bind_eq_some_iff.mp H
   obtain ⟨t113,A130,H⟩:=H
   replace H : (zr.l0 k1 a0 l1 l2 t113 (wrap64 (x9_1 + 1))) = some r:=H
   have A13:=z2.mk A130
   clear A130
   have H':=z2.mk H
   clear H
   go_wp2_with (first|((with_reducible refine zj (f:=67) rfl ?_);refine goesL_ (some 17) rfl rfl Try.func67 (by kernel_rfl) rfl #[.int .i64 (l1.length : Int)] rfl (by (try simp only [List.map_toArray,List.map_cons,List.map_nil]);first|done|rfl|(simp only [List.length_drop,List.length_take];rfl)) ?_;(with_reducible refine (zD.calls k1 (l1.length : Int) t105 _ A8.out).mono ?_);rintro e w' ⟨rfl,⟨nd,rfl⟩⟩;refine ⟨_,rfl,?_⟩)|((with_reducible refine zj (f:=70) rfl ?_);refine goesL_ (some 25) rfl rfl Try.func70 (by kernel_rfl) rfl #[.slice A1 l1.length c1,.int .i64 x9_1] rfl (by (try simp only [List.map_toArray,List.map_cons,List.map_nil]);first|done|rfl|(simp only [List.length_drop,List.length_take];rfl)) ?_;(with_reducible refine (zp.calls k1 _ _ l1 x9_1 t106 t107 _ ?side1 ?side2 A10.out).mono ?_);(case side1=>repeat (first|exact (Kd.z1W HR1.out (by repeat (first|(with_reducible first|exact HB.out|apply z4|apply z1|apply z3|refine z9 ?_ GE101.out)|exact HB.out)))|(with_reducible refine Kd.z1o ?_ _)|(with_reducible refine Kd.z1p ?_ _)|(with_reducible refine Kd.z1C ?_)));(case side2=>exact HC1.out);rintro e w14 ⟨rfl,hb⟩;refine ⟨_,rfl,?_⟩;have n0_:=z2.mk (Kd.zO (by (with_reducible repeat (first|apply Kd.ze|apply Kd.zf|apply Kd.zo));exact HO_8.out) hb);have n1_:=z2.mk (zg (g:=gb101) (o:=.cells #[.int .u64 0,.int .u64 0] 40 (0,0)) (by (with_reducible repeat (first|refine z6 ?_ _|refine z8 ?_|refine z5 ?_ _));exact BK101.out) hb);have n2_:=z2.mk (za (by repeat (first|(with_reducible first|exact HB.out|apply z4|apply z1|apply z3|refine z9 ?_ GE101.out)|exact HB.out)) hb);clear HO_8;clear BK101;clear HB;have HO_8:=n0_;have BK101:=n1_;have HB:=n2_;clear n0_ n1_ n2_;(try clear hb);(try clear hb2);(try clear hk);(try clear hi))|((with_reducible refine zj (f:=70) rfl ?_);refine goesL_ (some 28) rfl rfl Try.func70 (by kernel_rfl) rfl #[.slice A2 l2.length c2,.int .i64 x9_1] rfl (by (try simp only [List.map_toArray,List.map_cons,List.map_nil]);first|done|rfl|(simp only [List.length_drop,List.length_take];rfl)) ?_;(with_reducible refine (zp.calls k1 _ _ l2 x9_1 t108 t109 _ ?side1 ?side2 A11.out).mono ?_);(case side1=>repeat (first|exact (Kd.z1W HR2.out HB.out)|(with_reducible refine Kd.z1o ?_ _)|(with_reducible refine Kd.z1p ?_ _)|(with_reducible refine Kd.z1C ?_)));(case side2=>exact HC2.out);rintro e w15 ⟨rfl,hb⟩;refine ⟨_,rfl,?_⟩;have n0_:=z2.mk (Kd.zO (by (with_reducible repeat (first|apply Kd.ze|apply Kd.zf|apply Kd.zo));exact HO_8.out) hb);have n1_:=z2.mk (zg (g:=gb101) (o:=.cells #[.int .u64 0,.int .u64 0] 40 (0,0)) (by (with_reducible repeat (first|refine z6 ?_ _|refine z8 ?_|refine z5 ?_ _));exact BK101.out) hb);have n2_:=z2.mk (za (by repeat (first|(with_reducible first|exact HB.out|apply z4|apply z1|apply z3|refine z9 ?_ GE101.out)|exact HB.out)) hb);clear HO_8;clear BK101;clear HB;have HO_8:=n0_;have BK101:=n1_;have HB:=n2_;clear n0_ n1_ n2_;(try clear hb);(try clear hb2);(try clear hk);(try clear hi))|((with_reducible refine zj (f:=97) rfl ?_);refine goesL_ (some 29) rfl rfl Try.func97 (by kernel_rfl) rfl #[.int .i64 a0,.agg #[.int .u64 t106,.int .u64 t107],.agg #[.int .u64 t108,.int .u64 t109]] rfl (by (try simp only [List.map_toArray,List.map_cons,List.map_nil]);first|done|rfl|(simp only [List.length_drop,List.length_take];rfl)) ?_;(with_reducible refine (zw.calls k1 a0 t106 t107 t108 t109 t110 _ A12.out).mono ?_);rintro e w16 ⟨v111,rfl,ho0,hb⟩;refine ⟨_,rfl,?_⟩;have n0_:=z2.mk (Kd.z1r (by (with_reducible repeat (first|apply Kd.ze|apply Kd.zf|apply Kd.zo));exact HO_8.out) (Kd.z1v ho0) hb);have n1_:=z2.mk (Kd.z1l (Kd.z4a (Kd.z1Q ho0 (Kd.R_lt (by (with_reducible repeat (first|apply Kd.ze|apply Kd.zf|apply Kd.zo));exact HO_8.out))) (g:=gb101) (o:=.cells #[.int .u64 0,.int .u64 0] 40 (0,0)) (by (with_reducible repeat (first|refine z6 ?_ _|refine z8 ?_|refine z5 ?_ _));exact BK101.out)) (zb (by repeat (first|(with_reducible first|exact HB.out|apply z4|apply z1|apply z3|refine z9 ?_ GE101.out)|exact HB.out))));have n2_:=z2.mk (zg (g:=gb101) (o:=.cells #[.int .u64 0,.int .u64 0] 40 (0,0)) (by (with_reducible repeat (first|refine z6 ?_ _|refine z8 ?_|refine z5 ?_ _));exact BK101.out) hb);have n3_:=z2.mk (za (by repeat (first|(with_reducible first|exact HB.out|apply z4|apply z1|apply z3|refine z9 ?_ GE101.out)|exact HB.out)) hb);clear HO_8;clear BK101;clear HB;have HO_8:=n0_;have HO112:=n1_;have BK101:=n2_;have HB:=n3_;clear n0_ n1_ n2_ n3_;(try clear hb);(try clear hb2);(try clear hk);(try clear hi);(try clear ho0);obtain ⟨Ao17,co17,eo17⟩:=Kd.z1d HO_8.out;subst eo17;obtain ⟨Ao18,co18,eo18⟩:=Kd.z1d HO112.out;subst eo18)|((with_reducible refine zj (f:=45) rfl ?_);refine goesL_ (some 30) rfl rfl Try.func45 (by kernel_rfl) rfl #[.slice Ao17 x8_1.length co17,.slice Ao18 t110.length co18] rfl (by (try simp only [List.map_toArray,List.map_cons,List.map_nil]);first|done|rfl|(simp only [List.length_drop,List.length_take];rfl)) ?_;(with_reducible refine (zz.calls k1 _ _ x8_1 _ _ t110 t113 _ ?side1 ?side2 ?side3 ?side4 A13.out).mono ?_);(case side1=>repeat (first|exact (Kd.zI HO_8.out).2.2|(with_reducible refine Kd.z1o ?_ _)|(with_reducible refine Kd.z1p ?_ _)|(with_reducible refine Kd.z1C ?_)));(case side2=>exact (Kd.zI HO_8.out).2.1);(case side3=>repeat (first|exact (Kd.zI HO112.out).2.2|(with_reducible refine Kd.z1o ?_ _)|(with_reducible refine Kd.z1p ?_ _)|(with_reducible refine Kd.z1C ?_)));(case side4=>exact (Kd.zI HO112.out).2.1);rintro e w19 ⟨v114,rfl,ho0,hb⟩;refine ⟨_,rfl,?_⟩;have n0_:=z2.mk (Kd.z1r (by (with_reducible repeat (first|apply Kd.ze|apply Kd.zf|apply Kd.zo));exact HO_8.out) (Kd.z1v ho0) hb);have n1_:=z2.mk (Kd.z1r (by (with_reducible repeat (first|apply Kd.ze|apply Kd.zf|apply Kd.zo));exact HO112.out) (Kd.z1v ho0) hb);have n2_:=z2.mk (Kd.z1l (Kd.z4a (Kd.z1Q (Kd.z1Q ho0 (Kd.R_lt (by (with_reducible repeat (first|apply Kd.ze|apply Kd.zf|apply Kd.zo));exact HO_8.out))) (Kd.R_lt (by (with_reducible repeat (first|apply Kd.ze|apply Kd.zf|apply Kd.zo));exact HO112.out))) (g:=gb101) (o:=.cells #[.int .u64 0,.int .u64 0] 40 (0,0)) (by (with_reducible repeat (first|refine z6 ?_ _|refine z8 ?_|refine z5 ?_ _));exact BK101.out)) (zb (by repeat (first|(with_reducible first|exact HB.out|apply z4|apply z1|apply z3|refine z9 ?_ GE101.out)|exact HB.out))));have n3_:=z2.mk (zg (g:=gb101) (o:=.cells #[.int .u64 0,.int .u64 0] 40 (0,0)) (by (with_reducible repeat (first|refine z6 ?_ _|refine z8 ?_|refine z5 ?_ _));exact BK101.out) hb);have n4_:=z2.mk (za (by repeat (first|(with_reducible first|exact HB.out|apply z4|apply z1|apply z3|refine z9 ?_ GE101.out)|exact HB.out)) hb);clear HO_8;clear HO112;clear BK101;clear HB;have HO_8:=n0_;have HO112:=n1_;have HO115:=n2_;have BK101:=n3_;have HB:=n4_;clear n0_ n1_ n2_ n3_ n4_;(try clear hb);(try clear hb2);(try clear hk);(try clear hi);(try clear ho0)))
   go_roundg k1
   case measure=>have:=HK1.out;omega
   case rel=>exact ⟨(t113),(wrap64 (x9_1 + 1)),(by first|rfl|(simp;done)|(simp [*];done)),H',⟨by have:=HK1.out;omega⟩,⟨by (with_reducible repeat (first|apply Kd.ze|apply Kd.zf|apply Kd.zo));exact Kd.zY HO115.out (fun _ hk=>hk.2)⟩,⟨by (with_reducible repeat (first|refine z6 ?_ _|refine z8 ?_|refine z5 ?_ _));exact BK101.out⟩,⟨by repeat (first|(with_reducible first|exact HB.out|apply z4|apply z1|apply z3|refine z9 ?_ GE101.out)|exact HB.out)⟩⟩
end Go.Proofs.Ytkhmpaooinpfoaa.P
namespace Go.Proofs.Ytkhmpaooinpfoaa.P
open Go.RowKit Go.Proofs.YtkhmpaooinpfoaaW.PrintWords Go.Proofs.YtkhmpaooinpfoaaW.PrintLast Go.Proofs.YtkhmpaooinpfoaaW.PrintMore
attribute [local go_sem] z15 z17 z1f z1g zW zX z16 z18   -- for this text's walks alone
set_option linter.unusedVariables false
set_option linter.unusedSimpArgs false
set_option maxHeartbeats 800000 in
set_option maxRecDepth 100000 in
theorem z1n.clo (k : Nat) (a0 : Int) (x : S30) (g : Nat) (r : Bool) (w : World) (hg : w.heap[g]? = some (.cells #[.int .i64 a0] 3 (0,0))) (h : zL.f k a0 x.f0 x.f1 = some r) :
 Calls Try.prog 136 #[.agg #[.int .u64 x.f0,.int .u64 x.f1],.pointer (some ⟨g,0,none⟩)] w fun e w'=>e = .returned (.bool (!r)) ∧ Below w.heap.size w w':=by
 have hu30:=Try.underlying30
 have HB:=z2.mk (Below.refl w.heap.size w)
 have HG:=z2.mk hg
 have A8:=z2.mk h
 clear hg h
 go_enter Try.func136,Try.ntmps136
 go_wp2_with (first
  | ((with_reducible refine zK (N:=2) rfl ?_);refine zJ ?hg (N:=2) ?hd (cs:=#[.int .u64 x.f0,.int .u64 x.f1]) (t:=30) ?hr ?_;(case hd=>rfl);(case hg=>rfl);(case hr=>first|(go_simp;done)|(go_simp;rfl));intro gb hgb w1_ hbox hb;have n0_:=z2.mk (za HB.out hb);have hG1:=zg (g:=g) (o:=.cells #[.int .i64 a0] 3 (0,0)) HG.out hb;have hc0 : w1_.cell? ⟨g,0,none⟩ = some (.int .i64 a0):=(zc hG1 0).trans rfl;have hcx0 : w1_.cell? ⟨gb,0,none⟩ = some (.int .u64 x.f0):=(zc hbox 0).trans rfl;have hcx1 : w1_.cell? ⟨gb,1,none⟩ = some (.int .u64 x.f1):=(zc hbox 1).trans rfl;clear HB hG1 hbox hb hgb;have HB:=n0_;clear n0_)
  | ((with_reducible refine zj (f:=81) rfl ?_);refine goesL_ (some 6) rfl rfl Try.func81 (by kernel_rfl) rfl #[.int .i64 a0,.agg #[.int .u64 x.f0,.int .u64 x.f1]] rfl (by (try simp only [List.map_toArray,List.map_cons,List.map_nil]);first|done|rfl) ?_;(with_reducible refine (zL.calls k a0 x.f0 x.f1 r _ A8.out).mono ?_);rintro e w2_ ⟨rfl,hb2⟩;refine ⟨_,rfl,?_⟩;have n0_:=z2.mk (za HB.out hb2);clear HB hb2;have HB:=n0_;clear n0_))
 go_ret
 exact ⟨rfl,HB.out⟩
def z1n.all (k : Nat) (a0 : Int) : List S30 → Option Bool
 | []=>some true
 | x :: xs=>(zL.f k a0 x.f0 x.f1).bind fun b=>if b = true then z1n.all k a0 xs else some false
theorem z1n.z37 (a0 : Int) : ∀ (l : List S30) (k : Nat),LeO (z1n.all k a0 l) (z1n.all (k + 1) a0 l)
 | [],k=>LeO.refl _
 | x :: xs,k=>LeO.bind (zL.mono a0 x.f0 x.f1 k) (fun b=>LeO.ite (z1n.z37 a0 xs k) (LeO.refl _))
theorem z1n.z3Y (k : Nat) (a0 : Int) (l : List S30) (i : Nat) (h : i < l.length) : z1n.all k a0 (l.drop i) = (zL.f k a0 (zi l (i : Int)).f0 (zi l (i : Int)).f1).bind fun b=>if b = true then z1n.all k a0 (l.drop (i + 1)) else some false:=by
 rw [List.drop_eq_getElem_cons h]
 have e : zi l (i : Int) = l[i]:=by unfold zi;rw [Int.toNat_natCast,List.getD_eq_getElem?_getD,List.getElem?_eq_getElem h];rfl
 rw [e];rfl
set_option maxHeartbeats 800000 in
set_option maxRecDepth 100000 in
theorem z1n.idx (k : Nat) (a0 : Int) (A_ : Option Addr) (c : Nat) (l : List S30) (g : Nat) (r : Bool) (w : World) (hr : Kd.C k30 w A_ l.length l) (hg : w.heap[g]? = some (.cells #[.int .i64 a0] 3 (0,0))) (h : z1n.all k a0 l = some r) :
 Calls Try.prog 135 #[.slice A_ l.length c,.func (.func 136) #[] #[.pointer (some ⟨g,0,none⟩)]] w fun e w'=>(∃ i : Int,e = .returned (.int .i64 i) ∧ decide (i ≥ 0) = !r) ∧ Below w.heap.size w w':=by
 have hu30:=Try.underlying30
 have HB:=z2.mk (Below.refl w.heap.size w)
 have HG:=z2.mk hg
 have HR:=z2.mk hr
 have HA:=z2.mk h
 have HM:=z2.mk (Kd.C_max hr)
 clear hg h hr
 go_enter Try.func135,Try.ntmps135
 go_wp2
 go_loopg [8] l.length (fun kq v8 w'=>∃ (i : Nat),v8 = .int .i64 i ∧ z2 (i + kq = l.length) ∧ z2 (z1n.all k a0 (l.drop i) = some r) ∧ z2 (w'.heap[g]? = some (.cells #[.int .i64 a0] 3 (0,0))) ∧ z2 (Below w.heap.size w w'))
 case atStart=>exact ⟨0,rfl,⟨by omega⟩,HA,HG,HB⟩
 case round =>
  obtain ⟨i,rfl,HK,HAi,HGi,HBi⟩:=hrel
  clear HG HB HA
  by_cases hlt : i < l.length
  rotate_left
  · have p0 : decide (i < l.length) = false:=decide_eq_false hlt
    have p1 : decide ((i : Int) < (l.length : Int)) = false:=decide_eq_false (by omega)
    have hr : r = true:=by
     have h1:=HAi.out
     rw [List.drop_eq_nil_of_le (by omega)] at h1
     exact (Option.some.inj h1).symm
    clear hlt HAi
    subst hr
    go_wp2
    go_ret
    exact ⟨⟨-1,rfl,by decide⟩,HBi.out⟩
  have hd:=z1n.z3Y k a0 l i hlt
  have e1:=HAi.out
  rw [hd] at e1
  obtain ⟨b,hb,e2⟩:=Option.bind_eq_some_iff.mp e1
  clear e1 hd
  have HE:=z2.mk e2
  have HF:=z2.mk hb
  clear e2 hb
  obtain ⟨ad,e205,hx0,hx1⟩:=z29 HR.out (i : Int) (by omega) (by omega)
  cases e205
  rw [Int.toNat_natCast] at hx0 hx1
  replace hx0:=(HBi.out.cell (World.block_lt_of_cell? w _ hx0)).trans hx0
  replace hx1:=(HBi.out.cell (World.block_lt_of_cell? w _ hx1)).trans hx1
  have p0 : decide (i < l.length) = true:=decide_eq_true hlt
  have p1 : decide ((i : Int) < (l.length : Int)) = true:=decide_eq_true (by omega)
  have p2 : (0 ≤ (i : Int)) = True:=eq_true (by omega)
  have p3 : ((i : Int) < (l.length : Int)) = True:=eq_true (by omega)
  clear hlt
  go_wp2_with fail
  refine (z1n.clo k a0 (zi l (i : Int)) g b _ HGi.out HF.out).mono ?_
  rintro e w1 ⟨rfl,hb1⟩
  have n0_:=z2.mk (za HBi.out hb1)
  have n1_:=z2.mk (zg (g:=g) (o:=.cells #[.int .i64 a0] 3 (0,0)) HGi.out hb1)
  clear HBi HGi hb1 hx0 hx1
  cases b with
  | true =>
   rw [if_pos rfl] at HE
   simp only [Bool.not_true]
   go_wp2
   have hi : wrap64 ((i : Int) + 1) = ((i + 1 : Nat) : Int):=by
    have:=HM.out;have:=HK.out;have h9:=of_decide_eq_true p0;unfold wrap64;omega
   go_roundg (l.length - i - 1)
   case measure=>have:=HK.out;have h9:=of_decide_eq_true p0;omega
   case rel=>exact ⟨i + 1,congrArg (Value.int .i64) hi,⟨by have:=HK.out;have h9:=of_decide_eq_true p0;omega⟩,HE,n1_,n0_⟩
  | false =>
   have hr : r = false:=by
    have:=HE.out
    simp at this
    exact this
   subst hr
   simp only [Bool.not_false]
   go_wp2
   go_ret
   exact ⟨⟨(i : Int),rfl,by simp⟩,n0_.out⟩
set_option maxHeartbeats 800000 in
set_option maxRecDepth 100000 in
theorem z1n.cont (k : Nat) (a0 : Int) (A_ : Option Addr) (c : Nat) (l : List S30) (g : Nat) (r : Bool) (w : World) (hr : Kd.C k30 w A_ l.length l) (hg : w.heap[g]? = some (.cells #[.int .i64 a0] 3 (0,0))) (h : z1n.all k a0 l = some r) :
 Calls Try.prog 105 #[.slice A_ l.length c,.func (.func 136) #[] #[.pointer (some ⟨g,0,none⟩)]] w fun e w'=>e = .returned (.bool (!r)) ∧ Below w.heap.size w w':=by
 have HB:=z2.mk (Below.refl w.heap.size w)
 have HG:=z2.mk hg
 have HR:=z2.mk hr
 have HA:=z2.mk h
 clear hg h hr
 go_enter Try.func105,Try.ntmps105
 go_wp2_with fail
 refine (z1n.idx k a0 A_ c l g r _ HR.out HG.out HA.out).mono ?_
 rintro e w1 ⟨⟨i,rfl,hi⟩,hb1⟩
 have hb:=z2.mk hb1
 have hj:=z2.mk hi
 clear hb1 hi
 go_wp2
 go_ret
 exact ⟨by rw [← hj.out];rfl,hb.out⟩
def z1n.f (k : Nat) (a0 : Int) (l1 : List S30) : Option Bool:=z1n.all k a0 l1
theorem z1n.mono : ∀ a0 a1 k,LeO (z1n.f k a0 a1) (z1n.f (k + 1) a0 a1):=fun a0 l k=>z1n.z37 a0 l k
set_option maxHeartbeats 800000 in
set_option maxRecDepth 100000 in
theorem z1n.calls (k : Nat) (a0 : Int) (A1 : Option Addr) (c1 : Nat) (l1 : List S30) (r : Bool) (w : World) (hr1 : Kd.C k30 w A1 l1.length l1) (hc1 : l1.length ≤ c1) (h : z1n.f k a0 l1 = some r) :
 Calls Try.prog 108 #[.int .i64 a0,.slice A1 l1.length c1] w fun e w'=>e = .returned (.bool r) ∧ Below w.heap.size w w':=by
 have hmf : ∀ (fn : Fn) (first cap : Array Value) (w : World),(Instr.makeFunc fn first cap).run Try.prog w = .ok (.func fn first cap) w:=fun _ _ _ _=>rfl
 have HB:=z2.mk (Below.refl w.heap.size w)
 have HR:=z2.mk hr1
 have HA:=z2.mk (show z1n.all k a0 l1 = some r from h)
 clear h hr1
 go_enter Try.func108,Try.ntmps108
 go_wp2_with (first
  | ((with_reducible refine zK (N:=2) rfl ?_);refine zJ ?hg (N:=2) ?hd (cs:=#[.int .i64 a0]) (t:=3) ?hr ?_;(case hd=>rfl);(case hg=>rfl);(case hr=>first|(go_simp;done)|(go_simp;rfl));intro gb hgb w1_ hbox hb;have n0_:=z2.mk (za HB.out hb);have n1_:=z2.mk hbox;have n2_:=z2.mk (Kd.z1W HR.out hb);clear HB HR hbox hb hgb;have HB:=n0_;have HG:=n1_;have HR:=n2_;clear n0_ n1_ n2_)
  | ((with_reducible refine zj (f:=105) rfl ?_);refine goesL_ (some 7) rfl rfl Try.func105 (by kernel_rfl) rfl #[.slice A1 l1.length c1,.func (.func 136) #[] #[.pointer (some ⟨gb,0,none⟩)]] rfl (by (try simp only [List.map_toArray,List.map_cons,List.map_nil]);first|done|rfl) ?_;(with_reducible refine (z1n.cont k a0 _ _ l1 gb r _ HR.out HG.out HA.out).mono ?_);rintro e w2_ ⟨rfl,hb2⟩;refine ⟨_,rfl,?_⟩;have n0_:=z2.mk (za HB.out hb2);clear HB hb2;have HB:=n0_;clear n0_))
 go_ret
 exact ⟨by simp,HB.out⟩
end Go.Proofs.Ytkhmpaooinpfoaa.P
namespace Go.Proofs.Ytkhmpaooinpfoaa.P
open Go.RowKit Go.Proofs.YtkhmpaooinpfoaaW.PrintWords Go.Proofs.YtkhmpaooinpfoaaW.PrintLast Go.Proofs.YtkhmpaooinpfoaaW.PrintMore
attribute [local go_sem] z15 z17 z1f z1g zW zX z16 z18   -- for this text's walks alone
set_option linter.unusedVariables false
set_option linter.unusedSimpArgs false
mutual
def zq.j0 : Nat → Int → List (S30) → Bool → Option ((List (S30)))
 | 0,_,_,_=>none
 | k + 1,x0,x1,x24=>if x24 = true then (some ([] : List (S30))) else ((z1D.f).bind fun bt103=>(zq.l0 k x0 (([(⟨bt103.1,bt103.2⟩ : S30)] : List (S30))) x1 (x1.length : Int) 0))
def zq.l0 : Nat → Int → List (S30) → List (S30) → Int → Int → Option ((List (S30)))
 | 0,_,_,_,_,_=>none
 | k + 1,x0,x5,x27,x28,x29=>if x29 < x28 then (if 0 ≤ x29 then (if x29 < (x27.length : Int) then (if 0 ≤ (x5.length : Int) then (if ((x5.length : Int) : Int).toNat ≤ 17592186044416 then (zq.l1 k x0 x5 (List.replicate ((x5.length : Int) : Int).toNat z30) x27 x28 x29 (x5.length : Int) 0 ((zi x27 x29).f0) ((zi x27 x29).f1)) else (none)) else (none)) else (none)) else (none)) else (some x5)
def zq.l1 : Nat → Int → List (S30) → List (S30) → List (S30) → Int → Int → Int → Int → Int → Int → Option ((List (S30)))
 | 0,_,_,_,_,_,_,_,_,_,_=>none
 | k + 1,x0,x5,x8,x27,x28,x29,x37,x38,x110000,x110001=>if x38 < x37 then (if 0 ≤ x38 then (if x38 < (x5.length : Int) then ((zN.f k x0 ((zi x5 x38).f0) ((zi x5 x38).f1) x110000 x110001).bind fun bt115=>(if x38 < (x8.length : Int) then ((some (x8.set (x38 : Int).toNat (⟨bt115.1,bt115.2⟩ : S30) : List (S30))).bind fun y117=>((z1M.f ((zi x5 x38).f0) ((zi x5 x38).f1) ((zi y117 x38).f0) ((zi y117 x38).f1)).bind fun bt119=>(zq.l1 k x0 (x5.set (x38 : Int).toNat (⟨bt119.1,bt119.2⟩ : S30)) y117 x27 x28 x29 x37 (wrap64 (x38 + 1)) x110000 x110001))) else (none))) else (none)) else (none)) else (if x5.length + x8.length < 8796093022208 then (zq.l0 k x0 (x5 ++ x8) x27 x28 (wrap64 (x29 + 1))) else (none))
end
def zq.f (k : Nat) (a0 : Int) (l1 : List (S30)) : Option ((List (S30))):=(zR.f k a0).bind fun t101=>(if t101 = 0 then (zq.j0 k a0 l1 true) else (if (l1.length : Int) > 16 then (zq.j0 k a0 l1 true) else ((z1n.f k a0 l1).bind fun t102=>(zq.j0 k a0 l1 (!t102)))))
theorem zq.z1b : ∀ k,(∀ y0 y1 y2,LeO (zq.j0 k y0 y1 y2) (zq.j0 (k + 1) y0 y1 y2)) ∧ (∀ y0 y1 y2 y3 y4,LeO (zq.l0 k y0 y1 y2 y3 y4) (zq.l0 (k + 1) y0 y1 y2 y3 y4)) ∧ (∀ y0 y1 y2 y3 y4 y5 y6 y7 y8 y9,LeO (zq.l1 k y0 y1 y2 y3 y4 y5 y6 y7 y8 y9) (zq.l1 (k + 1) y0 y1 y2 y3 y4 y5 y6 y7 y8 y9))
 | 0=>⟨fun _ _ _ r h=>by simp [zq.j0] at h,fun _ _ _ _ _ r h=>by simp [zq.l0] at h,fun _ _ _ _ _ _ _ _ _ _ r h=>by simp [zq.l1] at h⟩
 | k + 1=>by
  obtain ⟨ih0,ih1,ih2⟩:=zq.z1b k
  refine ⟨?_,?_,?_⟩
  · intro y0 y1 y2
    unfold zq.j0
    repeat' first
    | (with_reducible exact ih0 _ _ _)
    | (with_reducible exact ih1 _ _ _ _ _)
    | (with_reducible exact ih2 _ _ _ _ _ _ _ _ _ _)
    | (with_reducible exact z1n.mono _ _ _)
    | (with_reducible exact zR.mono _ _)
    | (with_reducible exact zN.mono _ _ _ _ _ _)
    | (with_reducible exact LeO.refl _)
    | (with_reducible exact LeO.none _)
    | (with_reducible refine LeO.ite ?_ ?_)
    | (with_reducible refine LeO.bind ?_ (fun _=>?_))
    | exact ih0 _ _ _
    | exact ih1 _ _ _ _ _
    | exact ih2 _ _ _ _ _ _ _ _ _ _
    | exact z1n.mono _ _ _
    | exact zR.mono _ _
    | exact zN.mono _ _ _ _ _ _
    | exact LeO.none _
    | refine LeO.ite ?_ ?_
    | refine LeO.bind ?_ (fun _=>?_)
  · intro y0 y1 y2 y3 y4
    unfold zq.l0
    repeat' first
    | (with_reducible exact ih0 _ _ _)
    | (with_reducible exact ih1 _ _ _ _ _)
    | (with_reducible exact ih2 _ _ _ _ _ _ _ _ _ _)
    | (with_reducible exact z1n.mono _ _ _)
    | (with_reducible exact zR.mono _ _)
    | (with_reducible exact zN.mono _ _ _ _ _ _)
    | (with_reducible exact LeO.refl _)
    | (with_reducible exact LeO.none _)
    | (with_reducible refine LeO.ite ?_ ?_)
    | (with_reducible refine LeO.bind ?_ (fun _=>?_))
    | exact ih0 _ _ _
    | exact ih1 _ _ _ _ _
    | exact ih2 _ _ _ _ _ _ _ _ _ _
    | exact z1n.mono _ _ _
    | exact zR.mono _ _
    | exact zN.mono _ _ _ _ _ _
    | exact LeO.none _
    | refine LeO.ite ?_ ?_
    | refine LeO.bind ?_ (fun _=>?_)
  · intro y0 y1 y2 y3 y4 y5 y6 y7 y8 y9
    unfold zq.l1
    repeat' first
    | (with_reducible exact ih0 _ _ _)
    | (with_reducible exact ih1 _ _ _ _ _)
    | (with_reducible exact ih2 _ _ _ _ _ _ _ _ _ _)
    | (with_reducible exact z1n.mono _ _ _)
    | (with_reducible exact zR.mono _ _)
    | (with_reducible exact zN.mono _ _ _ _ _ _)
    | (with_reducible exact LeO.refl _)
    | (with_reducible exact LeO.none _)
    | (with_reducible refine LeO.ite ?_ ?_)
    | (with_reducible refine LeO.bind ?_ (fun _=>?_))
    | exact ih0 _ _ _
    | exact ih1 _ _ _ _ _
    | exact ih2 _ _ _ _ _ _ _ _ _ _
    | exact z1n.mono _ _ _
    | exact zR.mono _ _
    | exact zN.mono _ _ _ _ _ _
    | exact LeO.none _
    | refine LeO.ite ?_ ?_
    | refine LeO.bind ?_ (fun _=>?_)
theorem zq.mono : ∀ a0 a1 k,LeO (zq.f k a0 a1) (zq.f (k + 1) a0 a1):=by
 intro a0 a1 k
 obtain ⟨ih0,ih1,ih2⟩:=zq.z1b k
 unfold zq.f
 repeat' first
  | (with_reducible exact ih0 _ _ _)
  | (with_reducible exact ih1 _ _ _ _ _)
  | (with_reducible exact ih2 _ _ _ _ _ _ _ _ _ _)
  | (with_reducible exact z1n.mono _ _ _)
  | (with_reducible exact zR.mono _ _)
  | (with_reducible exact zN.mono _ _ _ _ _ _)
  | (with_reducible exact LeO.refl _)
  | (with_reducible exact LeO.none _)
  | (with_reducible refine LeO.ite ?_ ?_)
  | (with_reducible refine LeO.bind ?_ (fun _=>?_))
  | exact ih0 _ _ _
  | exact ih1 _ _ _ _ _
  | exact ih2 _ _ _ _ _ _ _ _ _ _
  | exact z1n.mono _ _ _
  | exact zR.mono _ _
  | exact zN.mono _ _ _ _ _ _
  | exact LeO.none _
  | refine LeO.ite ?_ ?_
  | refine LeO.bind ?_ (fun _=>?_)
def zq.T12 : Bool × List (List Nat × List Nat):=(true,[([],[]),([],[]),([],[]),([],[]),([],[]),([3,4],[3,4]),([5],[5]),([2,6],[2,6]),([0,1,0,1,2,3,4,5,6,7],[0,1]),([8,7,7,0,1,2,3,4,5,6,7],[7,8])])
def zq.B12 : List Nat:=[0,0,0,0,0,24,56,124,255,511]
theorem zq.tab12 : rtab .any (opsOf Try.f65 12) = zq.T12:=by kernel_rfl
theorem zq.bits12 : waitsOk zq.T12.2 zq.B12 = true:=by kernel_rfl
set_option maxHeartbeats 8000000 in
set_option maxRecDepth 100000 in
theorem zq.calls (k : Nat) (a0 : Int) (A1 : Option Addr) (c1 : Nat) (l1 : List (S30)) (r : List (S30)) (w : World) (hr1 : Kd.C k30 w A1 l1.length l1) (hc1 : l1.length ≤ c1) (h : zq.f k a0 l1 = some r) :
 Calls Try.prog 65 #[.int .i64 a0,.slice A1 l1.length c1] w fun e w'=>∃ v0_ : Value,e = .returned (v0_) ∧ Kd.R k30 30 w' w.heap.size (fun _=>True) v0_ r ∧ Below w.heap.size w w':=by
 have hu30:=Try.underlying30
 have HR1:=z2.mk hr1
 have HC1:=z2.mk hc1
 clear hr1 hc1
 have HB:=z2.mk (Below.refl w.heap.size w)
 have H : ((zR.f k a0).bind fun t101=>(if t101 = 0 then (zq.j0 k a0 l1 true) else (if (l1.length : Int) > 16 then (zq.j0 k a0 l1 true) else ((z1n.f k a0 l1).bind fun t102=>(zq.j0 k a0 l1 (!t102)))))) = some r:=h
 clear h
 have HC3:=z2.mk H
 clear H
 go_enter Try.func65,Try.ntmps65
 go_upto_region 1 with (fail)
 go_cut [24] (fun v24 wc=>∃ (kq : Nat) (x24_2 : Bool),v24 = .bool x24_2 ∧ z2 (zq.j0 kq a0 l1 x24_2 = some r) ∧ z2 (kq ≤ k) ∧ z2 (Below w.heap.size w wc))
 case first =>
  have H:=HC3.out
  clear HC3
  replace H:=Option.bind_eq_some_iff.mp H
  obtain ⟨t101,A40,H⟩:=H
  replace H : (if t101 = 0 then (zq.j0 k a0 l1 true) else (if (l1.length : Int) > 16 then (zq.j0 k a0 l1 true) else ((z1n.f k a0 l1).bind fun t102=>(zq.j0 k a0 l1 (!t102))))) = some r:=H
  have A4:=z2.mk A40
  clear A40
  by_cases c5 : t101 = 0
  · rw [if_pos c5] at H
    have c5b0 : (t101 == 0) = true:=beq_iff_eq.mpr c5
    have c5b1 : (t101 != 0) = false:=bne_eq_false_iff_eq.mpr c5
    clear c5
    (first|rw [c5b0]|(simp only [zZ,z14];rw [c5b0])|skip)
    have H':=z2.mk H
    clear H
    go_wp2_with (first|((with_reducible refine zj (f:=60) rfl ?_);refine goesL_ (some 12) rfl rfl Try.func60 (by kernel_rfl) rfl #[.int .i64 a0] rfl (by (try simp only [List.map_toArray,List.map_cons,List.map_nil]);first|done|rfl|(simp only [List.length_drop,List.length_take];rfl)) ?_;(with_reducible refine (zR.calls k a0 t101 _ A4.out).mono ?_);rintro e w' ⟨rfl,⟨nd,rfl⟩⟩;refine ⟨_,rfl,?_⟩))
    go_meet
    case rel=>exact ⟨_,(true),(by first|rfl|(simp;done)|(simp [*];done)),H',⟨by first|omega|exact Nat.le_refl _⟩,⟨by repeat (first|(with_reducible first|exact HB.out|apply z4|apply z1|apply z3)|exact HB.out)⟩⟩
  rw [if_neg c5] at H
  have c5b0 : (t101 == 0) = false:=beq_eq_false_iff_ne.mpr c5
  have c5b1 : (t101 != 0) = true:=bne_iff_ne.mpr c5
  (first|rw [c5b0]|(simp only [zZ,z14];rw [c5b0])|skip)
  by_cases c6 : (l1.length : Int) > 16
  · rw [if_pos c6] at H
    have c6b0 : decide (16 < (l1.length : Int)) = true:=decide_eq_true c6
    have c6b1 : decide (16 < l1.length) = true:=decide_eq_true (by omega)
    clear c6
    have H':=z2.mk H
    clear H
    go_wp2_with (first|((with_reducible refine zj (f:=60) rfl ?_);refine goesL_ (some 12) rfl rfl Try.func60 (by kernel_rfl) rfl #[.int .i64 a0] rfl (by (try simp only [List.map_toArray,List.map_cons,List.map_nil]);first|done|rfl|(simp only [List.length_drop,List.length_take];rfl)) ?_;(with_reducible refine (zR.calls k a0 t101 _ A4.out).mono ?_);rintro e w' ⟨rfl,⟨nd,rfl⟩⟩;refine ⟨_,rfl,?_⟩))
    go_meet
    case rel=>exact ⟨_,(true),(by first|rfl|(simp;done)|(simp [*];done)),H',⟨by first|omega|exact Nat.le_refl _⟩,⟨by repeat (first|(with_reducible first|exact HB.out|apply z4|apply z1|apply z3)|exact HB.out)⟩⟩
  rw [if_neg c6] at H
  have c6b0 : decide (16 < (l1.length : Int)) = false:=decide_eq_false c6
  have c6b1 : decide (16 < l1.length) = false:=decide_eq_false (by omega)
  clear c6
  replace H:=Option.bind_eq_some_iff.mp H
  obtain ⟨t102,A70,H⟩:=H
  replace H : (zq.j0 k a0 l1 (!t102)) = some r:=H
  have A7:=z2.mk A70
  clear A70
  have H':=z2.mk H
  clear H
  go_wp2_with (first|((with_reducible refine zj (f:=60) rfl ?_);refine goesL_ (some 12) rfl rfl Try.func60 (by kernel_rfl) rfl #[.int .i64 a0] rfl (by (try simp only [List.map_toArray,List.map_cons,List.map_nil]);first|done|rfl|(simp only [List.length_drop,List.length_take];rfl)) ?_;(with_reducible refine (zR.calls k a0 t101 _ A4.out).mono ?_);rintro e w' ⟨rfl,⟨nd,rfl⟩⟩;refine ⟨_,rfl,?_⟩)|(go_at_call 108;(with_reducible refine (z1n.calls k a0 _ _ l1 t102 _ ?side1 ?side2 A7.out).mono ?_);(case side1=>repeat (first|exact (Kd.z1W HR1.out (by repeat (first|(with_reducible first|exact HB.out|apply z4|apply z1|apply z3)|exact HB.out)))|(with_reducible refine Kd.z1o ?_ _)|(with_reducible refine Kd.z1p ?_ _)|(with_reducible refine Kd.z1C ?_)));(case side2=>exact HC1.out);rintro e w8 ⟨rfl,hb⟩;have n0_:=z2.mk (za (by repeat (first|(with_reducible first|exact HB.out|apply z4|apply z1|apply z3)|exact HB.out)) hb);clear HB;have HB:=n0_;clear n0_;(try clear hb);(try clear hb2);(try clear hk);(try clear hi)))
  go_meet
  case rel=>exact ⟨_,(!t102),(by first|rfl|(simp;done)|(simp [*];done)),H',⟨by first|omega|exact Nat.le_refl _⟩,⟨by repeat (first|(with_reducible first|exact HB.out|apply z4|apply z1|apply z3)|exact HB.out)⟩⟩
 case rest =>
  clear HC3
  (try clear c1);(try clear p2);(try clear c5);(try clear c5b0);(try clear c5b1);(try clear c6);(try clear c6b0);(try clear c6b1)
  obtain ⟨kq,x24_2,rfl,HA,HJ2,HB⟩:=hcut
  cases kq with
  | zero=>exact absurd HA.out (by simp [zq.j0])
  | succ kj2 =>
   have H:=HA.out
   clear HA
   simp only [zq.j0] at H
   by_cases c9 : x24_2 = true
   · subst c9
     have H1 : (some ([] : List (S30))) = some r:=by rw [if_pos rfl] at H;exact H
     clear H
     have H:=H1
     clear H1
     obtain rfl:=Option.some.inj H
     go_wp2
     go_ret
     exact ⟨_,by first|rfl|(simp [zk,zl] <;> rfl)|(simp [*,zk,zl] <;> rfl),by first|exact Kd.z2C _ _ _ _ _|exact Kd.z3k _ _ _ _ _|exact Kd.z3o _ _ _ _ _|exact Kd.z3m _ _ _ _ _|exact Kd.z3n _ _ _ _ _,by repeat (first|(with_reducible first|exact HB.out|apply z4|apply z1|apply z3)|exact HB.out)⟩
   replace c9:=Bool.eq_false_iff.mpr c9
   subst c9
   have H1 : ((z1D.f).bind fun bt103=>(zq.l0 kj2 a0 (([(⟨bt103.1,bt103.2⟩ : S30)] : List (S30))) l1 (l1.length : Int) 0)) = some r:=by rw [if_neg (show ¬ (false = true) by decide)] at H;exact H
   clear H
   have H:=H1
   clear H1
   replace H:=Option.bind_eq_some_iff.mp H
   obtain ⟨⟨t103,t104⟩,A100,H⟩:=H
   replace H : (zq.l0 kj2 a0 (([(⟨t103,t104⟩ : S30)] : List (S30))) l1 (l1.length : Int) 0) = some r:=H
   have A10:=z2.mk A100
   clear A100
   obtain ⟨y105,hy105⟩ : ∃ y_ : List (S30),y_ = (([(⟨t103,t104⟩ : S30)] : List (S30))):=⟨_,rfl⟩
   replace H : (zq.l0 kj2 a0 y105 l1 (l1.length : Int) 0) = some r:=by first|(rw [hy105];with_reducible exact H)|(have H2_:=(Option.bind_some _ _).symm.trans H;rw [hy105];with_reducible exact H2_)|(have H2_:=(Option.bind_some _ _).symm.trans H;with_reducible exact H2_)|with_reducible exact H|(rw [hy105];exact H)|exact H
   have Ny105:=z2.mk hy105
   clear hy105
   have H':=z2.mk H
   clear H
   go_wp2_with (first|((with_reducible refine zj (f:=99) rfl ?_);refine goesL_ (some 25) rfl rfl Try.func99 (by kernel_rfl) rfl #[] rfl (by (try simp only [List.map_toArray,List.map_cons,List.map_nil]);first|done|rfl|(simp only [List.length_drop,List.length_take];rfl)) ?_;(with_reducible refine (z1D.calls  t103 t104 _ A10.out).mono ?_);rintro e w11 ⟨rfl,hb⟩;refine ⟨_,rfl,?_⟩;have n0_:=z2.mk (za (by repeat (first|(with_reducible first|exact HB.out|apply z4|apply z1|apply z3)|exact HB.out)) hb);clear HB;have HB:=n0_;clear n0_;(try clear hb);(try clear hb2);(try clear hk);(try clear hi))|((with_reducible refine zK (N:=26) rfl ?_);(try (refine z24 (by rfl) ?_;dsimp only));refine Kd.z6M k30 _ 30 ?hg (N:=26) ?hd (xs:=([(⟨t103,t104⟩ : S30)] : List (S30))) (inner:=[.int .u64 t103,.int .u64 t104]) (ok:=fun _=>True) (okp:=fun _=>True) ?hr ?hp (fun _ hk=>hk) trivial (Below.refl _ _) (Nat.le_refl _) (by simp) ?_;(case hd=>rfl);(case hg=>rfl);(case hr=>first|(go_simp;done)|(go_simp;rfl));(case hp=>exact (Reps.c2 (show Kd.M k30 _ _ _ (⟨t103,t104⟩ : S30) [.int .u64 t103,.int .u64 t104] from (z2e _ _ _ (⟨t103,t104⟩ : S30) )) (Reps.none _ _)));intro v106 w12 ho13 hb hg_ hnew_;clear hg_ hnew_;(first|rw [← Ny105.out] at ho13|(simp only [Int.reduceToNat] at ho13;rw [← Ny105.out] at ho13));have n0_:=z2.mk (Kd.z1l ho13 (zb (by repeat (first|(with_reducible first|exact HB.out|apply z4|apply z1|apply z3)|exact HB.out))));have n1_:=z2.mk (za (by repeat (first|(with_reducible first|exact HB.out|apply z4|apply z1|apply z3)|exact HB.out)) hb);clear HB;have HO107:=n0_;have HB:=n1_;clear n0_ n1_;clear hb ho13))
   go_loopg [5,29] kj2 (fun kq v5 v29 w'=>∃ (x5_2 : List (S30)) (x29_2 : Int),v29 = .int .i64 x29_2 ∧ z2 (zq.l0 kq a0 x5_2 l1 (l1.length : Int) x29_2 = some r) ∧ z2 (kq ≤ kj2) ∧ z2 (Kd.R k30 30 w' w.heap.size (fun _=>True) v5 x5_2) ∧ z2 (Below w.heap.size w w'))
   case atStart=>exact ⟨(y105),(0),(by first|rfl|(simp;done)|(simp [*];done)),H',⟨Nat.le_refl _⟩,⟨by (with_reducible repeat (first|apply Kd.ze|apply Kd.zf|apply Kd.zo));exact HO107.out⟩,⟨by repeat (first|(with_reducible first|exact HB.out|apply z4|apply z1|apply z3)|exact HB.out)⟩⟩
   case round =>
    clear H'
    (try clear c1);(try clear c2);(try clear p2);(try clear c5);(try clear c5b0);(try clear c5b1);(try clear c6);(try clear c6b0);(try clear c6b1);(try clear c9);(try clear p2)
    obtain ⟨x5_2,x29_2,rfl,HA,HK2,HO_5,HB⟩:=hrel
    cases gk with
    | zero=>exact absurd HA.out (by simp [zq.l0])
    | succ k2 =>
     have H:=HA.out
     clear HA
     simp only [zq.l0] at H
     by_cases c14 : x29_2 < (l1.length : Int)
     rotate_left
     · rw [if_neg c14] at H
       have c14b0 : decide (x29_2 < (l1.length : Int)) = false:=decide_eq_false c14
       clear c14
       obtain rfl:=Option.some.inj H
       go_wp2
       go_ret
       exact ⟨_,by first|rfl|(simp [zk,zl] <;> rfl)|(simp [*,zk,zl] <;> rfl),by (with_reducible repeat (first|apply Kd.ze|apply Kd.zf|apply Kd.zo));exact HO_5.out,by repeat (first|(with_reducible first|exact HB.out|apply z4|apply z1|apply z3)|exact HB.out)⟩
     rw [if_pos c14] at H
     have c14b0 : decide (x29_2 < (l1.length : Int)) = true:=decide_eq_true c14
     clear c14
     by_cases c15 : 0 ≤ x29_2
     rotate_left
     · rw [if_neg c15] at H
       exact absurd H (by simp)
     rw [if_pos c15] at H
     have c15b0 : decide (0 ≤ x29_2) = true:=decide_eq_true c15
     clear c15
     by_cases c16 : x29_2 < (l1.length : Int)
     rotate_left
     · rw [if_neg c16] at H
       exact absurd H (by simp)
     rw [if_pos c16] at H
     have c16b0 : decide (x29_2 < (l1.length : Int)) = true:=decide_eq_true c16
     clear c16
     by_cases c17 : 0 ≤ (x5_2.length : Int)
     rotate_left
     · rw [if_neg c17] at H
       exact absurd H (by simp)
     rw [if_pos c17] at H
     have c17b0:=eq_true c17
     have c17b1 : decide (0 ≤ (x5_2.length : Int)) = true:=decide_eq_true c17
     clear c17
     by_cases c18 : ((x5_2.length : Int) : Int).toNat ≤ 17592186044416
     rotate_left
     · rw [if_neg c18] at H
       exact absurd H (by simp)
     rw [if_pos c18] at H
     have c18b0:=eq_true c18
     have c18b1 : decide (((x5_2.length : Int) : Int).toNat ≤ 17592186044416) = true:=decide_eq_true c18
     clear c18
     obtain ⟨y110,hy110⟩ : ∃ y_ : List (S30),y_ = (List.replicate ((x5_2.length : Int) : Int).toNat z30):=⟨_,rfl⟩
     replace H : (zq.l1 k2 a0 x5_2 y110 l1 (l1.length : Int) x29_2 (x5_2.length : Int) 0 ((zi l1 x29_2).f0) ((zi l1 x29_2).f1)) = some r:=by first|(rw [hy110];with_reducible exact H)|(have H2_:=(Option.bind_some _ _).symm.trans H;rw [hy110];with_reducible exact H2_)|(have H2_:=(Option.bind_some _ _).symm.trans H;with_reducible exact H2_)|with_reducible exact H|(rw [hy110];exact H)|exact H
     have Ny110:=z2.mk hy110
     clear hy110
     have H':=z2.mk H
     clear H
     have p108 : 0 ≤ (x29_2 : Int):=of_decide_eq_true (by first|(with_reducible assumption)|assumption)
     have q108 : x29_2 < (l1.length : Int):=of_decide_eq_true (by first|(with_reducible assumption)|assumption)
     obtain ⟨ad108,e108,hx108_0,hx108_1⟩:=z29 HR1.out x29_2 p108 q108
     cases e108
     replace hx108_0:=(HB.out.cell (World.block_lt_of_cell? w _ hx108_0)).trans hx108_0
     replace hx108_1:=(HB.out.cell (World.block_lt_of_cell? w _ hx108_1)).trans hx108_1
     replace p108:=eq_true p108
     replace q108:=eq_true q108
     go_wp2_with (first|((with_reducible refine zK (N:=7) rfl ?_);(try (refine z24 (by rfl) ?_;dsimp only));refine zJ ?hg (N:=7) ?hd (cs:=#[.int .u64 0,.int .u64 0]) (t:=30) ?hr ?_;(case hd=>rfl);(case hg=>rfl);(case hr=>first|(go_simp;done)|(go_simp;rfl));intro gb109 hg w19 hbox hb;have n0_:=z2.mk (Kd.zO (Kd.z1R (by (with_reducible repeat (first|apply Kd.ze|apply Kd.zf|apply Kd.zo));exact HO_5.out) gb109 (Nat.le_of_eq hg.symm)) hb);have n1_:=z2.mk (za (by repeat (first|(with_reducible first|exact HB.out|apply z4|apply z1|apply z3)|exact HB.out)) hb);have n2_:=z2.mk (hbox);have n3_:=z2.mk ((by rw [hg];exact (zb (by repeat (first|(with_reducible first|exact HB.out|apply z4|apply z1|apply z3)|exact HB.out))) : w.heap.size ≤ gb109));have n4_:=z2.mk ((by rw [hg];exact (zb (by repeat (first|(with_reducible first|exact HB.out|apply z4|apply z1|apply z3)|exact HB.out))) : w.heap.size ≤ gb109));clear HO_5;clear HB;have HO_5:=n0_;have HB:=n1_;have BK109:=n2_;have GW109:=n3_;have GE109:=n4_;clear n0_ n1_ n2_ n3_ n4_;clear hb hbox hg;have hcz20_0 : w19.cell? ⟨gb109,0,none⟩ = some (.int .u64 0):=(zc BK109.out 0).trans rfl;have hcz20_1 : w19.cell? ⟨gb109,1,none⟩ = some (.int .u64 0):=(zc BK109.out 1).trans rfl;have hfz20_0:=zd BK109.out 0;have hfz20_1:=zd BK109.out 1;obtain ⟨Ao21,co21,eo21⟩:=Kd.z1d HO_5.out;subst eo21)|((with_reducible refine zK (N:=35) rfl ?_);(try (refine z24 (by rfl) ?_;dsimp only));refine Kd.z5z k30 _ 30 rfl (N:=35) rfl 24 _ _ rfl (x5_2.length : Int) rfl rfl Try.underlying24 (.agg #[(.int .u64 0),(.int .u64 0)]) 16 info30 rfl (by decide) (by omega) z30 (ok:=fun _=>True) (okp:=fun _=>True) (z2e _ _ _ z30 ) (fun _ hk=>hk) trivial (of_decide_eq_true (by first|(with_reducible assumption)|assumption)) (Nat.le_trans (Nat.mul_le_mul_right _ (of_decide_eq_true (by first|(with_reducible assumption)|assumption) : (x5_2.length : Int).toNat ≤ 17592186044416)) (by omega)) (Below.refl _ _) (Nat.le_refl _) ?_;intro v111 w22 ho23 hb hg_ hnew_;clear hg_ hnew_;(first|rw [← Ny110.out] at ho23|(simp only [Int.reduceToNat] at ho23;rw [← Ny110.out] at ho23));have n0_:=z2.mk (Kd.z1r (by (with_reducible repeat (first|apply Kd.ze|apply Kd.zf|apply Kd.zo));exact (Kd.zY (Kd.z22 (p:=⟨gb109,1,none⟩) (Kd.z22 (p:=⟨gb109,0,none⟩) (Kd.zY HO_5.out (fun k_ hk=>(⟨hk,hk.2⟩ : _ ∧ k_ ≠ gb109))) (fun _ hk=>hk.2) (.int .u64 ((zi l1 x29_2).f0))) (fun _ hk=>hk.2) (.int .u64 ((zi l1 x29_2).f1))) (fun _ h_=>h_.1))) (Kd.z1v ho23) hb);have n1_:=z2.mk (Kd.z1l (Kd.z4a (Kd.z1Q ho23 (Kd.R_lt (by (with_reducible repeat (first|apply Kd.ze|apply Kd.zf|apply Kd.zo));exact (Kd.zY (Kd.z22 (p:=⟨gb109,1,none⟩) (Kd.z22 (p:=⟨gb109,0,none⟩) (Kd.zY HO_5.out (fun k_ hk=>(⟨hk,hk.2⟩ : _ ∧ k_ ≠ gb109))) (fun _ hk=>hk.2) (.int .u64 ((zi l1 x29_2).f0))) (fun _ hk=>hk.2) (.int .u64 ((zi l1 x29_2).f1))) (fun _ h_=>h_.1))))) (g:=gb109) (o:=.cells #[.int .u64 ((zi l1 x29_2).f0),.int .u64 ((zi l1 x29_2).f1)] 30 (0,0)) (by (with_reducible repeat (first|refine z6 ?_ _|refine z8 ?_|refine z5 ?_ _));refine z11 (cs:=#[.int .u64 ((zi l1 x29_2).f0),.int .u64 0]) ?_ 1 _ rfl;(with_reducible repeat (first|refine z6 ?_ _|refine z8 ?_|refine z5 ?_ _));refine z11 (cs:=#[.int .u64 0,.int .u64 0]) ?_ 0 _ rfl;(with_reducible repeat (first|refine z6 ?_ _|refine z8 ?_|refine z5 ?_ _));exact BK109.out)) (zb (by repeat (first|(with_reducible first|exact HB.out|apply z4|apply z1|apply z3|refine z9 ?_ GE109.out)|exact HB.out))));have n2_:=z2.mk (zg (g:=gb109) (o:=.cells #[.int .u64 ((zi l1 x29_2).f0),.int .u64 ((zi l1 x29_2).f1)] 30 (0,0)) (by (with_reducible repeat (first|refine z6 ?_ _|refine z8 ?_|refine z5 ?_ _));refine z11 (cs:=#[.int .u64 ((zi l1 x29_2).f0),.int .u64 0]) ?_ 1 _ rfl;(with_reducible repeat (first|refine z6 ?_ _|refine z8 ?_|refine z5 ?_ _));refine z11 (cs:=#[.int .u64 0,.int .u64 0]) ?_ 0 _ rfl;(with_reducible repeat (first|refine z6 ?_ _|refine z8 ?_|refine z5 ?_ _));exact BK109.out) hb);have n3_:=z2.mk (za (by repeat (first|(with_reducible first|exact HB.out|apply z4|apply z1|apply z3|refine z9 ?_ GE109.out)|exact HB.out)) hb);clear HO_5;clear BK109;clear HB;have HO_5:=n0_;have HO112:=n1_;have BK109:=n2_;have HB:=n3_;clear n0_ n1_ n2_ n3_;clear hb ho23))
     go_loopg [38] k2 (fun kq v38 w'=>∃ (x5_3 : List (S30)) (x8_3 : List (S30)) (x38_3 : Int) (x110000_3 : Int) (x110001_3 : Int),v38 = .int .i64 x38_3 ∧ z2 (zq.l1 kq a0 x5_3 x8_3 l1 (l1.length : Int) x29_2 (x5_2.length : Int) x38_3 x110000_3 x110001_3 = some r) ∧ z2 (kq ≤ k2) ∧ z2 (Kd.R k30 30 w' w.heap.size (fun k_=>some k_ ≠ (v111 : Value).ownBlock ∧ k_ ≠ gb109) (.slice Ao21 x5_2.length co21) x5_3) ∧ z2 (Kd.R k30 30 w' w.heap.size (fun k_=>some k_ ≠ ((.slice Ao21 x5_2.length co21) : Value).ownBlock ∧ k_ ≠ gb109) v111 x8_3) ∧ z2 (w'.heap[gb109]? = some (.cells #[.int .u64 x110000_3,.int .u64 x110001_3] 30 (0,0))) ∧ z2 (Below w.heap.size w w'))
     case atStart=>exact ⟨(x5_2),(y110),(0),((zi l1 x29_2).f0),((zi l1 x29_2).f1),(by first|rfl|(simp;done)|(simp [*];done)),H',⟨Nat.le_refl _⟩,⟨by (with_reducible repeat (first|apply Kd.ze|apply Kd.zf|apply Kd.zo));exact Kd.zY HO_5.out (fun _ hk=>⟨hk.2,hk.1.2⟩)⟩,⟨by (with_reducible repeat (first|apply Kd.ze|apply Kd.zf|apply Kd.zo));exact Kd.zY HO112.out (fun _ hk=>⟨hk.1.2,hk.2⟩)⟩,⟨by (with_reducible repeat (first|refine z6 ?_ _|refine z8 ?_|refine z5 ?_ _));exact BK109.out⟩,⟨by repeat (first|(with_reducible first|exact HB.out|apply z4|apply z1|apply z3|refine z9 ?_ GE109.out)|exact HB.out)⟩⟩
     case round =>
      clear H'
      (try clear c1);(try clear p1);(try clear q1);(try clear hx1);(try clear c2);(try clear p2);(try clear c5);(try clear c5b0);(try clear c5b1);(try clear c6);(try clear c6b0);(try clear c6b1);(try clear c9);(try clear p10);(try clear q10);(try clear hx10);(try clear c14);(try clear c14b0);(try clear c15);(try clear c15b0);(try clear c16);(try clear c16b0);(try clear c17);(try clear c17b0);(try clear c17b1);(try clear c18);(try clear c18b0);(try clear c18b1);(try clear hcz20_0);(try clear hcz20_1);(try clear hfz20_0);(try clear hfz20_1);(try clear hx108_0);(try clear hx108_1);(try clear p108);(try clear p2);(try clear q108)
      obtain ⟨x5_3,x8_3,x38_3,x110000_3,x110001_3,rfl,HA,HK3,HO_5,HO_8,BK109,HB⟩:=hrel
      have hl5_3:=(Kd.zI HO_5.out).1
      rw [hl5_3] at HO_5
      (try simp only [hl5_3])
      (try simp only [hl5_3] at BK109)
      (try simp only [hl5_3] at HO_8)
      cases gk with
      | zero=>exact absurd HA.out (by simp [zq.l1])
      | succ k3 =>
       have H:=HA.out
       clear HA
       simp only [zq.l1] at H
       by_cases c24 : x38_3 < (x5_2.length : Int)
       rotate_left
       · rw [if_neg c24] at H
         have c24b0 : decide (x38_3 < (x5_2.length : Int)) = false:=decide_eq_false c24
         have c24b9 : decide (x38_3 < (x5_3.length : Int)) = false:=by rw [← hl5_3];exact c24b0
         clear c24
         by_cases c42 : x5_3.length + x8_3.length < 8796093022208
         rotate_left
         · rw [if_neg c42] at H
           exact absurd H (by simp)
         rw [if_pos c42] at H
         have LMc42:=z2.mk c42
         clear c42
         obtain ⟨y122,hy122⟩ : ∃ y_ : List (S30),y_ = (x5_3 ++ x8_3):=⟨_,rfl⟩
         replace H : (zq.l0 k3 a0 y122 l1 (l1.length : Int) (wrap64 (x29_2 + 1))) = some r:=by first|(rw [hy122];with_reducible exact H)|(have H2_:=(Option.bind_some _ _).symm.trans H;rw [hy122];with_reducible exact H2_)|(have H2_:=(Option.bind_some _ _).symm.trans H;with_reducible exact H2_)|with_reducible exact H|(rw [hy122];exact H)|exact H
         have Ny122:=z2.mk hy122
         clear hy122
         have H':=z2.mk H
         clear H
         obtain ⟨Ao44,co44,eo44⟩:=Kd.z1d HO_8.out
         subst eo44
         go_wp2_with (first|((with_reducible refine z20 (b:=.append) (xs:=#[.tmp 60,.tmp 61]) rfl ?_);(try (refine z24 (by rfl) ?_;dsimp only));at_builtin;refine Kd.z2H k30 (w0:=w) w.heap.size rfl (.tmp 60) (.tmp 61) 24 30 (.agg #[(.int .u64 0),(.int .u64 0)]) 16 rfl Try.underlying24 info30 rfl (by decide) (by omega) (.slice Ao21 x5_3.length co21) x5_3 x8_3 _ _ _ (fun k_=>some k_ ≠ (.slice Ao44 x8_3.length co44 : Value).ownBlock ∧ k_ ≠ gb109) (fun _=>False) rfl rfl ?aO ?aR (fun _ _ h=>h) (fun _ h=>h.elim) ?aF ?aB ?aS ?aL ?_;(case aR=>repeat (first|exact (Kd.zI HO_8.out).2.2|(with_reducible refine Kd.z1o ?_ _)|(with_reducible refine Kd.z1p ?_ _)|(with_reducible refine Kd.z1C ?_)));(case aB=>exact (by repeat (first|(with_reducible first|exact HB.out|apply z4|apply z1|apply z3|refine z9 ?_ GE109.out)|exact HB.out)));(case aF=>exact (fun k_ hk=>⟨Kd.fresh' (Kd.R_lt (by (with_reducible repeat (first|apply Kd.ze|apply Kd.zf|apply Kd.zo));exact HO_8.out)) k_ hk,Kd.freshB (g:=gb109) (o:=.cells #[.int .u64 x110000_3,.int .u64 x110001_3] 30 (0,0)) (by (with_reducible repeat (first|refine z6 ?_ _|refine z8 ?_|refine z5 ?_ _));exact BK109.out) k_ hk⟩));(case aO=>exact (by (with_reducible repeat (first|apply Kd.ze|apply Kd.zf|apply Kd.zo));exact HO_5.out));(case aS=>exact (zb (by repeat (first|(with_reducible first|exact HB.out|apply z4|apply z1|apply z3|refine z9 ?_ GE109.out)|exact HB.out))));(case aL=>have:=LMc42.out;omega);intro v123 w43 ho hb hg hat;rw [← Ny122.out] at ho;have n0_:=z2.mk (Kd.z7c (ok:=(fun k_=>k_ ≠ gb109)) (by (with_reducible repeat (first|apply Kd.ze|apply Kd.zf|apply Kd.zo));exact Kd.zY HO_8.out (fun _ hk=>⟨hk.2,hk.1⟩)) hg hat);have n1_:=z2.mk (z1Y (g:=gb109) (o:=.cells #[.int .u64 x110000_3,.int .u64 x110001_3] 30 (0,0)) (by (with_reducible repeat (first|refine z6 ?_ _|refine z8 ?_|refine z5 ?_ _));exact BK109.out) hg (Kd.z27 HO_5.out (fun _ hk=>hk.2)));have n2_:=z2.mk (hb);have n3_:=z2.mk (ho);clear HO_8;clear BK109;clear HB;clear HO_5;have HO_8:=n0_;have BK109:=n1_;have HB:=n2_;have HO124:=n3_;clear n0_ n1_ n2_ n3_;clear ho hb hg hat))
         (try simp only [← hl5_3])
         go_roundg k3
         case measure=>have:=HJ2.out;have:=HK2.out;have:=HK3.out;omega
         case rel=>exact ⟨(y122),(wrap64 (x29_2 + 1)),(by first|rfl|(simp;done)|(simp [*];done)),H',⟨by have:=HJ2.out;have:=HK2.out;have:=HK3.out;omega⟩,⟨by (try simp only [hl5_3]);(with_reducible repeat (first|apply Kd.ze|apply Kd.zf|apply Kd.zo));exact Kd.zY HO124.out (fun _ hk=>trivial)⟩,⟨by repeat (first|(with_reducible first|exact HB.out|apply z4|apply z1|apply z3|refine z9 ?_ GE109.out)|exact HB.out)⟩⟩
       rw [if_pos c24] at H
       have c24b0 : decide (x38_3 < (x5_2.length : Int)) = true:=decide_eq_true c24
       have c24b9 : decide (x38_3 < (x5_3.length : Int)) = true:=by rw [← hl5_3];exact c24b0
       clear c24
       by_cases c25 : 0 ≤ x38_3
       rotate_left
       · rw [if_neg c25] at H
         exact absurd H (by simp)
       rw [if_pos c25] at H
       have c25b0 : decide (0 ≤ x38_3) = true:=decide_eq_true c25
       clear c25
       by_cases c26 : x38_3 < (x5_3.length : Int)
       rotate_left
       · rw [if_neg c26] at H
         exact absurd H (by simp)
       rw [if_pos c26] at H
       have c26b0 : decide (x38_3 < (x5_3.length : Int)) = true:=decide_eq_true c26
       clear c26
       replace H:=Option.bind_eq_some_iff.mp H
       obtain ⟨⟨t115,t116⟩,A270,H⟩:=H
       replace H : (if x38_3 < (x8_3.length : Int) then ((some (x8_3.set (x38_3 : Int).toNat (⟨t115,t116⟩ : S30) : List (S30))).bind fun y117=>((z1M.f ((zi x5_3 x38_3).f0) ((zi x5_3 x38_3).f1) ((zi y117 x38_3).f0) ((zi y117 x38_3).f1)).bind fun bt119=>(zq.l1 k3 a0 (x5_3.set (x38_3 : Int).toNat (⟨bt119.1,bt119.2⟩ : S30)) y117 l1 (l1.length : Int) x29_2 (x5_2.length : Int) (wrap64 (x38_3 + 1)) x110000_3 x110001_3))) else (none)) = some r:=H
       have A27:=z2.mk A270
       clear A270
       by_cases c28 : x38_3 < (x8_3.length : Int)
       rotate_left
       · rw [if_neg c28] at H
         exact absurd H (by simp)
       rw [if_pos c28] at H
       have c28b0 : decide (x38_3 < (x8_3.length : Int)) = true:=decide_eq_true c28
       clear c28
       obtain ⟨y117,hy117⟩ : ∃ y_ : List (S30),y_ = (x8_3.set (x38_3 : Int).toNat (⟨t115,t116⟩ : S30)):=⟨_,rfl⟩
       replace H : ((z1M.f ((zi x5_3 x38_3).f0) ((zi x5_3 x38_3).f1) ((zi y117 x38_3).f0) ((zi y117 x38_3).f1)).bind fun bt119=>(zq.l1 k3 a0 (x5_3.set (x38_3 : Int).toNat (⟨bt119.1,bt119.2⟩ : S30)) y117 l1 (l1.length : Int) x29_2 (x5_2.length : Int) (wrap64 (x38_3 + 1)) x110000_3 x110001_3)) = some r:=by first|(rw [hy117];with_reducible exact H)|(have H2_:=(Option.bind_some _ _).symm.trans H;rw [hy117];with_reducible exact H2_)|(have H2_:=(Option.bind_some _ _).symm.trans H;with_reducible exact H2_)|with_reducible exact H|(rw [hy117];exact H)|exact H
       have Ny117:=z2.mk hy117
       clear hy117
       replace H:=Option.bind_eq_some_iff.mp H
       obtain ⟨⟨t119,t120⟩,A300,H⟩:=H
       replace H : (zq.l1 k3 a0 (x5_3.set (x38_3 : Int).toNat (⟨t119,t120⟩ : S30)) y117 l1 (l1.length : Int) x29_2 (x5_2.length : Int) (wrap64 (x38_3 + 1)) x110000_3 x110001_3) = some r:=H
       have A30:=z2.mk A300
       clear A300
       obtain ⟨y121,hy121⟩ : ∃ y_ : List (S30),y_ = (x5_3.set (x38_3 : Int).toNat (⟨t119,t120⟩ : S30)):=⟨_,rfl⟩
       replace H : (zq.l1 k3 a0 y121 y117 l1 (l1.length : Int) x29_2 (x5_2.length : Int) (wrap64 (x38_3 + 1)) x110000_3 x110001_3) = some r:=by first|(rw [hy121];with_reducible exact H)|(have H2_:=(Option.bind_some _ _).symm.trans H;rw [hy121];with_reducible exact H2_)|(have H2_:=(Option.bind_some _ _).symm.trans H;with_reducible exact H2_)|with_reducible exact H|(rw [hy121];exact H)|exact H
       have Ny121:=z2.mk hy121
       clear hy121
       have H':=z2.mk H
       clear H
       have p113 : 0 ≤ (x38_3 : Int):=of_decide_eq_true (by first|(with_reducible assumption)|assumption)
       have q113 : x38_3 < (x5_3.length : Int):=of_decide_eq_true (by first|(with_reducible assumption)|assumption)
       obtain ⟨ad113,e113,hx113_0,hx113_1⟩:=z29 (Kd.zI HO_5.out).2.2 x38_3 p113 q113
       cases e113
       replace p113:=eq_true p113
       replace q113:=eq_true q113
       try go_wp2_with (first|((with_reducible refine zK (N:=10) rfl ?_);(try (refine z24 (by rfl) ?_;dsimp only));refine zJ ?hg (N:=10) ?hd (cs:=#[.int .u64 0,.int .u64 0]) (t:=30) ?hr ?_;(case hd=>rfl);(case hg=>rfl);(case hr=>first|(go_simp;done)|(go_simp;rfl));intro gb114 hg w32 hbox hb;have n0_:=z2.mk (Kd.zO (Kd.z1R (by (with_reducible repeat (first|apply Kd.ze|apply Kd.zf|apply Kd.zo));exact HO_5.out) gb114 (Nat.le_of_eq hg.symm)) hb);have n1_:=z2.mk (Kd.zO (Kd.z1R (by (with_reducible repeat (first|apply Kd.ze|apply Kd.zf|apply Kd.zo));exact HO_8.out) gb114 (Nat.le_of_eq hg.symm)) hb);have n2_:=z2.mk (zg (g:=gb109) (o:=.cells #[.int .u64 x110000_3,.int .u64 x110001_3] 30 (0,0)) (by (with_reducible repeat (first|refine z6 ?_ _|refine z8 ?_|refine z5 ?_ _));exact BK109.out) hb);have n3_:=z2.mk (za (by repeat (first|(with_reducible first|exact HB.out|apply z4|apply z1|apply z3|refine z9 ?_ GE109.out)|exact HB.out)) hb);have n4_:=z2.mk (hbox);have n5_:=z2.mk ((by rw [hg];exact (zb (by repeat (first|(with_reducible first|exact HB.out|apply z4|apply z1|apply z3|refine z9 ?_ GE109.out)|exact HB.out))) : w.heap.size ≤ gb114));have n6_:=z2.mk ((by rw [hg];exact (zb (by repeat (first|(with_reducible first|exact HB.out|apply z4|apply z1|apply z3|refine z9 ?_ GE109.out)|exact HB.out))) : w.heap.size ≤ gb114));have n7_:=z2.mk ((by rw [hg];exact Nat.ne_of_lt (zV (g:=gb109) (o:=.cells #[.int .u64 x110000_3,.int .u64 x110001_3] 30 (0,0)) (by (with_reducible repeat (first|refine z6 ?_ _|refine z8 ?_|refine z5 ?_ _));exact BK109.out)) : gb109 ≠ gb114));have n8_:=z2.mk ((by rw [hg];exact Nat.ne_of_gt (zV (g:=gb109) (o:=.cells #[.int .u64 x110000_3,.int .u64 x110001_3] 30 (0,0)) (by (with_reducible repeat (first|refine z6 ?_ _|refine z8 ?_|refine z5 ?_ _));exact BK109.out)) : gb114 ≠ gb109));clear HO_5;clear HO_8;clear BK109;clear HB;have HO_5:=n0_;have HO_8:=n1_;have BK109:=n2_;have HB:=n3_;have BK114:=n4_;have GW114:=n5_;have GE114:=n6_;have NB109_114:=n7_;have NB114_109:=n8_;clear n0_ n1_ n2_ n3_ n4_ n5_ n6_ n7_ n8_;clear hb hbox hg;have hnb33:=NB114_109.out;have hnc33:=NB109_114.out;have hcz34_0 : w32.cell? ⟨gb114,0,none⟩ = some (.int .u64 0):=(zc BK114.out 0).trans rfl;have hcz34_1 : w32.cell? ⟨gb114,1,none⟩ = some (.int .u64 0):=(zc BK114.out 1).trans rfl;have hfz34_0:=zd BK114.out 0;have hfz34_1:=zd BK114.out 1;have hcz35_0 : w32.cell? ⟨gb109,0,none⟩ = some (.int .u64 x110000_3):=(zc BK109.out 0).trans rfl;have hcz35_1 : w32.cell? ⟨gb109,1,none⟩ = some (.int .u64 x110001_3):=(zc BK109.out 1).trans rfl;have hfz35_0:=zd BK109.out 0;have hfz35_1:=zd BK109.out 1)|((with_reducible refine zj (f:=78) rfl ?_);refine goesL_ (some 48) rfl rfl Try.func78 (by kernel_rfl) rfl #[.int .i64 a0,.agg #[.int .u64 ((zi x5_3 x38_3).f0),.int .u64 ((zi x5_3 x38_3).f1)],.agg #[.int .u64 x110000_3,.int .u64 x110001_3]] rfl (by (try simp only [List.map_toArray,List.map_cons,List.map_nil]);first|done|rfl|(simp only [List.length_drop,List.length_take];rfl)) ?_;(with_reducible refine (zN.calls k3 a0 ((zi x5_3 x38_3).f0) ((zi x5_3 x38_3).f1) x110000_3 x110001_3 t115 t116 _ A27.out).mono ?_);rintro e w36 ⟨rfl,hb⟩;refine ⟨_,rfl,?_⟩;have n0_:=z2.mk (Kd.zO (by (with_reducible repeat (first|apply Kd.ze|apply Kd.zf|apply Kd.zo));exact (Kd.zY (Kd.z22 (p:=⟨gb114,1,none⟩) (Kd.z22 (p:=⟨gb114,0,none⟩) (Kd.zY HO_5.out (fun k_ hk=>(⟨hk,hk.2⟩ : _ ∧ k_ ≠ gb114))) (fun _ hk=>hk.2) (.int .u64 ((zi x5_3 x38_3).f0))) (fun _ hk=>hk.2) (.int .u64 ((zi x5_3 x38_3).f1))) (fun _ h_=>h_.1))) hb);have n1_:=z2.mk (Kd.zO (by (with_reducible repeat (first|apply Kd.ze|apply Kd.zf|apply Kd.zo));exact (Kd.zY (Kd.z22 (p:=⟨gb114,1,none⟩) (Kd.z22 (p:=⟨gb114,0,none⟩) (Kd.zY HO_8.out (fun k_ hk=>(⟨hk,hk.2⟩ : _ ∧ k_ ≠ gb114))) (fun _ hk=>hk.2) (.int .u64 ((zi x5_3 x38_3).f0))) (fun _ hk=>hk.2) (.int .u64 ((zi x5_3 x38_3).f1))) (fun _ h_=>h_.1))) hb);have n2_:=z2.mk (zg (g:=gb109) (o:=.cells #[.int .u64 x110000_3,.int .u64 x110001_3] 30 (0,0)) (by (with_reducible repeat (first|refine z6 ?_ _|refine z8 ?_|refine z5 ?_ _));refine z13 ?_ NB109_114.out _;(with_reducible repeat (first|refine z6 ?_ _|refine z8 ?_|refine z5 ?_ _));refine z13 ?_ NB109_114.out _;(with_reducible repeat (first|refine z6 ?_ _|refine z8 ?_|refine z5 ?_ _));exact BK109.out) hb);have n3_:=z2.mk (zg (g:=gb114) (o:=.cells #[.int .u64 ((zi x5_3 x38_3).f0),.int .u64 ((zi x5_3 x38_3).f1)] 30 (0,0)) (by (with_reducible repeat (first|refine z6 ?_ _|refine z8 ?_|refine z5 ?_ _));refine z11 (cs:=#[.int .u64 ((zi x5_3 x38_3).f0),.int .u64 0]) ?_ 1 _ rfl;(with_reducible repeat (first|refine z6 ?_ _|refine z8 ?_|refine z5 ?_ _));refine z11 (cs:=#[.int .u64 0,.int .u64 0]) ?_ 0 _ rfl;(with_reducible repeat (first|refine z6 ?_ _|refine z8 ?_|refine z5 ?_ _));exact BK114.out) hb);have n4_:=z2.mk (za (by repeat (first|(with_reducible first|exact HB.out|apply z4|apply z1|apply z3|refine z9 ?_ GE109.out|refine z9 ?_ GE114.out)|exact HB.out)) hb);clear HO_5;clear HO_8;clear BK109;clear BK114;clear HB;have HO_5:=n0_;have HO_8:=n1_;have BK109:=n2_;have BK114:=n3_;have HB:=n4_;clear n0_ n1_ n2_ n3_ n4_;(try clear hb);(try clear hb2);(try clear hk);(try clear hi);have p29 : 0 ≤ (x38_3 : Int):=of_decide_eq_true (by first|(with_reducible assumption)|assumption);have q29 : (x38_3 : Int) < ((x8_3.length : Int) : Int):=of_decide_eq_true (by first|(with_reducible assumption)|assumption);obtain ⟨go29,co29,eo29,gb29,gl29,cl29,HG29⟩:=Kd.z4T HO_8.out (by omega);(first|cases eo29|(injection eo29 with ea_ en_ ec_;(first|subst ea_|(injection ea_ with ea_;subst ea_));subst ec_;clear en_));have GB29:=z2.mk gb29;have GG29:=z2.mk HG29;clear gb29 gl29 HG29;obtain ⟨ce29,hcl29,hM29,hcc29,hfr29⟩:=Kd.z2O HO_8.out z30 (x38_3 : Int) p29 q29;obtain rfl:=z1Z hM29;have hx29_0 : w36.cell? ⟨go29,(x38_3 : Int).toNat * 2,none⟩ = some (.int .u64 ((zi x8_3 x38_3).f0)):=hcc29 0 _ rfl;have hx29_1 : w36.cell? ⟨go29,(x38_3 : Int).toNat * 2 + 1,none⟩ = some (.int .u64 ((zi x8_3 x38_3).f1)):=hcc29 1 _ rfl;have hf29_0 : w36.frozen? ⟨go29,(x38_3 : Int).toNat * 2,none⟩ = false:=hfr29 0;have hf29_1 : w36.frozen? ⟨go29,(x38_3 : Int).toNat * 2 + 1,none⟩ = false:=hfr29 1;clear hcl29 hcc29 hfr29 hM29;replace p29:=eq_true p29;replace q29:=eq_true q29;have n_:=z2.mk (Kd.zY (ok':=(fun k_=>some k_ ≠ (.slice (some ad113) x5_3.length co21 : Value).ownBlock ∧ k_ ≠ gb109 ∧ k_ ≠ gb114)) HO_8.out (fun k_ hk=>⟨hk.1.1,⟨hk.1.2,hk.2⟩⟩));clear HO_8;have HO_8:=n_;clear n_;have HX37:=z2.mk (show Kd.R k30 30 w36 w.heap.size (fun k_=>some k_ ≠ (.slice (some ad113) x5_3.length co21 : Value).ownBlock ∧ k_ ≠ gb109 ∧ k_ ≠ gb114) (.slice (some ⟨go29,0,none⟩) x8_3.length co29) x8_3 from (by (with_reducible repeat (first|apply Kd.ze|apply Kd.zf|apply Kd.zo));exact HO_8.out));obtain ⟨ce37,hcl37,hM37,hcc37,hfr37⟩:=Kd.z2O HX37.out z30 (x38_3 : Int) (of_decide_eq_true (by first|(with_reducible assumption)|assumption)) (by have h_ : (x38_3 : Int) < ((x8_3.length : Int) : Int):=of_decide_eq_true (by first|(with_reducible assumption)|assumption);first|exact h_|(have e_:=(Kd.zI HO_8.out).1;omega)|simpa using h_);obtain rfl:=z1Z hM37;have HP37:=Kd.z6N HX37.out (x38_3 : Int) (of_decide_eq_true (by first|(with_reducible assumption)|assumption)) (by have h_ : (x38_3 : Int) < ((x8_3.length : Int) : Int):=of_decide_eq_true (by first|(with_reducible assumption)|assumption);first|exact h_|(have e_:=(Kd.zI HO_8.out).1;omega)|simpa using h_) (seg:=[.int .u64 t115,.int .u64 t116]) (j:=0) hcl37 hcc37 (show 2 ≤ 2 from by decide) (x':=(⟨t115,t116⟩ : S30)) (z2e _ _ _ (⟨t115,t116⟩ : S30) ) (fun _ hk=>hk);have hx37_0:=hcc37 0 _ rfl;(try simp only [show (k30).sz = 2 from rfl,Nat.mul_one,Nat.add_zero] at hx37_0);have hf37_0:=hfr37 0;(try simp only [show (k30).sz = 2 from rfl,Nat.mul_one,Nat.add_zero] at hf37_0);have hx37_1:=hcc37 1 _ rfl;(try simp only [show (k30).sz = 2 from rfl,Nat.mul_one,Nat.add_zero] at hx37_1);have hf37_1:=hfr37 1;(try simp only [show (k30).sz = 2 from rfl,Nat.mul_one,Nat.add_zero] at hf37_1);clear hcl37 hcc37 hfr37 hM37)|((with_reducible refine z3D (t:=30) (p:=49) rfl ?_);refine z3i (t:=30) (p:=49) (v:=?vo_w38) (w1:=((w36.setCell ⟨go29,(x38_3 : Int).toNat * 2,none⟩ (.int .u64 t115)).setCell ⟨go29,(x38_3 : Int).toNat * 2 + 1,none⟩ (.int .u64 t116))) ?hg ?ho ?hn ?hr ?_;(case ho=>rfl);(case hg=>rfl);(case hn=>rfl);(case hr=>first|(go_simp;done)|(go_simp;rfl));intro w38 hw;have hg : w36.grownBy w38 (some go29):=(by rw [hw];exact HP37.2);have hp_ : Kd.R k30 30 w38 w.heap.size (fun k_=>some k_ ≠ (.slice (some ad113) x5_3.length co21 : Value).ownBlock ∧ k_ ≠ gb109 ∧ k_ ≠ gb114) (.slice (some ⟨go29,0,none⟩) x8_3.length co29) y117:=(by rw [hw,Ny117.out];exact HP37.1);clear HP37;have n0_:=z2.mk (Kd.z7c (v:=(.slice (some ⟨go29,0,none⟩) x8_3.length co29)) (v1:=(.slice (some ⟨go29,0,none⟩) x8_3.length co29)) (ok:=(fun k_=>k_ ≠ gb109 ∧ k_ ≠ gb114)) (by (with_reducible repeat (first|apply Kd.ze|apply Kd.zf|apply Kd.zo));exact Kd.zY HO_5.out (fun _ hk=>⟨⟨hk.1.2,hk.2⟩,hk.1.1⟩)) hg (.inl rfl));have n1_:=z2.mk (hp_);have n2_:=z2.mk (z1Y (g:=gb109) (o:=.cells #[.int .u64 x110000_3,.int .u64 x110001_3] 30 (0,0)) (by (with_reducible repeat (first|refine z6 ?_ _|refine z8 ?_|refine z5 ?_ _));exact BK109.out) hg (Kd.z27 HO_8.out (fun _ hk=>hk.2.1)));have n3_:=z2.mk (z1Y (g:=gb114) (o:=.cells #[.int .u64 ((zi x5_3 x38_3).f0),.int .u64 ((zi x5_3 x38_3).f1)] 30 (0,0)) (by (with_reducible repeat (first|refine z6 ?_ _|refine z8 ?_|refine z5 ?_ _));exact BK114.out) hg (Kd.z27 HO_8.out (fun _ hk=>hk.2.2)));have n4_:=z2.mk ((by rw [hw];exact z9 (z9 (HB.out) GB29.out) GB29.out : Below w.heap.size w w38));clear HO_5;clear HO_8;clear BK109;clear BK114;clear HB;have HO_5:=n0_;have HO_8:=n1_;have BK109:=n2_;have BK114:=n3_;have HB:=n4_;clear n0_ n1_ n2_ n3_ n4_;clear hg hw hp_))
       have n0_:=z2.mk (Kd.zo HO_5.out)
       have n1_:=z2.mk (Kd.zo HO_8.out)
       have n2_:=z2.mk (z8 BK109.out)
       have n3_:=z2.mk (z8 BK114.out)
       have n4_:=z2.mk (z3 HB.out)
       clear HO_5
       clear HO_8
       clear BK109
       clear BK114
       clear HB
       have HO_5:=n0_
       have HO_8:=n1_
       have BK109:=n2_
       have BK114:=n3_
       have HB:=n4_
       clear n0_ n1_ n2_ n3_ n4_
       have p118 : 0 ≤ (x38_3 : Int):=of_decide_eq_true (by first|(with_reducible assumption)|assumption)
       have q118 : x38_3 < (y117.length : Int):=(by have h_ : (x38_3 : Int) < ((x8_3.length : Int) : Int):=of_decide_eq_true (by first|(with_reducible assumption)|assumption);first|(have e_:=(Kd.zI HO_8.out).1;omega)|simpa only [Ny117.out,List.length_set] using h_)
       have ql118 : ((x38_3 : Int) < ((x8_3.length : Int) : Int)) = True:=eq_true (of_decide_eq_true (by first|(with_reducible assumption)|assumption))
       obtain ⟨ad118,e118,hx118_0,hx118_1⟩:=z29 (Kd.zI HO_8.out).2.2 x38_3 p118 q118
       obtain rfl : (⟨go29,0,none⟩ : Addr) = ad118:=(by injection e118)
       (first|simp only [z28] at hx118_0|simp only [add_at] at hx118_0|simp only [Addr.add,Nat.zero_add] at hx118_0|skip)
       (first|simp only [z28] at hx118_1|simp only [add_at] at hx118_1|simp only [Addr.add,Nat.zero_add] at hx118_1|skip)
       replace p118:=eq_true p118
       replace q118:=eq_true q118
       refine start_ (n:=10) (S:=fun w'=>w'.cell? ⟨gb114,0,none⟩ = some (.int .u64 ((zi x5_3 x38_3).f0)) ∧ w'.cell? ⟨gb114,1,none⟩ = some (.int .u64 ((zi x5_3 x38_3).f1)) ∧ w'.cell? ⟨go29,(x38_3).toNat * 2,none⟩ = some (.int .u64 ((zi y117 x38_3).f0)) ∧ w'.cell? ⟨go29,(x38_3).toNat * 2 + 1,none⟩ = some (.int .u64 ((zi y117 x38_3).f1))) (ds:=[9]) #[false,false,false,false,false,false,false,false,false,false] (by kernel_rfl) rfl rfl ⟨(zc BK114.out 0).trans rfl,(zc BK114.out 1).trans rfl,hx118_0,hx118_1⟩ (fun hHeld=>?_);refine z2d zq.tab12 zq.bits12 (fun HT_ HW_=>?_)
       generalize w38.drew = w39 at HO_5 HO_8 BK109 BK114 HB hx118_0 hx118_1 hHeld ⊢
       refine pure_ (i:=0) (N:=some 50) (v:=?_) (a':=?_) #[true,false,false,false,false,false,false,false,false,false] rfl rfl (z1i HT_.out (by kernel_rfl)) (fun _ _ _ h=>h) (Or.inl ⟨by rfl,?_⟩) ?_ ?_
       rotate_left
       · intro w'
         go_simp
         with_reducible rfl
       rotate_left
       · simp only [Act.put,List.setIfInBounds_toArray,List.set_cons_zero,List.set_cons_succ,zZ,z14]
         rfl
       refine pure_ (i:=1) (N:=some 51) (v:=?_) (a':=?_) #[true,true,false,false,false,false,false,false,false,false] rfl rfl (z1i HT_.out (by kernel_rfl)) (fun _ _ _ h=>h) (Or.inl ⟨by rfl,?_⟩) ?_ ?_
       rotate_left
       · intro w'
         go_simp
         with_reducible rfl
       rotate_left
       · simp only [Act.put,List.setIfInBounds_toArray,List.set_cons_zero,List.set_cons_succ,zZ,z14]
         rfl
       refine pure_ (i:=3) (N:=some 53) (v:=?_) (a':=?_) #[true,true,false,true,false,false,false,false,false,false] rfl rfl (z1i HT_.out (by kernel_rfl)) (fun _ _ _ h=>h) (Or.inl ⟨by rfl,?_⟩) ?_ ?_
       rotate_left
       · intro w'
         go_simp
         with_reducible rfl
       rotate_left
       · simp only [Act.put,List.setIfInBounds_toArray,List.set_cons_zero,List.set_cons_succ,zZ,z14]
         rfl
       refine pure_ (i:=4) (N:=some 54) (v:=?_) (a':=?_) #[true,true,false,true,true,false,false,false,false,false] rfl rfl (z1i HT_.out (by kernel_rfl)) (fun _ _ _ h=>h) (Or.inl ⟨by rfl,?_⟩) ?_ ?_
       rotate_left
       · intro w'
         go_simp
         with_reducible rfl
       rotate_left
       · simp only [Act.put,List.setIfInBounds_toArray,List.set_cons_zero,List.set_cons_succ,zZ,z14]
         rfl
       refine pure_ (i:=5) (N:=some 55) (v:=?_) (a':=?_) #[true,true,false,true,true,true,false,false,false,false] rfl rfl (z1i HT_.out (by kernel_rfl)) (fun _ _ _ h=>h) (Or.inl ⟨by rfl,?_⟩) ?_ ?_
       rotate_left
       · intro w'
         go_simp
         with_reducible rfl
       rotate_left
       · simp only [Act.put,List.setIfInBounds_toArray,List.set_cons_zero,List.set_cons_succ,zZ,z14]
         rfl
       refine take_ (i:=2) (N:=some 52) (v:=?_) (a':=?_) #[true,true,true,true,true,true,false,false,false,false] rfl rfl (z1F HT_.out HW_.out (by kernel_rfl)) (fun _ _ _ h=>h) (Or.inl ⟨by rfl,?_⟩) hHeld ?_ ?_
       rotate_left
       · rintro w' ⟨s0,s1,s2,s3⟩
         go_simp
         with_reducible rfl
       rotate_left
       · simp only [Act.put,List.setIfInBounds_toArray,List.set_cons_zero,List.set_cons_succ,zZ,z14]
         rfl
       refine take_ (i:=6) (N:=some 56) (v:=?_) (a':=?_) #[true,true,true,true,true,true,true,false,false,false] rfl rfl (z1F HT_.out HW_.out (by kernel_rfl)) (fun _ _ _ h=>h) (Or.inl ⟨by rfl,?_⟩) hHeld ?_ ?_
       rotate_left
       · rintro w' ⟨s0,s1,s2,s3⟩
         go_simp
         with_reducible rfl
       rotate_left
       · simp only [Act.put,List.setIfInBounds_toArray,List.set_cons_zero,List.set_cons_succ,zZ,z14]
         rfl
       refine one_ (i:=7) (N:=some 57) #[true,true,true,true,true,true,true,true,false,false] rfl rfl (z21 HT_.out (by kernel_rfl)) (by decide) (fun K hK=>?_)
       refine goes_ Try.func64 (by kernel_rfl) rfl #[.agg #[.int .u64 ((zi x5_3 x38_3).f0),.int .u64 ((zi x5_3 x38_3).f1)],.agg #[.int .u64 ((zi y117 x38_3).f0),.int .u64 ((zi y117 x38_3).f1)]] (by rfl) rfl rfl (by (try simp only [List.map_toArray,List.map_cons,List.map_nil]);first|done|rfl|(simp only [List.length_drop,List.length_take];rfl)) ?_
       with_reducible refine (z1M.calls ((zi x5_3 x38_3).f0) ((zi x5_3 x38_3).f1) ((zi y117 x38_3).f0) ((zi y117 x38_3).f1) t119 t120 _ A30.out).mono ?_
       rintro e w40 ⟨rfl,hb⟩
       have HS2_:=(hb.cell (World.block_lt_of_cell? _ _ (hHeld.2.2.1))).trans (hHeld.2.2.1)
       have HS3_:=(hb.cell (World.block_lt_of_cell? _ _ (hHeld.2.2.2))).trans (hHeld.2.2.2)
       refine ⟨_,rfl,?_⟩
       have n0_:=z2.mk (Kd.zO (by (with_reducible repeat (first|apply Kd.ze|apply Kd.zf|apply Kd.zo));exact HO_5.out) hb)
       have n1_:=z2.mk (Kd.zO (by (with_reducible repeat (first|apply Kd.ze|apply Kd.zf|apply Kd.zo));exact HO_8.out) hb)
       have n2_:=z2.mk (zg (g:=gb109) (o:=.cells #[.int .u64 x110000_3,.int .u64 x110001_3] 30 (0,0)) (by (with_reducible repeat (first|refine z6 ?_ _|refine z8 ?_|refine z5 ?_ _));exact BK109.out) hb)
       have n3_:=z2.mk (zg (g:=gb114) (o:=.cells #[.int .u64 ((zi x5_3 x38_3).f0),.int .u64 ((zi x5_3 x38_3).f1)] 30 (0,0)) (by (with_reducible repeat (first|refine z6 ?_ _|refine z8 ?_|refine z5 ?_ _));exact BK114.out) hb)
       have n4_:=z2.mk (za (by repeat (first|(with_reducible first|exact HB.out|apply z4|apply z1|apply z3|refine z9 ?_ GE109.out|refine z9 ?_ GE114.out)|exact HB.out)) hb)
       clear HO_5
       clear HO_8
       clear BK109
       clear BK114
       clear HB
       have HO_5:=n0_
       have HO_8:=n1_
       have BK109:=n2_
       have BK114:=n3_
       have HB:=n4_
       clear n0_ n1_ n2_ n3_ n4_
       (try clear hb)
       (try clear hb2)
       (try clear hk)
       (try clear hi)
       have p31 : 0 ≤ (x38_3 : Int):=of_decide_eq_true (by first|(with_reducible assumption)|assumption)
       have q31 : (x38_3 : Int) < ((x5_3.length : Int) : Int):=of_decide_eq_true (by first|(with_reducible assumption)|assumption)
       obtain ⟨go31,co31,eo31,gb31,gl31,cl31,HG31⟩:=Kd.z4T HO_5.out (by omega)
       (first|cases eo31|(injection eo31 with ea_ en_ ec_;(first|subst ea_|(injection ea_ with ea_;subst ea_));subst ec_;clear en_))
       have GB31:=z2.mk gb31
       have GG31:=z2.mk HG31
       clear gb31 gl31 HG31
       (first|simp only [z28] at hx113_0|skip)
       (first|simp only [z28] at hx113_1|skip)
       obtain ⟨ce31,hcl31,hM31,hcc31,hfr31⟩:=Kd.z2O HO_5.out z30 (x38_3 : Int) p31 q31
       obtain rfl:=z1Z hM31
       have hx31_0 : World.cell? _ ⟨go31,(x38_3 : Int).toNat * 2,none⟩ = some (.int .u64 ((zi x5_3 x38_3).f0)):=hcc31 0 _ rfl
       have hx31_1 : World.cell? _ ⟨go31,(x38_3 : Int).toNat * 2 + 1,none⟩ = some (.int .u64 ((zi x5_3 x38_3).f1)):=hcc31 1 _ rfl
       have hf31_0 : World.frozen? _ ⟨go31,(x38_3 : Int).toNat * 2,none⟩ = false:=hfr31 0
       have hf31_1 : World.frozen? _ ⟨go31,(x38_3 : Int).toNat * 2 + 1,none⟩ = false:=hfr31 1
       clear hcl31 hcc31 hfr31 hM31
       replace p31:=eq_true p31
       replace q31:=eq_true q31
       obtain ⟨ce41,hcl41,hM41,hcc41,hfr41⟩:=Kd.z2O HO_5.out z30 (x38_3 : Int) (of_decide_eq_true (by first|(with_reducible assumption)|assumption)) (by have h_ : (x38_3 : Int) < ((x5_3.length : Int) : Int):=of_decide_eq_true (by first|(with_reducible assumption)|assumption);first|exact h_|(have e_:=(Kd.zI HO_5.out).1;omega)|simpa using h_)
       obtain rfl:=z1Z hM41
       have HP41:=(Kd.z6N HO_5.out (x38_3 : Int) (of_decide_eq_true (by first|(with_reducible assumption)|assumption)) (by have h_ : (x38_3 : Int) < ((x5_3.length : Int) : Int):=of_decide_eq_true (by first|(with_reducible assumption)|assumption);first|exact h_|(have e_:=(Kd.zI HO_5.out).1;omega)|simpa using h_) (seg:=[.int .u64 t119,.int .u64 t120]) (j:=0) hcl41 hcc41 (show 2 ≤ 2 from by decide) (x':=(⟨t119,t120⟩ : S30)) (z2e _ _ _ (⟨t119,t120⟩ : S30) ) (fun _ hk=>hk)).1
       rw [← Ny121.out] at HP41
       have HQ41:=z2.mk HP41
       clear hcl41 hcc41 hfr41 hM41 HP41
       refine hK.out _ _ ⟨(zc BK114.out 0).trans rfl,(zc BK114.out 1).trans rfl,HS2_,HS3_⟩ (fun hHeld=>?_)
       clear hK K
       refine norm_ (a':=?_) ?_ ?_
       rotate_left
       · show Act.put _ (some 57) _ = _
         simp only [Act.put,List.setIfInBounds_toArray,List.set_cons_zero,List.set_cons_succ,zZ,z14]
         rfl
       refine pure_ (i:=8) (N:=some 58) (v:=?_) (a':=?_) #[true,true,true,true,true,true,true,true,true,false] rfl rfl (z1i HT_.out (by kernel_rfl)) (fun _ _ _ h=>h) (Or.inl ⟨by rfl,?_⟩) ?_ ?_
       rotate_left
       · intro w'
         go_simp
         with_reducible rfl
       rotate_left
       · simp only [Act.put,List.setIfInBounds_toArray,List.set_cons_zero,List.set_cons_succ,zZ,z14]
         rfl
       refine last_ (i:=9) (N:=none) #[true,true,true,true,true,true,true,true,true,true] rfl rfl (z21 HT_.out (by kernel_rfl)) (by decide) (fun K hK=>?_)
       refine skip_ (w1:=?_) (by rfl) rfl ?_ ?_
       rotate_left
       · go_simp
         rfl
       refine hK.out _ _ ?_
       clear hK K
       refine done_ (z2A HT_.out (by kernel_rfl)) ?_
       try go_wp2
       (try simp only [← hl5_3])
       go_roundg k3
       case measure=>have:=HJ2.out;have:=HK2.out;have:=HK3.out;omega
       case rel=>exact ⟨(y121),(y117),(wrap64 (x38_3 + 1)),(x110000_3),(x110001_3),(by first|rfl|(simp;done)|(simp [*];done)),H',⟨by have:=HJ2.out;have:=HK2.out;have:=HK3.out;omega⟩,⟨by (try simp only [hl5_3]);(with_reducible repeat (first|apply Kd.ze|apply Kd.zf|apply Kd.zo));exact Kd.zY HQ41.out (fun _ hk=>⟨hk.2,hk.1.1⟩)⟩,⟨by (try simp only [hl5_3]);(with_reducible repeat (first|apply Kd.ze|apply Kd.zf|apply Kd.zo));exact Kd.zY (Kd.z22 (p:=⟨go31,(x38_3 : Int).toNat * 2 + 1,none⟩) (Kd.z22 (p:=⟨go31,(x38_3 : Int).toNat * 2,none⟩) (Kd.zY HO_8.out (fun k_ hk=>(⟨hk,fun e_=>hk.1 (by rw [e_];rfl)⟩ : _ ∧ k_ ≠ go31))) (fun _ hk=>hk.2) (.int .u64 t119)) (fun _ hk=>hk.2) (.int .u64 t120)) (fun _ hk=>⟨hk.1.1,hk.1.2.1⟩)⟩,⟨by (try simp only [hl5_3]);(with_reducible repeat (first|refine z6 ?_ _|refine z8 ?_|refine z5 ?_ _));refine z13 ?_ (by have h_:=Kd.z27 HO_5.out (fun _ hk=>hk.1.1);intro e_;exact h_ (by rw [e_];rfl)) _;(with_reducible repeat (first|refine z6 ?_ _|refine z8 ?_|refine z5 ?_ _));refine z13 ?_ (by have h_:=Kd.z27 HO_5.out (fun _ hk=>hk.1.1);intro e_;exact h_ (by rw [e_];rfl)) _;(with_reducible repeat (first|refine z6 ?_ _|refine z8 ?_|refine z5 ?_ _));exact BK109.out⟩,⟨by repeat (first|(with_reducible first|exact HB.out|apply z4|apply z1|apply z3|refine z9 ?_ GB31.out|refine z9 ?_ GB31.out|refine z9 ?_ GE109.out|refine z9 ?_ GE114.out)|exact HB.out)⟩⟩
end Go.Proofs.Ytkhmpaooinpfoaa.P
namespace Go.Proofs.Ytkhmpaooinpfoaa.P
open Go.RowKit Go.Proofs.YtkhmpaooinpfoaaW.PrintWords Go.Proofs.YtkhmpaooinpfoaaW.PrintLast Go.Proofs.YtkhmpaooinpfoaaW.PrintMore
attribute [local go_sem] z15 z17 z1f z1g zW zX z16 z18   -- for this text's walks alone
set_option linter.unusedVariables false
set_option linter.unusedSimpArgs false
mutual
def zF.j0 : Nat → Int → List (S30) → List (S30) → Bool → Option ((List (S30)))
 | 0,_,_,_,_=>none
 | k + 1,x0,x7,x8,x27=>if x27 = true then (some ([] : List (S30))) else ((zH.f k x0).bind fun t107=>(if 0 ≤ t107 then (if (t107 : Int).toNat ≤ 17592186044416 then (zF.l0 k x0 x8 (List.replicate (t107 : Int).toNat z30) x7 (x7.length : Int) 0) else (none)) else (none)))
def zF.l0 : Nat → Int → List (S30) → List (S30) → List (S30) → Int → Int → Option ((List (S30)))
 | 0,_,_,_,_,_,_=>none
 | k + 1,x0,x8,x9,x31,x32,x33=>if x33 < x32 then (if 0 ≤ x33 then (if x33 < (x31.length : Int) then ((z1k.f k x0).bind fun t113=>(if x33 < (x8.length : Int) then ((zm.f k x0 x9 t113 ((zi x31 x33).f0) ((zi x31 x33).f1) ((zi x8 x33).f0) ((zi x8 x33).f1)).bind fun t117=>(zF.l0 k x0 x8 t117 x31 x32 (wrap64 (x33 + 1)))) else (none))) else (none)) else (none)) else (some x9)
end
def zF.f (k : Nat) (a0 : Int) (l1 : List (S30)) (l2 : List (S30)) : Option ((List (S30))):=(zq.f k a0 l1).bind fun t101=>((zq.f k a0 l2).bind fun t104=>(if (t101.length : Int) = (t104.length : Int) then (zF.j0 k a0 t101 t104 ((t101.length : Int) == 0)) else (zF.j0 k a0 t101 t104 true)))
theorem zF.z1b : ∀ k,(∀ y0 y1 y2 y3,LeO (zF.j0 k y0 y1 y2 y3) (zF.j0 (k + 1) y0 y1 y2 y3)) ∧ (∀ y0 y1 y2 y3 y4 y5,LeO (zF.l0 k y0 y1 y2 y3 y4 y5) (zF.l0 (k + 1) y0 y1 y2 y3 y4 y5))
 | 0=>⟨fun _ _ _ _ r h=>by simp [zF.j0] at h,fun _ _ _ _ _ _ r h=>by simp [zF.l0] at h⟩
 | k + 1=>by
  obtain ⟨ih0,ih1⟩:=zF.z1b k
  refine ⟨?_,?_⟩
  · intro y0 y1 y2 y3
    unfold zF.j0
    repeat' first
    | (with_reducible exact ih0 _ _ _ _)
    | (with_reducible exact ih1 _ _ _ _ _ _)
    | (with_reducible exact zq.mono _ _ _)
    | (with_reducible exact z1k.mono _ _)
    | (with_reducible exact zm.mono _ _ _ _ _ _ _ _)
    | (with_reducible exact zH.mono _ _)
    | (with_reducible exact LeO.refl _)
    | (with_reducible exact LeO.none _)
    | (with_reducible refine LeO.ite ?_ ?_)
    | (with_reducible refine LeO.bind ?_ (fun _=>?_))
    | exact ih0 _ _ _ _
    | exact ih1 _ _ _ _ _ _
    | exact zq.mono _ _ _
    | exact z1k.mono _ _
    | exact zm.mono _ _ _ _ _ _ _ _
    | exact zH.mono _ _
    | exact LeO.none _
    | refine LeO.ite ?_ ?_
    | refine LeO.bind ?_ (fun _=>?_)
  · intro y0 y1 y2 y3 y4 y5
    unfold zF.l0
    repeat' first
    | (with_reducible exact ih0 _ _ _ _)
    | (with_reducible exact ih1 _ _ _ _ _ _)
    | (with_reducible exact zq.mono _ _ _)
    | (with_reducible exact z1k.mono _ _)
    | (with_reducible exact zm.mono _ _ _ _ _ _ _ _)
    | (with_reducible exact zH.mono _ _)
    | (with_reducible exact LeO.refl _)
    | (with_reducible exact LeO.none _)
    | (with_reducible refine LeO.ite ?_ ?_)
    | (with_reducible refine LeO.bind ?_ (fun _=>?_))
    | exact ih0 _ _ _ _
    | exact ih1 _ _ _ _ _ _
    | exact zq.mono _ _ _
    | exact z1k.mono _ _
    | exact zm.mono _ _ _ _ _ _ _ _
    | exact zH.mono _ _
    | exact LeO.none _
    | refine LeO.ite ?_ ?_
    | refine LeO.bind ?_ (fun _=>?_)
theorem zF.mono : ∀ a0 a1 a2 k,LeO (zF.f k a0 a1 a2) (zF.f (k + 1) a0 a1 a2):=by
 intro a0 a1 a2 k
 obtain ⟨ih0,ih1⟩:=zF.z1b k
 unfold zF.f
 repeat' first
  | (with_reducible exact ih0 _ _ _ _)
  | (with_reducible exact ih1 _ _ _ _ _ _)
  | (with_reducible exact zq.mono _ _ _)
  | (with_reducible exact z1k.mono _ _)
  | (with_reducible exact zm.mono _ _ _ _ _ _ _ _)
  | (with_reducible exact zH.mono _ _)
  | (with_reducible exact LeO.refl _)
  | (with_reducible exact LeO.none _)
  | (with_reducible refine LeO.ite ?_ ?_)
  | (with_reducible refine LeO.bind ?_ (fun _=>?_))
  | exact ih0 _ _ _ _
  | exact ih1 _ _ _ _ _ _
  | exact zq.mono _ _ _
  | exact z1k.mono _ _
  | exact zm.mono _ _ _ _ _ _ _ _
  | exact zH.mono _ _
  | exact LeO.none _
  | refine LeO.ite ?_ ?_
  | refine LeO.bind ?_ (fun _=>?_)
def zF.T8 : Bool × List (List Nat × List Nat):=(true,[([],[]),([],[]),([],[]),([2],[2]),([],[]),([],[]),([],[]),([5,6],[5,6]),([7],[7]),([0,1,3,4,8,3],[0,1,3,4,8])])
def zF.B8 : List Nat:=[0,0,0,4,0,0,0,96,224,511]
theorem zF.tab8 : rtab .any (opsOf Try.f52 8) = zF.T8:=by kernel_rfl
theorem zF.bits8 : waitsOk zF.T8.2 zF.B8 = true:=by kernel_rfl
set_option maxHeartbeats 8000000 in
set_option maxRecDepth 100000 in
theorem zF.calls (k : Nat) (a0 : Int) (A1 : Option Addr) (c1 : Nat) (l1 : List (S30)) (A2 : Option Addr) (c2 : Nat) (l2 : List (S30)) (r : List (S30)) (w : World) (hr1 : Kd.C k30 w A1 l1.length l1) (hc1 : l1.length ≤ c1) (hr2 : Kd.C k30 w A2 l2.length l2) (hc2 : l2.length ≤ c2) (h : zF.f k a0 l1 l2 = some r) :
 Calls Try.prog 52 #[.int .i64 a0,.slice A1 l1.length c1,.slice A2 l2.length c2] w fun e w'=>∃ v0_ : Value,e = .returned (v0_) ∧ Kd.R k30 30 w' w.heap.size (fun _=>True) v0_ r ∧ Below w.heap.size w w':=by
 have hu30:=Try.underlying30
 have HR1:=z2.mk hr1
 have HC1:=z2.mk hc1
 clear hr1 hc1
 have HR2:=z2.mk hr2
 have HC2:=z2.mk hc2
 clear hr2 hc2
 have HB:=z2.mk (Below.refl w.heap.size w)
 have H : ((zq.f k a0 l1).bind fun t101=>((zq.f k a0 l2).bind fun t104=>(if (t101.length : Int) = (t104.length : Int) then (zF.j0 k a0 t101 t104 ((t101.length : Int) == 0)) else (zF.j0 k a0 t101 t104 true)))) = some r:=h
 clear h
 replace H:=Option.bind_eq_some_iff.mp H
 obtain ⟨t101,A40,H⟩:=H
 replace H : ((zq.f k a0 l2).bind fun t104=>(if (t101.length : Int) = (t104.length : Int) then (zF.j0 k a0 t101 t104 ((t101.length : Int) == 0)) else (zF.j0 k a0 t101 t104 true))) = some r:=H
 have A4:=z2.mk A40
 clear A40
 replace H:=Option.bind_eq_some_iff.mp H
 obtain ⟨t104,A50,H⟩:=H
 replace H : (if (t101.length : Int) = (t104.length : Int) then (zF.j0 k a0 t101 t104 ((t101.length : Int) == 0)) else (zF.j0 k a0 t101 t104 true)) = some r:=H
 have A5:=z2.mk A50
 clear A50
 have HC6:=z2.mk H
 clear H
 go_enter Try.func52,Try.ntmps52
 go_upto_region 2 with (first|((with_reducible refine zj (f:=65) rfl ?_);refine goesL_ (some 14) rfl rfl Try.func65 (by kernel_rfl) rfl #[.int .i64 a0,.slice A1 l1.length c1] rfl (by (try simp only [List.map_toArray,List.map_cons,List.map_nil]);first|done|rfl|(simp only [List.length_drop,List.length_take];rfl)) ?_;(with_reducible refine (zq.calls k a0 _ _ l1 t101 _ ?side1 ?side2 A4.out).mono ?_);(case side1=>repeat (first|exact HR1.out|(with_reducible refine Kd.z1o ?_ _)|(with_reducible refine Kd.z1p ?_ _)|(with_reducible refine Kd.z1C ?_)));(case side2=>exact HC1.out);rintro e w7 ⟨v102,rfl,ho0,hb⟩;refine ⟨_,rfl,?_⟩;have n0_:=z2.mk (Kd.z1l ho0 (zb (by repeat (first|(with_reducible first|exact HB.out|apply z4|apply z1|apply z3)|exact HB.out))));have n1_:=z2.mk (za (by repeat (first|(with_reducible first|exact HB.out|apply z4|apply z1|apply z3)|exact HB.out)) hb);clear HB;have HO103:=n0_;have HB:=n1_;clear n0_ n1_;(try clear hb);(try clear hb2);(try clear hk);(try clear hi);(try clear ho0))|((with_reducible refine zj (f:=65) rfl ?_);refine goesL_ (some 17) rfl rfl Try.func65 (by kernel_rfl) rfl #[.int .i64 a0,.slice A2 l2.length c2] rfl (by (try simp only [List.map_toArray,List.map_cons,List.map_nil]);first|done|rfl|(simp only [List.length_drop,List.length_take];rfl)) ?_;(with_reducible refine (zq.calls k a0 _ _ l2 t104 _ ?side1 ?side2 A5.out).mono ?_);(case side1=>repeat (first|exact (Kd.z1W HR2.out HB.out)|(with_reducible refine Kd.z1o ?_ _)|(with_reducible refine Kd.z1p ?_ _)|(with_reducible refine Kd.z1C ?_)));(case side2=>exact HC2.out);rintro e w8 ⟨v105,rfl,ho0,hb⟩;refine ⟨_,rfl,?_⟩;have n0_:=z2.mk (Kd.z1r (by (with_reducible repeat (first|apply Kd.ze|apply Kd.zf|apply Kd.zo));exact HO103.out) (Kd.z1v ho0) hb);have n1_:=z2.mk (Kd.z1l (Kd.z1Q ho0 (Kd.R_lt (by (with_reducible repeat (first|apply Kd.ze|apply Kd.zf|apply Kd.zo));exact HO103.out))) (zb (by repeat (first|(with_reducible first|exact HB.out|apply z4|apply z1|apply z3)|exact HB.out))));have n2_:=z2.mk (za (by repeat (first|(with_reducible first|exact HB.out|apply z4|apply z1|apply z3)|exact HB.out)) hb);clear HO103;clear HB;have HO103:=n0_;have HO106:=n1_;have HB:=n2_;clear n0_ n1_ n2_;(try clear hb);(try clear hb2);(try clear hk);(try clear hi);(try clear ho0)))
 (try simp only [Act.put,List.setIfInBounds_toArray,List.set_cons_zero,List.set_cons_succ])
 go_cut [27] (fun v27 wc=>∃ (kq : Nat) (x27_5 : Bool),v27 = .bool x27_5 ∧ z2 (zF.j0 kq a0 t101 t104 x27_5 = some r) ∧ z2 (kq ≤ k) ∧ z2 (Kd.R k30 30 wc w.heap.size (fun k_=>some k_ ≠ (v105 : Value).ownBlock) v102 t101) ∧ z2 (Kd.R k30 30 wc w.heap.size (fun k_=>some k_ ≠ (v102 : Value).ownBlock) v105 t104) ∧ z2 (Below w.heap.size w wc))
 case first =>
  have H:=HC6.out
  clear HC6
  by_cases c9 : (t101.length : Int) = (t104.length : Int)
  rotate_left
  · rw [if_neg c9] at H
    have c9b0 : ((t101.length : Int) == (t104.length : Int)) = false:=beq_eq_false_iff_ne.mpr c9
    have c9b1 : ((t101.length : Int) != (t104.length : Int)) = true:=bne_iff_ne.mpr c9
    have c9b2 : (t101.length == t104.length) = false:=by first|simpa using c9|(simp at c9 ⊢;omega)
    (first|rw [c9b0]|(simp only [zZ,z14];rw [c9b0])|skip)
    have H':=z2.mk H
    clear H
    obtain ⟨Ao12,co12,eo12⟩:=Kd.z1d HO103.out
    subst eo12
    obtain ⟨Ao13,co13,eo13⟩:=Kd.z1d HO106.out
    subst eo13
    go_wp2
    go_meet
    case rel=>exact ⟨_,(true),(by first|rfl|(simp;done)|(simp [*];done)),H',⟨by first|omega|exact Nat.le_refl _⟩,⟨by (with_reducible repeat (first|apply Kd.ze|apply Kd.zf|apply Kd.zo));exact Kd.zY HO103.out (fun _ hk=>hk.2)⟩,⟨by (with_reducible repeat (first|apply Kd.ze|apply Kd.zf|apply Kd.zo));exact Kd.zY HO106.out (fun _ hk=>hk.2)⟩,⟨by repeat (first|(with_reducible first|exact HB.out|apply z4|apply z1|apply z3)|exact HB.out)⟩⟩
  rw [if_pos c9] at H
  have c9b0 : ((t101.length : Int) == (t104.length : Int)) = true:=beq_iff_eq.mpr c9
  have c9b1 : ((t101.length : Int) != (t104.length : Int)) = false:=bne_eq_false_iff_eq.mpr c9
  have c9b2 : (t101.length == t104.length) = true:=by first|simpa using c9|(simp at c9 ⊢;omega)
  clear c9
  (first|rw [c9b0]|(simp only [zZ,z14];rw [c9b0])|skip)
  have H':=z2.mk H
  clear H
  obtain ⟨Ao10,co10,eo10⟩:=Kd.z1d HO103.out
  subst eo10
  obtain ⟨Ao11,co11,eo11⟩:=Kd.z1d HO106.out
  subst eo11
  go_wp2
  go_meet
  case rel=>exact ⟨_,(((t101.length : Int) == 0)),(by first|rfl|(simp;done)|(simp [*];done)),H',⟨by first|omega|exact Nat.le_refl _⟩,⟨by (with_reducible repeat (first|apply Kd.ze|apply Kd.zf|apply Kd.zo));exact Kd.zY HO103.out (fun _ hk=>hk.2)⟩,⟨by (with_reducible repeat (first|apply Kd.ze|apply Kd.zf|apply Kd.zo));exact Kd.zY HO106.out (fun _ hk=>hk.2)⟩,⟨by repeat (first|(with_reducible first|exact HB.out|apply z4|apply z1|apply z3)|exact HB.out)⟩⟩
 case rest =>
  clear HC6
  (try clear c1);(try clear c2);(try clear p2);(try clear c5);(try clear c6);(try clear c9);(try clear c9b0);(try clear c9b1);(try clear c9b2)
  obtain ⟨kq,x27_5,rfl,HA,HJ5,HO_7,HO_8,HB⟩:=hcut
  cases kq with
  | zero=>exact absurd HA.out (by simp [zF.j0])
  | succ kj5 =>
   have H:=HA.out
   clear HA
   simp only [zF.j0] at H
   by_cases c14 : x27_5 = true
   · subst c14
     have H1 : (some ([] : List (S30))) = some r:=by rw [if_pos rfl] at H;exact H
     clear H
     have H:=H1
     clear H1
     obtain rfl:=Option.some.inj H
     go_wp2
     go_ret
     exact ⟨_,by first|rfl|(simp [zk,zl] <;> rfl)|(simp [*,zk,zl] <;> rfl),by first|exact Kd.z2C _ _ _ _ _|exact Kd.z3k _ _ _ _ _|exact Kd.z3o _ _ _ _ _|exact Kd.z3m _ _ _ _ _|exact Kd.z3n _ _ _ _ _,by repeat (first|(with_reducible first|exact HB.out|apply z4|apply z1|apply z3)|exact HB.out)⟩
   replace c14:=Bool.eq_false_iff.mpr c14
   subst c14
   have H1 : ((zH.f kj5 a0).bind fun t107=>(if 0 ≤ t107 then (if (t107 : Int).toNat ≤ 17592186044416 then (zF.l0 kj5 a0 t104 (List.replicate (t107 : Int).toNat z30) t101 (t101.length : Int) 0) else (none)) else (none))) = some r:=by rw [if_neg (show ¬ (false = true) by decide)] at H;exact H
   clear H
   have H:=H1
   clear H1
   replace H:=Option.bind_eq_some_iff.mp H
   obtain ⟨t107,A150,H⟩:=H
   replace H : (if 0 ≤ t107 then (if (t107 : Int).toNat ≤ 17592186044416 then (zF.l0 kj5 a0 t104 (List.replicate (t107 : Int).toNat z30) t101 (t101.length : Int) 0) else (none)) else (none)) = some r:=H
   have A15:=z2.mk A150
   clear A150
   by_cases c16 : 0 ≤ t107
   rotate_left
   · rw [if_neg c16] at H
     exact absurd H (by simp)
   rw [if_pos c16] at H
   have c16b0:=eq_true c16
   have c16b1 : decide (0 ≤ t107) = true:=decide_eq_true c16
   clear c16
   by_cases c17 : (t107 : Int).toNat ≤ 17592186044416
   rotate_left
   · rw [if_neg c17] at H
     exact absurd H (by simp)
   rw [if_pos c17] at H
   have c17b0:=eq_true c17
   have c17b1 : decide ((t107 : Int).toNat ≤ 17592186044416) = true:=decide_eq_true c17
   clear c17
   obtain ⟨y108,hy108⟩ : ∃ y_ : List (S30),y_ = (List.replicate (t107 : Int).toNat z30):=⟨_,rfl⟩
   replace H : (zF.l0 kj5 a0 t104 y108 t101 (t101.length : Int) 0) = some r:=by first|(rw [hy108];with_reducible exact H)|(have H2_:=(Option.bind_some _ _).symm.trans H;rw [hy108];with_reducible exact H2_)|(have H2_:=(Option.bind_some _ _).symm.trans H;with_reducible exact H2_)|with_reducible exact H|(rw [hy108];exact H)|exact H
   have Ny108:=z2.mk hy108
   clear hy108
   have H':=z2.mk H
   clear H
   go_wp2_with (first|((with_reducible refine zj (f:=92) rfl ?_);refine goesL_ (some 29) rfl rfl Try.func92 (by kernel_rfl) rfl #[.int .i64 a0] rfl (by (try simp only [List.map_toArray,List.map_cons,List.map_nil]);first|done|rfl|(simp only [List.length_drop,List.length_take];rfl)) ?_;(with_reducible refine (zH.calls kj5 a0 t107 _ A15.out).mono ?_);rintro e w' ⟨rfl,⟨nd,rfl⟩⟩;refine ⟨_,rfl,?_⟩)|((with_reducible refine zK (N:=30) rfl ?_);(try (refine z24 (by rfl) ?_;dsimp only));refine Kd.z5z k30 _ 30 rfl (N:=30) rfl 80 _ _ rfl t107 rfl rfl Try.underlying80 (.agg #[(.int .u64 0),(.int .u64 0)]) 16 info30 rfl (by decide) (by omega) z30 (ok:=fun _=>True) (okp:=fun _=>True) (z2e _ _ _ z30 ) (fun _ hk=>hk) trivial (of_decide_eq_true (by first|(with_reducible assumption)|assumption)) (Nat.le_trans (Nat.mul_le_mul_right _ (of_decide_eq_true (by first|(with_reducible assumption)|assumption) : t107.toNat ≤ 17592186044416)) (by omega)) (Below.refl _ _) (Nat.le_refl _) ?_;intro v109 w18 ho19 hb hg_ hnew_;clear hg_ hnew_;(first|rw [← Ny108.out] at ho19|(simp only [Int.reduceToNat] at ho19;rw [← Ny108.out] at ho19));have n0_:=z2.mk (Kd.z1r (by (with_reducible repeat (first|apply Kd.ze|apply Kd.zf|apply Kd.zo));exact HO_7.out) (Kd.z1v ho19) hb);have n1_:=z2.mk (Kd.z1r (by (with_reducible repeat (first|apply Kd.ze|apply Kd.zf|apply Kd.zo));exact HO_8.out) (Kd.z1v ho19) hb);have n2_:=z2.mk (Kd.z1l (Kd.z1Q (Kd.z1Q ho19 (Kd.R_lt (by (with_reducible repeat (first|apply Kd.ze|apply Kd.zf|apply Kd.zo));exact HO_7.out))) (Kd.R_lt (by (with_reducible repeat (first|apply Kd.ze|apply Kd.zf|apply Kd.zo));exact HO_8.out))) (zb (by repeat (first|(with_reducible first|exact HB.out|apply z4|apply z1|apply z3)|exact HB.out))));have n3_:=z2.mk (za (by repeat (first|(with_reducible first|exact HB.out|apply z4|apply z1|apply z3)|exact HB.out)) hb);clear HO_7;clear HO_8;clear HB;have HO_7:=n0_;have HO_8:=n1_;have HO110:=n2_;have HB:=n3_;clear n0_ n1_ n2_ n3_;clear hb ho19;obtain ⟨Ao20,co20,eo20⟩:=Kd.z1d HO_7.out;subst eo20))
   go_loopg [33] kj5 (fun kq v33 w'=>∃ (x9_2 : List (S30)) (x33_2 : Int),v33 = .int .i64 x33_2 ∧ z2 (zF.l0 kq a0 t104 x9_2 t101 (t101.length : Int) x33_2 = some r) ∧ z2 (kq ≤ kj5) ∧ z2 (Kd.R k30 30 w' w.heap.size (fun k_=>some k_ ≠ (v109 : Value).ownBlock ∧ some k_ ≠ ((.slice Ao20 t101.length co20) : Value).ownBlock) v105 t104) ∧ z2 (Kd.R k30 30 w' w.heap.size (fun k_=>some k_ ≠ (v105 : Value).ownBlock ∧ some k_ ≠ ((.slice Ao20 t101.length co20) : Value).ownBlock) v109 x9_2) ∧ z2 (Kd.R k30 30 w' w.heap.size (fun k_=>some k_ ≠ (v105 : Value).ownBlock ∧ some k_ ≠ (v109 : Value).ownBlock) (.slice Ao20 t101.length co20) t101) ∧ z2 (Below w.heap.size w w'))
   case atStart=>exact ⟨(y108),(0),(by first|rfl|(simp;done)|(simp [*];done)),H',⟨Nat.le_refl _⟩,⟨by (with_reducible repeat (first|apply Kd.ze|apply Kd.zf|apply Kd.zo));exact Kd.zY HO_8.out (fun _ hk=>⟨hk.2,hk.1⟩)⟩,⟨by (with_reducible repeat (first|apply Kd.ze|apply Kd.zf|apply Kd.zo));exact Kd.zY HO110.out (fun _ hk=>⟨hk.2,hk.1.2⟩)⟩,⟨by (with_reducible repeat (first|apply Kd.ze|apply Kd.zf|apply Kd.zo));exact HO_7.out⟩,⟨by repeat (first|(with_reducible first|exact HB.out|apply z4|apply z1|apply z3)|exact HB.out)⟩⟩
   case round =>
    clear H'
    (try clear c1);(try clear c2);(try clear p2);(try clear c5);(try clear c6);(try clear c9);(try clear c9b0);(try clear c9b1);(try clear c9b2);(try clear c14);(try clear c16);(try clear c16b0);(try clear c16b1);(try clear c17);(try clear c17b0);(try clear c17b1);(try clear p2)
    obtain ⟨x9_2,x33_2,rfl,HA,HK2,HO_8,HO_9,HO_31,HB⟩:=hrel
    cases gk with
    | zero=>exact absurd HA.out (by simp [zF.l0])
    | succ k2 =>
     have H:=HA.out
     clear HA
     simp only [zF.l0] at H
     by_cases c21 : x33_2 < (t101.length : Int)
     rotate_left
     · rw [if_neg c21] at H
       have c21b0 : decide (x33_2 < (t101.length : Int)) = false:=decide_eq_false c21
       clear c21
       obtain rfl:=Option.some.inj H
       go_wp2
       go_ret
       exact ⟨_,by first|rfl|(simp [zk,zl] <;> rfl)|(simp [*,zk,zl] <;> rfl),by (with_reducible repeat (first|apply Kd.ze|apply Kd.zf|apply Kd.zo));exact Kd.zY HO_9.out (fun _ hk=>trivial),by repeat (first|(with_reducible first|exact HB.out|apply z4|apply z1|apply z3)|exact HB.out)⟩
     rw [if_pos c21] at H
     have c21b0 : decide (x33_2 < (t101.length : Int)) = true:=decide_eq_true c21
     clear c21
     by_cases c22 : 0 ≤ x33_2
     rotate_left
     · rw [if_neg c22] at H
       exact absurd H (by simp)
     rw [if_pos c22] at H
     have c22b0 : decide (0 ≤ x33_2) = true:=decide_eq_true c22
     clear c22
     by_cases c23 : x33_2 < (t101.length : Int)
     rotate_left
     · rw [if_neg c23] at H
       exact absurd H (by simp)
     rw [if_pos c23] at H
     have c23b0 : decide (x33_2 < (t101.length : Int)) = true:=decide_eq_true c23
     clear c23
     replace H:=Option.bind_eq_some_iff.mp H
     obtain ⟨t113,A240,H⟩:=H
     replace H : (if x33_2 < (t104.length : Int) then ((zm.f k2 a0 x9_2 t113 ((zi t101 x33_2).f0) ((zi t101 x33_2).f1) ((zi t104 x33_2).f0) ((zi t104 x33_2).f1)).bind fun t117=>(zF.l0 k2 a0 t104 t117 t101 (t101.length : Int) (wrap64 (x33_2 + 1)))) else (none)) = some r:=H
     have A24:=z2.mk A240
     clear A240
     by_cases c25 : x33_2 < (t104.length : Int)
     rotate_left
     · rw [if_neg c25] at H
       exact absurd H (by simp)
     rw [if_pos c25] at H
     have c25b0 : decide (x33_2 < (t104.length : Int)) = true:=decide_eq_true c25
     clear c25
     replace H:=Option.bind_eq_some_iff.mp H
     obtain ⟨t117,A260,H⟩:=H
     replace H : (zF.l0 k2 a0 t104 t117 t101 (t101.length : Int) (wrap64 (x33_2 + 1))) = some r:=H
     have A26:=z2.mk A260
     clear A260
     have H':=z2.mk H
     clear H
     have p111 : 0 ≤ (x33_2 : Int):=of_decide_eq_true (by first|(with_reducible assumption)|assumption)
     have q111 : x33_2 < (t101.length : Int):=of_decide_eq_true (by first|(with_reducible assumption)|assumption)
     obtain ⟨ad111,e111,hx111_0,hx111_1⟩:=z29 (Kd.zI HO_31.out).2.2 x33_2 p111 q111
     cases e111
     replace p111:=eq_true p111
     replace q111:=eq_true q111
     try go_wp2_with (first|((with_reducible refine zK (N:=11) rfl ?_);(try (refine z24 (by rfl) ?_;dsimp only));refine zJ ?hg (N:=11) ?hd (cs:=#[.int .u64 0,.int .u64 0]) (t:=30) ?hr ?_;(case hd=>rfl);(case hg=>rfl);(case hr=>first|(go_simp;done)|(go_simp;rfl));intro gb112 hg w27 hbox hb;have n0_:=z2.mk (Kd.zO (Kd.z1R (by (with_reducible repeat (first|apply Kd.ze|apply Kd.zf|apply Kd.zo));exact HO_8.out) gb112 (Nat.le_of_eq hg.symm)) hb);have n1_:=z2.mk (Kd.zO (Kd.z1R (by (with_reducible repeat (first|apply Kd.ze|apply Kd.zf|apply Kd.zo));exact HO_9.out) gb112 (Nat.le_of_eq hg.symm)) hb);have n2_:=z2.mk (Kd.zO (Kd.z1R (by (with_reducible repeat (first|apply Kd.ze|apply Kd.zf|apply Kd.zo));exact HO_31.out) gb112 (Nat.le_of_eq hg.symm)) hb);have n3_:=z2.mk (za (by repeat (first|(with_reducible first|exact HB.out|apply z4|apply z1|apply z3)|exact HB.out)) hb);have n4_:=z2.mk (hbox);have n5_:=z2.mk ((by rw [hg];exact (zb (by repeat (first|(with_reducible first|exact HB.out|apply z4|apply z1|apply z3)|exact HB.out))) : w.heap.size ≤ gb112));have n6_:=z2.mk ((by rw [hg];exact (zb (by repeat (first|(with_reducible first|exact HB.out|apply z4|apply z1|apply z3)|exact HB.out))) : w.heap.size ≤ gb112));clear HO_8;clear HO_9;clear HO_31;clear HB;have HO_8:=n0_;have HO_9:=n1_;have HO_31:=n2_;have HB:=n3_;have BK112:=n4_;have GW112:=n5_;have GE112:=n6_;clear n0_ n1_ n2_ n3_ n4_ n5_ n6_;clear hb hbox hg;have hcz28_0 : w27.cell? ⟨gb112,0,none⟩ = some (.int .u64 0):=(zc BK112.out 0).trans rfl;have hcz28_1 : w27.cell? ⟨gb112,1,none⟩ = some (.int .u64 0):=(zc BK112.out 1).trans rfl;have hfz28_0:=zd BK112.out 0;have hfz28_1:=zd BK112.out 1))
     have n0_ : z2 (Kd.R k30 30 ((w27.setCell ⟨gb112,0,none⟩ (.int .u64 ((zi t101 x33_2).f0))).setCell ⟨gb112,1,none⟩ (.int .u64 ((zi t101 x33_2).f1))) w.heap.size (fun k_=>some k_ ≠ (v109 : Value).ownBlock ∧ some k_ ≠ (.slice (some ad111) t101.length co20 : Value).ownBlock ∧ k_ ≠ gb112) v105 t104):=⟨by (with_reducible repeat (first|apply Kd.ze|apply Kd.zf|apply Kd.zo));exact Kd.zY (Kd.z22 (p:=⟨gb112,1,none⟩) (Kd.z22 (p:=⟨gb112,0,none⟩) (Kd.zY HO_8.out (fun k_ hk=>(⟨hk,hk.2⟩ : _ ∧ k_ ≠ gb112))) (fun _ hk=>hk.2) (.int .u64 ((zi t101 x33_2).f0))) (fun _ hk=>hk.2) (.int .u64 ((zi t101 x33_2).f1))) (fun _ hk=>⟨hk.1.1.1,⟨hk.1.1.2,hk.1.2⟩⟩)⟩
     have n1_ : z2 (Kd.R k30 30 ((w27.setCell ⟨gb112,0,none⟩ (.int .u64 ((zi t101 x33_2).f0))).setCell ⟨gb112,1,none⟩ (.int .u64 ((zi t101 x33_2).f1))) w.heap.size (fun k_=>some k_ ≠ (v105 : Value).ownBlock ∧ some k_ ≠ (.slice (some ad111) t101.length co20 : Value).ownBlock ∧ k_ ≠ gb112) v109 x9_2):=⟨by (with_reducible repeat (first|apply Kd.ze|apply Kd.zf|apply Kd.zo));exact Kd.zY (Kd.z22 (p:=⟨gb112,1,none⟩) (Kd.z22 (p:=⟨gb112,0,none⟩) (Kd.zY HO_9.out (fun k_ hk=>(⟨hk,hk.2⟩ : _ ∧ k_ ≠ gb112))) (fun _ hk=>hk.2) (.int .u64 ((zi t101 x33_2).f0))) (fun _ hk=>hk.2) (.int .u64 ((zi t101 x33_2).f1))) (fun _ hk=>⟨hk.1.1.1,⟨hk.1.1.2,hk.1.2⟩⟩)⟩
     have n2_ : z2 (Kd.R k30 30 ((w27.setCell ⟨gb112,0,none⟩ (.int .u64 ((zi t101 x33_2).f0))).setCell ⟨gb112,1,none⟩ (.int .u64 ((zi t101 x33_2).f1))) w.heap.size (fun k_=>some k_ ≠ (v105 : Value).ownBlock ∧ some k_ ≠ (v109 : Value).ownBlock ∧ k_ ≠ gb112) (.slice (some ad111) t101.length co20) t101):=⟨by (with_reducible repeat (first|apply Kd.ze|apply Kd.zf|apply Kd.zo));exact Kd.zY (Kd.z22 (p:=⟨gb112,1,none⟩) (Kd.z22 (p:=⟨gb112,0,none⟩) (Kd.zY HO_31.out (fun k_ hk=>(⟨hk,hk.2⟩ : _ ∧ k_ ≠ gb112))) (fun _ hk=>hk.2) (.int .u64 ((zi t101 x33_2).f0))) (fun _ hk=>hk.2) (.int .u64 ((zi t101 x33_2).f1))) (fun _ hk=>⟨hk.1.1.1,⟨hk.1.1.2,hk.1.2⟩⟩)⟩
     have n3_ : z2 (((w27.setCell ⟨gb112,0,none⟩ (.int .u64 ((zi t101 x33_2).f0))).setCell ⟨gb112,1,none⟩ (.int .u64 ((zi t101 x33_2).f1))).heap[gb112]? = some (.cells #[.int .u64 ((zi t101 x33_2).f0),.int .u64 ((zi t101 x33_2).f1)] 30 (0,0))):=⟨by (with_reducible repeat (first|refine z6 ?_ _|refine z8 ?_|refine z5 ?_ _));refine z11 (cs:=#[.int .u64 ((zi t101 x33_2).f0),.int .u64 0]) ?_ 1 _ rfl;(with_reducible repeat (first|refine z6 ?_ _|refine z8 ?_|refine z5 ?_ _));refine z11 (cs:=#[.int .u64 0,.int .u64 0]) ?_ 0 _ rfl;(with_reducible repeat (first|refine z6 ?_ _|refine z8 ?_|refine z5 ?_ _));exact BK112.out⟩
     have n4_ : z2 (Below w.heap.size w ((w27.setCell ⟨gb112,0,none⟩ (.int .u64 ((zi t101 x33_2).f0))).setCell ⟨gb112,1,none⟩ (.int .u64 ((zi t101 x33_2).f1)))):=⟨by repeat (first|(with_reducible first|exact HB.out|apply z4|apply z1|apply z3|refine z9 ?_ GE112.out)|exact HB.out)⟩
     (try clear HO_8)
     (try clear HO_9)
     (try clear HO_31)
     (try clear BK112)
     (try clear HB)
     generalize ((w27.setCell ⟨gb112,0,none⟩ (.int .u64 ((zi t101 x33_2).f0))).setCell ⟨gb112,1,none⟩ (.int .u64 ((zi t101 x33_2).f1))) = w29 at n0_ n1_ n2_ n3_ n4_ ⊢
     have HO_8:=n0_
     have HO_9:=n1_
     have HO_31:=n2_
     have BK112:=n3_
     have HB:=n4_
     clear n0_ n1_ n2_ n3_ n4_
     have n0_:=z2.mk (Kd.zo HO_8.out)
     have n1_:=z2.mk (Kd.zo HO_9.out)
     have n2_:=z2.mk (Kd.zo HO_31.out)
     have n3_:=z2.mk (z8 BK112.out)
     have n4_:=z2.mk (z3 HB.out)
     clear HO_8
     clear HO_9
     clear HO_31
     clear BK112
     clear HB
     have HO_8:=n0_
     have HO_9:=n1_
     have HO_31:=n2_
     have BK112:=n3_
     have HB:=n4_
     clear n0_ n1_ n2_ n3_ n4_
     obtain ⟨Ao31,co31,eo31⟩:=Kd.z1d HO_8.out
     (first|subst eo31|(injection eo31 with f1_ f2_ f3_;have f4_:=f1_.symm;have f5_:=f3_.symm;clear f1_ f2_ f3_;subst f4_;subst f5_))
     have p116 : 0 ≤ (x33_2 : Int):=of_decide_eq_true (by first|(with_reducible assumption)|assumption)
     have q116 : x33_2 < (t104.length : Int):=of_decide_eq_true (by first|(with_reducible assumption)|assumption)
     obtain ⟨ad116,e116,hx116_0,hx116_1⟩:=z29 (Kd.zI HO_8.out).2.2 x33_2 p116 q116
     cases e116
     replace p116:=eq_true p116
     replace q116:=eq_true q116
     refine start_ (n:=10) (S:=fun w'=>w'.cell? ⟨gb112,0,none⟩ = some (.int .u64 ((zi t101 x33_2).f0)) ∧ w'.cell? ⟨gb112,1,none⟩ = some (.int .u64 ((zi t101 x33_2).f1)) ∧ w'.cell? (ad116.add ((x33_2).toNat * 2)) = some (.int .u64 ((zi t104 x33_2).f0)) ∧ w'.cell? ⟨(ad116.add ((x33_2).toNat * 2)).block,(ad116.add ((x33_2).toNat * 2)).off + 1,none⟩ = some (.int .u64 ((zi t104 x33_2).f1))) (ds:=[]) #[false,false,false,false,false,false,false,false,false,false] (by kernel_rfl) rfl rfl ⟨(zc BK112.out 0).trans rfl,(zc BK112.out 1).trans rfl,hx116_0,hx116_1⟩ (fun hHeld=>?_);refine z2d zF.tab8 zF.bits8 (fun HT_ HW_=>?_)
     generalize w29.drew = w30 at HO_8 HO_9 HO_31 BK112 HB hx116_0 hx116_1 hHeld ⊢
     refine pure_ (i:=0) (N:=some 38) (v:=?_) (a':=?_) #[true,false,false,false,false,false,false,false,false,false] rfl rfl (z1i HT_.out (by kernel_rfl)) (fun _ _ _ h=>h) (Or.inl ⟨by rfl,?_⟩) ?_ ?_
     rotate_left
     · intro w'
       go_simp
       with_reducible rfl
     rotate_left
     · simp only [Act.put,List.setIfInBounds_toArray,List.set_cons_zero,List.set_cons_succ,zZ,z14]
       rfl
     refine pure_ (i:=1) (N:=some 39) (v:=?_) (a':=?_) #[true,true,false,false,false,false,false,false,false,false] rfl rfl (z1i HT_.out (by kernel_rfl)) (fun _ _ _ h=>h) (Or.inl ⟨by rfl,?_⟩) ?_ ?_
     rotate_left
     · intro w'
       go_simp
       with_reducible rfl
     rotate_left
     · simp only [Act.put,List.setIfInBounds_toArray,List.set_cons_zero,List.set_cons_succ,zZ,z14]
       rfl
     refine pure_ (i:=2) (N:=some 40) (v:=?_) (a':=?_) #[true,true,true,false,false,false,false,false,false,false] rfl rfl (z1i HT_.out (by kernel_rfl)) (fun _ _ _ h=>h) (Or.inl ⟨by rfl,?_⟩) ?_ ?_
     rotate_left
     · intro w'
       go_simp
       with_reducible rfl
     rotate_left
     · simp only [Act.put,List.setIfInBounds_toArray,List.set_cons_zero,List.set_cons_succ,zZ,z14]
       rfl
     refine pure_ (i:=5) (N:=some 43) (v:=?_) (a':=?_) #[true,true,true,false,false,true,false,false,false,false] rfl rfl (z1i HT_.out (by kernel_rfl)) (fun _ _ _ h=>h) (Or.inl ⟨by rfl,?_⟩) ?_ ?_
     rotate_left
     · intro w'
       go_simp
       with_reducible rfl
     rotate_left
     · simp only [Act.put,List.setIfInBounds_toArray,List.set_cons_zero,List.set_cons_succ,zZ,z14]
       rfl
     refine pure_ (i:=6) (N:=some 44) (v:=?_) (a':=?_) #[true,true,true,false,false,true,true,false,false,false] rfl rfl (z1i HT_.out (by kernel_rfl)) (fun _ _ _ h=>h) (Or.inl ⟨by rfl,?_⟩) ?_ ?_
     rotate_left
     · intro w'
       go_simp
       with_reducible rfl
     rotate_left
     · simp only [Act.put,List.setIfInBounds_toArray,List.set_cons_zero,List.set_cons_succ,zZ,z14]
       rfl
     refine pure_ (i:=7) (N:=some 45) (v:=?_) (a':=?_) #[true,true,true,false,false,true,true,true,false,false] rfl rfl (z1i HT_.out (by kernel_rfl)) (fun _ _ _ h=>h) (Or.inl ⟨by rfl,?_⟩) ?_ ?_
     rotate_left
     · intro w'
       go_simp
       with_reducible rfl
     rotate_left
     · simp only [Act.put,List.setIfInBounds_toArray,List.set_cons_zero,List.set_cons_succ,zZ,z14]
       rfl
     refine take_ (i:=4) (N:=some 42) (v:=?_) (a':=?_) #[true,true,true,false,true,true,true,true,false,false] rfl rfl (z1F HT_.out HW_.out (by kernel_rfl)) (fun _ _ _ h=>h) (Or.inl ⟨by rfl,?_⟩) hHeld ?_ ?_
     rotate_left
     · rintro w' ⟨s0,s1,s2,s3⟩
       go_simp
       with_reducible rfl
     rotate_left
     · simp only [Act.put,List.setIfInBounds_toArray,List.set_cons_zero,List.set_cons_succ,zZ,z14]
       rfl
     refine take_ (i:=8) (N:=some 46) (v:=?_) (a':=?_) #[true,true,true,false,true,true,true,true,true,false] rfl rfl (z1F HT_.out HW_.out (by kernel_rfl)) (fun _ _ _ h=>h) (Or.inl ⟨by rfl,?_⟩) hHeld ?_ ?_
     rotate_left
     · rintro w' ⟨s0,s1,s2,s3⟩
       go_simp
       with_reducible rfl
     rotate_left
     · simp only [Act.put,List.setIfInBounds_toArray,List.set_cons_zero,List.set_cons_succ,zZ,z14]
       rfl
     refine one_ (i:=3) (N:=some 41) #[true,true,true,true,true,true,true,true,true,false] rfl rfl (z21 HT_.out (by kernel_rfl)) (by decide) (fun K hK=>?_)
     refine goes_ Try.func47 (by kernel_rfl) rfl #[.int .i64 a0] (by rfl) rfl rfl (by (try simp only [List.map_toArray,List.map_cons,List.map_nil]);first|done|rfl|(simp only [List.length_drop,List.length_take];rfl)) ?_
     with_reducible refine (z1k.calls k2 a0 t113 _ A24.out).mono ?_
     rintro e w32 ⟨v114,rfl,ho0,hb⟩
     have HS2_:=(hb.cell (World.block_lt_of_cell? _ _ (hHeld.2.2.1))).trans (hHeld.2.2.1)
     have HS3_:=(hb.cell (World.block_lt_of_cell? _ _ (hHeld.2.2.2))).trans (hHeld.2.2.2)
     refine ⟨_,rfl,?_⟩
     have n0_:=z2.mk (Kd.z1r (by (with_reducible repeat (first|apply Kd.ze|apply Kd.zf|apply Kd.zo));exact HO_8.out) (Kd.z1v ho0) hb)
     have n1_:=z2.mk (Kd.z1r (by (with_reducible repeat (first|apply Kd.ze|apply Kd.zf|apply Kd.zo));exact HO_9.out) (Kd.z1v ho0) hb)
     have n2_:=z2.mk (Kd.z1r (by (with_reducible repeat (first|apply Kd.ze|apply Kd.zf|apply Kd.zo));exact HO_31.out) (Kd.z1v ho0) hb)
     have n3_:=z2.mk (Kd.z1l (Kd.z4a (Kd.z1Q (Kd.z1Q (Kd.z1Q ho0 (Kd.R_lt (by (with_reducible repeat (first|apply Kd.ze|apply Kd.zf|apply Kd.zo));exact HO_8.out))) (Kd.R_lt (by (with_reducible repeat (first|apply Kd.ze|apply Kd.zf|apply Kd.zo));exact HO_9.out))) (Kd.R_lt (by (with_reducible repeat (first|apply Kd.ze|apply Kd.zf|apply Kd.zo));exact HO_31.out))) (g:=gb112) (o:=.cells #[.int .u64 ((zi t101 x33_2).f0),.int .u64 ((zi t101 x33_2).f1)] 30 (0,0)) (by (with_reducible repeat (first|refine z6 ?_ _|refine z8 ?_|refine z5 ?_ _));exact BK112.out)) (zb (by repeat (first|(with_reducible first|exact HB.out|apply z4|apply z1|apply z3|refine z9 ?_ GE112.out)|exact HB.out))))
     have n4_:=z2.mk (zg (g:=gb112) (o:=.cells #[.int .u64 ((zi t101 x33_2).f0),.int .u64 ((zi t101 x33_2).f1)] 30 (0,0)) (by (with_reducible repeat (first|refine z6 ?_ _|refine z8 ?_|refine z5 ?_ _));exact BK112.out) hb)
     have n5_:=z2.mk (za (by repeat (first|(with_reducible first|exact HB.out|apply z4|apply z1|apply z3|refine z9 ?_ GE112.out)|exact HB.out)) hb)
     clear HO_8
     clear HO_9
     clear HO_31
     clear BK112
     clear HB
     have HO_8:=n0_
     have HO_9:=n1_
     have HO_31:=n2_
     have HO115:=n3_
     have BK112:=n4_
     have HB:=n5_
     clear n0_ n1_ n2_ n3_ n4_ n5_
     (try clear hb)
     (try clear hb2)
     (try clear hk)
     (try clear hi)
     (try clear ho0)
     obtain ⟨Ao33,co33,eo33⟩:=Kd.z1d HO_9.out
     (first|subst eo33|(injection eo33 with f1_ f2_ f3_;have f4_:=f1_.symm;have f5_:=f3_.symm;clear f1_ f2_ f3_;subst f4_;subst f5_))
     obtain ⟨Ao34,co34,eo34⟩:=Kd.z1d HO115.out
     (first|subst eo34|(injection eo34 with f1_ f2_ f3_;have f4_:=f1_.symm;have f5_:=f3_.symm;clear f1_ f2_ f3_;subst f4_;subst f5_))
     refine hK.out _ _ ⟨(zc BK112.out 0).trans rfl,(zc BK112.out 1).trans rfl,HS2_,HS3_⟩ (fun hHeld=>?_)
     clear hK K
     refine norm_ (a':=?_) ?_ ?_
     rotate_left
     · show Act.put _ (some 41) _ = _
       simp only [Act.put,List.setIfInBounds_toArray,List.set_cons_zero,List.set_cons_succ,zZ,z14]
       rfl
     refine one_ (i:=9) (N:=some 47) #[true,true,true,true,true,true,true,true,true,true] rfl rfl (z21 HT_.out (by kernel_rfl)) (by decide) (fun K hK=>?_)
     refine goes_ Try.func93 (by kernel_rfl) rfl #[.int .i64 a0,.slice Ao33 x9_2.length co33,.slice Ao34 t113.length co34,.agg #[.int .u64 ((zi t101 x33_2).f0),.int .u64 ((zi t101 x33_2).f1)],.agg #[.int .u64 ((zi t104 x33_2).f0),.int .u64 ((zi t104 x33_2).f1)]] (by rfl) rfl rfl (by (try simp only [List.map_toArray,List.map_cons,List.map_nil]);first|done|rfl|(simp only [List.length_drop,List.length_take];rfl)) ?_
     with_reducible refine (zm.calls k2 a0 (fun k_=>some k_ = (.slice Ao33 x9_2.length co33 : Value).ownBlock) (.slice Ao33 x9_2.length co33) x9_2 _ _ t113 ((zi t101 x33_2).f0) ((zi t101 x33_2).f1) ((zi t104 x33_2).f0) ((zi t104 x33_2).f1) t117 w _ ?side1 ?side2 ?side3 ?side4 A26.out).mono ?_
     (case side1=>repeat (first|(with_reducible first|exact HB.out|apply z4|apply z1|apply z3|refine z9 ?_ GE112.out)|exact HB.out))
     (case side2=>exact Kd.z2i rfl HO_9.out)
     (case side3=>exact Kd.z4P (HO115.out) (fun k_ hk_ hs_=>(hk_.1.1.2) hs_))
     (case side4=>exact (Kd.zI HO115.out).2.1)
     rintro e w35 ⟨rfl,hy0,hb,hkp⟩
     have HS2_:=z5J (hHeld.2.2.1) hkp (by first|(rw [z3p];exact (fun hs_=>(((HO_8.out).1 _ rfl).1.1) hs_))|(show ¬ _;simp only [z3p];exact (fun hs_=>(((HO_8.out).1 _ rfl).1.1) hs_))|exact (fun hs_=>(((HO_8.out).1 _ rfl).1.1) hs_))
     have HS3_:=z5J (hHeld.2.2.2) hkp (by first|(rw [z3p];exact (fun hs_=>(((HO_8.out).1 _ rfl).1.1) hs_))|(show ¬ _;simp only [z3p];exact (fun hs_=>(((HO_8.out).1 _ rfl).1.1) hs_))|exact (fun hs_=>(((HO_8.out).1 _ rfl).1.1) hs_))
     refine ⟨_,rfl,?_⟩
     have n0_:=z2.mk (Kd.zY (ok':=fun k_=>some k_ ≠ (.slice Ao33 x9_2.length co33 : Value).ownBlock ∧ some k_ ≠ (.slice (some ad111) t101.length co20 : Value).ownBlock ∧ some k_ ≠ (.slice Ao34 t113.length co34 : Value).ownBlock ∧ k_ ≠ gb112) (Kd.z5b (HO_8.out) hkp (fun k_ hk_ hs_=>(hk_.1.1) hs_)) (fun k_ hk_=>⟨hk_.1.1.1,hk_.1.1.2.1,hk_.1.2,hk_.1.1.2.2⟩))
     have n1_:=z2.mk (Kd.z7d rfl hy0 (fun k_ e_=>HO_9.out.1 k_ e_))
     have n2_:=z2.mk (Kd.zY (ok':=fun k_=>some k_ ≠ (.slice (some ad116) t104.length co31 : Value).ownBlock ∧ some k_ ≠ (.slice Ao33 x9_2.length co33 : Value).ownBlock ∧ some k_ ≠ (.slice Ao34 t113.length co34 : Value).ownBlock ∧ k_ ≠ gb112) (Kd.z5b (HO_31.out) hkp (fun k_ hk_ hs_=>(hk_.1.2.1) hs_)) (fun k_ hk_=>⟨hk_.1.1.1,hk_.1.1.2.1,hk_.1.2,hk_.1.1.2.2⟩))
     have n3_:=z2.mk (z6k (by (with_reducible repeat (first|refine z6 ?_ _|refine z8 ?_|refine z5 ?_ _));exact BK112.out) hkp (fun hs_=>(fun e_=>(Kd.z27 HO_9.out (fun _ hk=>hk.1.2.2)) e_) hs_))
     have n4_:=z2.mk (Kd.zY (ok':=fun k_=>some k_ ≠ (.slice (some ad116) t104.length co31 : Value).ownBlock ∧ some k_ ≠ (.slice Ao33 x9_2.length co33 : Value).ownBlock ∧ some k_ ≠ (.slice (some ad111) t101.length co20 : Value).ownBlock ∧ k_ ≠ gb112) (Kd.z5b (HO115.out) hkp (fun k_ hk_ hs_=>(hk_.1.1.2) hs_)) (fun k_ hk_=>⟨hk_.1.1.1.1.2,hk_.1.1.1.2,hk_.1.1.2,hk_.1.2⟩))
     have n5_:=z2.mk (hb)
     clear HO_8
     clear HO_9
     clear HO_31
     clear BK112
     clear HO115
     clear HB
     have HO_8:=n0_
     have HO_9:=n1_
     have HO_31:=n2_
     have BK112:=n3_
     have HO115:=n4_
     have HB:=n5_
     clear n0_ n1_ n2_ n3_ n4_ n5_
     (try clear hb)
     (try clear hkp)
     (try clear hy0)
     refine hK.out _ _ ⟨(zc BK112.out 0).trans rfl,(zc BK112.out 1).trans rfl,HS2_,HS3_⟩ (fun hHeld=>?_)
     clear hK K
     refine norm_ (a':=?_) ?_ ?_
     rotate_left
     · show Act.put _ (some 47) _ = _
       simp only [Act.put,List.setIfInBounds_toArray,List.set_cons_zero,List.set_cons_succ,zZ,z14]
       rfl
     refine done_ (z2A HT_.out (by kernel_rfl)) ?_
     try go_wp2
     go_roundg k2
     case measure=>have:=HJ5.out;have:=HK2.out;omega
     case rel=>exact ⟨(t117),(wrap64 (x33_2 + 1)),(by first|rfl|(simp;done)|(simp [*];done)),H',⟨by have:=HJ5.out;have:=HK2.out;omega⟩,⟨by (with_reducible repeat (first|apply Kd.ze|apply Kd.zf|apply Kd.zo));exact Kd.zY HO_8.out (fun _ hk=>⟨hk.1,hk.2.1⟩)⟩,⟨by (with_reducible repeat (first|apply Kd.ze|apply Kd.zf|apply Kd.zo));exact Kd.zY HO_9.out (fun _ hk=>⟨hk.1.1,hk.1.2.1⟩)⟩,⟨by (with_reducible repeat (first|apply Kd.ze|apply Kd.zf|apply Kd.zo));exact Kd.zY HO_31.out (fun _ hk=>⟨hk.1,hk.2.1⟩)⟩,⟨by repeat (first|(with_reducible first|exact HB.out|apply z4|apply z1|apply z3|refine z9 ?_ GE112.out)|exact HB.out)⟩⟩
end Go.Proofs.Ytkhmpaooinpfoaa.P

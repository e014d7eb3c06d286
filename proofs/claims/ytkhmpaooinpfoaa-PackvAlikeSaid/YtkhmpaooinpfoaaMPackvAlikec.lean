/- Own text: merged by wip/tools/pack.py out of what the law PackvAlike reaches. -/
import Derived.Test.YtkhmpaooinpfoaaMPackvAlikeb
namespace Go.Proofs.Ytkhmpaooinpfoaa.P
open Go.RowKit Go.Proofs.YtkhmpaooinpfoaaW.PrintWords Go.Proofs.YtkhmpaooinpfoaaW.PrintLast Go.Proofs.YtkhmpaooinpfoaaW.PrintMore
attribute [local go_sem] z15 z17 z1f z1g zW zX z16 z18   -- for this text's walks alone
set_option linter.unusedVariables false
set_option linter.unusedSimpArgs false
attribute [local go_sem high] eqA30
mutual
def zm.l0 : Nat → Int → List (S30) → List (S30) → Int → Int → Int → Int → Int → Int → Option ((List (S30)))
 | 0,_,_,_,_,_,_,_,_,_=>none
 | k + 1,x0,x1,x15,x16,x17,x102000,x102001,x103000,x103001=>if x17 < x16 then (if 0 ≤ x17 then (if x17 < (x15.length : Int) then ((zN.f k x0 ((zi x15 x17).f0) ((zi x15 x17).f1) x103000 x103001).bind fun bt105=>(if (bt105.1 == 0 && (bt105.2 == 0)) = true then (zm.l0 k x0 x1 x15 x16 (wrap64 (x17 + 1)) x102000 x102001 x103000 x103001) else ((z12.f k x17).bind fun bt108=>((zN.f k x0 bt108.1 bt108.2 x102000 x102001).bind fun bt110=>((zP.f k x0 bt110.1 bt110.2).bind fun t112=>(zm.l1 k x0 x1 x15 x16 x17 t112 (t112.length : Int) 0 x102000 x102001 x103000 x103001 bt105.1 bt105.2)))))) else (none)) else (none)) else (some x1)
def zm.l1 : Nat → Int → List (S30) → List (S30) → Int → Int → List Bool → Int → Int → Int → Int → Int → Int → Int → Int → Option ((List (S30)))
 | 0,_,_,_,_,_,_,_,_,_,_,_,_,_,_=>none
 | k + 1,x0,x1,x15,x16,x17,x35,x36,x37,x102000,x102001,x103000,x103001,x108000,x108001=>if x37 < x36 then (if 0 ≤ x37 then (if x37 < (x35.length : Int) then (if rdOf false x35 x37 = true then (if x37 < (x1.length : Int) then ((z1M.f ((zi x1 x37).f0) ((zi x1 x37).f1) x108000 x108001).bind fun bt117=>(zm.l1 k x0 (x1.set (x37 : Int).toNat (⟨bt117.1,bt117.2⟩ : S30)) x15 x16 x17 x35 x36 (wrap64 (x37 + 1)) x102000 x102001 x103000 x103001 x108000 x108001)) else (none)) else (zm.l1 k x0 x1 x15 x16 x17 x35 x36 (wrap64 (x37 + 1)) x102000 x102001 x103000 x103001 x108000 x108001)) else (none)) else (none)) else (zm.l0 k x0 x1 x15 x16 (wrap64 (x17 + 1)) x102000 x102001 x103000 x103001)
end
def zm.f (k : Nat) (a0 : Int) (l1 : List (S30)) (l2 : List (S30)) (a3_0 : Int) (a3_1 : Int) (a4_0 : Int) (a4_1 : Int) : Option ((List (S30))):=zm.l0 k a0 l1 l2 (l2.length : Int) 0 a3_0 a3_1 a4_0 a4_1
theorem zm.z1b : ∀ k,(∀ y0 y1 y2 y3 y4 y5 y6 y7 y8,LeO (zm.l0 k y0 y1 y2 y3 y4 y5 y6 y7 y8) (zm.l0 (k + 1) y0 y1 y2 y3 y4 y5 y6 y7 y8)) ∧ (∀ y0 y1 y2 y3 y4 y5 y6 y7 y8 y9 y10 y11 y12 y13,LeO (zm.l1 k y0 y1 y2 y3 y4 y5 y6 y7 y8 y9 y10 y11 y12 y13) (zm.l1 (k + 1) y0 y1 y2 y3 y4 y5 y6 y7 y8 y9 y10 y11 y12 y13))
 | 0=>⟨fun _ _ _ _ _ _ _ _ _ r h=>by simp [zm.l0] at h,fun _ _ _ _ _ _ _ _ _ _ _ _ _ _ r h=>by simp [zm.l1] at h⟩
 | k + 1=>by
  obtain ⟨ih0,ih1⟩:=zm.z1b k
  refine ⟨?_,?_⟩
  · intro y0 y1 y2 y3 y4 y5 y6 y7 y8
    unfold zm.l0
    repeat' first
    | (with_reducible exact ih0 _ _ _ _ _ _ _ _ _)
    | (with_reducible exact ih1 _ _ _ _ _ _ _ _ _ _ _ _ _ _)
    | (with_reducible exact z12.mono _ _)
    | (with_reducible exact zP.mono _ _ _ _)
    | (with_reducible exact zN.mono _ _ _ _ _ _)
    | (with_reducible exact LeO.refl _)
    | (with_reducible exact LeO.none _)
    | (with_reducible refine LeO.ite ?_ ?_)
    | (with_reducible refine LeO.bind ?_ (fun _=>?_))
    | exact ih0 _ _ _ _ _ _ _ _ _
    | exact ih1 _ _ _ _ _ _ _ _ _ _ _ _ _ _
    | exact z12.mono _ _
    | exact zP.mono _ _ _ _
    | exact zN.mono _ _ _ _ _ _
    | exact LeO.none _
    | refine LeO.ite ?_ ?_
    | refine LeO.bind ?_ (fun _=>?_)
  · intro y0 y1 y2 y3 y4 y5 y6 y7 y8 y9 y10 y11 y12 y13
    unfold zm.l1
    repeat' first
    | (with_reducible exact ih0 _ _ _ _ _ _ _ _ _)
    | (with_reducible exact ih1 _ _ _ _ _ _ _ _ _ _ _ _ _ _)
    | (with_reducible exact z12.mono _ _)
    | (with_reducible exact zP.mono _ _ _ _)
    | (with_reducible exact zN.mono _ _ _ _ _ _)
    | (with_reducible exact LeO.refl _)
    | (with_reducible exact LeO.none _)
    | (with_reducible refine LeO.ite ?_ ?_)
    | (with_reducible refine LeO.bind ?_ (fun _=>?_))
    | exact ih0 _ _ _ _ _ _ _ _ _
    | exact ih1 _ _ _ _ _ _ _ _ _ _ _ _ _ _
    | exact z12.mono _ _
    | exact zP.mono _ _ _ _
    | exact zN.mono _ _ _ _ _ _
    | exact LeO.none _
    | refine LeO.ite ?_ ?_
    | refine LeO.bind ?_ (fun _=>?_)
theorem zm.mono : ∀ a0 a1 a2 a3 a4 a5 a6 k,LeO (zm.f k a0 a1 a2 a3 a4 a5 a6) (zm.f (k + 1) a0 a1 a2 a3 a4 a5 a6):=by
 intro a0 a1 a2 a3 a4 a5 a6 k
 obtain ⟨ih0,ih1⟩:=zm.z1b k
 unfold zm.f
 repeat' first
  | (with_reducible exact ih0 _ _ _ _ _ _ _ _ _)
  | (with_reducible exact ih1 _ _ _ _ _ _ _ _ _ _ _ _ _ _)
  | (with_reducible exact z12.mono _ _)
  | (with_reducible exact zP.mono _ _ _ _)
  | (with_reducible exact zN.mono _ _ _ _ _ _)
  | (with_reducible exact LeO.refl _)
  | (with_reducible exact LeO.none _)
  | (with_reducible refine LeO.ite ?_ ?_)
  | (with_reducible refine LeO.bind ?_ (fun _=>?_))
  | exact ih0 _ _ _ _ _ _ _ _ _
  | exact ih1 _ _ _ _ _ _ _ _ _ _ _ _ _ _
  | exact z12.mono _ _
  | exact zP.mono _ _ _ _
  | exact zN.mono _ _ _ _ _ _
  | exact LeO.none _
  | refine LeO.ite ?_ ?_
  | refine LeO.bind ?_ (fun _=>?_)
def zm.T6 : Bool × List (List Nat × List Nat):=(true,[([],[]),([],[]),([],[]),([2],[2]),([],[]),([1,3,4,3],[1,3,4]),([0,5,5],[0,5]),([6],[6]),([],[])])
def zm.B6 : List Nat:=[0,0,0,4,0,30,63,127,0]
theorem zm.tab6 : rtab .any (opsOf Try.f93 6) = zm.T6:=by kernel_rfl
theorem zm.bits6 : waitsOk zm.T6.2 zm.B6 = true:=by kernel_rfl
def zm.T10 : Bool × List (List Nat × List Nat):=(true,[([],[]),([],[]),([],[]),([],[]),([2,3],[2,3]),([4],[4]),([],[]),([5,6],[5,6]),([0,1,0,1,2,3,4,5,6,7],[0,1]),([8,7,7,0,1,2,3,4,5,6,7],[7,8])])
def zm.B10 : List Nat:=[0,0,0,0,12,28,0,124,255,511]
theorem zm.tab10 : rtab .any (opsOf Try.f93 10) = zm.T10:=by kernel_rfl
theorem zm.bits10 : waitsOk zm.T10.2 zm.B10 = true:=by kernel_rfl
set_option maxHeartbeats 8000000 in
set_option maxRecDepth 100000 in
theorem zm.calls (k : Nat) (a0 : Int) (P1_ : Nat → Prop) (u9000_ : Value) (l1 : List (S30)) (A2 : Option Addr) (c2 : Nat) (l2 : List (S30)) (a3_0 : Int) (a3_1 : Int) (a4_0 : Int) (a4_1 : Int) (r : List (S30)) (w0 w : World) (hB : Below w0.heap.size w0 w) (ho1 : Kd.R k30 30 w w0.heap.size P1_ u9000_ l1) (hr2 : ∀ W_,Kept w W_ (fun k_=>P1_ k_) → Kd.C k30 W_ A2 l2.length l2) (hc2 : l2.length ≤ c2) (h : zm.f k a0 l1 l2 a3_0 a3_1 a4_0 a4_1 = some r) :
 Calls Try.prog 93 #[.int .i64 a0,u9000_,.slice A2 l2.length c2,.agg #[.int .u64 a3_0,.int .u64 a3_1],.agg #[.int .u64 a4_0,.int .u64 a4_1]] w fun e w'=>e = .returned (.tuple #[]) ∧ Kd.R k30 30 w' w0.heap.size (fun k_=>(P1_ k_ ∨ w.heap.size ≤ k_)) u9000_ r ∧ Below w0.heap.size w0 w' ∧ Kept w w' (fun k_=>P1_ k_):=by
 have hu30:=Try.underlying30
 have HO1:=z2.mk (show Kd.R k30 30 w w0.heap.size (fun k_=>(P1_ k_ ∨ w.heap.size ≤ k_)) u9000_ l1 from Kd.zY ho1 (fun k_ hk=>(.inl hk)))
 have HR2:=z2.mk hr2
 have HC2:=z2.mk hc2
 clear hr2 hc2
 have HK:=z2.mk (Kept.refl w (fun k_=>P1_ k_))
 have HW0:=z2.mk hB.size
 have HB:=z2.mk hB
 clear hB
 have H : (zm.l0 k a0 l1 l2 (l2.length : Int) 0 a3_0 a3_1 a4_0 a4_1) = some r:=h
 clear h
 have H':=z2.mk H
 clear H
 go_enter Try.func93,Try.ntmps93
 go_wp2_with (first|((with_reducible refine zK (N:=8) rfl ?_);refine zJ ?hg (N:=8) ?hd (cs:=#[.int .u64 a3_0,.int .u64 a3_1]) (t:=30) ?hr ?_;(case hd=>rfl);(case hg=>rfl);(case hr=>first|(go_simp;done)|(go_simp;rfl));intro gb101 hg w6 hbox hb;have n0_:=z2.mk (Kd.zO (Kd.z1R (by (with_reducible repeat (first|apply Kd.ze|apply Kd.zf|apply Kd.zo));exact HO1.out) gb101 (Nat.le_of_eq hg.symm)) hb);have n1_:=z2.mk (Kept.below (S:=(fun k_=>P1_ k_)) (by repeat (first|(with_reducible first|exact HK.out|apply Kept.alloc|apply Kept.drewN|apply Kept.drew)|exact HK.out)) hb);have n2_:=z2.mk (za (by repeat (first|(with_reducible first|exact HB.out|apply z4|apply z1|apply z3)|exact HB.out)) hb);have n3_:=z2.mk (hbox);have n4_:=z2.mk ((by rw [hg];exact (by first|exact HK.out.1|exact (show Kept w _ (fun k_=>P1_ k_) from by repeat (first|(with_reducible first|exact HK.out|apply Kept.alloc|apply Kept.drewN|apply Kept.drew)|exact HK.out)).1) : w.heap.size ≤ gb101));have n5_:=z2.mk ((by rw [hg];exact (zb (by repeat (first|(with_reducible first|exact HB.out|apply z4|apply z1|apply z3)|exact HB.out))) : w0.heap.size ≤ gb101));clear HO1;clear HK;clear HB;have HO1:=n0_;have HK:=n1_;have HB:=n2_;have BK101:=n3_;have GW101:=n4_;have GE101:=n5_;clear n0_ n1_ n2_ n3_ n4_ n5_;clear hb hbox hg)|((with_reducible refine zK (N:=9) rfl ?_);refine zJ ?hg (N:=9) ?hd (cs:=#[.int .u64 a4_0,.int .u64 a4_1]) (t:=30) ?hr ?_;(case hd=>rfl);(case hg=>rfl);(case hr=>first|(go_simp;done)|(go_simp;rfl));intro gb102 hg w7 hbox hb;have n0_:=z2.mk (Kd.zO (Kd.z1R (by (with_reducible repeat (first|apply Kd.ze|apply Kd.zf|apply Kd.zo));exact HO1.out) gb102 (Nat.le_of_eq hg.symm)) hb);have n1_:=z2.mk (zg (g:=gb101) (o:=.cells #[.int .u64 a3_0,.int .u64 a3_1] 30 (0,0)) (by (with_reducible repeat (first|refine z6 ?_ _|refine z8 ?_|refine z5 ?_ _));exact BK101.out) hb);have n2_:=z2.mk (Kept.below (S:=(fun k_=>P1_ k_)) (by repeat (first|(with_reducible first|exact HK.out|apply Kept.alloc|apply Kept.drewN|apply Kept.drew|refine Kept.setCell ?_ (.inr GW101.out) _)|exact HK.out)) hb);have n3_:=z2.mk (za (by repeat (first|(with_reducible first|exact HB.out|apply z4|apply z1|apply z3|refine z9 ?_ GE101.out)|exact HB.out)) hb);have n4_:=z2.mk (hbox);have n5_:=z2.mk ((by rw [hg];exact (by first|exact HK.out.1|exact (show Kept w _ (fun k_=>P1_ k_) from by repeat (first|(with_reducible first|exact HK.out|apply Kept.alloc|apply Kept.drewN|apply Kept.drew|refine Kept.setCell ?_ (.inr GW101.out) _)|exact HK.out)).1) : w.heap.size ≤ gb102));have n6_:=z2.mk ((by rw [hg];exact (zb (by repeat (first|(with_reducible first|exact HB.out|apply z4|apply z1|apply z3|refine z9 ?_ GE101.out)|exact HB.out))) : w0.heap.size ≤ gb102));have n7_:=z2.mk ((by rw [hg];exact Nat.ne_of_lt (zV (g:=gb101) (o:=.cells #[.int .u64 a3_0,.int .u64 a3_1] 30 (0,0)) (by (with_reducible repeat (first|refine z6 ?_ _|refine z8 ?_|refine z5 ?_ _));exact BK101.out)) : gb101 ≠ gb102));have n8_:=z2.mk ((by rw [hg];exact Nat.ne_of_gt (zV (g:=gb101) (o:=.cells #[.int .u64 a3_0,.int .u64 a3_1] 30 (0,0)) (by (with_reducible repeat (first|refine z6 ?_ _|refine z8 ?_|refine z5 ?_ _));exact BK101.out)) : gb102 ≠ gb101));clear HO1;clear BK101;clear HK;clear HB;have HO1:=n0_;have BK101:=n1_;have HK:=n2_;have HB:=n3_;have BK102:=n4_;have GW102:=n5_;have GE102:=n6_;have NB101_102:=n7_;have NB102_101:=n8_;clear n0_ n1_ n2_ n3_ n4_ n5_ n6_ n7_ n8_;clear hb hbox hg))
 go_loopg [17] k (fun kq v17 w'=>∃ (x1_1 : List (S30)) (x17_1 : Int) (x102000_1 : Int) (x102001_1 : Int) (x103000_1 : Int) (x103001_1 : Int),v17 = .int .i64 x17_1 ∧ z2 (zm.l0 kq a0 x1_1 l2 (l2.length : Int) x17_1 x102000_1 x102001_1 x103000_1 x103001_1 = some r) ∧ z2 (kq ≤ k) ∧ z2 (Kd.R k30 30 w' w0.heap.size (fun k_=>(P1_ k_ ∨ w.heap.size ≤ k_) ∧ k_ ≠ gb101 ∧ k_ ≠ gb102) u9000_ x1_1) ∧ z2 (w'.heap[gb101]? = some (.cells #[.int .u64 x102000_1,.int .u64 x102001_1] 30 (0,0))) ∧ z2 (w'.heap[gb102]? = some (.cells #[.int .u64 x103000_1,.int .u64 x103001_1] 30 (0,0))) ∧ z2 (Kept w w' (fun k_=>P1_ k_)) ∧ z2 (Below w0.heap.size w0 w'))
 case atStart=>exact ⟨(l1),(0),(a3_0),(a3_1),(a4_0),(a4_1),(by first|rfl|(simp;done)|(simp [*];done)),H',⟨Nat.le_refl _⟩,⟨by (with_reducible repeat (first|apply Kd.ze|apply Kd.zf|apply Kd.zo));exact Kd.zY HO1.out (fun _ hk=>⟨hk.1.1,⟨hk.1.2,hk.2⟩⟩)⟩,⟨by (with_reducible repeat (first|refine z6 ?_ _|refine z8 ?_|refine z5 ?_ _));exact BK101.out⟩,⟨by (with_reducible repeat (first|refine z6 ?_ _|refine z8 ?_|refine z5 ?_ _));exact BK102.out⟩,⟨by repeat (first|(with_reducible first|exact HK.out|apply Kept.alloc|apply Kept.drewN|apply Kept.drew|refine Kept.setCell ?_ (.inr GW101.out) _|refine Kept.setCell ?_ (.inr GW102.out) _)|exact HK.out)⟩,⟨by repeat (first|(with_reducible first|exact HB.out|apply z4|apply z1|apply z3|refine z9 ?_ GE101.out|refine z9 ?_ GE102.out)|exact HB.out)⟩⟩
 case round =>
  clear H'
  (try clear c2);(try clear p2)
  obtain ⟨x1_1,x17_1,x102000_1,x102001_1,x103000_1,x103001_1,rfl,HA,HK1,HO_1,BK101,BK102,HK,HB⟩:=hrel
  cases gk with
  | zero=>exact absurd HA.out (by simp [zm.l0])
  | succ k1 =>
   have H:=HA.out
   clear HA
   simp only [zm.l0] at H
   by_cases c8 : x17_1 < (l2.length : Int)
   rotate_left
   · rw [if_neg c8] at H
     have c8b0 : decide (x17_1 < (l2.length : Int)) = false:=decide_eq_false c8
     clear c8
     obtain rfl:=Option.some.inj H
     go_wp2
     first|go_end0|((try simp only [Exit.inBlock,Exit.then]);refine bodyPost_ret (results_none rfl _ _ _) rfl ?_)
     exact ⟨by first|rfl|(simp [zk,zl] <;> rfl)|(simp [*,zk,zl] <;> rfl),by (with_reducible repeat (first|apply Kd.ze|apply Kd.zf|apply Kd.zo));exact Kd.zY HO_1.out (fun _ hk=>hk.1),by repeat (first|(with_reducible first|exact HB.out|apply z4|apply z1|apply z3|refine z9 ?_ GE101.out|refine z9 ?_ GE102.out)|exact HB.out),by repeat (first|(with_reducible first|exact HK.out|apply Kept.alloc|apply Kept.drewN|apply Kept.drew|refine Kept.setCell ?_ (.inr GW101.out) _|refine Kept.setCell ?_ (.inr GW102.out) _)|exact HK.out)⟩
   rw [if_pos c8] at H
   have c8b0 : decide (x17_1 < (l2.length : Int)) = true:=decide_eq_true c8
   clear c8
   by_cases c9 : 0 ≤ x17_1
   rotate_left
   · rw [if_neg c9] at H
     exact absurd H (by simp)
   rw [if_pos c9] at H
   have c9b0 : decide (0 ≤ x17_1) = true:=decide_eq_true c9
   clear c9
   by_cases c10 : x17_1 < (l2.length : Int)
   rotate_left
   · rw [if_neg c10] at H
     exact absurd H (by simp)
   rw [if_pos c10] at H
   have c10b0 : decide (x17_1 < (l2.length : Int)) = true:=decide_eq_true c10
   clear c10
   replace H:=Option.bind_eq_some_iff.mp H
   obtain ⟨⟨t105,t106⟩,A110,H⟩:=H
   replace H : (if (t105 == 0 && (t106 == 0)) = true then (zm.l0 k1 a0 x1_1 l2 (l2.length : Int) (wrap64 (x17_1 + 1)) x102000_1 x102001_1 x103000_1 x103001_1) else ((z12.f k1 x17_1).bind fun bt108=>((zN.f k1 a0 bt108.1 bt108.2 x102000_1 x102001_1).bind fun bt110=>((zP.f k1 a0 bt110.1 bt110.2).bind fun t112=>(zm.l1 k1 a0 x1_1 l2 (l2.length : Int) x17_1 t112 (t112.length : Int) 0 x102000_1 x102001_1 x103000_1 x103001_1 t105 t106))))) = some r:=H
   have A11:=z2.mk A110
   clear A110
   by_cases c12 : (t105 == 0 && (t106 == 0)) = true
   · rw [if_pos c12] at H
     have c12b0 : (t105 == 0 && (t106 == 0)) = true:=c12
     (try (have c12b1 : decide (t105 = 0 && (t106 == 0)) = true:=by simpa using c12))
     (try (have c12b2 : (t105 == 0 && (t106 == 0)) = true:=by simpa using c12))
     clear c12
     have H':=z2.mk H
     clear H
     have p103 : 0 ≤ (x17_1 : Int):=of_decide_eq_true (by first|(with_reducible assumption)|assumption)
     have q103 : x17_1 < (l2.length : Int):=of_decide_eq_true (by first|(with_reducible assumption)|assumption)
     obtain ⟨ad103,e103,hx103_0,hx103_1⟩:=z29 (Kd.z4O HR2.out HK.out) x17_1 p103 q103
     cases e103
     replace p103:=eq_true p103
     replace q103:=eq_true q103
     go_wp2_with (first|((with_reducible refine zK (N:=11) rfl ?_);refine zJ ?hg (N:=11) ?hd (cs:=#[.int .u64 0,.int .u64 0]) (t:=30) ?hr ?_;(case hd=>rfl);(case hg=>rfl);(case hr=>first|(go_simp;done)|(go_simp;rfl));intro gb104 hg w13 hbox hb;have n0_:=z2.mk (Kd.zO (Kd.z1R (by (with_reducible repeat (first|apply Kd.ze|apply Kd.zf|apply Kd.zo));exact HO_1.out) gb104 (Nat.le_of_eq hg.symm)) hb);have n1_:=z2.mk (zg (g:=gb101) (o:=.cells #[.int .u64 x102000_1,.int .u64 x102001_1] 30 (0,0)) (by (with_reducible repeat (first|refine z6 ?_ _|refine z8 ?_|refine z5 ?_ _));exact BK101.out) hb);have n2_:=z2.mk (zg (g:=gb102) (o:=.cells #[.int .u64 x103000_1,.int .u64 x103001_1] 30 (0,0)) (by (with_reducible repeat (first|refine z6 ?_ _|refine z8 ?_|refine z5 ?_ _));exact BK102.out) hb);have n3_:=z2.mk (Kept.below (S:=(fun k_=>P1_ k_)) (by repeat (first|(with_reducible first|exact HK.out|apply Kept.alloc|apply Kept.drewN|apply Kept.drew|refine Kept.setCell ?_ (.inr GW101.out) _|refine Kept.setCell ?_ (.inr GW102.out) _)|exact HK.out)) hb);have n4_:=z2.mk (za (by repeat (first|(with_reducible first|exact HB.out|apply z4|apply z1|apply z3|refine z9 ?_ GE101.out|refine z9 ?_ GE102.out)|exact HB.out)) hb);have n5_:=z2.mk (hbox);have n6_:=z2.mk ((by rw [hg];exact (by first|exact HK.out.1|exact (show Kept w _ (fun k_=>P1_ k_) from by repeat (first|(with_reducible first|exact HK.out|apply Kept.alloc|apply Kept.drewN|apply Kept.drew|refine Kept.setCell ?_ (.inr GW101.out) _|refine Kept.setCell ?_ (.inr GW102.out) _)|exact HK.out)).1) : w.heap.size ≤ gb104));have n7_:=z2.mk ((by rw [hg];exact (zb (by repeat (first|(with_reducible first|exact HB.out|apply z4|apply z1|apply z3|refine z9 ?_ GE101.out|refine z9 ?_ GE102.out)|exact HB.out))) : w0.heap.size ≤ gb104));have n8_:=z2.mk ((by rw [hg];exact Nat.ne_of_lt (zV (g:=gb101) (o:=.cells #[.int .u64 x102000_1,.int .u64 x102001_1] 30 (0,0)) (by (with_reducible repeat (first|refine z6 ?_ _|refine z8 ?_|refine z5 ?_ _));exact BK101.out)) : gb101 ≠ gb104));have n9_:=z2.mk ((by rw [hg];exact Nat.ne_of_gt (zV (g:=gb101) (o:=.cells #[.int .u64 x102000_1,.int .u64 x102001_1] 30 (0,0)) (by (with_reducible repeat (first|refine z6 ?_ _|refine z8 ?_|refine z5 ?_ _));exact BK101.out)) : gb104 ≠ gb101));have n10_:=z2.mk ((by rw [hg];exact Nat.ne_of_lt (zV (g:=gb102) (o:=.cells #[.int .u64 x103000_1,.int .u64 x103001_1] 30 (0,0)) (by (with_reducible repeat (first|refine z6 ?_ _|refine z8 ?_|refine z5 ?_ _));exact BK102.out)) : gb102 ≠ gb104));have n11_:=z2.mk ((by rw [hg];exact Nat.ne_of_gt (zV (g:=gb102) (o:=.cells #[.int .u64 x103000_1,.int .u64 x103001_1] 30 (0,0)) (by (with_reducible repeat (first|refine z6 ?_ _|refine z8 ?_|refine z5 ?_ _));exact BK102.out)) : gb104 ≠ gb102));clear HO_1;clear BK101;clear BK102;clear HK;clear HB;have HO_1:=n0_;have BK101:=n1_;have BK102:=n2_;have HK:=n3_;have HB:=n4_;have BK104:=n5_;have GW104:=n6_;have GE104:=n7_;have NB101_104:=n8_;have NB104_101:=n9_;have NB102_104:=n10_;have NB104_102:=n11_;clear n0_ n1_ n2_ n3_ n4_ n5_ n6_ n7_ n8_ n9_ n10_ n11_;clear hb hbox hg;have hnb14:=NB104_101.out;have hnc14:=NB101_104.out;have hnb15:=NB104_102.out;have hnc15:=NB102_104.out;have hcz16_0 : w13.cell? ⟨gb104,0,none⟩ = some (.int .u64 0):=(zc BK104.out 0).trans rfl;have hcz16_1 : w13.cell? ⟨gb104,1,none⟩ = some (.int .u64 0):=(zc BK104.out 1).trans rfl;have hfz16_0:=zd BK104.out 0;have hfz16_1:=zd BK104.out 1;have hnb17:=NB102_101.out;have hnc17:=NB101_102.out;have hcz18_0 : w13.cell? ⟨gb102,0,none⟩ = some (.int .u64 x103000_1):=(zc BK102.out 0).trans rfl;have hcz18_1 : w13.cell? ⟨gb102,1,none⟩ = some (.int .u64 x103001_1):=(zc BK102.out 1).trans rfl;have hfz18_0:=zd BK102.out 0;have hfz18_1:=zd BK102.out 1)|((with_reducible refine zj (f:=78) rfl ?_);refine goesL_ (some 25) rfl rfl Try.func78 (by kernel_rfl) rfl #[.int .i64 a0,.agg #[.int .u64 ((zi l2 x17_1).f0),.int .u64 ((zi l2 x17_1).f1)],.agg #[.int .u64 x103000_1,.int .u64 x103001_1]] rfl (by (try simp only [List.map_toArray,List.map_cons,List.map_nil]);first|done|rfl|(simp only [List.length_drop,List.length_take];rfl)) ?_;(with_reducible refine (zN.calls k1 a0 ((zi l2 x17_1).f0) ((zi l2 x17_1).f1) x103000_1 x103001_1 t105 t106 _ A11.out).mono ?_);rintro e w19 ⟨rfl,hb⟩;refine ⟨_,rfl,?_⟩;have n0_:=z2.mk (Kd.zO (by (with_reducible repeat (first|apply Kd.ze|apply Kd.zf|apply Kd.zo));exact (Kd.zY (Kd.z22 (p:=⟨gb104,1,none⟩) (Kd.z22 (p:=⟨gb104,0,none⟩) (Kd.zY HO_1.out (fun k_ hk=>(⟨hk,hk.2⟩ : _ ∧ k_ ≠ gb104))) (fun _ hk=>hk.2) (.int .u64 ((zi l2 x17_1).f0))) (fun _ hk=>hk.2) (.int .u64 ((zi l2 x17_1).f1))) (fun _ h_=>h_.1))) hb);have n1_:=z2.mk (zg (g:=gb101) (o:=.cells #[.int .u64 x102000_1,.int .u64 x102001_1] 30 (0,0)) (by (with_reducible repeat (first|refine z6 ?_ _|refine z8 ?_|refine z5 ?_ _));refine z13 ?_ NB101_104.out _;(with_reducible repeat (first|refine z6 ?_ _|refine z8 ?_|refine z5 ?_ _));refine z13 ?_ NB101_104.out _;(with_reducible repeat (first|refine z6 ?_ _|refine z8 ?_|refine z5 ?_ _));exact BK101.out) hb);have n2_:=z2.mk (zg (g:=gb102) (o:=.cells #[.int .u64 x103000_1,.int .u64 x103001_1] 30 (0,0)) (by (with_reducible repeat (first|refine z6 ?_ _|refine z8 ?_|refine z5 ?_ _));refine z13 ?_ NB102_104.out _;(with_reducible repeat (first|refine z6 ?_ _|refine z8 ?_|refine z5 ?_ _));refine z13 ?_ NB102_104.out _;(with_reducible repeat (first|refine z6 ?_ _|refine z8 ?_|refine z5 ?_ _));exact BK102.out) hb);have n3_:=z2.mk (zg (g:=gb104) (o:=.cells #[.int .u64 ((zi l2 x17_1).f0),.int .u64 ((zi l2 x17_1).f1)] 30 (0,0)) (by (with_reducible repeat (first|refine z6 ?_ _|refine z8 ?_|refine z5 ?_ _));refine z11 (cs:=#[.int .u64 ((zi l2 x17_1).f0),.int .u64 0]) ?_ 1 _ rfl;(with_reducible repeat (first|refine z6 ?_ _|refine z8 ?_|refine z5 ?_ _));refine z11 (cs:=#[.int .u64 0,.int .u64 0]) ?_ 0 _ rfl;(with_reducible repeat (first|refine z6 ?_ _|refine z8 ?_|refine z5 ?_ _));exact BK104.out) hb);have n4_:=z2.mk (Kept.below (S:=(fun k_=>P1_ k_)) (by repeat (first|(with_reducible first|exact HK.out|apply Kept.alloc|apply Kept.drewN|apply Kept.drew|refine Kept.setCell ?_ (.inr GW101.out) _|refine Kept.setCell ?_ (.inr GW102.out) _|refine Kept.setCell ?_ (.inr GW104.out) _)|exact HK.out)) hb);have n5_:=z2.mk (za (by repeat (first|(with_reducible first|exact HB.out|apply z4|apply z1|apply z3|refine z9 ?_ GE101.out|refine z9 ?_ GE102.out|refine z9 ?_ GE104.out)|exact HB.out)) hb);clear HO_1;clear BK101;clear BK102;clear BK104;clear HK;clear HB;have HO_1:=n0_;have BK101:=n1_;have BK102:=n2_;have BK104:=n3_;have HK:=n4_;have HB:=n5_;clear n0_ n1_ n2_ n3_ n4_ n5_;(try clear hb);(try clear hb2);(try clear hk);(try clear hi))|((with_reducible refine zK (N:=12) rfl ?_);refine zJ ?hg (N:=12) ?hd (cs:=#[.int .u64 0,.int .u64 0]) (t:=30) ?hr ?_;(case hd=>rfl);(case hg=>rfl);(case hr=>first|(go_simp;done)|(go_simp;rfl));intro gb107 hg w20 hbox hb;have n0_:=z2.mk (Kd.zO (Kd.z1R (by (with_reducible repeat (first|apply Kd.ze|apply Kd.zf|apply Kd.zo));exact HO_1.out) gb107 (Nat.le_of_eq hg.symm)) hb);have n1_:=z2.mk (zg (g:=gb101) (o:=.cells #[.int .u64 x102000_1,.int .u64 x102001_1] 30 (0,0)) (by (with_reducible repeat (first|refine z6 ?_ _|refine z8 ?_|refine z5 ?_ _));exact BK101.out) hb);have n2_:=z2.mk (zg (g:=gb102) (o:=.cells #[.int .u64 x103000_1,.int .u64 x103001_1] 30 (0,0)) (by (with_reducible repeat (first|refine z6 ?_ _|refine z8 ?_|refine z5 ?_ _));exact BK102.out) hb);have n3_:=z2.mk (zg (g:=gb104) (o:=.cells #[.int .u64 ((zi l2 x17_1).f0),.int .u64 ((zi l2 x17_1).f1)] 30 (0,0)) (by (with_reducible repeat (first|refine z6 ?_ _|refine z8 ?_|refine z5 ?_ _));exact BK104.out) hb);have n4_:=z2.mk (Kept.below (S:=(fun k_=>P1_ k_)) (by repeat (first|(with_reducible first|exact HK.out|apply Kept.alloc|apply Kept.drewN|apply Kept.drew|refine Kept.setCell ?_ (.inr GW101.out) _|refine Kept.setCell ?_ (.inr GW102.out) _|refine Kept.setCell ?_ (.inr GW104.out) _)|exact HK.out)) hb);have n5_:=z2.mk (za (by repeat (first|(with_reducible first|exact HB.out|apply z4|apply z1|apply z3|refine z9 ?_ GE101.out|refine z9 ?_ GE102.out|refine z9 ?_ GE104.out)|exact HB.out)) hb);have n6_:=z2.mk (hbox);have n7_:=z2.mk ((by rw [hg];exact (by first|exact HK.out.1|exact (show Kept w _ (fun k_=>P1_ k_) from by repeat (first|(with_reducible first|exact HK.out|apply Kept.alloc|apply Kept.drewN|apply Kept.drew|refine Kept.setCell ?_ (.inr GW101.out) _|refine Kept.setCell ?_ (.inr GW102.out) _|refine Kept.setCell ?_ (.inr GW104.out) _)|exact HK.out)).1) : w.heap.size ≤ gb107));have n8_:=z2.mk ((by rw [hg];exact (zb (by repeat (first|(with_reducible first|exact HB.out|apply z4|apply z1|apply z3|refine z9 ?_ GE101.out|refine z9 ?_ GE102.out|refine z9 ?_ GE104.out)|exact HB.out))) : w0.heap.size ≤ gb107));have n9_:=z2.mk ((by rw [hg];exact Nat.ne_of_lt (zV (g:=gb101) (o:=.cells #[.int .u64 x102000_1,.int .u64 x102001_1] 30 (0,0)) (by (with_reducible repeat (first|refine z6 ?_ _|refine z8 ?_|refine z5 ?_ _));exact BK101.out)) : gb101 ≠ gb107));have n10_:=z2.mk ((by rw [hg];exact Nat.ne_of_gt (zV (g:=gb101) (o:=.cells #[.int .u64 x102000_1,.int .u64 x102001_1] 30 (0,0)) (by (with_reducible repeat (first|refine z6 ?_ _|refine z8 ?_|refine z5 ?_ _));exact BK101.out)) : gb107 ≠ gb101));have n11_:=z2.mk ((by rw [hg];exact Nat.ne_of_lt (zV (g:=gb102) (o:=.cells #[.int .u64 x103000_1,.int .u64 x103001_1] 30 (0,0)) (by (with_reducible repeat (first|refine z6 ?_ _|refine z8 ?_|refine z5 ?_ _));exact BK102.out)) : gb102 ≠ gb107));have n12_:=z2.mk ((by rw [hg];exact Nat.ne_of_gt (zV (g:=gb102) (o:=.cells #[.int .u64 x103000_1,.int .u64 x103001_1] 30 (0,0)) (by (with_reducible repeat (first|refine z6 ?_ _|refine z8 ?_|refine z5 ?_ _));exact BK102.out)) : gb107 ≠ gb102));have n13_:=z2.mk ((by rw [hg];exact Nat.ne_of_lt (zV (g:=gb104) (o:=.cells #[.int .u64 ((zi l2 x17_1).f0),.int .u64 ((zi l2 x17_1).f1)] 30 (0,0)) (by (with_reducible repeat (first|refine z6 ?_ _|refine z8 ?_|refine z5 ?_ _));exact BK104.out)) : gb104 ≠ gb107));have n14_:=z2.mk ((by rw [hg];exact Nat.ne_of_gt (zV (g:=gb104) (o:=.cells #[.int .u64 ((zi l2 x17_1).f0),.int .u64 ((zi l2 x17_1).f1)] 30 (0,0)) (by (with_reducible repeat (first|refine z6 ?_ _|refine z8 ?_|refine z5 ?_ _));exact BK104.out)) : gb107 ≠ gb104));clear HO_1;clear BK101;clear BK102;clear BK104;clear HK;clear HB;have HO_1:=n0_;have BK101:=n1_;have BK102:=n2_;have BK104:=n3_;have HK:=n4_;have HB:=n5_;have BK107:=n6_;have GW107:=n7_;have GE107:=n8_;have NB101_107:=n9_;have NB107_101:=n10_;have NB102_107:=n11_;have NB107_102:=n12_;have NB104_107:=n13_;have NB107_104:=n14_;clear n0_ n1_ n2_ n3_ n4_ n5_ n6_ n7_ n8_ n9_ n10_ n11_ n12_ n13_ n14_;clear hb hbox hg;have hnb21:=NB107_101.out;have hnc21:=NB101_107.out;have hnb22:=NB107_102.out;have hnc22:=NB102_107.out;have hnb23:=NB107_104.out;have hnc23:=NB104_107.out;have hcz24_0 : w20.cell? ⟨gb107,0,none⟩ = some (.int .u64 0):=(zc BK107.out 0).trans rfl;have hcz24_1 : w20.cell? ⟨gb107,1,none⟩ = some (.int .u64 0):=(zc BK107.out 1).trans rfl;have hfz24_0:=zd BK107.out 0;have hfz24_1:=zd BK107.out 1))
     go_roundg k1
     case measure=>have:=HK1.out;omega
     case rel=>exact ⟨(x1_1),(wrap64 (x17_1 + 1)),(x102000_1),(x102001_1),(x103000_1),(x103001_1),(by first|rfl|(simp;done)|(simp [*];done)),H',⟨by have:=HK1.out;omega⟩,⟨by (with_reducible repeat (first|apply Kd.ze|apply Kd.zf|apply Kd.zo));exact Kd.zY (Kd.z22 (p:=⟨gb107,1,none⟩) (Kd.z22 (p:=⟨gb107,0,none⟩) (Kd.zY HO_1.out (fun k_ hk=>(⟨hk,hk.2⟩ : _ ∧ k_ ≠ gb107))) (fun _ hk=>hk.2) (.int .u64 t105)) (fun _ hk=>hk.2) (.int .u64 t106)) (fun _ hk=>⟨hk.1.1.1.1,⟨hk.1.1.1.2.1,hk.1.1.1.2.2⟩⟩)⟩,⟨by (with_reducible repeat (first|refine z6 ?_ _|refine z8 ?_|refine z5 ?_ _));refine z13 ?_ NB101_107.out _;(with_reducible repeat (first|refine z6 ?_ _|refine z8 ?_|refine z5 ?_ _));refine z13 ?_ NB101_107.out _;(with_reducible repeat (first|refine z6 ?_ _|refine z8 ?_|refine z5 ?_ _));exact BK101.out⟩,⟨by (with_reducible repeat (first|refine z6 ?_ _|refine z8 ?_|refine z5 ?_ _));refine z13 ?_ NB102_107.out _;(with_reducible repeat (first|refine z6 ?_ _|refine z8 ?_|refine z5 ?_ _));refine z13 ?_ NB102_107.out _;(with_reducible repeat (first|refine z6 ?_ _|refine z8 ?_|refine z5 ?_ _));exact BK102.out⟩,⟨by repeat (first|(with_reducible first|exact HK.out|apply Kept.alloc|apply Kept.drewN|apply Kept.drew|refine Kept.setCell ?_ (.inr GW101.out) _|refine Kept.setCell ?_ (.inr GW102.out) _|refine Kept.setCell ?_ (.inr GW104.out) _|refine Kept.setCell ?_ (.inr GW107.out) _)|exact HK.out)⟩,⟨by repeat (first|(with_reducible first|exact HB.out|apply z4|apply z1|apply z3|refine z9 ?_ GE101.out|refine z9 ?_ GE102.out|refine z9 ?_ GE104.out|refine z9 ?_ GE107.out)|exact HB.out)⟩⟩
   rw [if_neg c12] at H
   have c12b0 : (t105 == 0 && (t106 == 0)) = false:=by simpa using c12
   (try (have c12b1 : decide (t105 = 0 && (t106 == 0)) = false:=by simpa using c12))
   (try (have c12b2 : (t105 == 0 && (t106 == 0)) = false:=by simpa using c12))
   (try (have c12b3 : ¬ (t105 = 0 && (t106 == 0)):=by simpa using c12))
   clear c12
   replace H:=Option.bind_eq_some_iff.mp H
   obtain ⟨⟨t108,t109⟩,A250,H⟩:=H
   replace H : ((zN.f k1 a0 t108 t109 x102000_1 x102001_1).bind fun bt110=>((zP.f k1 a0 bt110.1 bt110.2).bind fun t112=>(zm.l1 k1 a0 x1_1 l2 (l2.length : Int) x17_1 t112 (t112.length : Int) 0 x102000_1 x102001_1 x103000_1 x103001_1 t105 t106))) = some r:=H
   have A25:=z2.mk A250
   clear A250
   replace H:=Option.bind_eq_some_iff.mp H
   obtain ⟨⟨t110,t111⟩,A260,H⟩:=H
   replace H : ((zP.f k1 a0 t110 t111).bind fun t112=>(zm.l1 k1 a0 x1_1 l2 (l2.length : Int) x17_1 t112 (t112.length : Int) 0 x102000_1 x102001_1 x103000_1 x103001_1 t105 t106)) = some r:=H
   have A26:=z2.mk A260
   clear A260
   replace H:=Option.bind_eq_some_iff.mp H
   obtain ⟨t112,A270,H⟩:=H
   replace H : (zm.l1 k1 a0 x1_1 l2 (l2.length : Int) x17_1 t112 (t112.length : Int) 0 x102000_1 x102001_1 x103000_1 x103001_1 t105 t106) = some r:=H
   have A27:=z2.mk A270
   clear A270
   have H':=z2.mk H
   clear H
   have p103 : 0 ≤ (x17_1 : Int):=of_decide_eq_true (by first|(with_reducible assumption)|assumption)
   have q103 : x17_1 < (l2.length : Int):=of_decide_eq_true (by first|(with_reducible assumption)|assumption)
   obtain ⟨ad103,e103,hx103_0,hx103_1⟩:=z29 (Kd.z4O HR2.out HK.out) x17_1 p103 q103
   cases e103
   replace p103:=eq_true p103
   replace q103:=eq_true q103
   try go_wp2_with (first|((with_reducible refine zK (N:=11) rfl ?_);refine zJ ?hg (N:=11) ?hd (cs:=#[.int .u64 0,.int .u64 0]) (t:=30) ?hr ?_;(case hd=>rfl);(case hg=>rfl);(case hr=>first|(go_simp;done)|(go_simp;rfl));intro gb104 hg w28 hbox hb;have n0_:=z2.mk (Kd.zO (Kd.z1R (by (with_reducible repeat (first|apply Kd.ze|apply Kd.zf|apply Kd.zo));exact HO_1.out) gb104 (Nat.le_of_eq hg.symm)) hb);have n1_:=z2.mk (zg (g:=gb101) (o:=.cells #[.int .u64 x102000_1,.int .u64 x102001_1] 30 (0,0)) (by (with_reducible repeat (first|refine z6 ?_ _|refine z8 ?_|refine z5 ?_ _));exact BK101.out) hb);have n2_:=z2.mk (zg (g:=gb102) (o:=.cells #[.int .u64 x103000_1,.int .u64 x103001_1] 30 (0,0)) (by (with_reducible repeat (first|refine z6 ?_ _|refine z8 ?_|refine z5 ?_ _));exact BK102.out) hb);have n3_:=z2.mk (Kept.below (S:=(fun k_=>P1_ k_)) (by repeat (first|(with_reducible first|exact HK.out|apply Kept.alloc|apply Kept.drewN|apply Kept.drew|refine Kept.setCell ?_ (.inr GW101.out) _|refine Kept.setCell ?_ (.inr GW102.out) _)|exact HK.out)) hb);have n4_:=z2.mk (za (by repeat (first|(with_reducible first|exact HB.out|apply z4|apply z1|apply z3|refine z9 ?_ GE101.out|refine z9 ?_ GE102.out)|exact HB.out)) hb);have n5_:=z2.mk (hbox);have n6_:=z2.mk ((by rw [hg];exact (by first|exact HK.out.1|exact (show Kept w _ (fun k_=>P1_ k_) from by repeat (first|(with_reducible first|exact HK.out|apply Kept.alloc|apply Kept.drewN|apply Kept.drew|refine Kept.setCell ?_ (.inr GW101.out) _|refine Kept.setCell ?_ (.inr GW102.out) _)|exact HK.out)).1) : w.heap.size ≤ gb104));have n7_:=z2.mk ((by rw [hg];exact (zb (by repeat (first|(with_reducible first|exact HB.out|apply z4|apply z1|apply z3|refine z9 ?_ GE101.out|refine z9 ?_ GE102.out)|exact HB.out))) : w0.heap.size ≤ gb104));have n8_:=z2.mk ((by rw [hg];exact Nat.ne_of_lt (zV (g:=gb101) (o:=.cells #[.int .u64 x102000_1,.int .u64 x102001_1] 30 (0,0)) (by (with_reducible repeat (first|refine z6 ?_ _|refine z8 ?_|refine z5 ?_ _));exact BK101.out)) : gb101 ≠ gb104));have n9_:=z2.mk ((by rw [hg];exact Nat.ne_of_gt (zV (g:=gb101) (o:=.cells #[.int .u64 x102000_1,.int .u64 x102001_1] 30 (0,0)) (by (with_reducible repeat (first|refine z6 ?_ _|refine z8 ?_|refine z5 ?_ _));exact BK101.out)) : gb104 ≠ gb101));have n10_:=z2.mk ((by rw [hg];exact Nat.ne_of_lt (zV (g:=gb102) (o:=.cells #[.int .u64 x103000_1,.int .u64 x103001_1] 30 (0,0)) (by (with_reducible repeat (first|refine z6 ?_ _|refine z8 ?_|refine z5 ?_ _));exact BK102.out)) : gb102 ≠ gb104));have n11_:=z2.mk ((by rw [hg];exact Nat.ne_of_gt (zV (g:=gb102) (o:=.cells #[.int .u64 x103000_1,.int .u64 x103001_1] 30 (0,0)) (by (with_reducible repeat (first|refine z6 ?_ _|refine z8 ?_|refine z5 ?_ _));exact BK102.out)) : gb104 ≠ gb102));clear HO_1;clear BK101;clear BK102;clear HK;clear HB;have HO_1:=n0_;have BK101:=n1_;have BK102:=n2_;have HK:=n3_;have HB:=n4_;have BK104:=n5_;have GW104:=n6_;have GE104:=n7_;have NB101_104:=n8_;have NB104_101:=n9_;have NB102_104:=n10_;have NB104_102:=n11_;clear n0_ n1_ n2_ n3_ n4_ n5_ n6_ n7_ n8_ n9_ n10_ n11_;clear hb hbox hg;have hnb29:=NB104_101.out;have hnc29:=NB101_104.out;have hnb30:=NB104_102.out;have hnc30:=NB102_104.out;have hcz31_0 : w28.cell? ⟨gb104,0,none⟩ = some (.int .u64 0):=(zc BK104.out 0).trans rfl;have hcz31_1 : w28.cell? ⟨gb104,1,none⟩ = some (.int .u64 0):=(zc BK104.out 1).trans rfl;have hfz31_0:=zd BK104.out 0;have hfz31_1:=zd BK104.out 1;have hnb32:=NB102_101.out;have hnc32:=NB101_102.out;have hcz33_0 : w28.cell? ⟨gb102,0,none⟩ = some (.int .u64 x103000_1):=(zc BK102.out 0).trans rfl;have hcz33_1 : w28.cell? ⟨gb102,1,none⟩ = some (.int .u64 x103001_1):=(zc BK102.out 1).trans rfl;have hfz33_0:=zd BK102.out 0;have hfz33_1:=zd BK102.out 1)|((with_reducible refine zj (f:=78) rfl ?_);refine goesL_ (some 25) rfl rfl Try.func78 (by kernel_rfl) rfl #[.int .i64 a0,.agg #[.int .u64 ((zi l2 x17_1).f0),.int .u64 ((zi l2 x17_1).f1)],.agg #[.int .u64 x103000_1,.int .u64 x103001_1]] rfl (by (try simp only [List.map_toArray,List.map_cons,List.map_nil]);first|done|rfl|(simp only [List.length_drop,List.length_take];rfl)) ?_;(with_reducible refine (zN.calls k1 a0 ((zi l2 x17_1).f0) ((zi l2 x17_1).f1) x103000_1 x103001_1 t105 t106 _ A11.out).mono ?_);rintro e w34 ⟨rfl,hb⟩;refine ⟨_,rfl,?_⟩;have n0_:=z2.mk (Kd.zO (by (with_reducible repeat (first|apply Kd.ze|apply Kd.zf|apply Kd.zo));exact (Kd.zY (Kd.z22 (p:=⟨gb104,1,none⟩) (Kd.z22 (p:=⟨gb104,0,none⟩) (Kd.zY HO_1.out (fun k_ hk=>(⟨hk,hk.2⟩ : _ ∧ k_ ≠ gb104))) (fun _ hk=>hk.2) (.int .u64 ((zi l2 x17_1).f0))) (fun _ hk=>hk.2) (.int .u64 ((zi l2 x17_1).f1))) (fun _ h_=>h_.1))) hb);have n1_:=z2.mk (zg (g:=gb101) (o:=.cells #[.int .u64 x102000_1,.int .u64 x102001_1] 30 (0,0)) (by (with_reducible repeat (first|refine z6 ?_ _|refine z8 ?_|refine z5 ?_ _));refine z13 ?_ NB101_104.out _;(with_reducible repeat (first|refine z6 ?_ _|refine z8 ?_|refine z5 ?_ _));refine z13 ?_ NB101_104.out _;(with_reducible repeat (first|refine z6 ?_ _|refine z8 ?_|refine z5 ?_ _));exact BK101.out) hb);have n2_:=z2.mk (zg (g:=gb102) (o:=.cells #[.int .u64 x103000_1,.int .u64 x103001_1] 30 (0,0)) (by (with_reducible repeat (first|refine z6 ?_ _|refine z8 ?_|refine z5 ?_ _));refine z13 ?_ NB102_104.out _;(with_reducible repeat (first|refine z6 ?_ _|refine z8 ?_|refine z5 ?_ _));refine z13 ?_ NB102_104.out _;(with_reducible repeat (first|refine z6 ?_ _|refine z8 ?_|refine z5 ?_ _));exact BK102.out) hb);have n3_:=z2.mk (zg (g:=gb104) (o:=.cells #[.int .u64 ((zi l2 x17_1).f0),.int .u64 ((zi l2 x17_1).f1)] 30 (0,0)) (by (with_reducible repeat (first|refine z6 ?_ _|refine z8 ?_|refine z5 ?_ _));refine z11 (cs:=#[.int .u64 ((zi l2 x17_1).f0),.int .u64 0]) ?_ 1 _ rfl;(with_reducible repeat (first|refine z6 ?_ _|refine z8 ?_|refine z5 ?_ _));refine z11 (cs:=#[.int .u64 0,.int .u64 0]) ?_ 0 _ rfl;(with_reducible repeat (first|refine z6 ?_ _|refine z8 ?_|refine z5 ?_ _));exact BK104.out) hb);have n4_:=z2.mk (Kept.below (S:=(fun k_=>P1_ k_)) (by repeat (first|(with_reducible first|exact HK.out|apply Kept.alloc|apply Kept.drewN|apply Kept.drew|refine Kept.setCell ?_ (.inr GW101.out) _|refine Kept.setCell ?_ (.inr GW102.out) _|refine Kept.setCell ?_ (.inr GW104.out) _)|exact HK.out)) hb);have n5_:=z2.mk (za (by repeat (first|(with_reducible first|exact HB.out|apply z4|apply z1|apply z3|refine z9 ?_ GE101.out|refine z9 ?_ GE102.out|refine z9 ?_ GE104.out)|exact HB.out)) hb);clear HO_1;clear BK101;clear BK102;clear BK104;clear HK;clear HB;have HO_1:=n0_;have BK101:=n1_;have BK102:=n2_;have BK104:=n3_;have HK:=n4_;have HB:=n5_;clear n0_ n1_ n2_ n3_ n4_ n5_;(try clear hb);(try clear hb2);(try clear hk);(try clear hi))|((with_reducible refine zK (N:=12) rfl ?_);refine zJ ?hg (N:=12) ?hd (cs:=#[.int .u64 0,.int .u64 0]) (t:=30) ?hr ?_;(case hd=>rfl);(case hg=>rfl);(case hr=>first|(go_simp;done)|(go_simp;rfl));intro gb107 hg w35 hbox hb;have n0_:=z2.mk (Kd.zO (Kd.z1R (by (with_reducible repeat (first|apply Kd.ze|apply Kd.zf|apply Kd.zo));exact HO_1.out) gb107 (Nat.le_of_eq hg.symm)) hb);have n1_:=z2.mk (zg (g:=gb101) (o:=.cells #[.int .u64 x102000_1,.int .u64 x102001_1] 30 (0,0)) (by (with_reducible repeat (first|refine z6 ?_ _|refine z8 ?_|refine z5 ?_ _));exact BK101.out) hb);have n2_:=z2.mk (zg (g:=gb102) (o:=.cells #[.int .u64 x103000_1,.int .u64 x103001_1] 30 (0,0)) (by (with_reducible repeat (first|refine z6 ?_ _|refine z8 ?_|refine z5 ?_ _));exact BK102.out) hb);have n3_:=z2.mk (zg (g:=gb104) (o:=.cells #[.int .u64 ((zi l2 x17_1).f0),.int .u64 ((zi l2 x17_1).f1)] 30 (0,0)) (by (with_reducible repeat (first|refine z6 ?_ _|refine z8 ?_|refine z5 ?_ _));exact BK104.out) hb);have n4_:=z2.mk (Kept.below (S:=(fun k_=>P1_ k_)) (by repeat (first|(with_reducible first|exact HK.out|apply Kept.alloc|apply Kept.drewN|apply Kept.drew|refine Kept.setCell ?_ (.inr GW101.out) _|refine Kept.setCell ?_ (.inr GW102.out) _|refine Kept.setCell ?_ (.inr GW104.out) _)|exact HK.out)) hb);have n5_:=z2.mk (za (by repeat (first|(with_reducible first|exact HB.out|apply z4|apply z1|apply z3|refine z9 ?_ GE101.out|refine z9 ?_ GE102.out|refine z9 ?_ GE104.out)|exact HB.out)) hb);have n6_:=z2.mk (hbox);have n7_:=z2.mk ((by rw [hg];exact (by first|exact HK.out.1|exact (show Kept w _ (fun k_=>P1_ k_) from by repeat (first|(with_reducible first|exact HK.out|apply Kept.alloc|apply Kept.drewN|apply Kept.drew|refine Kept.setCell ?_ (.inr GW101.out) _|refine Kept.setCell ?_ (.inr GW102.out) _|refine Kept.setCell ?_ (.inr GW104.out) _)|exact HK.out)).1) : w.heap.size ≤ gb107));have n8_:=z2.mk ((by rw [hg];exact (zb (by repeat (first|(with_reducible first|exact HB.out|apply z4|apply z1|apply z3|refine z9 ?_ GE101.out|refine z9 ?_ GE102.out|refine z9 ?_ GE104.out)|exact HB.out))) : w0.heap.size ≤ gb107));have n9_:=z2.mk ((by rw [hg];exact Nat.ne_of_lt (zV (g:=gb101) (o:=.cells #[.int .u64 x102000_1,.int .u64 x102001_1] 30 (0,0)) (by (with_reducible repeat (first|refine z6 ?_ _|refine z8 ?_|refine z5 ?_ _));exact BK101.out)) : gb101 ≠ gb107));have n10_:=z2.mk ((by rw [hg];exact Nat.ne_of_gt (zV (g:=gb101) (o:=.cells #[.int .u64 x102000_1,.int .u64 x102001_1] 30 (0,0)) (by (with_reducible repeat (first|refine z6 ?_ _|refine z8 ?_|refine z5 ?_ _));exact BK101.out)) : gb107 ≠ gb101));have n11_:=z2.mk ((by rw [hg];exact Nat.ne_of_lt (zV (g:=gb102) (o:=.cells #[.int .u64 x103000_1,.int .u64 x103001_1] 30 (0,0)) (by (with_reducible repeat (first|refine z6 ?_ _|refine z8 ?_|refine z5 ?_ _));exact BK102.out)) : gb102 ≠ gb107));have n12_:=z2.mk ((by rw [hg];exact Nat.ne_of_gt (zV (g:=gb102) (o:=.cells #[.int .u64 x103000_1,.int .u64 x103001_1] 30 (0,0)) (by (with_reducible repeat (first|refine z6 ?_ _|refine z8 ?_|refine z5 ?_ _));exact BK102.out)) : gb107 ≠ gb102));have n13_:=z2.mk ((by rw [hg];exact Nat.ne_of_lt (zV (g:=gb104) (o:=.cells #[.int .u64 ((zi l2 x17_1).f0),.int .u64 ((zi l2 x17_1).f1)] 30 (0,0)) (by (with_reducible repeat (first|refine z6 ?_ _|refine z8 ?_|refine z5 ?_ _));exact BK104.out)) : gb104 ≠ gb107));have n14_:=z2.mk ((by rw [hg];exact Nat.ne_of_gt (zV (g:=gb104) (o:=.cells #[.int .u64 ((zi l2 x17_1).f0),.int .u64 ((zi l2 x17_1).f1)] 30 (0,0)) (by (with_reducible repeat (first|refine z6 ?_ _|refine z8 ?_|refine z5 ?_ _));exact BK104.out)) : gb107 ≠ gb104));clear HO_1;clear BK101;clear BK102;clear BK104;clear HK;clear HB;have HO_1:=n0_;have BK101:=n1_;have BK102:=n2_;have BK104:=n3_;have HK:=n4_;have HB:=n5_;have BK107:=n6_;have GW107:=n7_;have GE107:=n8_;have NB101_107:=n9_;have NB107_101:=n10_;have NB102_107:=n11_;have NB107_102:=n12_;have NB104_107:=n13_;have NB107_104:=n14_;clear n0_ n1_ n2_ n3_ n4_ n5_ n6_ n7_ n8_ n9_ n10_ n11_ n12_ n13_ n14_;clear hb hbox hg;have hnb36:=NB107_101.out;have hnc36:=NB101_107.out;have hnb37:=NB107_102.out;have hnc37:=NB102_107.out;have hnb38:=NB107_104.out;have hnc38:=NB104_107.out;have hcz39_0 : w35.cell? ⟨gb107,0,none⟩ = some (.int .u64 0):=(zc BK107.out 0).trans rfl;have hcz39_1 : w35.cell? ⟨gb107,1,none⟩ = some (.int .u64 0):=(zc BK107.out 1).trans rfl;have hfz39_0:=zd BK107.out 0;have hfz39_1:=zd BK107.out 1))
   have n0_ : z2 (Kd.R k30 30 ((w35.setCell ⟨gb107,0,none⟩ (.int .u64 t105)).setCell ⟨gb107,1,none⟩ (.int .u64 t106)) w0.heap.size (fun k_=>(P1_ k_ ∨ w.heap.size ≤ k_) ∧ k_ ≠ gb101 ∧ k_ ≠ gb102 ∧ k_ ≠ gb104 ∧ k_ ≠ gb107) u9000_ x1_1):=⟨by (with_reducible repeat (first|apply Kd.ze|apply Kd.zf|apply Kd.zo));exact Kd.zY (Kd.z22 (p:=⟨gb107,1,none⟩) (Kd.z22 (p:=⟨gb107,0,none⟩) (Kd.zY HO_1.out (fun k_ hk=>(⟨hk,hk.2⟩ : _ ∧ k_ ≠ gb107))) (fun _ hk=>hk.2) (.int .u64 t105)) (fun _ hk=>hk.2) (.int .u64 t106)) (fun _ hk=>⟨hk.1.1.1.1,⟨hk.1.1.1.2.1,⟨hk.1.1.1.2.2,⟨hk.1.1.2,hk.1.2⟩⟩⟩⟩)⟩
   have n1_ : z2 (((w35.setCell ⟨gb107,0,none⟩ (.int .u64 t105)).setCell ⟨gb107,1,none⟩ (.int .u64 t106)).heap[gb101]? = some (.cells #[.int .u64 x102000_1,.int .u64 x102001_1] 30 (0,0))):=⟨by (with_reducible repeat (first|refine z6 ?_ _|refine z8 ?_|refine z5 ?_ _));refine z13 ?_ NB101_107.out _;(with_reducible repeat (first|refine z6 ?_ _|refine z8 ?_|refine z5 ?_ _));refine z13 ?_ NB101_107.out _;(with_reducible repeat (first|refine z6 ?_ _|refine z8 ?_|refine z5 ?_ _));exact BK101.out⟩
   have n2_ : z2 (((w35.setCell ⟨gb107,0,none⟩ (.int .u64 t105)).setCell ⟨gb107,1,none⟩ (.int .u64 t106)).heap[gb102]? = some (.cells #[.int .u64 x103000_1,.int .u64 x103001_1] 30 (0,0))):=⟨by (with_reducible repeat (first|refine z6 ?_ _|refine z8 ?_|refine z5 ?_ _));refine z13 ?_ NB102_107.out _;(with_reducible repeat (first|refine z6 ?_ _|refine z8 ?_|refine z5 ?_ _));refine z13 ?_ NB102_107.out _;(with_reducible repeat (first|refine z6 ?_ _|refine z8 ?_|refine z5 ?_ _));exact BK102.out⟩
   have n3_ : z2 (((w35.setCell ⟨gb107,0,none⟩ (.int .u64 t105)).setCell ⟨gb107,1,none⟩ (.int .u64 t106)).heap[gb104]? = some (.cells #[.int .u64 ((zi l2 x17_1).f0),.int .u64 ((zi l2 x17_1).f1)] 30 (0,0))):=⟨by (with_reducible repeat (first|refine z6 ?_ _|refine z8 ?_|refine z5 ?_ _));refine z13 ?_ NB104_107.out _;(with_reducible repeat (first|refine z6 ?_ _|refine z8 ?_|refine z5 ?_ _));refine z13 ?_ NB104_107.out _;(with_reducible repeat (first|refine z6 ?_ _|refine z8 ?_|refine z5 ?_ _));exact BK104.out⟩
   have n4_ : z2 (((w35.setCell ⟨gb107,0,none⟩ (.int .u64 t105)).setCell ⟨gb107,1,none⟩ (.int .u64 t106)).heap[gb107]? = some (.cells #[.int .u64 t105,.int .u64 t106] 30 (0,0))):=⟨by (with_reducible repeat (first|refine z6 ?_ _|refine z8 ?_|refine z5 ?_ _));refine z11 (cs:=#[.int .u64 t105,.int .u64 0]) ?_ 1 _ rfl;(with_reducible repeat (first|refine z6 ?_ _|refine z8 ?_|refine z5 ?_ _));refine z11 (cs:=#[.int .u64 0,.int .u64 0]) ?_ 0 _ rfl;(with_reducible repeat (first|refine z6 ?_ _|refine z8 ?_|refine z5 ?_ _));exact BK107.out⟩
   have n5_ : z2 (Kept w ((w35.setCell ⟨gb107,0,none⟩ (.int .u64 t105)).setCell ⟨gb107,1,none⟩ (.int .u64 t106)) (fun k_=>P1_ k_)):=⟨by repeat (first|(with_reducible first|exact HK.out|apply Kept.alloc|apply Kept.drewN|apply Kept.drew|refine Kept.setCell ?_ (.inr GW101.out) _|refine Kept.setCell ?_ (.inr GW102.out) _|refine Kept.setCell ?_ (.inr GW104.out) _|refine Kept.setCell ?_ (.inr GW107.out) _)|exact HK.out)⟩
   have n6_ : z2 (Below w0.heap.size w0 ((w35.setCell ⟨gb107,0,none⟩ (.int .u64 t105)).setCell ⟨gb107,1,none⟩ (.int .u64 t106))):=⟨by repeat (first|(with_reducible first|exact HB.out|apply z4|apply z1|apply z3|refine z9 ?_ GE101.out|refine z9 ?_ GE102.out|refine z9 ?_ GE104.out|refine z9 ?_ GE107.out)|exact HB.out)⟩
   (try clear HO_1)
   (try clear BK101)
   (try clear BK102)
   (try clear BK104)
   (try clear BK107)
   (try clear HK)
   (try clear HB)
   generalize ((w35.setCell ⟨gb107,0,none⟩ (.int .u64 t105)).setCell ⟨gb107,1,none⟩ (.int .u64 t106)) = w40 at n0_ n1_ n2_ n3_ n4_ n5_ n6_ ⊢
   have HO_1:=n0_
   have BK101:=n1_
   have BK102:=n2_
   have BK104:=n3_
   have BK107:=n4_
   have HK:=n5_
   have HB:=n6_
   clear n0_ n1_ n2_ n3_ n4_ n5_ n6_
   have n0_:=z2.mk (Kd.zo HO_1.out)
   have n1_:=z2.mk (z8 BK101.out)
   have n2_:=z2.mk (z8 BK102.out)
   have n3_:=z2.mk (z8 BK104.out)
   have n4_:=z2.mk (z8 BK107.out)
   have n5_:=z2.mk (Kept.drew HK.out)
   have n6_:=z2.mk (z3 HB.out)
   clear HO_1
   clear BK101
   clear BK102
   clear BK104
   clear BK107
   clear HK
   clear HB
   have HO_1:=n0_
   have BK101:=n1_
   have BK102:=n2_
   have BK104:=n3_
   have BK107:=n4_
   have HK:=n5_
   have HB:=n6_
   clear n0_ n1_ n2_ n3_ n4_ n5_ n6_
   refine start_ (n:=9) (S:=fun w'=>w'.cell? ⟨gb101,0,none⟩ = some (.int .u64 x102000_1) ∧ w'.cell? ⟨gb101,1,none⟩ = some (.int .u64 x102001_1)) (ds:=[]) #[false,false,false,false,false,false,false,false,false] (by kernel_rfl) rfl rfl ⟨(zc BK101.out 0).trans rfl,(zc BK101.out 1).trans rfl⟩ (fun hHeld=>?_);refine z2d zm.tab6 zm.bits6 (fun HT_ HW_=>?_)
   generalize w40.drew = w41 at HO_1 BK101 BK102 BK104 BK107 HK HB hHeld ⊢
   refine pure_ (i:=0) (N:=some 29) (v:=?_) (a':=?_) #[true,false,false,false,false,false,false,false,false] rfl rfl (z1i HT_.out (by kernel_rfl)) (fun _ _ _ h=>h) (Or.inl ⟨by rfl,?_⟩) ?_ ?_
   rotate_left
   · intro w'
     go_simp
     with_reducible rfl
   rotate_left
   · simp only [Act.put,List.setIfInBounds_toArray,List.set_cons_zero,List.set_cons_succ,zZ,z14]
     rfl
   refine pure_ (i:=1) (N:=some 30) (v:=?_) (a':=?_) #[true,true,false,false,false,false,false,false,false] rfl rfl (z1i HT_.out (by kernel_rfl)) (fun _ _ _ h=>h) (Or.inl ⟨by rfl,?_⟩) ?_ ?_
   rotate_left
   · intro w'
     go_simp
     with_reducible rfl
   rotate_left
   · simp only [Act.put,List.setIfInBounds_toArray,List.set_cons_zero,List.set_cons_succ,zZ,z14]
     rfl
   refine pure_ (i:=2) (N:=some 31) (v:=?_) (a':=?_) #[true,true,true,false,false,false,false,false,false] rfl rfl (z1i HT_.out (by kernel_rfl)) (fun _ _ _ h=>h) (Or.inl ⟨by rfl,?_⟩) ?_ ?_
   rotate_left
   · intro w'
     go_simp
     with_reducible rfl
   rotate_left
   · simp only [Act.put,List.setIfInBounds_toArray,List.set_cons_zero,List.set_cons_succ,zZ,z14]
     rfl
   refine pure_ (i:=8) (N:=some 37) (v:=?_) (a':=?_) #[true,true,true,false,false,false,false,false,true] rfl rfl (z1i HT_.out (by kernel_rfl)) (fun _ _ _ h=>h) (Or.inl ⟨by rfl,?_⟩) ?_ ?_
   rotate_left
   · intro w'
     go_simp
     with_reducible rfl
   rotate_left
   · simp only [Act.put,List.setIfInBounds_toArray,List.set_cons_zero,List.set_cons_succ,zZ,z14]
     rfl
   refine take_ (i:=4) (N:=some 33) (v:=?_) (a':=?_) #[true,true,true,false,true,false,false,false,true] rfl rfl (z1F HT_.out HW_.out (by kernel_rfl)) (fun _ _ _ h=>h) (Or.inl ⟨by rfl,?_⟩) hHeld ?_ ?_
   rotate_left
   · rintro w' ⟨s0,s1⟩
     go_simp
     with_reducible rfl
   rotate_left
   · simp only [Act.put,List.setIfInBounds_toArray,List.set_cons_zero,List.set_cons_succ,zZ,z14]
     rfl
   refine one_ (i:=3) (N:=some 32) #[true,true,true,true,true,false,false,false,true] rfl rfl (z21 HT_.out (by kernel_rfl)) (by decide) (fun K hK=>?_)
   refine goes_ Try.func94 (by kernel_rfl) rfl #[.int .i64 x17_1] (by rfl) rfl rfl (by (try simp only [List.map_toArray,List.map_cons,List.map_nil]);first|done|rfl|(simp only [List.length_drop,List.length_take];rfl)) ?_
   with_reducible refine (z12.calls k1 x17_1 t108 t109 _ A25.out).mono ?_
   rintro e w42 ⟨rfl,hb⟩
   refine ⟨_,rfl,?_⟩
   have n0_:=z2.mk (Kd.zO (by (with_reducible repeat (first|apply Kd.ze|apply Kd.zf|apply Kd.zo));exact HO_1.out) hb)
   have n1_:=z2.mk (zg (g:=gb101) (o:=.cells #[.int .u64 x102000_1,.int .u64 x102001_1] 30 (0,0)) (by (with_reducible repeat (first|refine z6 ?_ _|refine z8 ?_|refine z5 ?_ _));exact BK101.out) hb)
   have n2_:=z2.mk (zg (g:=gb102) (o:=.cells #[.int .u64 x103000_1,.int .u64 x103001_1] 30 (0,0)) (by (with_reducible repeat (first|refine z6 ?_ _|refine z8 ?_|refine z5 ?_ _));exact BK102.out) hb)
   have n3_:=z2.mk (zg (g:=gb104) (o:=.cells #[.int .u64 ((zi l2 x17_1).f0),.int .u64 ((zi l2 x17_1).f1)] 30 (0,0)) (by (with_reducible repeat (first|refine z6 ?_ _|refine z8 ?_|refine z5 ?_ _));exact BK104.out) hb)
   have n4_:=z2.mk (zg (g:=gb107) (o:=.cells #[.int .u64 t105,.int .u64 t106] 30 (0,0)) (by (with_reducible repeat (first|refine z6 ?_ _|refine z8 ?_|refine z5 ?_ _));exact BK107.out) hb)
   have n5_:=z2.mk (Kept.below (S:=(fun k_=>P1_ k_)) (by repeat (first|(with_reducible first|exact HK.out|apply Kept.alloc|apply Kept.drewN|apply Kept.drew|refine Kept.setCell ?_ (.inr GW101.out) _|refine Kept.setCell ?_ (.inr GW102.out) _|refine Kept.setCell ?_ (.inr GW104.out) _|refine Kept.setCell ?_ (.inr GW107.out) _)|exact HK.out)) hb)
   have n6_:=z2.mk (za (by repeat (first|(with_reducible first|exact HB.out|apply z4|apply z1|apply z3|refine z9 ?_ GE101.out|refine z9 ?_ GE102.out|refine z9 ?_ GE104.out|refine z9 ?_ GE107.out)|exact HB.out)) hb)
   clear HO_1
   clear BK101
   clear BK102
   clear BK104
   clear BK107
   clear HK
   clear HB
   have HO_1:=n0_
   have BK101:=n1_
   have BK102:=n2_
   have BK104:=n3_
   have BK107:=n4_
   have HK:=n5_
   have HB:=n6_
   clear n0_ n1_ n2_ n3_ n4_ n5_ n6_
   (try clear hb)
   (try clear hb2)
   (try clear hk)
   (try clear hi)
   refine hK.out _ _ ⟨(zc BK101.out 0).trans rfl,(zc BK101.out 1).trans rfl⟩ (fun hHeld=>?_)
   clear hK K
   refine norm_ (a':=?_) ?_ ?_
   rotate_left
   · show Act.put _ (some 32) _ = _
     simp only [Act.put,List.setIfInBounds_toArray,List.set_cons_zero,List.set_cons_succ,zZ,z14]
     rfl
   refine one_ (i:=5) (N:=some 34) #[true,true,true,true,true,true,false,false,true] rfl rfl (z21 HT_.out (by kernel_rfl)) (by decide) (fun K hK=>?_)
   refine goes_ Try.func78 (by kernel_rfl) rfl #[.int .i64 a0,.agg #[.int .u64 t108,.int .u64 t109],.agg #[.int .u64 x102000_1,.int .u64 x102001_1]] (by rfl) rfl rfl (by (try simp only [List.map_toArray,List.map_cons,List.map_nil]);first|done|rfl|(simp only [List.length_drop,List.length_take];rfl)) ?_
   with_reducible refine (zN.calls k1 a0 t108 t109 x102000_1 x102001_1 t110 t111 _ A26.out).mono ?_
   rintro e w43 ⟨rfl,hb⟩
   refine ⟨_,rfl,?_⟩
   have n0_:=z2.mk (Kd.zO (by (with_reducible repeat (first|apply Kd.ze|apply Kd.zf|apply Kd.zo));exact HO_1.out) hb)
   have n1_:=z2.mk (zg (g:=gb101) (o:=.cells #[.int .u64 x102000_1,.int .u64 x102001_1] 30 (0,0)) (by (with_reducible repeat (first|refine z6 ?_ _|refine z8 ?_|refine z5 ?_ _));exact BK101.out) hb)
   have n2_:=z2.mk (zg (g:=gb102) (o:=.cells #[.int .u64 x103000_1,.int .u64 x103001_1] 30 (0,0)) (by (with_reducible repeat (first|refine z6 ?_ _|refine z8 ?_|refine z5 ?_ _));exact BK102.out) hb)
   have n3_:=z2.mk (zg (g:=gb104) (o:=.cells #[.int .u64 ((zi l2 x17_1).f0),.int .u64 ((zi l2 x17_1).f1)] 30 (0,0)) (by (with_reducible repeat (first|refine z6 ?_ _|refine z8 ?_|refine z5 ?_ _));exact BK104.out) hb)
   have n4_:=z2.mk (zg (g:=gb107) (o:=.cells #[.int .u64 t105,.int .u64 t106] 30 (0,0)) (by (with_reducible repeat (first|refine z6 ?_ _|refine z8 ?_|refine z5 ?_ _));exact BK107.out) hb)
   have n5_:=z2.mk (Kept.below (S:=(fun k_=>P1_ k_)) (by repeat (first|(with_reducible first|exact HK.out|apply Kept.alloc|apply Kept.drewN|apply Kept.drew|refine Kept.setCell ?_ (.inr GW101.out) _|refine Kept.setCell ?_ (.inr GW102.out) _|refine Kept.setCell ?_ (.inr GW104.out) _|refine Kept.setCell ?_ (.inr GW107.out) _)|exact HK.out)) hb)
   have n6_:=z2.mk (za (by repeat (first|(with_reducible first|exact HB.out|apply z4|apply z1|apply z3|refine z9 ?_ GE101.out|refine z9 ?_ GE102.out|refine z9 ?_ GE104.out|refine z9 ?_ GE107.out)|exact HB.out)) hb)
   clear HO_1
   clear BK101
   clear BK102
   clear BK104
   clear BK107
   clear HK
   clear HB
   have HO_1:=n0_
   have BK101:=n1_
   have BK102:=n2_
   have BK104:=n3_
   have BK107:=n4_
   have HK:=n5_
   have HB:=n6_
   clear n0_ n1_ n2_ n3_ n4_ n5_ n6_
   (try clear hb)
   (try clear hb2)
   (try clear hk)
   (try clear hi)
   refine hK.out _ _ ⟨(zc BK101.out 0).trans rfl,(zc BK101.out 1).trans rfl⟩ (fun hHeld=>?_)
   clear hK K
   refine norm_ (a':=?_) ?_ ?_
   rotate_left
   · show Act.put _ (some 34) _ = _
     simp only [Act.put,List.setIfInBounds_toArray,List.set_cons_zero,List.set_cons_succ,zZ,z14]
     rfl
   refine one_ (i:=6) (N:=some 35) #[true,true,true,true,true,true,true,false,true] rfl rfl (z21 HT_.out (by kernel_rfl)) (by decide) (fun K hK=>?_)
   refine goes_ Try.func125 (by kernel_rfl) rfl #[.int .i64 a0,.agg #[.int .u64 t110,.int .u64 t111]] (by rfl) rfl rfl (by (try simp only [List.map_toArray,List.map_cons,List.map_nil]);first|done|rfl|(simp only [List.length_drop,List.length_take];rfl)) ?_
   with_reducible refine (zP.calls k1 a0 t110 t111 t112 _ A27.out).mono ?_
   rintro e w44 ⟨v113,rfl,ho0,hb⟩
   refine ⟨_,rfl,?_⟩
   have n0_:=z2.mk (Kd.zO (by (with_reducible repeat (first|apply Kd.ze|apply Kd.zf|apply Kd.zo));exact HO_1.out) hb)
   have n1_:=z2.mk (Kd.z1l (Kd.z4U (M:=fun k_=>(P1_ k_ ∨ w.heap.size ≤ k_)) ho0 (by first|exact HK.out.1|exact (show Kept w _ (fun k_=>P1_ k_) from by repeat (first|(with_reducible first|exact HK.out|apply Kept.alloc|apply Kept.drewN|apply Kept.drew|refine Kept.setCell ?_ (.inr GW101.out) _|refine Kept.setCell ?_ (.inr GW102.out) _|refine Kept.setCell ?_ (.inr GW104.out) _|refine Kept.setCell ?_ (.inr GW107.out) _)|exact HK.out)).1) (fun k_ h_=>.inr h_)) (zb (by repeat (first|(with_reducible first|exact HB.out|apply z4|apply z1|apply z3|refine z9 ?_ GE101.out|refine z9 ?_ GE102.out|refine z9 ?_ GE104.out|refine z9 ?_ GE107.out)|exact HB.out))))
   have n2_:=z2.mk (zg (g:=gb101) (o:=.cells #[.int .u64 x102000_1,.int .u64 x102001_1] 30 (0,0)) (by (with_reducible repeat (first|refine z6 ?_ _|refine z8 ?_|refine z5 ?_ _));exact BK101.out) hb)
   have n3_:=z2.mk (zg (g:=gb102) (o:=.cells #[.int .u64 x103000_1,.int .u64 x103001_1] 30 (0,0)) (by (with_reducible repeat (first|refine z6 ?_ _|refine z8 ?_|refine z5 ?_ _));exact BK102.out) hb)
   have n4_:=z2.mk (zg (g:=gb104) (o:=.cells #[.int .u64 ((zi l2 x17_1).f0),.int .u64 ((zi l2 x17_1).f1)] 30 (0,0)) (by (with_reducible repeat (first|refine z6 ?_ _|refine z8 ?_|refine z5 ?_ _));exact BK104.out) hb)
   have n5_:=z2.mk (zg (g:=gb107) (o:=.cells #[.int .u64 t105,.int .u64 t106] 30 (0,0)) (by (with_reducible repeat (first|refine z6 ?_ _|refine z8 ?_|refine z5 ?_ _));exact BK107.out) hb)
   have n6_:=z2.mk (Kept.below (S:=(fun k_=>P1_ k_)) (by repeat (first|(with_reducible first|exact HK.out|apply Kept.alloc|apply Kept.drewN|apply Kept.drew|refine Kept.setCell ?_ (.inr GW101.out) _|refine Kept.setCell ?_ (.inr GW102.out) _|refine Kept.setCell ?_ (.inr GW104.out) _|refine Kept.setCell ?_ (.inr GW107.out) _)|exact HK.out)) hb)
   have n7_:=z2.mk (za (by repeat (first|(with_reducible first|exact HB.out|apply z4|apply z1|apply z3|refine z9 ?_ GE101.out|refine z9 ?_ GE102.out|refine z9 ?_ GE104.out|refine z9 ?_ GE107.out)|exact HB.out)) hb)
   clear HO_1
   clear BK101
   clear BK102
   clear BK104
   clear BK107
   clear HK
   clear HB
   have HO_1:=n0_
   have HO114:=n1_
   have BK101:=n2_
   have BK102:=n3_
   have BK104:=n4_
   have BK107:=n5_
   have HK:=n6_
   have HB:=n7_
   clear n0_ n1_ n2_ n3_ n4_ n5_ n6_ n7_
   (try clear hb)
   (try clear hb2)
   (try clear hk)
   (try clear hi)
   (try clear ho0)
   obtain ⟨Ao45,co45,eo45⟩:=Kd.z1d HO114.out
   (first|subst eo45|(injection eo45 with f1_ f2_ f3_;have f4_:=f1_.symm;have f5_:=f3_.symm;clear f1_ f2_ f3_;subst f4_;subst f5_))
   refine hK.out _ _ ⟨(zc BK101.out 0).trans rfl,(zc BK101.out 1).trans rfl⟩ (fun hHeld=>?_)
   clear hK K
   refine norm_ (a':=?_) ?_ ?_
   rotate_left
   · show Act.put _ (some 35) _ = _
     simp only [Act.put,List.setIfInBounds_toArray,List.set_cons_zero,List.set_cons_succ,zZ,z14]
     rfl
   refine pure_ (i:=7) (N:=some 36) (v:=?_) (a':=?_) #[true,true,true,true,true,true,true,true,true] rfl rfl (z1i HT_.out (by kernel_rfl)) (fun _ _ _ h=>h) (Or.inl ⟨by rfl,?_⟩) ?_ ?_
   rotate_left
   · intro w'
     go_simp
     with_reducible rfl
   rotate_left
   · simp only [Act.put,List.setIfInBounds_toArray,List.set_cons_zero,List.set_cons_succ,zZ,z14]
     rfl
   refine done_ (z2A HT_.out (by kernel_rfl)) ?_
   try go_wp2
   go_loopg [37] k1 (fun kq v37 w'=>∃ (x1_2 : List (S30)) (x37_2 : Int) (x102000_2 : Int) (x102001_2 : Int) (x103000_2 : Int) (x103001_2 : Int) (x105000_2 : Int) (x105001_2 : Int) (x108000_2 : Int) (x108001_2 : Int),v37 = .int .i64 x37_2 ∧ z2 (zm.l1 kq a0 x1_2 l2 (l2.length : Int) x17_1 t112 (t112.length : Int) x37_2 x102000_2 x102001_2 x103000_2 x103001_2 x108000_2 x108001_2 = some r) ∧ z2 (kq ≤ k1) ∧ z2 (Kd.R k30 30 w' w0.heap.size (fun k_=>(P1_ k_ ∨ w.heap.size ≤ k_) ∧ k_ ≠ gb101 ∧ k_ ≠ gb102 ∧ k_ ≠ gb104 ∧ k_ ≠ gb107) u9000_ x1_2) ∧ z2 (Kd.R Kd.bool 4 w' w0.heap.size (fun k_=>(P1_ k_ ∨ w.heap.size ≤ k_)) (.slice Ao45 t112.length co45) t112) ∧ z2 (w'.heap[gb101]? = some (.cells #[.int .u64 x102000_2,.int .u64 x102001_2] 30 (0,0))) ∧ z2 (w'.heap[gb102]? = some (.cells #[.int .u64 x103000_2,.int .u64 x103001_2] 30 (0,0))) ∧ z2 (w'.heap[gb104]? = some (.cells #[.int .u64 x105000_2,.int .u64 x105001_2] 30 (0,0))) ∧ z2 (w'.heap[gb107]? = some (.cells #[.int .u64 x108000_2,.int .u64 x108001_2] 30 (0,0))) ∧ z2 (Kept w w' (fun k_=>P1_ k_)) ∧ z2 (Below w0.heap.size w0 w'))
   case atStart=>exact ⟨(x1_1),(0),(x102000_1),(x102001_1),(x103000_1),(x103001_1),((zi l2 x17_1).f0),((zi l2 x17_1).f1),(t105),(t106),(by first|rfl|(simp;done)|(simp [*];done)),H',⟨Nat.le_refl _⟩,⟨by (with_reducible repeat (first|apply Kd.ze|apply Kd.zf|apply Kd.zo));exact HO_1.out⟩,⟨by (with_reducible repeat (first|apply Kd.ze|apply Kd.zf|apply Kd.zo));exact Kd.zY HO114.out (fun _ hk=>hk.1)⟩,⟨by (with_reducible repeat (first|refine z6 ?_ _|refine z8 ?_|refine z5 ?_ _));exact BK101.out⟩,⟨by (with_reducible repeat (first|refine z6 ?_ _|refine z8 ?_|refine z5 ?_ _));exact BK102.out⟩,⟨by (with_reducible repeat (first|refine z6 ?_ _|refine z8 ?_|refine z5 ?_ _));exact BK104.out⟩,⟨by (with_reducible repeat (first|refine z6 ?_ _|refine z8 ?_|refine z5 ?_ _));exact BK107.out⟩,⟨by repeat (first|(with_reducible first|exact HK.out|apply Kept.alloc|apply Kept.drewN|apply Kept.drew|refine Kept.setCell ?_ (.inr GW101.out) _|refine Kept.setCell ?_ (.inr GW102.out) _|refine Kept.setCell ?_ (.inr GW104.out) _|refine Kept.setCell ?_ (.inr GW107.out) _)|exact HK.out)⟩,⟨by repeat (first|(with_reducible first|exact HB.out|apply z4|apply z1|apply z3|refine z9 ?_ GE101.out|refine z9 ?_ GE102.out|refine z9 ?_ GE104.out|refine z9 ?_ GE107.out)|exact HB.out)⟩⟩
   case round =>
    clear H'
    (try clear c1);(try clear p1);(try clear q1);(try clear hx1);(try clear c2);(try clear p2);(try clear c3);(try clear p6);(try clear c7);(try clear c8);(try clear c8b0);(try clear c9);(try clear c9b0);(try clear c10);(try clear c10b0);(try clear p10);(try clear q10);(try clear hx10);(try clear c12);(try clear c12b0);(try clear c12b1);(try clear c12b2);(try clear c14);(try clear c15);(try clear c17);(try clear c21);(try clear c22);(try clear c23);(try clear c29);(try clear c30);(try clear c32);(try clear c36);(try clear c37);(try clear c38);(try clear hcz16_0);(try clear hcz16_1);(try clear hcz18_0);(try clear hcz18_1);(try clear hcz24_0);(try clear hcz24_1);(try clear hcz31_0);(try clear hcz31_1);(try clear hcz33_0);(try clear hcz33_1);(try clear hcz39_0);(try clear hcz39_1);(try clear hfz16_0);(try clear hfz16_1);(try clear hfz18_0);(try clear hfz18_1);(try clear hfz24_0);(try clear hfz24_1);(try clear hfz31_0);(try clear hfz31_1);(try clear hfz33_0);(try clear hfz33_1);(try clear hfz39_0);(try clear hfz39_1);(try clear hx103_0);(try clear hx103_1);(try clear p103);(try clear p2);(try clear q103)
    obtain ⟨x1_2,x37_2,x102000_2,x102001_2,x103000_2,x103001_2,x105000_2,x105001_2,x108000_2,x108001_2,rfl,HA,HK2,HO_1,HO_35,BK101,BK102,BK104,BK107,HK,HB⟩:=hrel
    cases gk with
    | zero=>exact absurd HA.out (by simp [zm.l1])
    | succ k2 =>
     have H:=HA.out
     clear HA
     simp only [zm.l1] at H
     by_cases c46 : x37_2 < (t112.length : Int)
     rotate_left
     · rw [if_neg c46] at H
       have c46b0 : decide (x37_2 < (t112.length : Int)) = false:=decide_eq_false c46
       clear c46
       have H':=z2.mk H
       clear H
       go_wp2
       go_roundg k2
       case measure=>have:=HK1.out;have:=HK2.out;omega
       case rel=>exact ⟨(x1_2),(wrap64 (x17_1 + 1)),(x102000_2),(x102001_2),(x103000_2),(x103001_2),(by first|rfl|(simp;done)|(simp [*];done)),H',⟨by have:=HK1.out;have:=HK2.out;omega⟩,⟨by (with_reducible repeat (first|apply Kd.ze|apply Kd.zf|apply Kd.zo));exact Kd.zY HO_1.out (fun _ hk=>⟨hk.1,⟨hk.2.1,hk.2.2.1⟩⟩)⟩,⟨by (with_reducible repeat (first|refine z6 ?_ _|refine z8 ?_|refine z5 ?_ _));exact BK101.out⟩,⟨by (with_reducible repeat (first|refine z6 ?_ _|refine z8 ?_|refine z5 ?_ _));exact BK102.out⟩,⟨by repeat (first|(with_reducible first|exact HK.out|apply Kept.alloc|apply Kept.drewN|apply Kept.drew|refine Kept.setCell ?_ (.inr GW101.out) _|refine Kept.setCell ?_ (.inr GW102.out) _|refine Kept.setCell ?_ (.inr GW104.out) _|refine Kept.setCell ?_ (.inr GW107.out) _)|exact HK.out)⟩,⟨by repeat (first|(with_reducible first|exact HB.out|apply z4|apply z1|apply z3|refine z9 ?_ GE101.out|refine z9 ?_ GE102.out|refine z9 ?_ GE104.out|refine z9 ?_ GE107.out)|exact HB.out)⟩⟩
     rw [if_pos c46] at H
     have c46b0 : decide (x37_2 < (t112.length : Int)) = true:=decide_eq_true c46
     clear c46
     by_cases c47 : 0 ≤ x37_2
     rotate_left
     · rw [if_neg c47] at H
       exact absurd H (by simp)
     rw [if_pos c47] at H
     have c47b0 : decide (0 ≤ x37_2) = true:=decide_eq_true c47
     clear c47
     by_cases c48 : x37_2 < (t112.length : Int)
     rotate_left
     · rw [if_neg c48] at H
       exact absurd H (by simp)
     rw [if_pos c48] at H
     have c48b0 : decide (x37_2 < (t112.length : Int)) = true:=decide_eq_true c48
     clear c48
     obtain ⟨bq49,hbq49⟩ : ∃ b_ : Bool,b_ = (rdOf false t112 x37_2):=⟨_,rfl⟩
     replace H : (if bq49 = true then (if x37_2 < (x1_2.length : Int) then ((z1M.f ((zi x1_2 x37_2).f0) ((zi x1_2 x37_2).f1) x108000_2 x108001_2).bind fun bt117=>(zm.l1 k2 a0 (x1_2.set (x37_2 : Int).toNat (⟨bt117.1,bt117.2⟩ : S30)) l2 (l2.length : Int) x17_1 t112 (t112.length : Int) (wrap64 (x37_2 + 1)) x102000_2 x102001_2 x103000_2 x103001_2 x108000_2 x108001_2)) else (none)) else (zm.l1 k2 a0 x1_2 l2 (l2.length : Int) x17_1 t112 (t112.length : Int) (wrap64 (x37_2 + 1)) x102000_2 x102001_2 x103000_2 x103001_2 x108000_2 x108001_2)) = some r:=by rw [← hbq49] at H;exact H
     have Nbq49:=z2.mk hbq49
     clear hbq49
     by_cases c50 : bq49 = true
     rotate_left
     · replace c50:=Bool.eq_false_iff.mpr c50
       subst c50
       have H1 : (zm.l1 k2 a0 x1_2 l2 (l2.length : Int) x17_1 t112 (t112.length : Int) (wrap64 (x37_2 + 1)) x102000_2 x102001_2 x103000_2 x103001_2 x108000_2 x108001_2) = some r:=by rw [if_neg (show ¬ (false = true) by decide)] at H;exact H
       clear H
       have H:=H1
       clear H1
       have H':=z2.mk H
       clear H
       have p115 : 0 ≤ (x37_2 : Int):=of_decide_eq_true (by first|(with_reducible assumption)|assumption)
       have q115 : x37_2 < (t112.length : Int):=of_decide_eq_true (by first|(with_reducible assumption)|assumption)
       obtain ⟨ad115,e115,hx115_0⟩:=Kd.z5d (Kd.zI HO_35.out).2.2 x37_2 p115 q115
       (try rw [← Nbq49.out] at hx115_0)
       cases e115
       replace p115:=eq_true p115
       replace q115:=eq_true q115
       go_wp2
       go_roundg k2
       case measure=>have:=HK1.out;have:=HK2.out;omega
       case rel=>exact ⟨(x1_2),(wrap64 (x37_2 + 1)),(x102000_2),(x102001_2),(x103000_2),(x103001_2),(x105000_2),(x105001_2),(x108000_2),(x108001_2),(by first|rfl|(simp;done)|(simp [*];done)),H',⟨by have:=HK1.out;have:=HK2.out;omega⟩,⟨by (with_reducible repeat (first|apply Kd.ze|apply Kd.zf|apply Kd.zo));exact HO_1.out⟩,⟨by (with_reducible repeat (first|apply Kd.ze|apply Kd.zf|apply Kd.zo));exact HO_35.out⟩,⟨by (with_reducible repeat (first|refine z6 ?_ _|refine z8 ?_|refine z5 ?_ _));exact BK101.out⟩,⟨by (with_reducible repeat (first|refine z6 ?_ _|refine z8 ?_|refine z5 ?_ _));exact BK102.out⟩,⟨by (with_reducible repeat (first|refine z6 ?_ _|refine z8 ?_|refine z5 ?_ _));exact BK104.out⟩,⟨by (with_reducible repeat (first|refine z6 ?_ _|refine z8 ?_|refine z5 ?_ _));exact BK107.out⟩,⟨by repeat (first|(with_reducible first|exact HK.out|apply Kept.alloc|apply Kept.drewN|apply Kept.drew|refine Kept.setCell ?_ (.inr GW101.out) _|refine Kept.setCell ?_ (.inr GW102.out) _|refine Kept.setCell ?_ (.inr GW104.out) _|refine Kept.setCell ?_ (.inr GW107.out) _)|exact HK.out)⟩,⟨by repeat (first|(with_reducible first|exact HB.out|apply z4|apply z1|apply z3|refine z9 ?_ GE101.out|refine z9 ?_ GE102.out|refine z9 ?_ GE104.out|refine z9 ?_ GE107.out)|exact HB.out)⟩⟩
     subst c50
     have H1 : (if x37_2 < (x1_2.length : Int) then ((z1M.f ((zi x1_2 x37_2).f0) ((zi x1_2 x37_2).f1) x108000_2 x108001_2).bind fun bt117=>(zm.l1 k2 a0 (x1_2.set (x37_2 : Int).toNat (⟨bt117.1,bt117.2⟩ : S30)) l2 (l2.length : Int) x17_1 t112 (t112.length : Int) (wrap64 (x37_2 + 1)) x102000_2 x102001_2 x103000_2 x103001_2 x108000_2 x108001_2)) else (none)) = some r:=by rw [if_pos rfl] at H;exact H
     clear H
     have H:=H1
     clear H1
     by_cases c51 : x37_2 < (x1_2.length : Int)
     rotate_left
     · rw [if_neg c51] at H
       exact absurd H (by simp)
     rw [if_pos c51] at H
     have c51b0 : decide (x37_2 < (x1_2.length : Int)) = true:=decide_eq_true c51
     clear c51
     replace H:=Option.bind_eq_some_iff.mp H
     obtain ⟨⟨t117,t118⟩,A520,H⟩:=H
     replace H : (zm.l1 k2 a0 (x1_2.set (x37_2 : Int).toNat (⟨t117,t118⟩ : S30)) l2 (l2.length : Int) x17_1 t112 (t112.length : Int) (wrap64 (x37_2 + 1)) x102000_2 x102001_2 x103000_2 x103001_2 x108000_2 x108001_2) = some r:=H
     have A52:=z2.mk A520
     clear A520
     obtain ⟨y119,hy119⟩ : ∃ y_ : List (S30),y_ = (x1_2.set (x37_2 : Int).toNat (⟨t117,t118⟩ : S30)):=⟨_,rfl⟩
     replace H : (zm.l1 k2 a0 y119 l2 (l2.length : Int) x17_1 t112 (t112.length : Int) (wrap64 (x37_2 + 1)) x102000_2 x102001_2 x103000_2 x103001_2 x108000_2 x108001_2) = some r:=by first|(rw [hy119];with_reducible exact H)|(have H2_:=(Option.bind_some _ _).symm.trans H;rw [hy119];with_reducible exact H2_)|(have H2_:=(Option.bind_some _ _).symm.trans H;with_reducible exact H2_)|with_reducible exact H|(rw [hy119];exact H)|exact H
     have Ny119:=z2.mk hy119
     clear hy119
     have H':=z2.mk H
     clear H
     have p115 : 0 ≤ (x37_2 : Int):=of_decide_eq_true (by first|(with_reducible assumption)|assumption)
     have q115 : x37_2 < (t112.length : Int):=of_decide_eq_true (by first|(with_reducible assumption)|assumption)
     obtain ⟨ad115,e115,hx115_0⟩:=Kd.z5d (Kd.zI HO_35.out).2.2 x37_2 p115 q115
     (try rw [← Nbq49.out] at hx115_0)
     cases e115
     replace p115:=eq_true p115
     replace q115:=eq_true q115
     try go_wp2
     have n0_:=z2.mk (Kd.zo HO_1.out)
     have n1_:=z2.mk (Kd.zo HO_35.out)
     have n2_:=z2.mk (z8 BK101.out)
     have n3_:=z2.mk (z8 BK102.out)
     have n4_:=z2.mk (z8 BK104.out)
     have n5_:=z2.mk (z8 BK107.out)
     have n6_:=z2.mk (Kept.drew HK.out)
     have n7_:=z2.mk (z3 HB.out)
     clear HO_1
     clear HO_35
     clear BK101
     clear BK102
     clear BK104
     clear BK107
     clear HK
     clear HB
     have HO_1:=n0_
     have HO_35:=n1_
     have BK101:=n2_
     have BK102:=n3_
     have BK104:=n4_
     have BK107:=n5_
     have HK:=n6_
     have HB:=n7_
     clear n0_ n1_ n2_ n3_ n4_ n5_ n6_ n7_
     obtain ⟨Ao55,co55,eo55⟩:=Kd.z1d HO_1.out
     (first|subst eo55|(injection eo55 with f1_ f2_ f3_;have f4_:=f1_.symm;have f5_:=f3_.symm;clear f1_ f2_ f3_;subst f4_;subst f5_))
     have p116 : 0 ≤ (x37_2 : Int):=of_decide_eq_true (by first|(with_reducible assumption)|assumption)
     have q116 : x37_2 < (x1_2.length : Int):=of_decide_eq_true (by first|(with_reducible assumption)|assumption)
     obtain ⟨ad116,e116,hx116_0,hx116_1⟩:=z29 (Kd.zI HO_1.out).2.2 x37_2 p116 q116
     cases e116
     replace p116:=eq_true p116
     replace q116:=eq_true q116
     refine start_ (n:=10) (S:=fun w'=>w'.cell? ⟨gb107,0,none⟩ = some (.int .u64 x108000_2) ∧ w'.cell? ⟨gb107,1,none⟩ = some (.int .u64 x108001_2) ∧ w'.cell? (ad116.add ((x37_2).toNat * 2)) = some (.int .u64 ((zi x1_2 x37_2).f0)) ∧ w'.cell? ⟨(ad116.add ((x37_2).toNat * 2)).block,(ad116.add ((x37_2).toNat * 2)).off + 1,none⟩ = some (.int .u64 ((zi x1_2 x37_2).f1))) (ds:=[9]) #[false,false,false,false,false,false,false,false,false,false] (by kernel_rfl) rfl rfl ⟨(zc BK107.out 0).trans rfl,(zc BK107.out 1).trans rfl,hx116_0,hx116_1⟩ (fun hHeld=>?_);refine z2d zm.tab10 zm.bits10 (fun HT_ HW_=>?_)
     generalize wr.drew = w54 at HO_1 HO_35 BK101 BK102 BK104 BK107 HK HB hx116_0 hx116_1 hHeld ⊢
     refine pure_ (i:=0) (N:=some 43) (v:=?_) (a':=?_) #[true,false,false,false,false,false,false,false,false,false] rfl rfl (z1i HT_.out (by kernel_rfl)) (fun _ _ _ h=>h) (Or.inl ⟨by rfl,?_⟩) ?_ ?_
     rotate_left
     · intro w'
       go_simp
       with_reducible rfl
     rotate_left
     · simp only [Act.put,List.setIfInBounds_toArray,List.set_cons_zero,List.set_cons_succ,zZ,z14]
       rfl
     refine pure_ (i:=1) (N:=some 44) (v:=?_) (a':=?_) #[true,true,false,false,false,false,false,false,false,false] rfl rfl (z1i HT_.out (by kernel_rfl)) (fun _ _ _ h=>h) (Or.inl ⟨by rfl,?_⟩) ?_ ?_
     rotate_left
     · intro w'
       go_simp
       with_reducible rfl
     rotate_left
     · simp only [Act.put,List.setIfInBounds_toArray,List.set_cons_zero,List.set_cons_succ,zZ,z14]
       rfl
     refine pure_ (i:=2) (N:=some 45) (v:=?_) (a':=?_) #[true,true,true,false,false,false,false,false,false,false] rfl rfl (z1i HT_.out (by kernel_rfl)) (fun _ _ _ h=>h) (Or.inl ⟨by rfl,?_⟩) ?_ ?_
     rotate_left
     · intro w'
       go_simp
       with_reducible rfl
     rotate_left
     · simp only [Act.put,List.setIfInBounds_toArray,List.set_cons_zero,List.set_cons_succ,zZ,z14]
       rfl
     refine pure_ (i:=3) (N:=some 46) (v:=?_) (a':=?_) #[true,true,true,true,false,false,false,false,false,false] rfl rfl (z1i HT_.out (by kernel_rfl)) (fun _ _ _ h=>h) (Or.inl ⟨by rfl,?_⟩) ?_ ?_
     rotate_left
     · intro w'
       go_simp
       with_reducible rfl
     rotate_left
     · simp only [Act.put,List.setIfInBounds_toArray,List.set_cons_zero,List.set_cons_succ,zZ,z14]
       rfl
     refine pure_ (i:=4) (N:=some 47) (v:=?_) (a':=?_) #[true,true,true,true,true,false,false,false,false,false] rfl rfl (z1i HT_.out (by kernel_rfl)) (fun _ _ _ h=>h) (Or.inl ⟨by rfl,?_⟩) ?_ ?_
     rotate_left
     · intro w'
       go_simp
       with_reducible rfl
     rotate_left
     · simp only [Act.put,List.setIfInBounds_toArray,List.set_cons_zero,List.set_cons_succ,zZ,z14]
       rfl
     refine take_ (i:=5) (N:=some 48) (v:=?_) (a':=?_) #[true,true,true,true,true,true,false,false,false,false] rfl rfl (z1F HT_.out HW_.out (by kernel_rfl)) (fun _ _ _ h=>h) (Or.inl ⟨by rfl,?_⟩) hHeld ?_ ?_
     rotate_left
     · rintro w' ⟨s0,s1,s2,s3⟩
       go_simp
       with_reducible rfl
     rotate_left
     · simp only [Act.put,List.setIfInBounds_toArray,List.set_cons_zero,List.set_cons_succ,zZ,z14]
       rfl
     refine take_ (i:=6) (N:=some 49) (v:=?_) (a':=?_) #[true,true,true,true,true,true,true,false,false,false] rfl rfl (z1F HT_.out HW_.out (by kernel_rfl)) (fun _ _ _ h=>h) (Or.inl ⟨by rfl,?_⟩) hHeld ?_ ?_
     rotate_left
     · rintro w' ⟨s0,s1,s2,s3⟩
       go_simp
       with_reducible rfl
     rotate_left
     · simp only [Act.put,List.setIfInBounds_toArray,List.set_cons_zero,List.set_cons_succ,zZ,z14]
       rfl
     refine one_ (i:=7) (N:=some 50) #[true,true,true,true,true,true,true,true,false,false] rfl rfl (z21 HT_.out (by kernel_rfl)) (by decide) (fun K hK=>?_)
     refine goes_ Try.func64 (by kernel_rfl) rfl #[.agg #[.int .u64 ((zi x1_2 x37_2).f0),.int .u64 ((zi x1_2 x37_2).f1)],.agg #[.int .u64 x108000_2,.int .u64 x108001_2]] (by rfl) rfl rfl (by (try simp only [List.map_toArray,List.map_cons,List.map_nil]);first|done|rfl|(simp only [List.length_drop,List.length_take];rfl)) ?_
     with_reducible refine (z1M.calls ((zi x1_2 x37_2).f0) ((zi x1_2 x37_2).f1) x108000_2 x108001_2 t117 t118 _ A52.out).mono ?_
     rintro e w56 ⟨rfl,hb⟩
     have HS2_:=(hb.cell (World.block_lt_of_cell? _ _ (hHeld.2.2.1))).trans (hHeld.2.2.1)
     have HS3_:=(hb.cell (World.block_lt_of_cell? _ _ (hHeld.2.2.2))).trans (hHeld.2.2.2)
     refine ⟨_,rfl,?_⟩
     have n0_:=z2.mk (Kd.zO (by (with_reducible repeat (first|apply Kd.ze|apply Kd.zf|apply Kd.zo));exact HO_1.out) hb)
     have n1_:=z2.mk (Kd.zO (by (with_reducible repeat (first|apply Kd.ze|apply Kd.zf|apply Kd.zo));exact HO_35.out) hb)
     have n2_:=z2.mk (zg (g:=gb101) (o:=.cells #[.int .u64 x102000_2,.int .u64 x102001_2] 30 (0,0)) (by (with_reducible repeat (first|refine z6 ?_ _|refine z8 ?_|refine z5 ?_ _));exact BK101.out) hb)
     have n3_:=z2.mk (zg (g:=gb102) (o:=.cells #[.int .u64 x103000_2,.int .u64 x103001_2] 30 (0,0)) (by (with_reducible repeat (first|refine z6 ?_ _|refine z8 ?_|refine z5 ?_ _));exact BK102.out) hb)
     have n4_:=z2.mk (zg (g:=gb104) (o:=.cells #[.int .u64 x105000_2,.int .u64 x105001_2] 30 (0,0)) (by (with_reducible repeat (first|refine z6 ?_ _|refine z8 ?_|refine z5 ?_ _));exact BK104.out) hb)
     have n5_:=z2.mk (zg (g:=gb107) (o:=.cells #[.int .u64 x108000_2,.int .u64 x108001_2] 30 (0,0)) (by (with_reducible repeat (first|refine z6 ?_ _|refine z8 ?_|refine z5 ?_ _));exact BK107.out) hb)
     have n6_:=z2.mk (Kept.below (S:=(fun k_=>P1_ k_)) (by repeat (first|(with_reducible first|exact HK.out|apply Kept.alloc|apply Kept.drewN|apply Kept.drew|refine Kept.setCell ?_ (.inr GW101.out) _|refine Kept.setCell ?_ (.inr GW102.out) _|refine Kept.setCell ?_ (.inr GW104.out) _|refine Kept.setCell ?_ (.inr GW107.out) _)|exact HK.out)) hb)
     have n7_:=z2.mk (za (by repeat (first|(with_reducible first|exact HB.out|apply z4|apply z1|apply z3|refine z9 ?_ GE101.out|refine z9 ?_ GE102.out|refine z9 ?_ GE104.out|refine z9 ?_ GE107.out)|exact HB.out)) hb)
     clear HO_1
     clear HO_35
     clear BK101
     clear BK102
     clear BK104
     clear BK107
     clear HK
     clear HB
     have HO_1:=n0_
     have HO_35:=n1_
     have BK101:=n2_
     have BK102:=n3_
     have BK104:=n4_
     have BK107:=n5_
     have HK:=n6_
     have HB:=n7_
     clear n0_ n1_ n2_ n3_ n4_ n5_ n6_ n7_
     (try clear hb)
     (try clear hb2)
     (try clear hk)
     (try clear hi)
     have p53 : 0 ≤ (x37_2 : Int):=of_decide_eq_true (by first|(with_reducible assumption)|assumption)
     have q53 : (x37_2 : Int) < ((x1_2.length : Int) : Int):=of_decide_eq_true (by first|(with_reducible assumption)|assumption)
     obtain ⟨go53,co53,eo53,gb53,gl53,cl53,HG53⟩:=Kd.z4T HO_1.out (by omega)
     (first|cases eo53|(injection eo53 with ea_ en_ ec_;(first|subst ea_|(injection ea_ with ea_;subst ea_));subst ec_;clear en_))
     have GB53:=z2.mk gb53
     have GG53:=z2.mk HG53
     clear gb53 gl53 HG53
     have HMgo53:=z2.mk (show (P1_ go53 ∨ w.heap.size ≤ go53) from (HO_1.out.1 _ rfl).1)
     (first|simp only [z28] at hx116_0|skip)
     (first|simp only [z28] at hx116_1|skip)
     obtain ⟨ce53,hcl53,hM53,hcc53,hfr53⟩:=Kd.z2O HO_1.out z30 (x37_2 : Int) p53 q53
     obtain rfl:=z1Z hM53
     have hx53_0 : World.cell? _ ⟨go53,(x37_2 : Int).toNat * 2,none⟩ = some (.int .u64 ((zi x1_2 x37_2).f0)):=hcc53 0 _ rfl
     have hx53_1 : World.cell? _ ⟨go53,(x37_2 : Int).toNat * 2 + 1,none⟩ = some (.int .u64 ((zi x1_2 x37_2).f1)):=hcc53 1 _ rfl
     have hf53_0 : World.frozen? _ ⟨go53,(x37_2 : Int).toNat * 2,none⟩ = false:=hfr53 0
     have hf53_1 : World.frozen? _ ⟨go53,(x37_2 : Int).toNat * 2 + 1,none⟩ = false:=hfr53 1
     clear hcl53 hcc53 hfr53 hM53
     replace p53:=eq_true p53
     replace q53:=eq_true q53
     obtain ⟨ce57,hcl57,hM57,hcc57,hfr57⟩:=Kd.z2O HO_1.out z30 (x37_2 : Int) (of_decide_eq_true (by first|(with_reducible assumption)|assumption)) (by have h_ : (x37_2 : Int) < ((x1_2.length : Int) : Int):=of_decide_eq_true (by first|(with_reducible assumption)|assumption);first|exact h_|(have e_:=(Kd.zI HO_1.out).1;omega)|simpa using h_)
     obtain rfl:=z1Z hM57
     have HP57:=(Kd.z6N HO_1.out (x37_2 : Int) (of_decide_eq_true (by first|(with_reducible assumption)|assumption)) (by have h_ : (x37_2 : Int) < ((x1_2.length : Int) : Int):=of_decide_eq_true (by first|(with_reducible assumption)|assumption);first|exact h_|(have e_:=(Kd.zI HO_1.out).1;omega)|simpa using h_) (seg:=[.int .u64 t117,.int .u64 t118]) (j:=0) hcl57 hcc57 (show 2 ≤ 2 from by decide) (x':=(⟨t117,t118⟩ : S30)) (z2e _ _ _ (⟨t117,t118⟩ : S30) ) (fun _ hk=>hk)).1
     rw [← Ny119.out] at HP57
     have HQ57:=z2.mk HP57
     clear hcl57 hcc57 hfr57 hM57 HP57
     refine hK.out _ _ ⟨(zc BK107.out 0).trans rfl,(zc BK107.out 1).trans rfl,HS2_,HS3_⟩ (fun hHeld=>?_)
     clear hK K
     refine norm_ (a':=?_) ?_ ?_
     rotate_left
     · show Act.put _ (some 50) _ = _
       simp only [Act.put,List.setIfInBounds_toArray,List.set_cons_zero,List.set_cons_succ,zZ,z14]
       rfl
     refine pure_ (i:=8) (N:=some 51) (v:=?_) (a':=?_) #[true,true,true,true,true,true,true,true,true,false] rfl rfl (z1i HT_.out (by kernel_rfl)) (fun _ _ _ h=>h) (Or.inl ⟨by rfl,?_⟩) ?_ ?_
     rotate_left
     · intro w'
       go_simp
       with_reducible rfl
     rotate_left
     · simp only [Act.put,List.setIfInBounds_toArray,List.set_cons_zero,List.set_cons_succ,zZ,z14]
       rfl
     refine last_ (i:=9) (N:=none) #[true,true,true,true,true,true,true,true,true,true] rfl rfl (z21 HT_.out (by kernel_rfl)) (by decide) (fun K hK=>?_)
     refine skip_ (w1:=?_) (by rfl) rfl ?_ ?_
     rotate_left
     · go_simp
       rfl
     refine hK.out _ _ ?_
     clear hK K
     refine done_ (z2A HT_.out (by kernel_rfl)) ?_
     try go_wp2
     go_roundg k2
     case measure=>have:=HK1.out;have:=HK2.out;omega
     case rel=>exact ⟨(y119),(wrap64 (x37_2 + 1)),(x102000_2),(x102001_2),(x103000_2),(x103001_2),(x105000_2),(x105001_2),(x108000_2),(x108001_2),(by first|rfl|(simp;done)|(simp [*];done)),H',⟨by have:=HK1.out;have:=HK2.out;omega⟩,⟨by (with_reducible repeat (first|apply Kd.ze|apply Kd.zf|apply Kd.zo));exact HQ57.out⟩,⟨by (with_reducible repeat (first|apply Kd.ze|apply Kd.zf|apply Kd.zo));exact Kd.zY (Kd.z22 (p:=⟨go53,(x37_2 : Int).toNat * 2 + 1,none⟩) (Kd.z22 (p:=⟨go53,(x37_2 : Int).toNat * 2,none⟩) (Kd.z7e HO_35.out GG53.out (by decide)) (fun _ hk=>hk.2) (.int .u64 t117)) (fun _ hk=>hk.2) (.int .u64 t118)) (fun _ hk=>hk.1)⟩,⟨by (with_reducible repeat (first|refine z6 ?_ _|refine z8 ?_|refine z5 ?_ _));refine z13 ?_ (by have h_:=Kd.z27 HO_1.out (fun _ hk=>hk.2.1);intro e_;exact h_ (by rw [e_];rfl)) _;(with_reducible repeat (first|refine z6 ?_ _|refine z8 ?_|refine z5 ?_ _));refine z13 ?_ (by have h_:=Kd.z27 HO_1.out (fun _ hk=>hk.2.1);intro e_;exact h_ (by rw [e_];rfl)) _;(with_reducible repeat (first|refine z6 ?_ _|refine z8 ?_|refine z5 ?_ _));exact BK101.out⟩,⟨by (with_reducible repeat (first|refine z6 ?_ _|refine z8 ?_|refine z5 ?_ _));refine z13 ?_ (by have h_:=Kd.z27 HO_1.out (fun _ hk=>hk.2.2.1);intro e_;exact h_ (by rw [e_];rfl)) _;(with_reducible repeat (first|refine z6 ?_ _|refine z8 ?_|refine z5 ?_ _));refine z13 ?_ (by have h_:=Kd.z27 HO_1.out (fun _ hk=>hk.2.2.1);intro e_;exact h_ (by rw [e_];rfl)) _;(with_reducible repeat (first|refine z6 ?_ _|refine z8 ?_|refine z5 ?_ _));exact BK102.out⟩,⟨by (with_reducible repeat (first|refine z6 ?_ _|refine z8 ?_|refine z5 ?_ _));refine z13 ?_ (by have h_:=Kd.z27 HO_1.out (fun _ hk=>hk.2.2.2.1);intro e_;exact h_ (by rw [e_];rfl)) _;(with_reducible repeat (first|refine z6 ?_ _|refine z8 ?_|refine z5 ?_ _));refine z13 ?_ (by have h_:=Kd.z27 HO_1.out (fun _ hk=>hk.2.2.2.1);intro e_;exact h_ (by rw [e_];rfl)) _;(with_reducible repeat (first|refine z6 ?_ _|refine z8 ?_|refine z5 ?_ _));exact BK104.out⟩,⟨by (with_reducible repeat (first|refine z6 ?_ _|refine z8 ?_|refine z5 ?_ _));refine z13 ?_ (by have h_:=Kd.z27 HO_1.out (fun _ hk=>hk.2.2.2.2);intro e_;exact h_ (by rw [e_];rfl)) _;(with_reducible repeat (first|refine z6 ?_ _|refine z8 ?_|refine z5 ?_ _));refine z13 ?_ (by have h_:=Kd.z27 HO_1.out (fun _ hk=>hk.2.2.2.2);intro e_;exact h_ (by rw [e_];rfl)) _;(with_reducible repeat (first|refine z6 ?_ _|refine z8 ?_|refine z5 ?_ _));exact BK107.out⟩,⟨by repeat (first|(with_reducible first|exact HK.out|apply Kept.alloc|apply Kept.drewN|apply Kept.drew|refine Kept.setCell ?_ HMgo53.out _|refine Kept.setCell ?_ HMgo53.out _|refine Kept.setCell ?_ (.inr GW101.out) _|refine Kept.setCell ?_ (.inr GW102.out) _|refine Kept.setCell ?_ (.inr GW104.out) _|refine Kept.setCell ?_ (.inr GW107.out) _)|exact HK.out)⟩,⟨by repeat (first|(with_reducible first|exact HB.out|apply z4|apply z1|apply z3|refine z9 ?_ GB53.out|refine z9 ?_ GB53.out|refine z9 ?_ GE101.out|refine z9 ?_ GE102.out|refine z9 ?_ GE104.out|refine z9 ?_ GE107.out)|exact HB.out)⟩⟩
end Go.Proofs.Ytkhmpaooinpfoaa.P
namespace Go.Proofs.Ytkhmpaooinpfoaa.P
open Go.RowKit Go.Proofs.YtkhmpaooinpfoaaW.PrintWords Go.Proofs.YtkhmpaooinpfoaaW.PrintLast Go.Proofs.YtkhmpaooinpfoaaW.PrintMore
attribute [local go_sem] z15 z17 z1f z1g zW zX z16 z18   -- for this text's walks alone
set_option linter.unusedVariables false
set_option linter.unusedSimpArgs false
def z10.l0 : Nat → Int → List (S30) → List (S30) → List (S30) → Int → Int → Option ((List (S30)) × Int)
 | 0,_,_,_,_,_,_=>none
 | k + 1,x0,x1,x9,x23,x24,x25=>if x25 < x24 then (if 0 ≤ x25 then (if x25 < (x23.length : Int) then ((z12.f k x25).bind fun bt111=>((zm.f k x0 x9 x1 bt111.1 bt111.2 ((zi x23 x25).f0) ((zi x23 x25).f1)).bind fun t113=>(z10.l0 k x0 x1 t113 x23 x24 (wrap64 (x25 + 1))))) else (none)) else (none)) else (some (x9,0))
def z10.f (k : Nat) (a0 : Int) (l1 : List (S30)) (l2 : List (S30)) : Option ((List (S30)) × Int):=(zA.f k a0 (([l1,l2] : List (List (S30)))) ([] : List (S30))).bind fun t104=>(if t104 = 0 then ((zH.f k a0).bind fun t105=>(if 0 ≤ t105 then (if (t105 : Int).toNat ≤ 17592186044416 then (z10.l0 k a0 l1 (List.replicate (t105 : Int).toNat z30) l2 (l2.length : Int) 0) else (none)) else (none))) else (some (([] : List (S30)),t104)))
theorem z10.z1b : ∀ k,(∀ y0 y1 y2 y3 y4 y5,LeO (z10.l0 k y0 y1 y2 y3 y4 y5) (z10.l0 (k + 1) y0 y1 y2 y3 y4 y5))
 | 0=>fun _ _ _ _ _ _ r h=>by simp [z10.l0] at h
 | k + 1=>by
  have ih0:=z10.z1b k
  · intro y0 y1 y2 y3 y4 y5
    unfold z10.l0
    repeat' first
    | (with_reducible exact ih0 _ _ _ _ _ _)
    | (with_reducible exact zA.mono _ _ _ _)
    | (with_reducible exact zm.mono _ _ _ _ _ _ _ _)
    | (with_reducible exact zH.mono _ _)
    | (with_reducible exact z12.mono _ _)
    | (with_reducible exact LeO.refl _)
    | (with_reducible exact LeO.none _)
    | (with_reducible refine LeO.ite ?_ ?_)
    | (with_reducible refine LeO.bind ?_ (fun _=>?_))
    | exact ih0 _ _ _ _ _ _
    | exact zA.mono _ _ _ _
    | exact zm.mono _ _ _ _ _ _ _ _
    | exact zH.mono _ _
    | exact z12.mono _ _
    | exact LeO.none _
    | refine LeO.ite ?_ ?_
    | refine LeO.bind ?_ (fun _=>?_)
theorem z10.mono : ∀ a0 a1 a2 k,LeO (z10.f k a0 a1 a2) (z10.f (k + 1) a0 a1 a2):=by
 intro a0 a1 a2 k
 have ih0:=z10.z1b k
 unfold z10.f
 repeat' first
  | (with_reducible exact ih0 _ _ _ _ _ _)
  | (with_reducible exact zA.mono _ _ _ _)
  | (with_reducible exact zm.mono _ _ _ _ _ _ _ _)
  | (with_reducible exact zH.mono _ _)
  | (with_reducible exact z12.mono _ _)
  | (with_reducible exact LeO.refl _)
  | (with_reducible exact LeO.none _)
  | (with_reducible refine LeO.ite ?_ ?_)
  | (with_reducible refine LeO.bind ?_ (fun _=>?_))
  | exact ih0 _ _ _ _ _ _
  | exact zA.mono _ _ _ _
  | exact zm.mono _ _ _ _ _ _ _ _
  | exact zH.mono _ _
  | exact z12.mono _ _
  | exact LeO.none _
  | refine LeO.ite ?_ ?_
  | refine LeO.bind ?_ (fun _=>?_)
set_option maxHeartbeats 8000000 in
set_option maxRecDepth 100000 in
theorem z10.calls (k : Nat) (a0 : Int) (P1_ : Nat → Prop) (A1 : Option Addr) (c1 : Nat) (l1 : List (S30)) (P2_ : Nat → Prop) (A2 : Option Addr) (c2 : Nat) (l2 : List (S30)) (r1 : List (S30)) (r2 : Int) (w : World) (hs1 : Kd.V k30 30 w w.heap.size (fun k_=>P1_ k_) (.slice A1 l1.length c1) l1) (hs2 : Kd.V k30 30 w w.heap.size (fun k_=>P2_ k_) (.slice A2 l2.length c2) l2) (h : z10.f k a0 l1 l2 = some (r1,r2)) :
 Calls Try.prog 41 #[.int .i64 a0,.slice A1 l1.length c1,.slice A2 l2.length c2] w fun e w'=>∃ v0_ : Value,e = .returned (.tuple #[v0_,.int .i64 r2]) ∧ Kd.R k30 30 w' w.heap.size (fun k_=>(w.heap.size ≤ k_)) v0_ r1 ∧ Below w.heap.size w w':=by
 have hu30:=Try.underlying30
 have HO1:=z2.mk (show Kd.V k30 30 w w.heap.size (fun k_=>((P1_ k_ ∨ P2_ k_) ∨ w.heap.size ≤ k_)) (.slice A1 l1.length c1) l1 from Kd.z1t hs1 (fun k_ hk=>.inl (.inl hk)))
 have HO2:=z2.mk (show Kd.V k30 30 w w.heap.size (fun k_=>((P1_ k_ ∨ P2_ k_) ∨ w.heap.size ≤ k_)) (.slice A2 l2.length c2) l2 from Kd.z1t hs2 (fun k_ hk=>.inl (.inr hk)))
 have HB:=z2.mk (Below.refl w.heap.size w)
 have H : ((zA.f k a0 (([l1,l2] : List (List (S30)))) ([] : List (S30))).bind fun t104=>(if t104 = 0 then ((zH.f k a0).bind fun t105=>(if 0 ≤ t105 then (if (t105 : Int).toNat ≤ 17592186044416 then (z10.l0 k a0 l1 (List.replicate (t105 : Int).toNat z30) l2 (l2.length : Int) 0) else (none)) else (none))) else (some (([] : List (S30)),t104)))) = some (r1,r2):=h
 clear h
 obtain ⟨y101,hy101⟩ : ∃ y_ : List (List (S30)),y_ = (([l1,l2] : List (List (S30)))):=⟨_,rfl⟩
 replace H : ((zA.f k a0 y101 ([] : List (S30))).bind fun t104=>(if t104 = 0 then ((zH.f k a0).bind fun t105=>(if 0 ≤ t105 then (if (t105 : Int).toNat ≤ 17592186044416 then (z10.l0 k a0 l1 (List.replicate (t105 : Int).toNat z30) l2 (l2.length : Int) 0) else (none)) else (none))) else (some (([] : List (S30)),t104)))) = some (r1,r2):=by first|(rw [hy101];with_reducible exact H)|(have H2_:=(Option.bind_some _ _).symm.trans H;rw [hy101];with_reducible exact H2_)|(have H2_:=(Option.bind_some _ _).symm.trans H;with_reducible exact H2_)|with_reducible exact H|(rw [hy101];exact H)|exact H
 have Ny101:=z2.mk hy101
 clear hy101
 replace H:=Option.bind_eq_some_iff.mp H
 obtain ⟨t104,A40,H⟩:=H
 replace H : (if t104 = 0 then ((zH.f k a0).bind fun t105=>(if 0 ≤ t105 then (if (t105 : Int).toNat ≤ 17592186044416 then (z10.l0 k a0 l1 (List.replicate (t105 : Int).toNat z30) l2 (l2.length : Int) 0) else (none)) else (none))) else (some (([] : List (S30)),t104))) = some (r1,r2):=H
 have A4:=z2.mk A40
 clear A40
 by_cases c5 : t104 = 0
 rotate_left
 · rw [if_neg c5] at H
   have c5b0 : (t104 == 0) = false:=beq_eq_false_iff_ne.mpr c5
   have c5b1 : (t104 != 0) = true:=bne_iff_ne.mpr c5
   simp only [Option.some.injEq,Prod.mk.injEq] at H
   obtain ⟨rfl,rfl⟩:=H
   go_enter Try.func41,Try.ntmps41
   go_wp2_with (first|((with_reducible refine zK (N:=15) rfl ?_);refine Kd.N_lit (Kd.slice 30 k30) _ 80 ?hg (N':=15) ?hd (xs:=([l1,l2] : List (List (S30)))) (inner:=[.slice A1 l1.length c1,.slice A2 l2.length c2]) (ok:=(fun k_=>((P1_ k_ ∨ P2_ k_) ∨ w.heap.size ≤ k_))) (okp:=(fun k_=>((P1_ k_ ∨ P2_ k_) ∨ w.heap.size ≤ k_))) ?hr ?hp (fun _ hk=>hk) ((show ∀ k_,w.heap.size ≤ k_ → (fun k_=>((P1_ k_ ∨ P2_ k_) ∨ w.heap.size ≤ k_)) k_ from fun k_ hk=>(.inr (Nat.le_trans (zb (by repeat (first|(with_reducible first|exact HB.out|apply z4|apply z1|apply z3)|exact HB.out))) hk))) _ (Nat.le_refl _)) (Below.refl _ _) (Nat.le_refl _) (by simp) ?_;(case hd=>rfl);(case hg=>rfl);(case hr=>first|(go_simp;done)|(go_simp;rfl));(case hp=>exact (Reps.one (show Kd.FK (Kd.slice 30 k30) _ _ l1 [.slice A1 l1.length c1] from (Kd.z26 (Kd.z1V (Kd.z1t (ok':=(fun k_=>((P1_ k_ ∨ P2_ k_) ∨ w.heap.size ≤ k_))) (HO1.out) (fun k_ hk=>hk))).2.1 (Kd.V_F (Kd.z1t (ok':=(fun k_=>((P1_ k_ ∨ P2_ k_) ∨ w.heap.size ≤ k_))) (by (with_reducible repeat (first|apply Kd.z19|apply Kd.z1a|apply Kd.z1e));exact HO1.out) (fun k_ hk=>hk))))) (Reps.one (show Kd.FK (Kd.slice 30 k30) _ _ l2 [.slice A2 l2.length c2] from (Kd.z26 (Kd.z1V (Kd.z1t (ok':=(fun k_=>((P1_ k_ ∨ P2_ k_) ∨ w.heap.size ≤ k_))) (HO2.out) (fun k_ hk=>hk))).2.1 (Kd.V_F (Kd.z1t (ok':=(fun k_=>((P1_ k_ ∨ P2_ k_) ∨ w.heap.size ≤ k_))) (by (with_reducible repeat (first|apply Kd.z19|apply Kd.z1a|apply Kd.z1e));exact HO2.out) (fun k_ hk=>hk))))) (Reps.none _ _))));intro v102 w27 ho28 hb hg_ hnew_;clear hg_ hnew_;(first|rw [← Ny101.out] at ho28|(simp only [Int.reduceToNat] at ho28;rw [← Ny101.out] at ho28));have n0_:=z2.mk (Kd.z1O (by (with_reducible repeat (first|apply Kd.z19|apply Kd.z1a|apply Kd.z1e));exact HO1.out) (Kd.z3L ho28) hb);have n1_:=z2.mk (Kd.z1O (by (with_reducible repeat (first|apply Kd.z19|apply Kd.z1a|apply Kd.z1e));exact HO2.out) (Kd.z3L ho28) hb);have n2_:=z2.mk (Kd.z57 ho28 (zb (by repeat (first|(with_reducible first|exact HB.out|apply z4|apply z1|apply z3)|exact HB.out))));have n3_:=z2.mk (za (by repeat (first|(with_reducible first|exact HB.out|apply z4|apply z1|apply z3)|exact HB.out)) hb);clear HO1;clear HO2;clear HB;have HO1:=n0_;have HO2:=n1_;have HO103:=n2_;have HB:=n3_;clear n0_ n1_ n2_ n3_;clear hb ho28;obtain ⟨Ao29,co29,eo29⟩:=Kd.z58 HO103.out;subst eo29)|((with_reducible refine zj (f:=90) rfl ?_);refine goesL_ (some 16) rfl rfl Try.func90 (by kernel_rfl) rfl #[.int .i64 a0,.slice Ao29 y101.length co29,.slice none 0 0] rfl (by (try simp only [List.map_toArray,List.map_cons,List.map_nil]);first|done|rfl|(simp only [List.length_drop,List.length_take];rfl)) ?_;(refine (zA.calls k a0 _ _ y101 _ _ ([] : List (S30)) t104 _ ?side1 ?side2 ?side3 ?side4 A4.out).mono ?_);(case side1=>repeat (first|exact (Kd.z2s HO103.out).2.2|(with_reducible refine Kd.z1o ?_ _)|(with_reducible refine Kd.z1p ?_ _)|(with_reducible refine Kd.z1C ?_)));(case side2=>exact (Kd.z2s HO103.out).2.1);(case side3=>exact Kd.z6J _ _);(case side4=>exact Nat.le_refl _);rintro e w30 ⟨rfl,hb⟩;refine ⟨_,rfl,?_⟩;have n0_:=z2.mk (Kd.z1X (by (with_reducible repeat (first|apply Kd.z19|apply Kd.z1a|apply Kd.z1e));exact HO1.out) hb);have n1_:=z2.mk (Kd.z1X (by (with_reducible repeat (first|apply Kd.z19|apply Kd.z1a|apply Kd.z1e));exact HO2.out) hb);have n2_:=z2.mk (Kd.z2S (by (with_reducible repeat (first|apply Kd.z2R|apply Kd.z2T|apply Kd.z3M));exact HO103.out) hb);have n3_:=z2.mk (za (by repeat (first|(with_reducible first|exact HB.out|apply z4|apply z1|apply z3)|exact HB.out)) hb);clear HO1;clear HO2;clear HO103;clear HB;have HO1:=n0_;have HO2:=n1_;have HO103:=n2_;have HB:=n3_;clear n0_ n1_ n2_ n3_;(try clear hb);(try clear hb2);(try clear hk);(try clear hi)))
   go_ret2
   exact ⟨_,by first|rfl|(simp [zk,zl] <;> rfl)|(simp [*,zk,zl] <;> rfl),by first|exact Kd.z2C _ _ _ _ _|exact Kd.z3k _ _ _ _ _|exact Kd.z3o _ _ _ _ _|exact Kd.z3m _ _ _ _ _|exact Kd.z3n _ _ _ _ _,by repeat (first|(with_reducible first|exact HB.out|apply z4|apply z1|apply z3)|exact HB.out)⟩
 rw [if_pos c5] at H
 have c5b0 : (t104 == 0) = true:=beq_iff_eq.mpr c5
 have c5b1 : (t104 != 0) = false:=bne_eq_false_iff_eq.mpr c5
 clear c5
 replace H:=Option.bind_eq_some_iff.mp H
 obtain ⟨t105,A60,H⟩:=H
 replace H : (if 0 ≤ t105 then (if (t105 : Int).toNat ≤ 17592186044416 then (z10.l0 k a0 l1 (List.replicate (t105 : Int).toNat z30) l2 (l2.length : Int) 0) else (none)) else (none)) = some (r1,r2):=H
 have A6:=z2.mk A60
 clear A60
 by_cases c7 : 0 ≤ t105
 rotate_left
 · rw [if_neg c7] at H
   exact absurd H (by simp)
 rw [if_pos c7] at H
 have c7b0:=eq_true c7
 have c7b1 : decide (0 ≤ t105) = true:=decide_eq_true c7
 clear c7
 by_cases c8 : (t105 : Int).toNat ≤ 17592186044416
 rotate_left
 · rw [if_neg c8] at H
   exact absurd H (by simp)
 rw [if_pos c8] at H
 have c8b0:=eq_true c8
 have c8b1 : decide ((t105 : Int).toNat ≤ 17592186044416) = true:=decide_eq_true c8
 clear c8
 obtain ⟨y106,hy106⟩ : ∃ y_ : List (S30),y_ = (List.replicate (t105 : Int).toNat z30):=⟨_,rfl⟩
 replace H : (z10.l0 k a0 l1 y106 l2 (l2.length : Int) 0) = some (r1,r2):=by first|(rw [hy106];with_reducible exact H)|(have H2_:=(Option.bind_some _ _).symm.trans H;rw [hy106];with_reducible exact H2_)|(have H2_:=(Option.bind_some _ _).symm.trans H;with_reducible exact H2_)|with_reducible exact H|(rw [hy106];exact H)|exact H
 have Ny106:=z2.mk hy106
 clear hy106
 have H':=z2.mk H
 clear H
 go_enter Try.func41,Try.ntmps41
 go_wp2_with (first|((with_reducible refine zK (N:=15) rfl ?_);refine Kd.N_lit (Kd.slice 30 k30) _ 80 ?hg (N':=15) ?hd (xs:=([l1,l2] : List (List (S30)))) (inner:=[.slice A1 l1.length c1,.slice A2 l2.length c2]) (ok:=(fun k_=>((P1_ k_ ∨ P2_ k_) ∨ w.heap.size ≤ k_))) (okp:=(fun k_=>((P1_ k_ ∨ P2_ k_) ∨ w.heap.size ≤ k_))) ?hr ?hp (fun _ hk=>hk) ((show ∀ k_,w.heap.size ≤ k_ → (fun k_=>((P1_ k_ ∨ P2_ k_) ∨ w.heap.size ≤ k_)) k_ from fun k_ hk=>(.inr (Nat.le_trans (zb (by repeat (first|(with_reducible first|exact HB.out|apply z4|apply z1|apply z3)|exact HB.out))) hk))) _ (Nat.le_refl _)) (Below.refl _ _) (Nat.le_refl _) (by simp) ?_;(case hd=>rfl);(case hg=>rfl);(case hr=>first|(go_simp;done)|(go_simp;rfl));(case hp=>exact (Reps.one (show Kd.FK (Kd.slice 30 k30) _ _ l1 [.slice A1 l1.length c1] from (Kd.z26 (Kd.z1V (Kd.z1t (ok':=(fun k_=>((P1_ k_ ∨ P2_ k_) ∨ w.heap.size ≤ k_))) (HO1.out) (fun k_ hk=>hk))).2.1 (Kd.V_F (Kd.z1t (ok':=(fun k_=>((P1_ k_ ∨ P2_ k_) ∨ w.heap.size ≤ k_))) (by (with_reducible repeat (first|apply Kd.z19|apply Kd.z1a|apply Kd.z1e));exact HO1.out) (fun k_ hk=>hk))))) (Reps.one (show Kd.FK (Kd.slice 30 k30) _ _ l2 [.slice A2 l2.length c2] from (Kd.z26 (Kd.z1V (Kd.z1t (ok':=(fun k_=>((P1_ k_ ∨ P2_ k_) ∨ w.heap.size ≤ k_))) (HO2.out) (fun k_ hk=>hk))).2.1 (Kd.V_F (Kd.z1t (ok':=(fun k_=>((P1_ k_ ∨ P2_ k_) ∨ w.heap.size ≤ k_))) (by (with_reducible repeat (first|apply Kd.z19|apply Kd.z1a|apply Kd.z1e));exact HO2.out) (fun k_ hk=>hk))))) (Reps.none _ _))));intro v102 w9 ho10 hb hg_ hnew_;clear hg_ hnew_;(first|rw [← Ny101.out] at ho10|(simp only [Int.reduceToNat] at ho10;rw [← Ny101.out] at ho10));have n0_:=z2.mk (Kd.z1O (by (with_reducible repeat (first|apply Kd.z19|apply Kd.z1a|apply Kd.z1e));exact HO1.out) (Kd.z3L ho10) hb);have n1_:=z2.mk (Kd.z1O (by (with_reducible repeat (first|apply Kd.z19|apply Kd.z1a|apply Kd.z1e));exact HO2.out) (Kd.z3L ho10) hb);have n2_:=z2.mk (Kd.z57 ho10 (zb (by repeat (first|(with_reducible first|exact HB.out|apply z4|apply z1|apply z3)|exact HB.out))));have n3_:=z2.mk (za (by repeat (first|(with_reducible first|exact HB.out|apply z4|apply z1|apply z3)|exact HB.out)) hb);clear HO1;clear HO2;clear HB;have HO1:=n0_;have HO2:=n1_;have HO103:=n2_;have HB:=n3_;clear n0_ n1_ n2_ n3_;clear hb ho10;obtain ⟨Ao11,co11,eo11⟩:=Kd.z58 HO103.out;subst eo11)|((with_reducible refine zj (f:=90) rfl ?_);refine goesL_ (some 16) rfl rfl Try.func90 (by kernel_rfl) rfl #[.int .i64 a0,.slice Ao11 y101.length co11,.slice none 0 0] rfl (by (try simp only [List.map_toArray,List.map_cons,List.map_nil]);first|done|rfl|(simp only [List.length_drop,List.length_take];rfl)) ?_;(refine (zA.calls k a0 _ _ y101 _ _ ([] : List (S30)) t104 _ ?side1 ?side2 ?side3 ?side4 A4.out).mono ?_);(case side1=>repeat (first|exact (Kd.z2s HO103.out).2.2|(with_reducible refine Kd.z1o ?_ _)|(with_reducible refine Kd.z1p ?_ _)|(with_reducible refine Kd.z1C ?_)));(case side2=>exact (Kd.z2s HO103.out).2.1);(case side3=>exact Kd.z6J _ _);(case side4=>exact Nat.le_refl _);rintro e w12 ⟨rfl,hb⟩;refine ⟨_,rfl,?_⟩;have n0_:=z2.mk (Kd.z1X (by (with_reducible repeat (first|apply Kd.z19|apply Kd.z1a|apply Kd.z1e));exact HO1.out) hb);have n1_:=z2.mk (Kd.z1X (by (with_reducible repeat (first|apply Kd.z19|apply Kd.z1a|apply Kd.z1e));exact HO2.out) hb);have n2_:=z2.mk (Kd.z2S (by (with_reducible repeat (first|apply Kd.z2R|apply Kd.z2T|apply Kd.z3M));exact HO103.out) hb);have n3_:=z2.mk (za (by repeat (first|(with_reducible first|exact HB.out|apply z4|apply z1|apply z3)|exact HB.out)) hb);clear HO1;clear HO2;clear HO103;clear HB;have HO1:=n0_;have HO2:=n1_;have HO103:=n2_;have HB:=n3_;clear n0_ n1_ n2_ n3_;(try clear hb);(try clear hb2);(try clear hk);(try clear hi))|((with_reducible refine zj (f:=92) rfl ?_);refine goesL_ (some 21) rfl rfl Try.func92 (by kernel_rfl) rfl #[.int .i64 a0] rfl (by (try simp only [List.map_toArray,List.map_cons,List.map_nil]);first|done|rfl|(simp only [List.length_drop,List.length_take];rfl)) ?_;(with_reducible refine (zH.calls k a0 t105 _ A6.out).mono ?_);rintro e w' ⟨rfl,⟨nd,rfl⟩⟩;refine ⟨_,rfl,?_⟩)|((with_reducible refine zK (N:=22) rfl ?_);refine Kd.z5z k30 _ 30 rfl (N:=22) rfl 80 _ _ rfl t105 rfl rfl Try.underlying80 (.agg #[(.int .u64 0),(.int .u64 0)]) 16 info30 rfl (by decide) (by omega) z30 (ok:=fun _=>True) (okp:=fun _=>True) (z2e _ _ _ z30 ) (fun _ hk=>hk) trivial (of_decide_eq_true (by first|(with_reducible assumption)|assumption)) (Nat.le_trans (Nat.mul_le_mul_right _ (of_decide_eq_true (by first|(with_reducible assumption)|assumption) : t105.toNat ≤ 17592186044416)) (by omega)) (Below.refl _ _) (Nat.le_refl _) ?_;intro v107 w13 ho14 hb hg_ hnew_;clear hg_ hnew_;(first|rw [← Ny106.out] at ho14|(simp only [Int.reduceToNat] at ho14;rw [← Ny106.out] at ho14));have n0_:=z2.mk (Kd.z1O (by (with_reducible repeat (first|apply Kd.z19|apply Kd.z1a|apply Kd.z1e));exact HO1.out) (Kd.z1v ho14) hb);have n1_:=z2.mk (Kd.z1O (by (with_reducible repeat (first|apply Kd.z19|apply Kd.z1a|apply Kd.z1e));exact HO2.out) (Kd.z1v ho14) hb);have n2_:=z2.mk (Kd.z3V (by (with_reducible repeat (first|apply Kd.z2R|apply Kd.z2T|apply Kd.z3M));exact HO103.out) (Kd.z1v ho14) hb);have n3_:=z2.mk (Kd.z1l (Kd.z4U (M:=fun k_=>(w.heap.size ≤ k_)) ho14 (zb (by repeat (first|(with_reducible first|exact HB.out|apply z4|apply z1|apply z3)|exact HB.out))) (fun k_ h_=>h_)) (zb (by repeat (first|(with_reducible first|exact HB.out|apply z4|apply z1|apply z3)|exact HB.out))));have n4_:=z2.mk (za (by repeat (first|(with_reducible first|exact HB.out|apply z4|apply z1|apply z3)|exact HB.out)) hb);clear HO1;clear HO2;clear HO103;clear HB;have HO1:=n0_;have HO2:=n1_;have HO103:=n2_;have HO108:=n3_;have HB:=n4_;clear n0_ n1_ n2_ n3_ n4_;clear hb ho14))
 go_loopg [25] k (fun kq v25 w'=>∃ (x9_1 : List (S30)) (x25_1 : Int),v25 = .int .i64 x25_1 ∧ z2 (z10.l0 kq a0 l1 x9_1 l2 (l2.length : Int) x25_1 = some (r1,r2)) ∧ z2 (kq ≤ k) ∧ z2 (Kd.V k30 30 w' w.heap.size (fun k_=>((P1_ k_ ∨ P2_ k_) ∨ w.heap.size ≤ k_) ∧ some k_ ≠ (v107 : Value).ownBlock) (.slice A1 l1.length c1) l1) ∧ z2 (Kd.R k30 30 w' w.heap.size (fun k_=>(w.heap.size ≤ k_)) v107 x9_1) ∧ z2 (Kd.V k30 30 w' w.heap.size (fun k_=>((P1_ k_ ∨ P2_ k_) ∨ w.heap.size ≤ k_) ∧ some k_ ≠ (v107 : Value).ownBlock) (.slice A2 l2.length c2) l2) ∧ z2 (Below w.heap.size w w'))
 case atStart=>exact ⟨(y106),(0),(by first|rfl|(simp;done)|(simp [*];done)),H',⟨Nat.le_refl _⟩,⟨by (with_reducible repeat (first|apply Kd.z19|apply Kd.z1a|apply Kd.z1e));exact Kd.z1t HO1.out (fun _ hk=>⟨hk.1.1,hk.2⟩)⟩,⟨by (with_reducible repeat (first|apply Kd.ze|apply Kd.zf|apply Kd.zo));exact Kd.zY HO108.out (fun _ hk=>hk.1)⟩,⟨by (with_reducible repeat (first|apply Kd.z19|apply Kd.z1a|apply Kd.z1e));exact Kd.z1t HO2.out (fun _ hk=>⟨hk.1.1,hk.2⟩)⟩,⟨by repeat (first|(with_reducible first|exact HB.out|apply z4|apply z1|apply z3)|exact HB.out)⟩⟩
 case round =>
  clear H'
  (try clear c1);(try clear c2);(try clear p2);(try clear c4);(try clear c5);(try clear c5b0);(try clear c5b1);(try clear c7);(try clear c7b0);(try clear c7b1);(try clear c8);(try clear c8b0);(try clear c8b1);(try clear c9)
  obtain ⟨x9_1,x25_1,rfl,HA,HK1,HO_1,HO_9,HO_23,HB⟩:=hrel
  cases gk with
  | zero=>exact absurd HA.out (by simp [z10.l0])
  | succ k1 =>
   have H:=HA.out
   clear HA
   simp only [z10.l0] at H
   by_cases c15 : x25_1 < (l2.length : Int)
   rotate_left
   · rw [if_neg c15] at H
     have c15b0 : decide (x25_1 < (l2.length : Int)) = false:=decide_eq_false c15
     clear c15
     simp only [Option.some.injEq,Prod.mk.injEq] at H
     obtain ⟨rfl,rfl⟩:=H
     go_wp2
     go_ret2
     exact ⟨_,by first|rfl|(simp [zk,zl] <;> rfl)|(simp [*,zk,zl] <;> rfl),by (with_reducible repeat (first|apply Kd.ze|apply Kd.zf|apply Kd.zo));exact HO_9.out,by repeat (first|(with_reducible first|exact HB.out|apply z4|apply z1|apply z3)|exact HB.out)⟩
   rw [if_pos c15] at H
   have c15b0 : decide (x25_1 < (l2.length : Int)) = true:=decide_eq_true c15
   clear c15
   by_cases c16 : 0 ≤ x25_1
   rotate_left
   · rw [if_neg c16] at H
     exact absurd H (by simp)
   rw [if_pos c16] at H
   have c16b0 : decide (0 ≤ x25_1) = true:=decide_eq_true c16
   clear c16
   by_cases c17 : x25_1 < (l2.length : Int)
   rotate_left
   · rw [if_neg c17] at H
     exact absurd H (by simp)
   rw [if_pos c17] at H
   have c17b0 : decide (x25_1 < (l2.length : Int)) = true:=decide_eq_true c17
   clear c17
   replace H:=Option.bind_eq_some_iff.mp H
   obtain ⟨⟨t111,t112⟩,A180,H⟩:=H
   replace H : ((zm.f k1 a0 x9_1 l1 t111 t112 ((zi l2 x25_1).f0) ((zi l2 x25_1).f1)).bind fun t113=>(z10.l0 k1 a0 l1 t113 l2 (l2.length : Int) (wrap64 (x25_1 + 1)))) = some (r1,r2):=H
   have A18:=z2.mk A180
   clear A180
   replace H:=Option.bind_eq_some_iff.mp H
   obtain ⟨t113,A190,H⟩:=H
   replace H : (z10.l0 k1 a0 l1 t113 l2 (l2.length : Int) (wrap64 (x25_1 + 1))) = some (r1,r2):=H
   have A19:=z2.mk A190
   clear A190
   have H':=z2.mk H
   clear H
   have p109 : 0 ≤ (x25_1 : Int):=of_decide_eq_true (by first|(with_reducible assumption)|assumption)
   have q109 : x25_1 < (l2.length : Int):=of_decide_eq_true (by first|(with_reducible assumption)|assumption)
   obtain ⟨ad109,e109,hx109_0,hx109_1⟩:=z29 (Kd.z1V HO_23.out).2.2 x25_1 p109 q109
   cases e109
   replace p109:=eq_true p109
   replace q109:=eq_true q109
   try go_wp2_with (first|((with_reducible refine zK (N:=11) rfl ?_);refine zJ ?hg (N:=11) ?hd (cs:=#[.int .u64 0,.int .u64 0]) (t:=30) ?hr ?_;(case hd=>rfl);(case hg=>rfl);(case hr=>first|(go_simp;done)|(go_simp;rfl));intro gb110 hg w20 hbox hb;have n0_:=z2.mk (Kd.z1X (Kd.z3X (by (with_reducible repeat (first|apply Kd.z19|apply Kd.z1a|apply Kd.z1e));exact HO_1.out) gb110 (Nat.le_of_eq hg.symm)) hb);have n1_:=z2.mk (Kd.zO (Kd.z1R (by (with_reducible repeat (first|apply Kd.ze|apply Kd.zf|apply Kd.zo));exact HO_9.out) gb110 (Nat.le_of_eq hg.symm)) hb);have n2_:=z2.mk (Kd.z1X (Kd.z3X (by (with_reducible repeat (first|apply Kd.z19|apply Kd.z1a|apply Kd.z1e));exact HO_23.out) gb110 (Nat.le_of_eq hg.symm)) hb);have n3_:=z2.mk (za (by repeat (first|(with_reducible first|exact HB.out|apply z4|apply z1|apply z3)|exact HB.out)) hb);have n4_:=z2.mk (hbox);have n5_:=z2.mk ((by rw [hg];exact (zb (by repeat (first|(with_reducible first|exact HB.out|apply z4|apply z1|apply z3)|exact HB.out))) : w.heap.size ≤ gb110));have n6_:=z2.mk ((by rw [hg];exact (zb (by repeat (first|(with_reducible first|exact HB.out|apply z4|apply z1|apply z3)|exact HB.out))) : w.heap.size ≤ gb110));clear HO_1;clear HO_9;clear HO_23;clear HB;have HO_1:=n0_;have HO_9:=n1_;have HO_23:=n2_;have HB:=n3_;have BK110:=n4_;have GW110:=n5_;have GE110:=n6_;clear n0_ n1_ n2_ n3_ n4_ n5_ n6_;clear hb hbox hg;have hcz21_0 : w20.cell? ⟨gb110,0,none⟩ = some (.int .u64 0):=(zc BK110.out 0).trans rfl;have hcz21_1 : w20.cell? ⟨gb110,1,none⟩ = some (.int .u64 0):=(zc BK110.out 1).trans rfl;have hfz21_0:=zd BK110.out 0;have hfz21_1:=zd BK110.out 1))
   have n0_ : z2 (Kd.V k30 30 ((w20.setCell ⟨gb110,0,none⟩ (.int .u64 ((zi l2 x25_1).f0))).setCell ⟨gb110,1,none⟩ (.int .u64 ((zi l2 x25_1).f1))) w.heap.size (fun k_=>((P1_ k_ ∨ P2_ k_) ∨ w.heap.size ≤ k_) ∧ some k_ ≠ (v107 : Value).ownBlock ∧ k_ ≠ gb110) (.slice A1 l1.length c1) l1):=⟨by (with_reducible repeat (first|apply Kd.z19|apply Kd.z1a|apply Kd.z1e));exact Kd.z1t (Kd.z3T (p:=⟨gb110,1,none⟩) (Kd.z3T (p:=⟨gb110,0,none⟩) (Kd.z1t HO_1.out (fun k_ hk=>(⟨hk,hk.2⟩ : _ ∧ k_ ≠ gb110))) (fun _ hk=>hk.2) (.int .u64 ((zi l2 x25_1).f0))) (fun _ hk=>hk.2) (.int .u64 ((zi l2 x25_1).f1))) (fun _ hk=>⟨hk.1.1.1,⟨hk.1.1.2,hk.1.2⟩⟩)⟩
   have n1_ : z2 (Kd.R k30 30 ((w20.setCell ⟨gb110,0,none⟩ (.int .u64 ((zi l2 x25_1).f0))).setCell ⟨gb110,1,none⟩ (.int .u64 ((zi l2 x25_1).f1))) w.heap.size (fun k_=>(w.heap.size ≤ k_) ∧ k_ ≠ gb110) v107 x9_1):=⟨by (with_reducible repeat (first|apply Kd.ze|apply Kd.zf|apply Kd.zo));exact Kd.zY (Kd.z22 (p:=⟨gb110,1,none⟩) (Kd.z22 (p:=⟨gb110,0,none⟩) (Kd.zY HO_9.out (fun k_ hk=>(⟨hk,hk.2⟩ : _ ∧ k_ ≠ gb110))) (fun _ hk=>hk.2) (.int .u64 ((zi l2 x25_1).f0))) (fun _ hk=>hk.2) (.int .u64 ((zi l2 x25_1).f1))) (fun _ hk=>⟨hk.1.1,hk.1.2⟩)⟩
   have n2_ : z2 (Kd.V k30 30 ((w20.setCell ⟨gb110,0,none⟩ (.int .u64 ((zi l2 x25_1).f0))).setCell ⟨gb110,1,none⟩ (.int .u64 ((zi l2 x25_1).f1))) w.heap.size (fun k_=>((P1_ k_ ∨ P2_ k_) ∨ w.heap.size ≤ k_) ∧ some k_ ≠ (v107 : Value).ownBlock ∧ k_ ≠ gb110) (.slice (some ad109) l2.length c2) l2):=⟨by (with_reducible repeat (first|apply Kd.z19|apply Kd.z1a|apply Kd.z1e));exact Kd.z1t (Kd.z3T (p:=⟨gb110,1,none⟩) (Kd.z3T (p:=⟨gb110,0,none⟩) (Kd.z1t HO_23.out (fun k_ hk=>(⟨hk,hk.2⟩ : _ ∧ k_ ≠ gb110))) (fun _ hk=>hk.2) (.int .u64 ((zi l2 x25_1).f0))) (fun _ hk=>hk.2) (.int .u64 ((zi l2 x25_1).f1))) (fun _ hk=>⟨hk.1.1.1,⟨hk.1.1.2,hk.1.2⟩⟩)⟩
   have n3_ : z2 (((w20.setCell ⟨gb110,0,none⟩ (.int .u64 ((zi l2 x25_1).f0))).setCell ⟨gb110,1,none⟩ (.int .u64 ((zi l2 x25_1).f1))).heap[gb110]? = some (.cells #[.int .u64 ((zi l2 x25_1).f0),.int .u64 ((zi l2 x25_1).f1)] 30 (0,0))):=⟨by (with_reducible repeat (first|refine z6 ?_ _|refine z8 ?_|refine z5 ?_ _));refine z11 (cs:=#[.int .u64 ((zi l2 x25_1).f0),.int .u64 0]) ?_ 1 _ rfl;(with_reducible repeat (first|refine z6 ?_ _|refine z8 ?_|refine z5 ?_ _));refine z11 (cs:=#[.int .u64 0,.int .u64 0]) ?_ 0 _ rfl;(with_reducible repeat (first|refine z6 ?_ _|refine z8 ?_|refine z5 ?_ _));exact BK110.out⟩
   have n4_ : z2 (Below w.heap.size w ((w20.setCell ⟨gb110,0,none⟩ (.int .u64 ((zi l2 x25_1).f0))).setCell ⟨gb110,1,none⟩ (.int .u64 ((zi l2 x25_1).f1)))):=⟨by repeat (first|(with_reducible first|exact HB.out|apply z4|apply z1|apply z3|refine z9 ?_ GE110.out)|exact HB.out)⟩
   (try clear HO_1)
   (try clear HO_9)
   (try clear HO_23)
   (try clear BK110)
   (try clear HB)
   generalize ((w20.setCell ⟨gb110,0,none⟩ (.int .u64 ((zi l2 x25_1).f0))).setCell ⟨gb110,1,none⟩ (.int .u64 ((zi l2 x25_1).f1))) = w22 at n0_ n1_ n2_ n3_ n4_ ⊢
   have HO_1:=n0_
   have HO_9:=n1_
   have HO_23:=n2_
   have BK110:=n3_
   have HB:=n4_
   clear n0_ n1_ n2_ n3_ n4_
   have n0_:=z2.mk (Kd.z1e HO_1.out)
   have n1_:=z2.mk (Kd.zo HO_9.out)
   have n2_:=z2.mk (Kd.z1e HO_23.out)
   have n3_:=z2.mk (z8 BK110.out)
   have n4_:=z2.mk (z3 HB.out)
   clear HO_1
   clear HO_9
   clear HO_23
   clear BK110
   clear HB
   have HO_1:=n0_
   have HO_9:=n1_
   have HO_23:=n2_
   have BK110:=n3_
   have HB:=n4_
   clear n0_ n1_ n2_ n3_ n4_
   refine start_ (n:=7) (S:=fun w'=>w'.cell? ⟨gb110,0,none⟩ = some (.int .u64 ((zi l2 x25_1).f0)) ∧ w'.cell? ⟨gb110,1,none⟩ = some (.int .u64 ((zi l2 x25_1).f1))) (ds:=[]) #[false,false,false,false,false,false,false] (by kernel_rfl) rfl rfl ⟨(zc BK110.out 0).trans rfl,(zc BK110.out 1).trans rfl⟩ (fun hHeld=>?_)
   generalize w22.drew = w23 at HO_1 HO_9 HO_23 BK110 HB hHeld ⊢
   refine pure_ (i:=0) (N:=some 30) (v:=?_) (a':=?_) #[true,false,false,false,false,false,false] rfl rfl (by kernel_rfl) (fun _ _ _ h=>h) (Or.inl ⟨by rfl,?_⟩) ?_ ?_
   rotate_left
   · intro w'
     go_simp
     with_reducible rfl
   rotate_left
   · simp only [Act.put,List.setIfInBounds_toArray,List.set_cons_zero,List.set_cons_succ,zZ,z14]
     rfl
   refine pure_ (i:=1) (N:=some 31) (v:=?_) (a':=?_) #[true,true,false,false,false,false,false] rfl rfl (by kernel_rfl) (fun _ _ _ h=>h) (Or.inl ⟨by rfl,?_⟩) ?_ ?_
   rotate_left
   · intro w'
     go_simp
     with_reducible rfl
   rotate_left
   · simp only [Act.put,List.setIfInBounds_toArray,List.set_cons_zero,List.set_cons_succ,zZ,z14]
     rfl
   refine pure_ (i:=2) (N:=some 32) (v:=?_) (a':=?_) #[true,true,true,false,false,false,false] rfl rfl (by kernel_rfl) (fun _ _ _ h=>h) (Or.inl ⟨by rfl,?_⟩) ?_ ?_
   rotate_left
   · intro w'
     go_simp
     with_reducible rfl
   rotate_left
   · simp only [Act.put,List.setIfInBounds_toArray,List.set_cons_zero,List.set_cons_succ,zZ,z14]
     rfl
   refine pure_ (i:=3) (N:=some 33) (v:=?_) (a':=?_) #[true,true,true,true,false,false,false] rfl rfl (by kernel_rfl) (fun _ _ _ h=>h) (Or.inl ⟨by rfl,?_⟩) ?_ ?_
   rotate_left
   · intro w'
     go_simp
     with_reducible rfl
   rotate_left
   · simp only [Act.put,List.setIfInBounds_toArray,List.set_cons_zero,List.set_cons_succ,zZ,z14]
     rfl
   refine take_ (i:=5) (N:=some 35) (v:=?_) (a':=?_) #[true,true,true,true,false,true,false] rfl rfl (by kernel_rfl) (fun _ _ _ h=>h) (Or.inl ⟨by rfl,?_⟩) hHeld ?_ ?_
   rotate_left
   · rintro w' ⟨s0,s1⟩
     go_simp
     with_reducible rfl
   rotate_left
   · simp only [Act.put,List.setIfInBounds_toArray,List.set_cons_zero,List.set_cons_succ,zZ,z14]
     rfl
   refine one_ (i:=4) (N:=some 34) #[true,true,true,true,true,true,false] rfl rfl (by kernel_rfl) (by decide) (fun K hK=>?_)
   refine goes_ Try.func94 (by kernel_rfl) rfl #[.int .i64 x25_1] (by rfl) rfl rfl (by (try simp only [List.map_toArray,List.map_cons,List.map_nil]);first|done|rfl|(simp only [List.length_drop,List.length_take];rfl)) ?_
   with_reducible refine (z12.calls k1 x25_1 t111 t112 _ A18.out).mono ?_
   rintro e w24 ⟨rfl,hb⟩
   refine ⟨_,rfl,?_⟩
   have n0_:=z2.mk (Kd.z1X (by (with_reducible repeat (first|apply Kd.z19|apply Kd.z1a|apply Kd.z1e));exact HO_1.out) hb)
   have n1_:=z2.mk (Kd.zO (by (with_reducible repeat (first|apply Kd.ze|apply Kd.zf|apply Kd.zo));exact HO_9.out) hb)
   have n2_:=z2.mk (Kd.z1X (by (with_reducible repeat (first|apply Kd.z19|apply Kd.z1a|apply Kd.z1e));exact HO_23.out) hb)
   have n3_:=z2.mk (zg (g:=gb110) (o:=.cells #[.int .u64 ((zi l2 x25_1).f0),.int .u64 ((zi l2 x25_1).f1)] 30 (0,0)) (by (with_reducible repeat (first|refine z6 ?_ _|refine z8 ?_|refine z5 ?_ _));exact BK110.out) hb)
   have n4_:=z2.mk (za (by repeat (first|(with_reducible first|exact HB.out|apply z4|apply z1|apply z3|refine z9 ?_ GE110.out)|exact HB.out)) hb)
   clear HO_1
   clear HO_9
   clear HO_23
   clear BK110
   clear HB
   have HO_1:=n0_
   have HO_9:=n1_
   have HO_23:=n2_
   have BK110:=n3_
   have HB:=n4_
   clear n0_ n1_ n2_ n3_ n4_
   (try clear hb)
   (try clear hb2)
   (try clear hk)
   (try clear hi)
   obtain ⟨Ao25,co25,eo25⟩:=Kd.z1d HO_9.out
   (first|subst eo25|(injection eo25 with f1_ f2_ f3_;have f4_:=f1_.symm;have f5_:=f3_.symm;clear f1_ f2_ f3_;subst f4_;subst f5_))
   refine hK.out _ _ ⟨(zc BK110.out 0).trans rfl,(zc BK110.out 1).trans rfl⟩ (fun hHeld=>?_)
   clear hK K
   refine norm_ (a':=?_) ?_ ?_
   rotate_left
   · show Act.put _ (some 34) _ = _
     simp only [Act.put,List.setIfInBounds_toArray,List.set_cons_zero,List.set_cons_succ,zZ,z14]
     rfl
   refine one_ (i:=6) (N:=some 36) #[true,true,true,true,true,true,true] rfl rfl (by kernel_rfl) (by decide) (fun K hK=>?_)
   refine goes_ Try.func93 (by kernel_rfl) rfl #[.int .i64 a0,.slice Ao25 x9_1.length co25,.slice A1 l1.length c1,.agg #[.int .u64 t111,.int .u64 t112],.agg #[.int .u64 ((zi l2 x25_1).f0),.int .u64 ((zi l2 x25_1).f1)]] (by rfl) rfl rfl (by (try simp only [List.map_toArray,List.map_cons,List.map_nil]);first|done|rfl|(simp only [List.length_drop,List.length_take];rfl)) ?_
   with_reducible refine (zm.calls k1 a0 (fun k_=>some k_ = (.slice Ao25 x9_1.length co25 : Value).ownBlock) (.slice Ao25 x9_1.length co25) x9_1 _ _ l1 t111 t112 ((zi l2 x25_1).f0) ((zi l2 x25_1).f1) t113 w _ ?side1 ?side2 ?side3 ?side4 A19.out).mono ?_
   (case side1=>repeat (first|(with_reducible first|exact HB.out|apply z4|apply z1|apply z3|refine z9 ?_ GE110.out)|exact HB.out))
   (case side2=>exact Kd.z2i rfl HO_9.out)
   (case side3=>exact Kd.z61 (HO_1.out) (fun k_ hk_ hs_=>(hk_.2.1) hs_))
   (case side4=>exact (Kd.z1V HO_1.out).2.1)
   rintro e w26 ⟨rfl,hy0,hb,hkp⟩
   refine ⟨_,rfl,?_⟩
   have n0_:=z2.mk (Kd.z1t (ok':=fun k_=>((P1_ k_ ∨ P2_ k_) ∨ w.heap.size ≤ k_) ∧ some k_ ≠ (.slice Ao25 x9_1.length co25 : Value).ownBlock ∧ k_ ≠ gb110) (Kd.z4b (HO_1.out) hkp (fun k_ hk_ hs_=>(hk_.2.1) hs_)) (fun k_ hk_=>⟨hk_.1.1,hk_.1.2.1,hk_.1.2.2⟩))
   have n1_:=z2.mk (Kd.z7d rfl hy0 (fun k_ e_=>HO_9.out.1 k_ e_))
   have n2_:=z2.mk (Kd.z1t (ok':=fun k_=>((P1_ k_ ∨ P2_ k_) ∨ w.heap.size ≤ k_) ∧ some k_ ≠ (.slice Ao25 x9_1.length co25 : Value).ownBlock ∧ k_ ≠ gb110) (Kd.z4b (HO_23.out) hkp (fun k_ hk_ hs_=>(hk_.2.1) hs_)) (fun k_ hk_=>⟨hk_.1.1,hk_.1.2.1,hk_.1.2.2⟩))
   have n3_:=z2.mk (z6k (by (with_reducible repeat (first|refine z6 ?_ _|refine z8 ?_|refine z5 ?_ _));exact BK110.out) hkp (fun hs_=>(fun e_=>(Kd.z27 HO_9.out (fun _ hk=>hk.2)) e_) hs_))
   have n4_:=z2.mk (hb)
   clear HO_1
   clear HO_9
   clear HO_23
   clear BK110
   clear HB
   have HO_1:=n0_
   have HO_9:=n1_
   have HO_23:=n2_
   have BK110:=n3_
   have HB:=n4_
   clear n0_ n1_ n2_ n3_ n4_
   (try clear hb)
   (try clear hkp)
   (try clear hy0)
   refine hK.out _ _ ⟨(zc BK110.out 0).trans rfl,(zc BK110.out 1).trans rfl⟩ (fun hHeld=>?_)
   clear hK K
   refine norm_ (a':=?_) ?_ ?_
   rotate_left
   · show Act.put _ (some 36) _ = _
     simp only [Act.put,List.setIfInBounds_toArray,List.set_cons_zero,List.set_cons_succ,zZ,z14]
     rfl
   refine done_ (by kernel_rfl) ?_
   try go_wp2
   go_roundg k1
   case measure=>have:=HK1.out;omega
   case rel=>exact ⟨(t113),(wrap64 (x25_1 + 1)),(by first|rfl|(simp;done)|(simp [*];done)),H',⟨by have:=HK1.out;omega⟩,⟨by (with_reducible repeat (first|apply Kd.z19|apply Kd.z1a|apply Kd.z1e));exact Kd.z1t HO_1.out (fun _ hk=>⟨hk.1,hk.2.1⟩)⟩,⟨by (with_reducible repeat (first|apply Kd.ze|apply Kd.zf|apply Kd.zo));exact Kd.zY HO_9.out (fun _ hk=>hk.1)⟩,⟨by (with_reducible repeat (first|apply Kd.z19|apply Kd.z1a|apply Kd.z1e));exact Kd.z1t HO_23.out (fun _ hk=>⟨hk.1,hk.2.1⟩)⟩,⟨by repeat (first|(with_reducible first|exact HB.out|apply z4|apply z1|apply z3|refine z9 ?_ GE110.out)|exact HB.out)⟩⟩
end Go.Proofs.Ytkhmpaooinpfoaa.P
namespace Go.Proofs.Ytkhmpaooinpfoaa.P
open Go.RowKit Go.Proofs.YtkhmpaooinpfoaaW.PrintWords Go.Proofs.YtkhmpaooinpfoaaW.PrintLast Go.Proofs.YtkhmpaooinpfoaaW.PrintMore
attribute [local go_sem] z15 z17 z1f z1g zW zX z16 z18   -- for this text's walks alone
set_option linter.unusedVariables false
set_option linter.unusedSimpArgs false
def z1D.f  : Option (Int × Int):=some (0,1)
set_option maxHeartbeats 8000000 in
set_option maxRecDepth 100000 in
theorem z1D.calls  (r1 : Int) (r2 : Int) (w : World) (h : z1D.f  = some (r1,r2)) :
 Calls Try.prog 99 #[] w fun e w'=>e = .returned (.agg #[.int .u64 r1,.int .u64 r2]) ∧ Below w.heap.size w w':=by
 have hu30:=Try.underlying30
 have HB:=z2.mk (Below.refl w.heap.size w)
 have H : (some (0,1)) = some (r1,r2):=h
 clear h
 simp only [Option.some.injEq,Prod.mk.injEq] at H
 obtain ⟨rfl,rfl⟩:=H
 go_enter Try.func99,Try.ntmps99
 go_wp2_with (first|((with_reducible refine zK (N:=0) rfl ?_);refine zJ ?hg (N:=0) ?hd (cs:=#[.int .u64 0,.int .u64 0]) (t:=30) ?hr ?_;(case hd=>rfl);(case hg=>rfl);(case hr=>first|(go_simp;done)|(go_simp;rfl));intro gb101 hg w1 hbox hb;have n0_:=z2.mk (za (by repeat (first|(with_reducible first|exact HB.out|apply z4|apply z1|apply z3)|exact HB.out)) hb);have n1_:=z2.mk (hbox);have n2_:=z2.mk ((by rw [hg];exact (zb (by repeat (first|(with_reducible first|exact HB.out|apply z4|apply z1|apply z3)|exact HB.out))) : w.heap.size ≤ gb101));have n3_:=z2.mk ((by rw [hg];exact (zb (by repeat (first|(with_reducible first|exact HB.out|apply z4|apply z1|apply z3)|exact HB.out))) : w.heap.size ≤ gb101));clear HB;have HB:=n0_;have BK101:=n1_;have GW101:=n2_;have GE101:=n3_;clear n0_ n1_ n2_ n3_;clear hb hbox hg;have hcz2_0 : w1.cell? ⟨gb101,0,none⟩ = some (.int .u64 0):=(zc BK101.out 0).trans rfl;have hcz2_1 : w1.cell? ⟨gb101,1,none⟩ = some (.int .u64 0):=(zc BK101.out 1).trans rfl;have hfz2_0:=zd BK101.out 0;have hfz2_1:=zd BK101.out 1))
 refine bodyPost_ret (results_cell_row rfl _ _ gb101 30 #[.int .u64 0,.int .u64 1] (0,0) _ rfl (by (with_reducible repeat (first|refine z6 ?_ _|refine z8 ?_|refine z5 ?_ _));refine z11 (cs:=#[.int .u64 0,.int .u64 0]) ?_ 1 _ rfl;(with_reducible repeat (first|refine z6 ?_ _|refine z8 ?_|refine z5 ?_ _));refine z11 (cs:=#[.int .u64 0,.int .u64 0]) ?_ 0 _ rfl;(with_reducible repeat (first|refine z6 ?_ _|refine z8 ?_|refine z5 ?_ _));exact BK101.out) Try.underlying30 rfl (by kernel_rfl)) rfl ?_
 exact ⟨by first|rfl|(simp [zk,zl] <;> rfl)|(simp [*,zk,zl] <;> rfl),by repeat (first|(with_reducible first|exact HB.out|apply z4|apply z1|apply z3|refine z9 ?_ GE101.out)|exact HB.out)⟩
end Go.Proofs.Ytkhmpaooinpfoaa.P
namespace Go.Proofs.Ytkhmpaooinpfoaa.P
open Go.RowKit Go.Proofs.YtkhmpaooinpfoaaW.PrintWords Go.Proofs.YtkhmpaooinpfoaaW.PrintLast Go.Proofs.YtkhmpaooinpfoaaW.PrintMore
attribute [local go_sem] z15 z17 z1f z1g zW zX z16 z18   -- for this text's walks alone
set_option linter.unusedVariables false
set_option linter.unusedSimpArgs false
def zQ.l0 : Nat → List (S30) → List Bool → Int → Int → Option ((List (S30)))
 | 0,_,_,_,_=>none
 | k + 1,x5,x17,x18,x19=>if x19 < x18 then (if 0 ≤ x19 then (if x19 < (x17.length : Int) then (if rdOf false x17 x19 = true then ((z1D.f).bind fun bt111=>(if x19 < (x5.length : Int) then (zQ.l0 k (x5.set (x19 : Int).toNat (⟨bt111.1,bt111.2⟩ : S30)) x17 x18 (wrap64 (x19 + 1))) else (none))) else (zQ.l0 k x5 x17 x18 (wrap64 (x19 + 1)))) else (none)) else (none)) else (some x5)
def zQ.f (k : Nat) (a0 : Int) (a1_0 : Int) (a1_1 : Int) : Option ((List (S30))):=(zL.f k a0 a1_0 a1_1).bind fun t102=>(if t102 = true then ((zH.f k a0).bind fun t103=>(if 0 ≤ t103 then (if (t103 : Int).toNat ≤ 17592186044416 then ((zP.f k a0 a1_0 a1_1).bind fun t107=>(zQ.l0 k (List.replicate (t103 : Int).toNat z30) t107 (t107.length : Int) 0)) else (none)) else (none))) else (some ([] : List (S30))))
theorem zQ.z1b : ∀ k,(∀ y0 y1 y2 y3,LeO (zQ.l0 k y0 y1 y2 y3) (zQ.l0 (k + 1) y0 y1 y2 y3))
 | 0=>fun _ _ _ _ r h=>by simp [zQ.l0] at h
 | k + 1=>by
  have ih0:=zQ.z1b k
  · intro y0 y1 y2 y3
    unfold zQ.l0
    repeat' first
    | (with_reducible exact ih0 _ _ _ _)
    | (with_reducible exact zL.mono _ _ _ _)
    | (with_reducible exact zH.mono _ _)
    | (with_reducible exact zP.mono _ _ _ _)
    | (with_reducible exact LeO.refl _)
    | (with_reducible exact LeO.none _)
    | (with_reducible refine LeO.ite ?_ ?_)
    | (with_reducible refine LeO.bind ?_ (fun _=>?_))
    | exact ih0 _ _ _ _
    | exact zL.mono _ _ _ _
    | exact zH.mono _ _
    | exact zP.mono _ _ _ _
    | exact LeO.none _
    | refine LeO.ite ?_ ?_
    | refine LeO.bind ?_ (fun _=>?_)
theorem zQ.mono : ∀ a0 a1 a2 k,LeO (zQ.f k a0 a1 a2) (zQ.f (k + 1) a0 a1 a2):=by
 intro a0 a1 a2 k
 have ih0:=zQ.z1b k
 unfold zQ.f
 repeat' first
  | (with_reducible exact ih0 _ _ _ _)
  | (with_reducible exact zL.mono _ _ _ _)
  | (with_reducible exact zH.mono _ _)
  | (with_reducible exact zP.mono _ _ _ _)
  | (with_reducible exact LeO.refl _)
  | (with_reducible exact LeO.none _)
  | (with_reducible refine LeO.ite ?_ ?_)
  | (with_reducible refine LeO.bind ?_ (fun _=>?_))
  | exact ih0 _ _ _ _
  | exact zL.mono _ _ _ _
  | exact zH.mono _ _
  | exact zP.mono _ _ _ _
  | exact LeO.none _
  | refine LeO.ite ?_ ?_
  | refine LeO.bind ?_ (fun _=>?_)
set_option maxHeartbeats 8000000 in
set_option maxRecDepth 100000 in
theorem zQ.calls (k : Nat) (a0 : Int) (a1_0 : Int) (a1_1 : Int) (r : List (S30)) (w : World) (h : zQ.f k a0 a1_0 a1_1 = some r) :
 Calls Try.prog 88 #[.int .i64 a0,.agg #[.int .u64 a1_0,.int .u64 a1_1]] w fun e w'=>∃ v0_ : Value,e = .returned (v0_) ∧ Kd.R k30 30 w' w.heap.size (fun _=>True) v0_ r ∧ Below w.heap.size w w':=by
 have hu30:=Try.underlying30
 have HB:=z2.mk (Below.refl w.heap.size w)
 have H : ((zL.f k a0 a1_0 a1_1).bind fun t102=>(if t102 = true then ((zH.f k a0).bind fun t103=>(if 0 ≤ t103 then (if (t103 : Int).toNat ≤ 17592186044416 then ((zP.f k a0 a1_0 a1_1).bind fun t107=>(zQ.l0 k (List.replicate (t103 : Int).toNat z30) t107 (t107.length : Int) 0)) else (none)) else (none))) else (some ([] : List (S30))))) = some r:=h
 clear h
 replace H:=Option.bind_eq_some_iff.mp H
 obtain ⟨t102,A30,H⟩:=H
 replace H : (if t102 = true then ((zH.f k a0).bind fun t103=>(if 0 ≤ t103 then (if (t103 : Int).toNat ≤ 17592186044416 then ((zP.f k a0 a1_0 a1_1).bind fun t107=>(zQ.l0 k (List.replicate (t103 : Int).toNat z30) t107 (t107.length : Int) 0)) else (none)) else (none))) else (some ([] : List (S30)))) = some r:=H
 have A3:=z2.mk A30
 clear A30
 by_cases c4 : t102 = true
 rotate_left
 · replace c4:=Bool.eq_false_iff.mpr c4
   subst c4
   have H1 : (some ([] : List (S30))) = some r:=by rw [if_neg (show ¬ (false = true) by decide)] at H;exact H
   clear H
   have H:=H1
   clear H1
   obtain rfl:=Option.some.inj H
   go_enter Try.func88,Try.ntmps88
   go_wp2_with (first|((with_reducible refine zK (N:=3) rfl ?_);refine zJ ?hg (N:=3) ?hd (cs:=#[.int .u64 a1_0,.int .u64 a1_1]) (t:=30) ?hr ?_;(case hd=>rfl);(case hg=>rfl);(case hr=>first|(go_simp;done)|(go_simp;rfl));intro gb101 hg w28 hbox hb;have n0_:=z2.mk (za (by repeat (first|(with_reducible first|exact HB.out|apply z4|apply z1|apply z3)|exact HB.out)) hb);have n1_:=z2.mk (hbox);have n2_:=z2.mk ((by rw [hg];exact (zb (by repeat (first|(with_reducible first|exact HB.out|apply z4|apply z1|apply z3)|exact HB.out))) : w.heap.size ≤ gb101));have n3_:=z2.mk ((by rw [hg];exact (zb (by repeat (first|(with_reducible first|exact HB.out|apply z4|apply z1|apply z3)|exact HB.out))) : w.heap.size ≤ gb101));clear HB;have HB:=n0_;have BK101:=n1_;have GW101:=n2_;have GE101:=n3_;clear n0_ n1_ n2_ n3_;clear hb hbox hg;have hcz29_0 : w28.cell? ⟨gb101,0,none⟩ = some (.int .u64 a1_0):=(zc BK101.out 0).trans rfl;have hcz29_1 : w28.cell? ⟨gb101,1,none⟩ = some (.int .u64 a1_1):=(zc BK101.out 1).trans rfl;have hfz29_0:=zd BK101.out 0;have hfz29_1:=zd BK101.out 1)|((with_reducible refine zj (f:=81) rfl ?_);refine goesL_ (some 10) rfl rfl Try.func81 (by kernel_rfl) rfl #[.int .i64 a0,.agg #[.int .u64 a1_0,.int .u64 a1_1]] rfl (by (try simp only [List.map_toArray,List.map_cons,List.map_nil]);first|done|rfl|(simp only [List.length_drop,List.length_take];rfl)) ?_;(with_reducible refine (zL.calls k a0 a1_0 a1_1 false _ A3.out).mono ?_);rintro e w30 ⟨rfl,hb⟩;refine ⟨_,rfl,?_⟩;have n0_:=z2.mk (zg (g:=gb101) (o:=.cells #[.int .u64 a1_0,.int .u64 a1_1] 30 (0,0)) (by (with_reducible repeat (first|refine z6 ?_ _|refine z8 ?_|refine z5 ?_ _));exact BK101.out) hb);have n1_:=z2.mk (za (by repeat (first|(with_reducible first|exact HB.out|apply z4|apply z1|apply z3|refine z9 ?_ GE101.out)|exact HB.out)) hb);clear BK101;clear HB;have BK101:=n0_;have HB:=n1_;clear n0_ n1_;(try clear hb);(try clear hb2);(try clear hk);(try clear hi)))
   go_ret
   exact ⟨_,by first|rfl|(simp [zk,zl] <;> rfl)|(simp [*,zk,zl] <;> rfl),by first|exact Kd.z2C _ _ _ _ _|exact Kd.z3k _ _ _ _ _|exact Kd.z3o _ _ _ _ _|exact Kd.z3m _ _ _ _ _|exact Kd.z3n _ _ _ _ _,by repeat (first|(with_reducible first|exact HB.out|apply z4|apply z1|apply z3|refine z9 ?_ GE101.out)|exact HB.out)⟩
 subst c4
 have H1 : ((zH.f k a0).bind fun t103=>(if 0 ≤ t103 then (if (t103 : Int).toNat ≤ 17592186044416 then ((zP.f k a0 a1_0 a1_1).bind fun t107=>(zQ.l0 k (List.replicate (t103 : Int).toNat z30) t107 (t107.length : Int) 0)) else (none)) else (none))) = some r:=by rw [if_pos rfl] at H;exact H
 clear H
 have H:=H1
 clear H1
 replace H:=Option.bind_eq_some_iff.mp H
 obtain ⟨t103,A50,H⟩:=H
 replace H : (if 0 ≤ t103 then (if (t103 : Int).toNat ≤ 17592186044416 then ((zP.f k a0 a1_0 a1_1).bind fun t107=>(zQ.l0 k (List.replicate (t103 : Int).toNat z30) t107 (t107.length : Int) 0)) else (none)) else (none)) = some r:=H
 have A5:=z2.mk A50
 clear A50
 by_cases c6 : 0 ≤ t103
 rotate_left
 · rw [if_neg c6] at H
   exact absurd H (by simp)
 rw [if_pos c6] at H
 have c6b0:=eq_true c6
 have c6b1 : decide (0 ≤ t103) = true:=decide_eq_true c6
 clear c6
 by_cases c7 : (t103 : Int).toNat ≤ 17592186044416
 rotate_left
 · rw [if_neg c7] at H
   exact absurd H (by simp)
 rw [if_pos c7] at H
 have c7b0:=eq_true c7
 have c7b1 : decide ((t103 : Int).toNat ≤ 17592186044416) = true:=decide_eq_true c7
 clear c7
 obtain ⟨y104,hy104⟩ : ∃ y_ : List (S30),y_ = (List.replicate (t103 : Int).toNat z30):=⟨_,rfl⟩
 replace H : ((zP.f k a0 a1_0 a1_1).bind fun t107=>(zQ.l0 k y104 t107 (t107.length : Int) 0)) = some r:=by first|(rw [hy104];with_reducible exact H)|(have H2_:=(Option.bind_some _ _).symm.trans H;rw [hy104];with_reducible exact H2_)|(have H2_:=(Option.bind_some _ _).symm.trans H;with_reducible exact H2_)|with_reducible exact H|(rw [hy104];exact H)|exact H
 have Ny104:=z2.mk hy104
 clear hy104
 replace H:=Option.bind_eq_some_iff.mp H
 obtain ⟨t107,A80,H⟩:=H
 replace H : (zQ.l0 k y104 t107 (t107.length : Int) 0) = some r:=H
 have A8:=z2.mk A80
 clear A80
 have H':=z2.mk H
 clear H
 go_enter Try.func88,Try.ntmps88
 go_wp2_with (first|((with_reducible refine zK (N:=3) rfl ?_);refine zJ ?hg (N:=3) ?hd (cs:=#[.int .u64 a1_0,.int .u64 a1_1]) (t:=30) ?hr ?_;(case hd=>rfl);(case hg=>rfl);(case hr=>first|(go_simp;done)|(go_simp;rfl));intro gb101 hg w9 hbox hb;have n0_:=z2.mk (za (by repeat (first|(with_reducible first|exact HB.out|apply z4|apply z1|apply z3)|exact HB.out)) hb);have n1_:=z2.mk (hbox);have n2_:=z2.mk ((by rw [hg];exact (zb (by repeat (first|(with_reducible first|exact HB.out|apply z4|apply z1|apply z3)|exact HB.out))) : w.heap.size ≤ gb101));have n3_:=z2.mk ((by rw [hg];exact (zb (by repeat (first|(with_reducible first|exact HB.out|apply z4|apply z1|apply z3)|exact HB.out))) : w.heap.size ≤ gb101));clear HB;have HB:=n0_;have BK101:=n1_;have GW101:=n2_;have GE101:=n3_;clear n0_ n1_ n2_ n3_;clear hb hbox hg;have hcz10_0 : w9.cell? ⟨gb101,0,none⟩ = some (.int .u64 a1_0):=(zc BK101.out 0).trans rfl;have hcz10_1 : w9.cell? ⟨gb101,1,none⟩ = some (.int .u64 a1_1):=(zc BK101.out 1).trans rfl;have hfz10_0:=zd BK101.out 0;have hfz10_1:=zd BK101.out 1)|((with_reducible refine zj (f:=81) rfl ?_);refine goesL_ (some 10) rfl rfl Try.func81 (by kernel_rfl) rfl #[.int .i64 a0,.agg #[.int .u64 a1_0,.int .u64 a1_1]] rfl (by (try simp only [List.map_toArray,List.map_cons,List.map_nil]);first|done|rfl|(simp only [List.length_drop,List.length_take];rfl)) ?_;(with_reducible refine (zL.calls k a0 a1_0 a1_1 true _ A3.out).mono ?_);rintro e w11 ⟨rfl,hb⟩;refine ⟨_,rfl,?_⟩;have n0_:=z2.mk (zg (g:=gb101) (o:=.cells #[.int .u64 a1_0,.int .u64 a1_1] 30 (0,0)) (by (with_reducible repeat (first|refine z6 ?_ _|refine z8 ?_|refine z5 ?_ _));exact BK101.out) hb);have n1_:=z2.mk (za (by repeat (first|(with_reducible first|exact HB.out|apply z4|apply z1|apply z3|refine z9 ?_ GE101.out)|exact HB.out)) hb);clear BK101;clear HB;have BK101:=n0_;have HB:=n1_;clear n0_ n1_;(try clear hb);(try clear hb2);(try clear hk);(try clear hi))|((with_reducible refine zj (f:=92) rfl ?_);refine goesL_ (some 13) rfl rfl Try.func92 (by kernel_rfl) rfl #[.int .i64 a0] rfl (by (try simp only [List.map_toArray,List.map_cons,List.map_nil]);first|done|rfl|(simp only [List.length_drop,List.length_take];rfl)) ?_;(with_reducible refine (zH.calls k a0 t103 _ A5.out).mono ?_);rintro e w' ⟨rfl,⟨nd,rfl⟩⟩;refine ⟨_,rfl,?_⟩)|((with_reducible refine zK (N:=14) rfl ?_);refine Kd.z5z k30 _ 30 rfl (N:=14) rfl 80 _ _ rfl t103 rfl rfl Try.underlying80 (.agg #[(.int .u64 0),(.int .u64 0)]) 16 info30 rfl (by decide) (by omega) z30 (ok:=fun _=>True) (okp:=fun _=>True) (z2e _ _ _ z30 ) (fun _ hk=>hk) trivial (of_decide_eq_true (by first|(with_reducible assumption)|assumption)) (Nat.le_trans (Nat.mul_le_mul_right _ (of_decide_eq_true (by first|(with_reducible assumption)|assumption) : t103.toNat ≤ 17592186044416)) (by omega)) (Below.refl _ _) (Nat.le_refl _) ?_;intro v105 w12 ho13 hb hg_ hnew_;clear hg_ hnew_;(first|rw [← Ny104.out] at ho13|(simp only [Int.reduceToNat] at ho13;rw [← Ny104.out] at ho13));have n0_:=z2.mk (Kd.z1l (Kd.z4a ho13 (g:=gb101) (o:=.cells #[.int .u64 a1_0,.int .u64 a1_1] 30 (0,0)) (by (with_reducible repeat (first|refine z6 ?_ _|refine z8 ?_|refine z5 ?_ _));exact BK101.out)) (zb (by repeat (first|(with_reducible first|exact HB.out|apply z4|apply z1|apply z3|refine z9 ?_ GE101.out)|exact HB.out))));have n1_:=z2.mk (zg (g:=gb101) (o:=.cells #[.int .u64 a1_0,.int .u64 a1_1] 30 (0,0)) (by (with_reducible repeat (first|refine z6 ?_ _|refine z8 ?_|refine z5 ?_ _));exact BK101.out) hb);have n2_:=z2.mk (za (by repeat (first|(with_reducible first|exact HB.out|apply z4|apply z1|apply z3|refine z9 ?_ GE101.out)|exact HB.out)) hb);clear BK101;clear HB;have HO106:=n0_;have BK101:=n1_;have HB:=n2_;clear n0_ n1_ n2_;clear hb ho13;have hcz14_0 : w12.cell? ⟨gb101,0,none⟩ = some (.int .u64 a1_0):=(zc BK101.out 0).trans rfl;have hcz14_1 : w12.cell? ⟨gb101,1,none⟩ = some (.int .u64 a1_1):=(zc BK101.out 1).trans rfl;have hfz14_0:=zd BK101.out 0;have hfz14_1:=zd BK101.out 1)|((with_reducible refine zj (f:=125) rfl ?_);refine goesL_ (some 17) rfl rfl Try.func125 (by kernel_rfl) rfl #[.int .i64 a0,.agg #[.int .u64 a1_0,.int .u64 a1_1]] rfl (by (try simp only [List.map_toArray,List.map_cons,List.map_nil]);first|done|rfl|(simp only [List.length_drop,List.length_take];rfl)) ?_;(with_reducible refine (zP.calls k a0 a1_0 a1_1 t107 _ A8.out).mono ?_);rintro e w15 ⟨v108,rfl,ho0,hb⟩;refine ⟨_,rfl,?_⟩;have n0_:=z2.mk (Kd.zO (by (with_reducible repeat (first|apply Kd.ze|apply Kd.zf|apply Kd.zo));exact HO106.out) hb);have n1_:=z2.mk (Kd.z1l ho0 (zb (by repeat (first|(with_reducible first|exact HB.out|apply z4|apply z1|apply z3|refine z9 ?_ GE101.out)|exact HB.out))));have n2_:=z2.mk (zg (g:=gb101) (o:=.cells #[.int .u64 a1_0,.int .u64 a1_1] 30 (0,0)) (by (with_reducible repeat (first|refine z6 ?_ _|refine z8 ?_|refine z5 ?_ _));exact BK101.out) hb);have n3_:=z2.mk (za (by repeat (first|(with_reducible first|exact HB.out|apply z4|apply z1|apply z3|refine z9 ?_ GE101.out)|exact HB.out)) hb);clear HO106;clear BK101;clear HB;have HO106:=n0_;have HO109:=n1_;have BK101:=n2_;have HB:=n3_;clear n0_ n1_ n2_ n3_;(try clear hb);(try clear hb2);(try clear hk);(try clear hi);(try clear ho0);obtain ⟨Ao16,co16,eo16⟩:=Kd.z1d HO109.out;subst eo16))
 go_loopg [19] k (fun kq v19 w'=>∃ (x5_1 : List (S30)) (x19_1 : Int) (x102000_1 : Int) (x102001_1 : Int),v19 = .int .i64 x19_1 ∧ z2 (zQ.l0 kq x5_1 t107 (t107.length : Int) x19_1 = some r) ∧ z2 (kq ≤ k) ∧ z2 (Kd.R k30 30 w' w.heap.size (fun k_=>k_ ≠ gb101) v105 x5_1) ∧ z2 (Kd.R Kd.bool 4 w' w.heap.size (fun _=>True) (.slice Ao16 t107.length co16) t107) ∧ z2 (w'.heap[gb101]? = some (.cells #[.int .u64 x102000_1,.int .u64 x102001_1] 30 (0,0))) ∧ z2 (Below w.heap.size w w'))
 case atStart=>exact ⟨(y104),(0),(a1_0),(a1_1),(by first|rfl|(simp;done)|(simp [*];done)),H',⟨Nat.le_refl _⟩,⟨by (with_reducible repeat (first|apply Kd.ze|apply Kd.zf|apply Kd.zo));exact Kd.zY HO106.out (fun _ hk=>hk.2)⟩,⟨by (with_reducible repeat (first|apply Kd.ze|apply Kd.zf|apply Kd.zo));exact HO109.out⟩,⟨by (with_reducible repeat (first|refine z6 ?_ _|refine z8 ?_|refine z5 ?_ _));exact BK101.out⟩,⟨by repeat (first|(with_reducible first|exact HB.out|apply z4|apply z1|apply z3|refine z9 ?_ GE101.out)|exact HB.out)⟩⟩
 case round =>
  clear H'
  (try clear c1);(try clear p2);(try clear c4);(try clear c6);(try clear c6b0);(try clear c6b1);(try clear c7);(try clear c7b0);(try clear c7b1);(try clear c8);(try clear c9);(try clear c12);(try clear hcz10_0);(try clear hcz10_1);(try clear hcz14_0);(try clear hcz14_1);(try clear hfz10_0);(try clear hfz10_1);(try clear hfz14_0);(try clear hfz14_1)
  obtain ⟨x5_1,x19_1,x102000_1,x102001_1,rfl,HA,HK1,HO_5,HO_17,BK101,HB⟩:=hrel
  cases gk with
  | zero=>exact absurd HA.out (by simp [zQ.l0])
  | succ k1 =>
   have H:=HA.out
   clear HA
   simp only [zQ.l0] at H
   by_cases c17 : x19_1 < (t107.length : Int)
   rotate_left
   · rw [if_neg c17] at H
     have c17b0 : decide (x19_1 < (t107.length : Int)) = false:=decide_eq_false c17
     clear c17
     obtain rfl:=Option.some.inj H
     go_wp2
     go_ret
     exact ⟨_,by first|rfl|(simp [zk,zl] <;> rfl)|(simp [*,zk,zl] <;> rfl),by (with_reducible repeat (first|apply Kd.ze|apply Kd.zf|apply Kd.zo));exact Kd.zY HO_5.out (fun _ hk=>trivial),by repeat (first|(with_reducible first|exact HB.out|apply z4|apply z1|apply z3|refine z9 ?_ GE101.out)|exact HB.out)⟩
   rw [if_pos c17] at H
   have c17b0 : decide (x19_1 < (t107.length : Int)) = true:=decide_eq_true c17
   clear c17
   by_cases c18 : 0 ≤ x19_1
   rotate_left
   · rw [if_neg c18] at H
     exact absurd H (by simp)
   rw [if_pos c18] at H
   have c18b0 : decide (0 ≤ x19_1) = true:=decide_eq_true c18
   clear c18
   by_cases c19 : x19_1 < (t107.length : Int)
   rotate_left
   · rw [if_neg c19] at H
     exact absurd H (by simp)
   rw [if_pos c19] at H
   have c19b0 : decide (x19_1 < (t107.length : Int)) = true:=decide_eq_true c19
   clear c19
   obtain ⟨bq20,hbq20⟩ : ∃ b_ : Bool,b_ = (rdOf false t107 x19_1):=⟨_,rfl⟩
   replace H : (if bq20 = true then ((z1D.f).bind fun bt111=>(if x19_1 < (x5_1.length : Int) then (zQ.l0 k1 (x5_1.set (x19_1 : Int).toNat (⟨bt111.1,bt111.2⟩ : S30)) t107 (t107.length : Int) (wrap64 (x19_1 + 1))) else (none))) else (zQ.l0 k1 x5_1 t107 (t107.length : Int) (wrap64 (x19_1 + 1)))) = some r:=by rw [← hbq20] at H;exact H
   have Nbq20:=z2.mk hbq20
   clear hbq20
   by_cases c21 : bq20 = true
   rotate_left
   · replace c21:=Bool.eq_false_iff.mpr c21
     subst c21
     have H1 : (zQ.l0 k1 x5_1 t107 (t107.length : Int) (wrap64 (x19_1 + 1))) = some r:=by rw [if_neg (show ¬ (false = true) by decide)] at H;exact H
     clear H
     have H:=H1
     clear H1
     have H':=z2.mk H
     clear H
     have p110 : 0 ≤ (x19_1 : Int):=of_decide_eq_true (by first|(with_reducible assumption)|assumption)
     have q110 : x19_1 < (t107.length : Int):=of_decide_eq_true (by first|(with_reducible assumption)|assumption)
     obtain ⟨ad110,e110,hx110_0⟩:=Kd.z5d (Kd.zI HO_17.out).2.2 x19_1 p110 q110
     (try rw [← Nbq20.out] at hx110_0)
     cases e110
     replace p110:=eq_true p110
     replace q110:=eq_true q110
     go_wp2
     go_roundg k1
     case measure=>have:=HK1.out;omega
     case rel=>exact ⟨(x5_1),(wrap64 (x19_1 + 1)),(x102000_1),(x102001_1),(by first|rfl|(simp;done)|(simp [*];done)),H',⟨by have:=HK1.out;omega⟩,⟨by (with_reducible repeat (first|apply Kd.ze|apply Kd.zf|apply Kd.zo));exact HO_5.out⟩,⟨by (with_reducible repeat (first|apply Kd.ze|apply Kd.zf|apply Kd.zo));exact HO_17.out⟩,⟨by (with_reducible repeat (first|refine z6 ?_ _|refine z8 ?_|refine z5 ?_ _));exact BK101.out⟩,⟨by repeat (first|(with_reducible first|exact HB.out|apply z4|apply z1|apply z3|refine z9 ?_ GE101.out)|exact HB.out)⟩⟩
   subst c21
   have H1 : ((z1D.f).bind fun bt111=>(if x19_1 < (x5_1.length : Int) then (zQ.l0 k1 (x5_1.set (x19_1 : Int).toNat (⟨bt111.1,bt111.2⟩ : S30)) t107 (t107.length : Int) (wrap64 (x19_1 + 1))) else (none))) = some r:=by rw [if_pos rfl] at H;exact H
   clear H
   have H:=H1
   clear H1
   replace H:=Option.bind_eq_some_iff.mp H
   obtain ⟨⟨t111,t112⟩,A220,H⟩:=H
   replace H : (if x19_1 < (x5_1.length : Int) then (zQ.l0 k1 (x5_1.set (x19_1 : Int).toNat (⟨t111,t112⟩ : S30)) t107 (t107.length : Int) (wrap64 (x19_1 + 1))) else (none)) = some r:=H
   have A22:=z2.mk A220
   clear A220
   by_cases c23 : x19_1 < (x5_1.length : Int)
   rotate_left
   · rw [if_neg c23] at H
     exact absurd H (by simp)
   rw [if_pos c23] at H
   have c23b0 : decide (x19_1 < (x5_1.length : Int)) = true:=decide_eq_true c23
   clear c23
   obtain ⟨y113,hy113⟩ : ∃ y_ : List (S30),y_ = (x5_1.set (x19_1 : Int).toNat (⟨t111,t112⟩ : S30)):=⟨_,rfl⟩
   replace H : (zQ.l0 k1 y113 t107 (t107.length : Int) (wrap64 (x19_1 + 1))) = some r:=by first|(rw [hy113];with_reducible exact H)|(have H2_:=(Option.bind_some _ _).symm.trans H;rw [hy113];with_reducible exact H2_)|(have H2_:=(Option.bind_some _ _).symm.trans H;with_reducible exact H2_)|with_reducible exact H|(rw [hy113];exact H)|exact H
   have Ny113:=z2.mk hy113
   clear hy113
   have H':=z2.mk H
   clear H
   have p110 : 0 ≤ (x19_1 : Int):=of_decide_eq_true (by first|(with_reducible assumption)|assumption)
   have q110 : x19_1 < (t107.length : Int):=of_decide_eq_true (by first|(with_reducible assumption)|assumption)
   obtain ⟨ad110,e110,hx110_0⟩:=Kd.z5d (Kd.zI HO_17.out).2.2 x19_1 p110 q110
   (try rw [← Nbq20.out] at hx110_0)
   cases e110
   replace p110:=eq_true p110
   replace q110:=eq_true q110
   go_wp2_with (first|((with_reducible refine zj (f:=99) rfl ?_);refine goesL_ (some 27) rfl rfl Try.func99 (by kernel_rfl) rfl #[] rfl (by (try simp only [List.map_toArray,List.map_cons,List.map_nil]);first|done|rfl|(simp only [List.length_drop,List.length_take];rfl)) ?_;(with_reducible refine (z1D.calls  t111 t112 _ A22.out).mono ?_);rintro e w25 ⟨rfl,hb⟩;refine ⟨_,rfl,?_⟩;have n0_:=z2.mk (Kd.zO (by (with_reducible repeat (first|apply Kd.ze|apply Kd.zf|apply Kd.zo));exact HO_5.out) hb);have n1_:=z2.mk (Kd.zO (by (with_reducible repeat (first|apply Kd.ze|apply Kd.zf|apply Kd.zo));exact HO_17.out) hb);have n2_:=z2.mk (zg (g:=gb101) (o:=.cells #[.int .u64 x102000_1,.int .u64 x102001_1] 30 (0,0)) (by (with_reducible repeat (first|refine z6 ?_ _|refine z8 ?_|refine z5 ?_ _));exact BK101.out) hb);have n3_:=z2.mk (za (by repeat (first|(with_reducible first|exact HB.out|apply z4|apply z1|apply z3|refine z9 ?_ GE101.out)|exact HB.out)) hb);clear HO_5;clear HO_17;clear BK101;clear HB;have HO_5:=n0_;have HO_17:=n1_;have BK101:=n2_;have HB:=n3_;clear n0_ n1_ n2_ n3_;(try clear hb);(try clear hb2);(try clear hk);(try clear hi);have p24 : 0 ≤ (x19_1 : Int):=of_decide_eq_true (by first|(with_reducible assumption)|assumption);have q24 : (x19_1 : Int) < ((x5_1.length : Int) : Int):=of_decide_eq_true (by first|(with_reducible assumption)|assumption);obtain ⟨go24,co24,eo24,gb24,gl24,cl24,HG24⟩:=Kd.z4T HO_5.out (by omega);(first|cases eo24|(injection eo24 with ea_ en_ ec_;(first|subst ea_|(injection ea_ with ea_;subst ea_));subst ec_;clear en_));have GB24:=z2.mk gb24;have GG24:=z2.mk HG24;clear gb24 gl24 HG24;obtain ⟨ce24,hcl24,hM24,hcc24,hfr24⟩:=Kd.z2O HO_5.out z30 (x19_1 : Int) p24 q24;obtain rfl:=z1Z hM24;have hx24_0 : w25.cell? ⟨go24,(x19_1 : Int).toNat * 2,none⟩ = some (.int .u64 ((zi x5_1 x19_1).f0)):=hcc24 0 _ rfl;have hx24_1 : w25.cell? ⟨go24,(x19_1 : Int).toNat * 2 + 1,none⟩ = some (.int .u64 ((zi x5_1 x19_1).f1)):=hcc24 1 _ rfl;have hf24_0 : w25.frozen? ⟨go24,(x19_1 : Int).toNat * 2,none⟩ = false:=hfr24 0;have hf24_1 : w25.frozen? ⟨go24,(x19_1 : Int).toNat * 2 + 1,none⟩ = false:=hfr24 1;clear hcl24 hcc24 hfr24 hM24;replace p24:=eq_true p24;replace q24:=eq_true q24;have HX26:=z2.mk (show Kd.R k30 30 w25 w.heap.size (fun k_=>k_ ≠ gb101) (.slice (some ⟨go24,0,none⟩) x5_1.length co24) x5_1 from (by (with_reducible repeat (first|apply Kd.ze|apply Kd.zf|apply Kd.zo));exact HO_5.out));obtain ⟨ce26,hcl26,hM26,hcc26,hfr26⟩:=Kd.z2O HX26.out z30 (x19_1 : Int) (of_decide_eq_true (by first|(with_reducible assumption)|assumption)) (by have h_ : (x19_1 : Int) < ((x5_1.length : Int) : Int):=of_decide_eq_true (by first|(with_reducible assumption)|assumption);first|exact h_|(have e_:=(Kd.zI HO_5.out).1;omega)|simpa using h_);obtain rfl:=z1Z hM26;have HP26:=Kd.z6N HX26.out (x19_1 : Int) (of_decide_eq_true (by first|(with_reducible assumption)|assumption)) (by have h_ : (x19_1 : Int) < ((x5_1.length : Int) : Int):=of_decide_eq_true (by first|(with_reducible assumption)|assumption);first|exact h_|(have e_:=(Kd.zI HO_5.out).1;omega)|simpa using h_) (seg:=[.int .u64 t111,.int .u64 t112]) (j:=0) hcl26 hcc26 (show 2 ≤ 2 from by decide) (x':=(⟨t111,t112⟩ : S30)) (z2e _ _ _ (⟨t111,t112⟩ : S30) ) (fun _ hk=>hk);have hx26_0:=hcc26 0 _ rfl;(try simp only [show (k30).sz = 2 from rfl,Nat.mul_one,Nat.add_zero] at hx26_0);have hf26_0:=hfr26 0;(try simp only [show (k30).sz = 2 from rfl,Nat.mul_one,Nat.add_zero] at hf26_0);have hx26_1:=hcc26 1 _ rfl;(try simp only [show (k30).sz = 2 from rfl,Nat.mul_one,Nat.add_zero] at hx26_1);have hf26_1:=hfr26 1;(try simp only [show (k30).sz = 2 from rfl,Nat.mul_one,Nat.add_zero] at hf26_1);clear hcl26 hcc26 hfr26 hM26)|((with_reducible refine z3D (t:=30) (p:=28) rfl ?_);refine z3i (t:=30) (p:=28) (v:=?vo_w27) (w1:=((w25.setCell ⟨go24,(x19_1 : Int).toNat * 2,none⟩ (.int .u64 t111)).setCell ⟨go24,(x19_1 : Int).toNat * 2 + 1,none⟩ (.int .u64 t112))) ?hg ?ho ?hn ?hr ?_;(case ho=>rfl);(case hg=>rfl);(case hn=>rfl);(case hr=>first|(go_simp;done)|(go_simp;rfl));intro w27 hw;have hg : w25.grownBy w27 (some go24):=(by rw [hw];exact HP26.2);have hp_ : Kd.R k30 30 w27 w.heap.size (fun k_=>k_ ≠ gb101) (.slice (some ⟨go24,0,none⟩) x5_1.length co24) y113:=(by rw [hw,Ny113.out];exact HP26.1);clear HP26;have n0_:=z2.mk (hp_);have n1_:=z2.mk (Kd.R_over' (v:=(.slice (some ⟨go24,0,none⟩) x5_1.length co24)) (by (with_reducible repeat (first|apply Kd.ze|apply Kd.zf|apply Kd.zo));exact HO_17.out) (Kd.R_typed HO_5.out) (by decide) hg);have n2_:=z2.mk (z1Y (g:=gb101) (o:=.cells #[.int .u64 x102000_1,.int .u64 x102001_1] 30 (0,0)) (by (with_reducible repeat (first|refine z6 ?_ _|refine z8 ?_|refine z5 ?_ _));exact BK101.out) hg (Kd.z27 HO_5.out (fun _ hk=>hk)));have n3_:=z2.mk ((by rw [hw];exact z9 (z9 (HB.out) GB24.out) GB24.out : Below w.heap.size w w27));clear HO_5;clear HO_17;clear BK101;clear HB;have HO_5:=n0_;have HO_17:=n1_;have BK101:=n2_;have HB:=n3_;clear n0_ n1_ n2_ n3_;clear hg hw hp_))
   go_roundg k1
   case measure=>have:=HK1.out;omega
   case rel=>exact ⟨(y113),(wrap64 (x19_1 + 1)),(x102000_1),(x102001_1),(by first|rfl|(simp;done)|(simp [*];done)),H',⟨by have:=HK1.out;omega⟩,⟨by (with_reducible repeat (first|apply Kd.ze|apply Kd.zf|apply Kd.zo));exact HO_5.out⟩,⟨by (with_reducible repeat (first|apply Kd.ze|apply Kd.zf|apply Kd.zo));exact HO_17.out⟩,⟨by (with_reducible repeat (first|refine z6 ?_ _|refine z8 ?_|refine z5 ?_ _));exact BK101.out⟩,⟨by repeat (first|(with_reducible first|exact HB.out|apply z4|apply z1|apply z3|refine z9 ?_ GE101.out)|exact HB.out)⟩⟩
end Go.Proofs.Ytkhmpaooinpfoaa.P
namespace Go.Proofs.Ytkhmpaooinpfoaa.P
open Go.RowKit Go.Proofs.YtkhmpaooinpfoaaW.PrintWords Go.Proofs.YtkhmpaooinpfoaaW.PrintLast Go.Proofs.YtkhmpaooinpfoaaW.PrintMore
attribute [local go_sem] z15 z17 z1f z1g zW zX z16 z18   -- for this text's walks alone
set_option linter.unusedVariables false
set_option linter.unusedSimpArgs false
def z1u.f (k : Nat) (a0 : Int) (a1_0 : Int) (a1_1 : Int) : Option ((List (S30))):=(zL.f k a0 a1_0 a1_1).bind fun t102=>(if t102 = true then ((zH.f k a0).bind fun t103=>(if 0 ≤ t103 then (if (t103 : Int).toNat ≤ 17592186044416 then ((some (List.replicate (t103 : Int).toNat z30 : List (S30))).bind fun y104=>(if 0 < (y104.length : Int) then (some (y104.set (0 : Int).toNat (⟨a1_0,a1_1⟩ : S30))) else (none))) else (none)) else (none))) else (some ([] : List (S30))))
theorem z1u.mono : ∀ a0 a1 a2 k,LeO (z1u.f k a0 a1 a2) (z1u.f (k + 1) a0 a1 a2):=by
 intro a0 a1 a2 k
 unfold z1u.f
 repeat' first
  | (with_reducible exact zL.mono _ _ _ _)
  | (with_reducible exact zH.mono _ _)
  | (with_reducible exact LeO.refl _)
  | (with_reducible exact LeO.none _)
  | (with_reducible refine LeO.ite ?_ ?_)
  | (with_reducible refine LeO.bind ?_ (fun _=>?_))
  | exact zL.mono _ _ _ _
  | exact zH.mono _ _
  | exact LeO.none _
  | refine LeO.ite ?_ ?_
  | refine LeO.bind ?_ (fun _=>?_)
set_option maxHeartbeats 8000000 in
set_option maxRecDepth 100000 in
theorem z1u.calls (k : Nat) (a0 : Int) (a1_0 : Int) (a1_1 : Int) (r : List (S30)) (w : World) (h : z1u.f k a0 a1_0 a1_1 = some r) :
 Calls Try.prog 89 #[.int .i64 a0,.agg #[.int .u64 a1_0,.int .u64 a1_1]] w fun e w'=>∃ v0_ : Value,e = .returned (v0_) ∧ Kd.R k30 30 w' w.heap.size (fun _=>True) v0_ r ∧ Below w.heap.size w w':=by
 have hu30:=Try.underlying30
 have HB:=z2.mk (Below.refl w.heap.size w)
 have H : ((zL.f k a0 a1_0 a1_1).bind fun t102=>(if t102 = true then ((zH.f k a0).bind fun t103=>(if 0 ≤ t103 then (if (t103 : Int).toNat ≤ 17592186044416 then ((some (List.replicate (t103 : Int).toNat z30 : List (S30))).bind fun y104=>(if 0 < (y104.length : Int) then (some (y104.set (0 : Int).toNat (⟨a1_0,a1_1⟩ : S30))) else (none))) else (none)) else (none))) else (some ([] : List (S30))))) = some r:=h
 clear h
 replace H:=Option.bind_eq_some_iff.mp H
 obtain ⟨t102,A30,H⟩:=H
 replace H : (if t102 = true then ((zH.f k a0).bind fun t103=>(if 0 ≤ t103 then (if (t103 : Int).toNat ≤ 17592186044416 then ((some (List.replicate (t103 : Int).toNat z30 : List (S30))).bind fun y104=>(if 0 < (y104.length : Int) then (some (y104.set (0 : Int).toNat (⟨a1_0,a1_1⟩ : S30))) else (none))) else (none)) else (none))) else (some ([] : List (S30)))) = some r:=H
 have A3:=z2.mk A30
 clear A30
 by_cases c4 : t102 = true
 rotate_left
 · replace c4:=Bool.eq_false_iff.mpr c4
   subst c4
   have H1 : (some ([] : List (S30))) = some r:=by rw [if_neg (show ¬ (false = true) by decide)] at H;exact H
   clear H
   have H:=H1
   clear H1
   obtain rfl:=Option.some.inj H
   go_enter Try.func89,Try.ntmps89
   go_wp2_with (first|((with_reducible refine zK (N:=3) rfl ?_);refine zJ ?hg (N:=3) ?hd (cs:=#[.int .u64 a1_0,.int .u64 a1_1]) (t:=30) ?hr ?_;(case hd=>rfl);(case hg=>rfl);(case hr=>first|(go_simp;done)|(go_simp;rfl));intro gb101 hg w18 hbox hb;have n0_:=z2.mk (za (by repeat (first|(with_reducible first|exact HB.out|apply z4|apply z1|apply z3)|exact HB.out)) hb);have n1_:=z2.mk (hbox);have n2_:=z2.mk ((by rw [hg];exact (zb (by repeat (first|(with_reducible first|exact HB.out|apply z4|apply z1|apply z3)|exact HB.out))) : w.heap.size ≤ gb101));have n3_:=z2.mk ((by rw [hg];exact (zb (by repeat (first|(with_reducible first|exact HB.out|apply z4|apply z1|apply z3)|exact HB.out))) : w.heap.size ≤ gb101));clear HB;have HB:=n0_;have BK101:=n1_;have GW101:=n2_;have GE101:=n3_;clear n0_ n1_ n2_ n3_;clear hb hbox hg;have hcz19_0 : w18.cell? ⟨gb101,0,none⟩ = some (.int .u64 a1_0):=(zc BK101.out 0).trans rfl;have hcz19_1 : w18.cell? ⟨gb101,1,none⟩ = some (.int .u64 a1_1):=(zc BK101.out 1).trans rfl;have hfz19_0:=zd BK101.out 0;have hfz19_1:=zd BK101.out 1)|((with_reducible refine zj (f:=81) rfl ?_);refine goesL_ (some 8) rfl rfl Try.func81 (by kernel_rfl) rfl #[.int .i64 a0,.agg #[.int .u64 a1_0,.int .u64 a1_1]] rfl (by (try simp only [List.map_toArray,List.map_cons,List.map_nil]);first|done|rfl|(simp only [List.length_drop,List.length_take];rfl)) ?_;(with_reducible refine (zL.calls k a0 a1_0 a1_1 false _ A3.out).mono ?_);rintro e w20 ⟨rfl,hb⟩;refine ⟨_,rfl,?_⟩;have n0_:=z2.mk (zg (g:=gb101) (o:=.cells #[.int .u64 a1_0,.int .u64 a1_1] 30 (0,0)) (by (with_reducible repeat (first|refine z6 ?_ _|refine z8 ?_|refine z5 ?_ _));exact BK101.out) hb);have n1_:=z2.mk (za (by repeat (first|(with_reducible first|exact HB.out|apply z4|apply z1|apply z3|refine z9 ?_ GE101.out)|exact HB.out)) hb);clear BK101;clear HB;have BK101:=n0_;have HB:=n1_;clear n0_ n1_;(try clear hb);(try clear hb2);(try clear hk);(try clear hi)))
   go_ret
   exact ⟨_,by first|rfl|(simp [zk,zl] <;> rfl)|(simp [*,zk,zl] <;> rfl),by first|exact Kd.z2C _ _ _ _ _|exact Kd.z3k _ _ _ _ _|exact Kd.z3o _ _ _ _ _|exact Kd.z3m _ _ _ _ _|exact Kd.z3n _ _ _ _ _,by repeat (first|(with_reducible first|exact HB.out|apply z4|apply z1|apply z3|refine z9 ?_ GE101.out)|exact HB.out)⟩
 subst c4
 have H1 : ((zH.f k a0).bind fun t103=>(if 0 ≤ t103 then (if (t103 : Int).toNat ≤ 17592186044416 then ((some (List.replicate (t103 : Int).toNat z30 : List (S30))).bind fun y104=>(if 0 < (y104.length : Int) then (some (y104.set (0 : Int).toNat (⟨a1_0,a1_1⟩ : S30))) else (none))) else (none)) else (none))) = some r:=by rw [if_pos rfl] at H;exact H
 clear H
 have H:=H1
 clear H1
 replace H:=Option.bind_eq_some_iff.mp H
 obtain ⟨t103,A50,H⟩:=H
 replace H : (if 0 ≤ t103 then (if (t103 : Int).toNat ≤ 17592186044416 then ((some (List.replicate (t103 : Int).toNat z30 : List (S30))).bind fun y104=>(if 0 < (y104.length : Int) then (some (y104.set (0 : Int).toNat (⟨a1_0,a1_1⟩ : S30))) else (none))) else (none)) else (none)) = some r:=H
 have A5:=z2.mk A50
 clear A50
 by_cases c6 : 0 ≤ t103
 rotate_left
 · rw [if_neg c6] at H
   exact absurd H (by simp)
 rw [if_pos c6] at H
 have c6b0:=eq_true c6
 have c6b1 : decide (0 ≤ t103) = true:=decide_eq_true c6
 clear c6
 by_cases c7 : (t103 : Int).toNat ≤ 17592186044416
 rotate_left
 · rw [if_neg c7] at H
   exact absurd H (by simp)
 rw [if_pos c7] at H
 have c7b0:=eq_true c7
 have c7b1 : decide ((t103 : Int).toNat ≤ 17592186044416) = true:=decide_eq_true c7
 clear c7
 obtain ⟨y104,hy104⟩ : ∃ y_ : List (S30),y_ = (List.replicate (t103 : Int).toNat z30):=⟨_,rfl⟩
 replace H : (if 0 < (y104.length : Int) then (some (y104.set (0 : Int).toNat (⟨a1_0,a1_1⟩ : S30))) else (none)) = some r:=by first|(rw [hy104];with_reducible exact H)|(have H2_:=(Option.bind_some _ _).symm.trans H;rw [hy104];with_reducible exact H2_)|(have H2_:=(Option.bind_some _ _).symm.trans H;with_reducible exact H2_)|with_reducible exact H|(rw [hy104];exact H)|exact H
 have Ny104:=z2.mk hy104
 clear hy104
 by_cases c8 : 0 < (y104.length : Int)
 rotate_left
 · rw [if_neg c8] at H
   exact absurd H (by simp)
 rw [if_pos c8] at H
 have c8b0 : decide (0 < (y104.length : Int)) = true:=decide_eq_true c8
 have c8b1 : decide (0 < y104.length) = true:=decide_eq_true (by omega)
 clear c8
 obtain ⟨y107,hy107⟩ : ∃ y_ : List (S30),y_ = (y104.set (0 : Int).toNat (⟨a1_0,a1_1⟩ : S30)):=⟨_,rfl⟩
 replace H : (some y107) = some r:=by first|(rw [hy107];with_reducible exact H)|(have H2_:=(Option.bind_some _ _).symm.trans H;rw [hy107];with_reducible exact H2_)|(have H2_:=(Option.bind_some _ _).symm.trans H;with_reducible exact H2_)|with_reducible exact H|(rw [hy107];exact H)|exact H
 have Ny107:=z2.mk hy107
 clear hy107
 obtain rfl:=Option.some.inj H
 go_enter Try.func89,Try.ntmps89
 go_wp2_with (first|((with_reducible refine zK (N:=3) rfl ?_);refine zJ ?hg (N:=3) ?hd (cs:=#[.int .u64 a1_0,.int .u64 a1_1]) (t:=30) ?hr ?_;(case hd=>rfl);(case hg=>rfl);(case hr=>first|(go_simp;done)|(go_simp;rfl));intro gb101 hg w10 hbox hb;have n0_:=z2.mk (za (by repeat (first|(with_reducible first|exact HB.out|apply z4|apply z1|apply z3)|exact HB.out)) hb);have n1_:=z2.mk (hbox);have n2_:=z2.mk ((by rw [hg];exact (zb (by repeat (first|(with_reducible first|exact HB.out|apply z4|apply z1|apply z3)|exact HB.out))) : w.heap.size ≤ gb101));have n3_:=z2.mk ((by rw [hg];exact (zb (by repeat (first|(with_reducible first|exact HB.out|apply z4|apply z1|apply z3)|exact HB.out))) : w.heap.size ≤ gb101));clear HB;have HB:=n0_;have BK101:=n1_;have GW101:=n2_;have GE101:=n3_;clear n0_ n1_ n2_ n3_;clear hb hbox hg;have hcz11_0 : w10.cell? ⟨gb101,0,none⟩ = some (.int .u64 a1_0):=(zc BK101.out 0).trans rfl;have hcz11_1 : w10.cell? ⟨gb101,1,none⟩ = some (.int .u64 a1_1):=(zc BK101.out 1).trans rfl;have hfz11_0:=zd BK101.out 0;have hfz11_1:=zd BK101.out 1)|((with_reducible refine zj (f:=81) rfl ?_);refine goesL_ (some 8) rfl rfl Try.func81 (by kernel_rfl) rfl #[.int .i64 a0,.agg #[.int .u64 a1_0,.int .u64 a1_1]] rfl (by (try simp only [List.map_toArray,List.map_cons,List.map_nil]);first|done|rfl|(simp only [List.length_drop,List.length_take];rfl)) ?_;(with_reducible refine (zL.calls k a0 a1_0 a1_1 true _ A3.out).mono ?_);rintro e w12 ⟨rfl,hb⟩;refine ⟨_,rfl,?_⟩;have n0_:=z2.mk (zg (g:=gb101) (o:=.cells #[.int .u64 a1_0,.int .u64 a1_1] 30 (0,0)) (by (with_reducible repeat (first|refine z6 ?_ _|refine z8 ?_|refine z5 ?_ _));exact BK101.out) hb);have n1_:=z2.mk (za (by repeat (first|(with_reducible first|exact HB.out|apply z4|apply z1|apply z3|refine z9 ?_ GE101.out)|exact HB.out)) hb);clear BK101;clear HB;have BK101:=n0_;have HB:=n1_;clear n0_ n1_;(try clear hb);(try clear hb2);(try clear hk);(try clear hi))|((with_reducible refine zj (f:=92) rfl ?_);refine goesL_ (some 11) rfl rfl Try.func92 (by kernel_rfl) rfl #[.int .i64 a0] rfl (by (try simp only [List.map_toArray,List.map_cons,List.map_nil]);first|done|rfl|(simp only [List.length_drop,List.length_take];rfl)) ?_;(with_reducible refine (zH.calls k a0 t103 _ A5.out).mono ?_);rintro e w' ⟨rfl,⟨nd,rfl⟩⟩;refine ⟨_,rfl,?_⟩;(try (rw [z50 w12];generalize hq_ : World.drewN w12 _ = w12;have n0_ : z2 (w12.heap[gb101]? = some (.cells #[.int .u64 a1_0,.int .u64 a1_1] 30 (0,0))):=⟨by rw [← hq_];exact (by (with_reducible repeat (first|refine z6 ?_ _|refine z8 ?_|refine z5 ?_ _));exact BK101.out)⟩;have n1_ : z2 (Below w.heap.size w w12):=⟨by rw [← hq_];exact (by repeat (first|(with_reducible first|exact HB.out|apply z4|apply z1|apply z3|refine z9 ?_ GE101.out)|exact HB.out))⟩;clear BK101 HB hq_;have BK101:=n0_;have HB:=n1_;clear n0_ n1_)))|((with_reducible refine zK (N:=12) rfl ?_);refine Kd.z5z k30 _ 30 rfl (N:=12) rfl 80 _ _ rfl t103 rfl rfl Try.underlying80 (.agg #[(.int .u64 0),(.int .u64 0)]) 16 info30 rfl (by decide) (by omega) z30 (ok:=fun _=>True) (okp:=fun _=>True) (z2e _ _ _ z30 ) (fun _ hk=>hk) trivial (of_decide_eq_true (by first|(with_reducible assumption)|assumption)) (Nat.le_trans (Nat.mul_le_mul_right _ (of_decide_eq_true (by first|(with_reducible assumption)|assumption) : t103.toNat ≤ 17592186044416)) (by omega)) (Below.refl _ _) (Nat.le_refl _) ?_;intro v105 w13 ho14 hb hg_ hnew_;clear hg_ hnew_;(first|rw [← Ny104.out] at ho14|(simp only [Int.reduceToNat] at ho14;rw [← Ny104.out] at ho14));have n0_:=z2.mk (Kd.z1l (Kd.z4a ho14 (g:=gb101) (o:=.cells #[.int .u64 a1_0,.int .u64 a1_1] 30 (0,0)) (by (with_reducible repeat (first|refine z6 ?_ _|refine z8 ?_|refine z5 ?_ _));exact BK101.out)) (zb (by repeat (first|(with_reducible first|exact HB.out|apply z4|apply z1|apply z3|refine z9 ?_ GE101.out)|exact HB.out))));have n1_:=z2.mk (zg (g:=gb101) (o:=.cells #[.int .u64 a1_0,.int .u64 a1_1] 30 (0,0)) (by (with_reducible repeat (first|refine z6 ?_ _|refine z8 ?_|refine z5 ?_ _));exact BK101.out) hb);have n2_:=z2.mk (za (by repeat (first|(with_reducible first|exact HB.out|apply z4|apply z1|apply z3|refine z9 ?_ GE101.out)|exact HB.out)) hb);clear BK101;clear HB;have HO106:=n0_;have BK101:=n1_;have HB:=n2_;clear n0_ n1_ n2_;clear hb ho14;have hcz15_0 : w13.cell? ⟨gb101,0,none⟩ = some (.int .u64 a1_0):=(zc BK101.out 0).trans rfl;have hcz15_1 : w13.cell? ⟨gb101,1,none⟩ = some (.int .u64 a1_1):=(zc BK101.out 1).trans rfl;have hfz15_0:=zd BK101.out 0;have hfz15_1:=zd BK101.out 1;have p9 : 0 ≤ (0 : Int):=(by omega);have q9 : (0 : Int) < ((y104.length : Int) : Int):=of_decide_eq_true (by first|(with_reducible assumption)|assumption);have qi9 : (0 < y104.length) = True:=eq_true (by omega);obtain ⟨go9,co9,eo9,gb9,gl9,cl9,HG9⟩:=Kd.z4T HO106.out (by omega);(first|cases eo9|(injection eo9 with ea_ en_ ec_;(first|subst ea_|(injection ea_ with ea_;subst ea_));subst ec_;clear en_));have GB9:=z2.mk gb9;have GG9:=z2.mk HG9;clear gb9 gl9 HG9;obtain ⟨ce9,hcl9,hM9,hcc9,hfr9⟩:=Kd.z2O HO106.out z30 (0 : Int) p9 q9;obtain rfl:=z1Z hM9;have hx9_0 : w13.cell? ⟨go9,(0 : Int).toNat * 2,none⟩ = some (.int .u64 ((zi y104 0).f0)):=hcc9 0 _ rfl;have hx9_1 : w13.cell? ⟨go9,(0 : Int).toNat * 2 + 1,none⟩ = some (.int .u64 ((zi y104 0).f1)):=hcc9 1 _ rfl;have hf9_0 : w13.frozen? ⟨go9,(0 : Int).toNat * 2,none⟩ = false:=hfr9 0;have hf9_1 : w13.frozen? ⟨go9,(0 : Int).toNat * 2 + 1,none⟩ = false:=hfr9 1;clear hcl9 hcc9 hfr9 hM9;(try rw [show ((0 : Int)).toNat = 0 from rfl] at hx9_0);(try simp only [Nat.reduceMul,Nat.zero_mul,Nat.zero_add,Nat.reduceAdd] at hx9_0);(try rw [show ((0 : Int)).toNat = 0 from rfl] at hf9_0);(try simp only [Nat.reduceMul,Nat.zero_mul,Nat.zero_add,Nat.reduceAdd] at hf9_0);(try rw [show ((0 : Int)).toNat = 0 from rfl] at hx9_1);(try simp only [Nat.reduceMul,Nat.zero_mul,Nat.zero_add,Nat.reduceAdd] at hx9_1);(try rw [show ((0 : Int)).toNat = 0 from rfl] at hf9_1);(try simp only [Nat.reduceMul,Nat.zero_mul,Nat.zero_add,Nat.reduceAdd] at hf9_1);replace p9:=eq_true p9;replace q9:=eq_true q9;have n_:=z2.mk (Kd.zY (ok':=(fun k_=>k_ ≠ gb101)) HO106.out (fun k_ hk=>hk.2));clear HO106;have HO106:=n_;clear n_;have HX16:=z2.mk (show Kd.R k30 30 w13 w.heap.size (fun k_=>k_ ≠ gb101) (.slice (some ⟨go9,0,none⟩) y104.length co9) y104 from (by (with_reducible repeat (first|apply Kd.ze|apply Kd.zf|apply Kd.zo));exact HO106.out));obtain ⟨ce16,hcl16,hM16,hcc16,hfr16⟩:=Kd.z2O HX16.out z30 (0 : Int) (by omega) (by have h_ : (0 : Int) < ((y104.length : Int) : Int):=of_decide_eq_true (by first|(with_reducible assumption)|assumption);first|exact h_|(have e_:=(Kd.zI HO106.out).1;omega)|simpa using h_);obtain rfl:=z1Z hM16;have HP16:=Kd.z6N HX16.out (0 : Int) (by omega) (by have h_ : (0 : Int) < ((y104.length : Int) : Int):=of_decide_eq_true (by first|(with_reducible assumption)|assumption);first|exact h_|(have e_:=(Kd.zI HO106.out).1;omega)|simpa using h_) (seg:=[.int .u64 a1_0,.int .u64 a1_1]) (j:=0) hcl16 hcc16 (show 2 ≤ 2 from by decide) (x':=(⟨a1_0,a1_1⟩ : S30)) (z2e _ _ _ (⟨a1_0,a1_1⟩ : S30) ) (fun _ hk=>hk);have hx16_0:=hcc16 0 _ rfl;(try simp only [show (k30).sz = 2 from rfl,Nat.mul_one,Nat.add_zero] at hx16_0);(try rw [show ((0 : Int)).toNat = 0 from rfl] at hx16_0);(try simp only [Nat.reduceMul,Nat.zero_mul,Nat.zero_add,Nat.reduceAdd] at hx16_0);have hf16_0:=hfr16 0;(try simp only [show (k30).sz = 2 from rfl,Nat.mul_one,Nat.add_zero] at hf16_0);(try rw [show ((0 : Int)).toNat = 0 from rfl] at hf16_0);(try simp only [Nat.reduceMul,Nat.zero_mul,Nat.zero_add,Nat.reduceAdd] at hf16_0);have hx16_1:=hcc16 1 _ rfl;(try simp only [show (k30).sz = 2 from rfl,Nat.mul_one,Nat.add_zero] at hx16_1);(try rw [show ((0 : Int)).toNat = 0 from rfl] at hx16_1);(try simp only [Nat.reduceMul,Nat.zero_mul,Nat.zero_add,Nat.reduceAdd] at hx16_1);have hf16_1:=hfr16 1;(try simp only [show (k30).sz = 2 from rfl,Nat.mul_one,Nat.add_zero] at hf16_1);(try rw [show ((0 : Int)).toNat = 0 from rfl] at hf16_1);(try simp only [Nat.reduceMul,Nat.zero_mul,Nat.zero_add,Nat.reduceAdd] at hf16_1);clear hcl16 hcc16 hfr16 hM16)|((with_reducible refine z3D (t:=30) (p:=15) rfl ?_);refine z3i (t:=30) (p:=15) (v:=?vo_w17) (w1:=((w13.setCell ⟨go9,0,none⟩ (.int .u64 a1_0)).setCell ⟨go9,1,none⟩ (.int .u64 a1_1))) ?hg ?ho ?hn ?hr ?_;(case ho=>rfl);(case hg=>rfl);(case hn=>rfl);(case hr=>first|(go_simp;done)|(go_simp;rfl));intro w17 hw;have hg : w13.grownBy w17 (some go9):=(by rw [hw];exact HP16.2);have hp_ : Kd.R k30 30 w17 w.heap.size (fun k_=>k_ ≠ gb101) (.slice (some ⟨go9,0,none⟩) y104.length co9) y107:=(by rw [hw,Ny107.out];exact HP16.1);clear HP16;have n0_:=z2.mk (z1Y (g:=gb101) (o:=.cells #[.int .u64 a1_0,.int .u64 a1_1] 30 (0,0)) (by (with_reducible repeat (first|refine z6 ?_ _|refine z8 ?_|refine z5 ?_ _));exact BK101.out) hg (Kd.z27 HO106.out (fun _ hk=>hk)));have n1_:=z2.mk (hp_);have n2_:=z2.mk ((by rw [hw];exact z9 (z9 (HB.out) GB9.out) GB9.out : Below w.heap.size w w17));clear BK101;clear HO106;clear HB;have BK101:=n0_;have HO106:=n1_;have HB:=n2_;clear n0_ n1_ n2_;clear hg hw hp_))
 go_ret
 exact ⟨_,by first|rfl|(simp [zk,zl] <;> rfl)|(simp [*,zk,zl] <;> rfl),by (with_reducible repeat (first|apply Kd.ze|apply Kd.zf|apply Kd.zo));exact Kd.zY HO106.out (fun _ hk=>trivial),by repeat (first|(with_reducible first|exact HB.out|apply z4|apply z1|apply z3|refine z9 ?_ GE101.out)|exact HB.out)⟩
end Go.Proofs.Ytkhmpaooinpfoaa.P
namespace Go.Proofs.Ytkhmpaooinpfoaa.P
open Go.RowKit Go.Proofs.YtkhmpaooinpfoaaW.PrintWords Go.Proofs.YtkhmpaooinpfoaaW.PrintLast Go.Proofs.YtkhmpaooinpfoaaW.PrintMore
attribute [local go_sem] z15 z17 z1f z1g zW zX z16 z18   -- for this text's walks alone
set_option linter.unusedVariables false
set_option linter.unusedSimpArgs false
attribute [local go_sem high] eqA30
def zC.f (k : Nat)  : Option (Bool):=(zQ.f k 1 0 2).bind fun t101=>((z1u.f k 1 0 2).bind fun t104=>((z10.f k 1 t101 t104).bind fun bt107=>(if bt107.2 = 0 then (if (bt107.1.length : Int) = 2 then (if 0 < (bt107.1.length : Int) then (if (((zi bt107.1 0).f0) == 0 && (((zi bt107.1 0).f1) == 0)) = true then (if 1 < (bt107.1.length : Int) then (some (((zi bt107.1 1).f0) == 0 && (((zi bt107.1 1).f1) == 2))) else (none)) else (some false)) else (none)) else (some false)) else (some false))))
theorem zC.mono : ∀ k,LeO (zC.f k ) (zC.f (k + 1) ):=by
 intro  k
 unfold zC.f
 repeat' first
  | (with_reducible exact zQ.mono _ _ _ _)
  | (with_reducible exact z1u.mono _ _ _ _)
  | (with_reducible exact z10.mono _ _ _ _)
  | (with_reducible exact LeO.refl _)
  | (with_reducible exact LeO.none _)
  | (with_reducible refine LeO.ite ?_ ?_)
  | (with_reducible refine LeO.bind ?_ (fun _=>?_))
  | exact zQ.mono _ _ _ _
  | exact z1u.mono _ _ _ _
  | exact z10.mono _ _ _ _
  | exact LeO.none _
  | refine LeO.ite ?_ ?_
  | refine LeO.bind ?_ (fun _=>?_)
set_option maxHeartbeats 8000000 in
set_option maxRecDepth 100000 in
theorem zC.calls (k : Nat)  (r : Bool) (w : World) (h : zC.f k  = some r) :
 Calls Try.prog 39 #[] w fun e w'=>e = .returned (.bool r) ∧ Below w.heap.size w w':=by
 have hu30:=Try.underlying30
 have HB:=z2.mk (Below.refl w.heap.size w)
 have H : ((zQ.f k 1 0 2).bind fun t101=>((z1u.f k 1 0 2).bind fun t104=>((z10.f k 1 t101 t104).bind fun bt107=>(if bt107.2 = 0 then (if (bt107.1.length : Int) = 2 then (if 0 < (bt107.1.length : Int) then (if (((zi bt107.1 0).f0) == 0 && (((zi bt107.1 0).f1) == 0)) = true then (if 1 < (bt107.1.length : Int) then (some (((zi bt107.1 1).f0) == 0 && (((zi bt107.1 1).f1) == 2))) else (none)) else (some false)) else (none)) else (some false)) else (some false))))) = some r:=h
 clear h
 replace H:=Option.bind_eq_some_iff.mp H
 obtain ⟨t101,A10,H⟩:=H
 replace H : ((z1u.f k 1 0 2).bind fun t104=>((z10.f k 1 t101 t104).bind fun bt107=>(if bt107.2 = 0 then (if (bt107.1.length : Int) = 2 then (if 0 < (bt107.1.length : Int) then (if (((zi bt107.1 0).f0) == 0 && (((zi bt107.1 0).f1) == 0)) = true then (if 1 < (bt107.1.length : Int) then (some (((zi bt107.1 1).f0) == 0 && (((zi bt107.1 1).f1) == 2))) else (none)) else (some false)) else (none)) else (some false)) else (some false)))) = some r:=H
 have A1:=z2.mk A10
 clear A10
 replace H:=Option.bind_eq_some_iff.mp H
 obtain ⟨t104,A20,H⟩:=H
 replace H : ((z10.f k 1 t101 t104).bind fun bt107=>(if bt107.2 = 0 then (if (bt107.1.length : Int) = 2 then (if 0 < (bt107.1.length : Int) then (if (((zi bt107.1 0).f0) == 0 && (((zi bt107.1 0).f1) == 0)) = true then (if 1 < (bt107.1.length : Int) then (some (((zi bt107.1 1).f0) == 0 && (((zi bt107.1 1).f1) == 2))) else (none)) else (some false)) else (none)) else (some false)) else (some false))) = some r:=H
 have A2:=z2.mk A20
 clear A20
 replace H:=Option.bind_eq_some_iff.mp H
 obtain ⟨⟨t107,t110⟩,A30,H⟩:=H
 replace H : (if t110 = 0 then (if (t107.length : Int) = 2 then (if 0 < (t107.length : Int) then (if (((zi t107 0).f0) == 0 && (((zi t107 0).f1) == 0)) = true then (if 1 < (t107.length : Int) then (some (((zi t107 1).f0) == 0 && (((zi t107 1).f1) == 2))) else (none)) else (some false)) else (none)) else (some false)) else (some false)) = some r:=H
 have A3:=z2.mk A30
 clear A30
 by_cases c4 : t110 = 0
 rotate_left
 · rw [if_neg c4] at H
   have c4b0 : (t110 == 0) = false:=beq_eq_false_iff_ne.mpr c4
   have c4b1 : (t110 != 0) = true:=bne_iff_ne.mpr c4
   obtain rfl:=Option.some.inj H
   go_enter Try.func39,Try.ntmps39
   go_wp2_with (first|((with_reducible refine zj (f:=88) rfl ?_);refine goesL_ (some 5) rfl rfl Try.func88 (by kernel_rfl) rfl #[.int .i64 1,.agg #[.int .u64 0,.int .u64 2]] rfl (by (try simp only [List.map_toArray,List.map_cons,List.map_nil]);first|done|rfl|(simp only [List.length_drop,List.length_take];rfl)) ?_;(with_reducible refine (zQ.calls k 1 0 2 t101 _ A1.out).mono ?_);rintro e w27 ⟨v102,rfl,ho0,hb⟩;refine ⟨_,rfl,?_⟩;have n0_:=z2.mk (Kd.z1l ho0 (zb (by repeat (first|(with_reducible first|exact HB.out|apply z4|apply z1|apply z3)|exact HB.out))));have n1_:=z2.mk (za (by repeat (first|(with_reducible first|exact HB.out|apply z4|apply z1|apply z3)|exact HB.out)) hb);clear HB;have HO103:=n0_;have HB:=n1_;clear n0_ n1_;(try clear hb);(try clear hb2);(try clear hk);(try clear hi);(try clear ho0))|((with_reducible refine zj (f:=89) rfl ?_);refine goesL_ (some 7) rfl rfl Try.func89 (by kernel_rfl) rfl #[.int .i64 1,.agg #[.int .u64 0,.int .u64 2]] rfl (by (try simp only [List.map_toArray,List.map_cons,List.map_nil]);first|done|rfl|(simp only [List.length_drop,List.length_take];rfl)) ?_;(with_reducible refine (z1u.calls k 1 0 2 t104 _ A2.out).mono ?_);rintro e w28 ⟨v105,rfl,ho0,hb⟩;refine ⟨_,rfl,?_⟩;have n0_:=z2.mk (Kd.z1r (by (with_reducible repeat (first|apply Kd.ze|apply Kd.zf|apply Kd.zo));exact HO103.out) (Kd.z1v ho0) hb);have n1_:=z2.mk (Kd.z1l (Kd.z1Q ho0 (Kd.R_lt (by (with_reducible repeat (first|apply Kd.ze|apply Kd.zf|apply Kd.zo));exact HO103.out))) (zb (by repeat (first|(with_reducible first|exact HB.out|apply z4|apply z1|apply z3)|exact HB.out))));have n2_:=z2.mk (za (by repeat (first|(with_reducible first|exact HB.out|apply z4|apply z1|apply z3)|exact HB.out)) hb);clear HO103;clear HB;have HO103:=n0_;have HO106:=n1_;have HB:=n2_;clear n0_ n1_ n2_;(try clear hb);(try clear hb2);(try clear hk);(try clear hi);(try clear ho0);obtain ⟨Ao29,co29,eo29⟩:=Kd.z1d HO103.out;subst eo29;obtain ⟨Ao30,co30,eo30⟩:=Kd.z1d HO106.out;subst eo30)|((with_reducible refine zj (f:=41) rfl ?_);refine goesL_ (some 8) rfl rfl Try.func41 (by kernel_rfl) rfl #[.int .i64 1,.slice Ao29 t101.length co29,.slice Ao30 t104.length co30] rfl (by (try simp only [List.map_toArray,List.map_cons,List.map_nil]);first|done|rfl|(simp only [List.length_drop,List.length_take];rfl)) ?_;(with_reducible refine (z10.calls k 1 (fun k_=>some k_ = (.slice Ao29 t101.length co29 : Value).ownBlock) _ _ t101 (fun k_=>some k_ = (.slice Ao30 t104.length co30 : Value).ownBlock) _ _ t104 t107 t110 _ ?side1 ?side2 A3.out).mono ?_);(case side1=>exact Kd.R_V (Kd.z2i rfl (HO103.out)));(case side2=>exact Kd.R_V (Kd.z2i rfl (HO106.out)));rintro e w31 ⟨v108,rfl,ho0,hb⟩;refine ⟨_,rfl,?_⟩;have n0_:=z2.mk (Kd.z1r (by (with_reducible repeat (first|apply Kd.ze|apply Kd.zf|apply Kd.zo));exact HO103.out) (Kd.z1v ho0) hb);have n1_:=z2.mk (Kd.z1r (by (with_reducible repeat (first|apply Kd.ze|apply Kd.zf|apply Kd.zo));exact HO106.out) (Kd.z1v ho0) hb);have n2_:=z2.mk (Kd.z1l (Kd.z1Q (Kd.z1Q (Kd.zY (ok':=fun k_=>True) ho0 (fun _ hk_=>trivial)) (Kd.R_lt (by (with_reducible repeat (first|apply Kd.ze|apply Kd.zf|apply Kd.zo));exact HO103.out))) (Kd.R_lt (by (with_reducible repeat (first|apply Kd.ze|apply Kd.zf|apply Kd.zo));exact HO106.out))) (zb (by repeat (first|(with_reducible first|exact HB.out|apply z4|apply z1|apply z3)|exact HB.out))));have n3_:=z2.mk (za (by repeat (first|(with_reducible first|exact HB.out|apply z4|apply z1|apply z3)|exact HB.out)) hb);clear HO103;clear HO106;clear HB;have HO103:=n0_;have HO106:=n1_;have HO109:=n2_;have HB:=n3_;clear n0_ n1_ n2_ n3_;(try clear hb);(try clear hb2);(try clear hk);(try clear hi);(try clear ho0)))
   go_ret
   exact ⟨by first|rfl|(simp [zk,zl] <;> rfl)|(simp [*,zk,zl] <;> rfl),by repeat (first|(with_reducible first|exact HB.out|apply z4|apply z1|apply z3)|exact HB.out)⟩
 rw [if_pos c4] at H
 have c4b0 : (t110 == 0) = true:=beq_iff_eq.mpr c4
 have c4b1 : (t110 != 0) = false:=bne_eq_false_iff_eq.mpr c4
 clear c4
 by_cases c5 : (t107.length : Int) = 2
 rotate_left
 · rw [if_neg c5] at H
   have c5b0 : ((t107.length : Int) == 2) = false:=beq_eq_false_iff_ne.mpr c5
   have c5b1 : ((t107.length : Int) != 2) = true:=bne_iff_ne.mpr c5
   obtain rfl:=Option.some.inj H
   go_enter Try.func39,Try.ntmps39
   go_wp2_with (first|((with_reducible refine zj (f:=88) rfl ?_);refine goesL_ (some 5) rfl rfl Try.func88 (by kernel_rfl) rfl #[.int .i64 1,.agg #[.int .u64 0,.int .u64 2]] rfl (by (try simp only [List.map_toArray,List.map_cons,List.map_nil]);first|done|rfl|(simp only [List.length_drop,List.length_take];rfl)) ?_;(with_reducible refine (zQ.calls k 1 0 2 t101 _ A1.out).mono ?_);rintro e w21 ⟨v102,rfl,ho0,hb⟩;refine ⟨_,rfl,?_⟩;have n0_:=z2.mk (Kd.z1l ho0 (zb (by repeat (first|(with_reducible first|exact HB.out|apply z4|apply z1|apply z3)|exact HB.out))));have n1_:=z2.mk (za (by repeat (first|(with_reducible first|exact HB.out|apply z4|apply z1|apply z3)|exact HB.out)) hb);clear HB;have HO103:=n0_;have HB:=n1_;clear n0_ n1_;(try clear hb);(try clear hb2);(try clear hk);(try clear hi);(try clear ho0))|((with_reducible refine zj (f:=89) rfl ?_);refine goesL_ (some 7) rfl rfl Try.func89 (by kernel_rfl) rfl #[.int .i64 1,.agg #[.int .u64 0,.int .u64 2]] rfl (by (try simp only [List.map_toArray,List.map_cons,List.map_nil]);first|done|rfl|(simp only [List.length_drop,List.length_take];rfl)) ?_;(with_reducible refine (z1u.calls k 1 0 2 t104 _ A2.out).mono ?_);rintro e w22 ⟨v105,rfl,ho0,hb⟩;refine ⟨_,rfl,?_⟩;have n0_:=z2.mk (Kd.z1r (by (with_reducible repeat (first|apply Kd.ze|apply Kd.zf|apply Kd.zo));exact HO103.out) (Kd.z1v ho0) hb);have n1_:=z2.mk (Kd.z1l (Kd.z1Q ho0 (Kd.R_lt (by (with_reducible repeat (first|apply Kd.ze|apply Kd.zf|apply Kd.zo));exact HO103.out))) (zb (by repeat (first|(with_reducible first|exact HB.out|apply z4|apply z1|apply z3)|exact HB.out))));have n2_:=z2.mk (za (by repeat (first|(with_reducible first|exact HB.out|apply z4|apply z1|apply z3)|exact HB.out)) hb);clear HO103;clear HB;have HO103:=n0_;have HO106:=n1_;have HB:=n2_;clear n0_ n1_ n2_;(try clear hb);(try clear hb2);(try clear hk);(try clear hi);(try clear ho0);obtain ⟨Ao23,co23,eo23⟩:=Kd.z1d HO103.out;subst eo23;obtain ⟨Ao24,co24,eo24⟩:=Kd.z1d HO106.out;subst eo24)|((with_reducible refine zj (f:=41) rfl ?_);refine goesL_ (some 8) rfl rfl Try.func41 (by kernel_rfl) rfl #[.int .i64 1,.slice Ao23 t101.length co23,.slice Ao24 t104.length co24] rfl (by (try simp only [List.map_toArray,List.map_cons,List.map_nil]);first|done|rfl|(simp only [List.length_drop,List.length_take];rfl)) ?_;(with_reducible refine (z10.calls k 1 (fun k_=>some k_ = (.slice Ao23 t101.length co23 : Value).ownBlock) _ _ t101 (fun k_=>some k_ = (.slice Ao24 t104.length co24 : Value).ownBlock) _ _ t104 t107 t110 _ ?side1 ?side2 A3.out).mono ?_);(case side1=>exact Kd.R_V (Kd.z2i rfl (HO103.out)));(case side2=>exact Kd.R_V (Kd.z2i rfl (HO106.out)));rintro e w25 ⟨v108,rfl,ho0,hb⟩;refine ⟨_,rfl,?_⟩;have n0_:=z2.mk (Kd.z1r (by (with_reducible repeat (first|apply Kd.ze|apply Kd.zf|apply Kd.zo));exact HO103.out) (Kd.z1v ho0) hb);have n1_:=z2.mk (Kd.z1r (by (with_reducible repeat (first|apply Kd.ze|apply Kd.zf|apply Kd.zo));exact HO106.out) (Kd.z1v ho0) hb);have n2_:=z2.mk (Kd.z1l (Kd.z1Q (Kd.z1Q (Kd.zY (ok':=fun k_=>True) ho0 (fun _ hk_=>trivial)) (Kd.R_lt (by (with_reducible repeat (first|apply Kd.ze|apply Kd.zf|apply Kd.zo));exact HO103.out))) (Kd.R_lt (by (with_reducible repeat (first|apply Kd.ze|apply Kd.zf|apply Kd.zo));exact HO106.out))) (zb (by repeat (first|(with_reducible first|exact HB.out|apply z4|apply z1|apply z3)|exact HB.out))));have n3_:=z2.mk (za (by repeat (first|(with_reducible first|exact HB.out|apply z4|apply z1|apply z3)|exact HB.out)) hb);clear HO103;clear HO106;clear HB;have HO103:=n0_;have HO106:=n1_;have HO109:=n2_;have HB:=n3_;clear n0_ n1_ n2_ n3_;(try clear hb);(try clear hb2);(try clear hk);(try clear hi);(try clear ho0);obtain ⟨Ao26,co26,eo26⟩:=Kd.z1d HO109.out;subst eo26))
   go_ret
   exact ⟨by first|rfl|(simp [zk,zl] <;> rfl)|(simp [*,zk,zl] <;> rfl),by repeat (first|(with_reducible first|exact HB.out|apply z4|apply z1|apply z3)|exact HB.out)⟩
 rw [if_pos c5] at H
 have c5b0 : ((t107.length : Int) == 2) = true:=beq_iff_eq.mpr c5
 have c5b1 : ((t107.length : Int) != 2) = false:=bne_eq_false_iff_eq.mpr c5
 clear c5
 by_cases c6 : 0 < (t107.length : Int)
 rotate_left
 · rw [if_neg c6] at H
   exact absurd H (by simp)
 rw [if_pos c6] at H
 have c6b0 : decide (0 < (t107.length : Int)) = true:=decide_eq_true c6
 have c6b1 : decide (0 < t107.length) = true:=decide_eq_true (by omega)
 clear c6
 by_cases c7 : (((zi t107 0).f0) == 0 && (((zi t107 0).f1) == 0)) = true
 rotate_left
 · rw [if_neg c7] at H
   have c7b0 : (((zi t107 0).f0) == 0 && (((zi t107 0).f1) == 0)) = false:=by simpa using c7
   (try (have c7b1 : decide (((zi t107 0).f0) = 0 && (((zi t107 0).f1) == 0)) = false:=by simpa using c7))
   (try (have c7b2 : (((zi t107 0).f0) == 0 && (((zi t107 0).f1) == 0)) = false:=by simpa using c7))
   (try (have c7b3 : ¬ (((zi t107 0).f0) = 0 && (((zi t107 0).f1) == 0)):=by simpa using c7))
   clear c7
   obtain rfl:=Option.some.inj H
   go_enter Try.func39,Try.ntmps39
   go_wp2_with (first|((with_reducible refine zj (f:=88) rfl ?_);refine goesL_ (some 5) rfl rfl Try.func88 (by kernel_rfl) rfl #[.int .i64 1,.agg #[.int .u64 0,.int .u64 2]] rfl (by (try simp only [List.map_toArray,List.map_cons,List.map_nil]);first|done|rfl|(simp only [List.length_drop,List.length_take];rfl)) ?_;(with_reducible refine (zQ.calls k 1 0 2 t101 _ A1.out).mono ?_);rintro e w15 ⟨v102,rfl,ho0,hb⟩;refine ⟨_,rfl,?_⟩;have n0_:=z2.mk (Kd.z1l ho0 (zb (by repeat (first|(with_reducible first|exact HB.out|apply z4|apply z1|apply z3)|exact HB.out))));have n1_:=z2.mk (za (by repeat (first|(with_reducible first|exact HB.out|apply z4|apply z1|apply z3)|exact HB.out)) hb);clear HB;have HO103:=n0_;have HB:=n1_;clear n0_ n1_;(try clear hb);(try clear hb2);(try clear hk);(try clear hi);(try clear ho0))|((with_reducible refine zj (f:=89) rfl ?_);refine goesL_ (some 7) rfl rfl Try.func89 (by kernel_rfl) rfl #[.int .i64 1,.agg #[.int .u64 0,.int .u64 2]] rfl (by (try simp only [List.map_toArray,List.map_cons,List.map_nil]);first|done|rfl|(simp only [List.length_drop,List.length_take];rfl)) ?_;(with_reducible refine (z1u.calls k 1 0 2 t104 _ A2.out).mono ?_);rintro e w16 ⟨v105,rfl,ho0,hb⟩;refine ⟨_,rfl,?_⟩;have n0_:=z2.mk (Kd.z1r (by (with_reducible repeat (first|apply Kd.ze|apply Kd.zf|apply Kd.zo));exact HO103.out) (Kd.z1v ho0) hb);have n1_:=z2.mk (Kd.z1l (Kd.z1Q ho0 (Kd.R_lt (by (with_reducible repeat (first|apply Kd.ze|apply Kd.zf|apply Kd.zo));exact HO103.out))) (zb (by repeat (first|(with_reducible first|exact HB.out|apply z4|apply z1|apply z3)|exact HB.out))));have n2_:=z2.mk (za (by repeat (first|(with_reducible first|exact HB.out|apply z4|apply z1|apply z3)|exact HB.out)) hb);clear HO103;clear HB;have HO103:=n0_;have HO106:=n1_;have HB:=n2_;clear n0_ n1_ n2_;(try clear hb);(try clear hb2);(try clear hk);(try clear hi);(try clear ho0);obtain ⟨Ao17,co17,eo17⟩:=Kd.z1d HO103.out;subst eo17;obtain ⟨Ao18,co18,eo18⟩:=Kd.z1d HO106.out;subst eo18)|((with_reducible refine zj (f:=41) rfl ?_);refine goesL_ (some 8) rfl rfl Try.func41 (by kernel_rfl) rfl #[.int .i64 1,.slice Ao17 t101.length co17,.slice Ao18 t104.length co18] rfl (by (try simp only [List.map_toArray,List.map_cons,List.map_nil]);first|done|rfl|(simp only [List.length_drop,List.length_take];rfl)) ?_;(with_reducible refine (z10.calls k 1 (fun k_=>some k_ = (.slice Ao17 t101.length co17 : Value).ownBlock) _ _ t101 (fun k_=>some k_ = (.slice Ao18 t104.length co18 : Value).ownBlock) _ _ t104 t107 t110 _ ?side1 ?side2 A3.out).mono ?_);(case side1=>exact Kd.R_V (Kd.z2i rfl (HO103.out)));(case side2=>exact Kd.R_V (Kd.z2i rfl (HO106.out)));rintro e w19 ⟨v108,rfl,ho0,hb⟩;refine ⟨_,rfl,?_⟩;have n0_:=z2.mk (Kd.z1r (by (with_reducible repeat (first|apply Kd.ze|apply Kd.zf|apply Kd.zo));exact HO103.out) (Kd.z1v ho0) hb);have n1_:=z2.mk (Kd.z1r (by (with_reducible repeat (first|apply Kd.ze|apply Kd.zf|apply Kd.zo));exact HO106.out) (Kd.z1v ho0) hb);have n2_:=z2.mk (Kd.z1l (Kd.z1Q (Kd.z1Q (Kd.zY (ok':=fun k_=>True) ho0 (fun _ hk_=>trivial)) (Kd.R_lt (by (with_reducible repeat (first|apply Kd.ze|apply Kd.zf|apply Kd.zo));exact HO103.out))) (Kd.R_lt (by (with_reducible repeat (first|apply Kd.ze|apply Kd.zf|apply Kd.zo));exact HO106.out))) (zb (by repeat (first|(with_reducible first|exact HB.out|apply z4|apply z1|apply z3)|exact HB.out))));have n3_:=z2.mk (za (by repeat (first|(with_reducible first|exact HB.out|apply z4|apply z1|apply z3)|exact HB.out)) hb);clear HO103;clear HO106;clear HB;have HO103:=n0_;have HO106:=n1_;have HO109:=n2_;have HB:=n3_;clear n0_ n1_ n2_ n3_;(try clear hb);(try clear hb2);(try clear hk);(try clear hi);(try clear ho0);obtain ⟨Ao20,co20,eo20⟩:=Kd.z1d HO109.out;subst eo20;have p111 : 0 ≤ (0 : Int):=(by omega);have q111 : 0 < (t107.length : Int):=of_decide_eq_true (by first|(with_reducible assumption)|assumption);obtain ⟨ad111,e111,hx111_0,hx111_1⟩:=z29 (Kd.zI HO109.out).2.2 0 p111 q111;cases e111;have qi111 : (0 < t107.length) = True:=eq_true (by omega);(try rw [show ((0 : Int)).toNat = 0 from rfl] at hx111_0);(try rw [show 0 * 2 = 0 from rfl] at hx111_0);(try rw [Addr.add_zero'] at hx111_0);(try rw [show ((0 : Int)).toNat = 0 from rfl] at hx111_1);(try rw [show 0 * 2 = 0 from rfl] at hx111_1);(try rw [Addr.add_zero'] at hx111_1);replace p111:=eq_true p111;replace q111:=eq_true q111))
   go_ret
   exact ⟨by first|rfl|(simp [zk,zl] <;> rfl)|(simp [*,zk,zl] <;> rfl),by repeat (first|(with_reducible first|exact HB.out|apply z4|apply z1|apply z3)|exact HB.out)⟩
 rw [if_pos c7] at H
 have c7b0 : (((zi t107 0).f0) == 0 && (((zi t107 0).f1) == 0)) = true:=c7
 (try (have c7b1 : decide (((zi t107 0).f0) = 0 && (((zi t107 0).f1) == 0)) = true:=by simpa using c7))
 (try (have c7b2 : (((zi t107 0).f0) == 0 && (((zi t107 0).f1) == 0)) = true:=by simpa using c7))
 clear c7
 by_cases c8 : 1 < (t107.length : Int)
 rotate_left
 · rw [if_neg c8] at H
   exact absurd H (by simp)
 rw [if_pos c8] at H
 have c8b0 : decide (1 < (t107.length : Int)) = true:=decide_eq_true c8
 have c8b1 : decide (1 < t107.length) = true:=decide_eq_true (by omega)
 clear c8
 obtain rfl:=Option.some.inj H
 go_enter Try.func39,Try.ntmps39
 go_wp2_with (first|((with_reducible refine zj (f:=88) rfl ?_);refine goesL_ (some 5) rfl rfl Try.func88 (by kernel_rfl) rfl #[.int .i64 1,.agg #[.int .u64 0,.int .u64 2]] rfl (by (try simp only [List.map_toArray,List.map_cons,List.map_nil]);first|done|rfl|(simp only [List.length_drop,List.length_take];rfl)) ?_;(with_reducible refine (zQ.calls k 1 0 2 t101 _ A1.out).mono ?_);rintro e w9 ⟨v102,rfl,ho0,hb⟩;refine ⟨_,rfl,?_⟩;have n0_:=z2.mk (Kd.z1l ho0 (zb (by repeat (first|(with_reducible first|exact HB.out|apply z4|apply z1|apply z3)|exact HB.out))));have n1_:=z2.mk (za (by repeat (first|(with_reducible first|exact HB.out|apply z4|apply z1|apply z3)|exact HB.out)) hb);clear HB;have HO103:=n0_;have HB:=n1_;clear n0_ n1_;(try clear hb);(try clear hb2);(try clear hk);(try clear hi);(try clear ho0))|((with_reducible refine zj (f:=89) rfl ?_);refine goesL_ (some 7) rfl rfl Try.func89 (by kernel_rfl) rfl #[.int .i64 1,.agg #[.int .u64 0,.int .u64 2]] rfl (by (try simp only [List.map_toArray,List.map_cons,List.map_nil]);first|done|rfl|(simp only [List.length_drop,List.length_take];rfl)) ?_;(with_reducible refine (z1u.calls k 1 0 2 t104 _ A2.out).mono ?_);rintro e w10 ⟨v105,rfl,ho0,hb⟩;refine ⟨_,rfl,?_⟩;have n0_:=z2.mk (Kd.z1r (by (with_reducible repeat (first|apply Kd.ze|apply Kd.zf|apply Kd.zo));exact HO103.out) (Kd.z1v ho0) hb);have n1_:=z2.mk (Kd.z1l (Kd.z1Q ho0 (Kd.R_lt (by (with_reducible repeat (first|apply Kd.ze|apply Kd.zf|apply Kd.zo));exact HO103.out))) (zb (by repeat (first|(with_reducible first|exact HB.out|apply z4|apply z1|apply z3)|exact HB.out))));have n2_:=z2.mk (za (by repeat (first|(with_reducible first|exact HB.out|apply z4|apply z1|apply z3)|exact HB.out)) hb);clear HO103;clear HB;have HO103:=n0_;have HO106:=n1_;have HB:=n2_;clear n0_ n1_ n2_;(try clear hb);(try clear hb2);(try clear hk);(try clear hi);(try clear ho0);obtain ⟨Ao11,co11,eo11⟩:=Kd.z1d HO103.out;subst eo11;obtain ⟨Ao12,co12,eo12⟩:=Kd.z1d HO106.out;subst eo12)|((with_reducible refine zj (f:=41) rfl ?_);refine goesL_ (some 8) rfl rfl Try.func41 (by kernel_rfl) rfl #[.int .i64 1,.slice Ao11 t101.length co11,.slice Ao12 t104.length co12] rfl (by (try simp only [List.map_toArray,List.map_cons,List.map_nil]);first|done|rfl|(simp only [List.length_drop,List.length_take];rfl)) ?_;(with_reducible refine (z10.calls k 1 (fun k_=>some k_ = (.slice Ao11 t101.length co11 : Value).ownBlock) _ _ t101 (fun k_=>some k_ = (.slice Ao12 t104.length co12 : Value).ownBlock) _ _ t104 t107 t110 _ ?side1 ?side2 A3.out).mono ?_);(case side1=>exact Kd.R_V (Kd.z2i rfl (HO103.out)));(case side2=>exact Kd.R_V (Kd.z2i rfl (HO106.out)));rintro e w13 ⟨v108,rfl,ho0,hb⟩;refine ⟨_,rfl,?_⟩;have n0_:=z2.mk (Kd.z1r (by (with_reducible repeat (first|apply Kd.ze|apply Kd.zf|apply Kd.zo));exact HO103.out) (Kd.z1v ho0) hb);have n1_:=z2.mk (Kd.z1r (by (with_reducible repeat (first|apply Kd.ze|apply Kd.zf|apply Kd.zo));exact HO106.out) (Kd.z1v ho0) hb);have n2_:=z2.mk (Kd.z1l (Kd.z1Q (Kd.z1Q (Kd.zY (ok':=fun k_=>True) ho0 (fun _ hk_=>trivial)) (Kd.R_lt (by (with_reducible repeat (first|apply Kd.ze|apply Kd.zf|apply Kd.zo));exact HO103.out))) (Kd.R_lt (by (with_reducible repeat (first|apply Kd.ze|apply Kd.zf|apply Kd.zo));exact HO106.out))) (zb (by repeat (first|(with_reducible first|exact HB.out|apply z4|apply z1|apply z3)|exact HB.out))));have n3_:=z2.mk (za (by repeat (first|(with_reducible first|exact HB.out|apply z4|apply z1|apply z3)|exact HB.out)) hb);clear HO103;clear HO106;clear HB;have HO103:=n0_;have HO106:=n1_;have HO109:=n2_;have HB:=n3_;clear n0_ n1_ n2_ n3_;(try clear hb);(try clear hb2);(try clear hk);(try clear hi);(try clear ho0);obtain ⟨Ao14,co14,eo14⟩:=Kd.z1d HO109.out;subst eo14;have p111 : 0 ≤ (0 : Int):=(by omega);have q111 : 0 < (t107.length : Int):=of_decide_eq_true (by first|(with_reducible assumption)|assumption);obtain ⟨ad111,e111,hx111_0,hx111_1⟩:=z29 (Kd.zI HO109.out).2.2 0 p111 q111;cases e111;have qi111 : (0 < t107.length) = True:=eq_true (by omega);(try rw [show ((0 : Int)).toNat = 0 from rfl] at hx111_0);(try rw [show 0 * 2 = 0 from rfl] at hx111_0);(try rw [Addr.add_zero'] at hx111_0);(try rw [show ((0 : Int)).toNat = 0 from rfl] at hx111_1);(try rw [show 0 * 2 = 0 from rfl] at hx111_1);(try rw [Addr.add_zero'] at hx111_1);replace p111:=eq_true p111;replace q111:=eq_true q111;have p112 : 0 ≤ (1 : Int):=(by omega);have q112 : 1 < (t107.length : Int):=of_decide_eq_true (by first|(with_reducible assumption)|assumption);obtain ⟨ad112,e112,hx112_0,hx112_1⟩:=z29 (Kd.zI HO109.out).2.2 1 p112 q112;obtain rfl : ad111 = ad112:=(by injection e112);(try simp only [show (1 : Int).toNat = 1 from rfl,Nat.reduceMul,Nat.reduceEqDiff,Go.Addr.add,↓reduceIte] at hx112_0);(try simp only [show (1 : Int).toNat = 1 from rfl,Nat.reduceMul,Nat.reduceEqDiff,Go.Addr.add,↓reduceIte] at hx112_1);have qi112 : (1 < t107.length) = True:=eq_true (by omega);(try rw [show ((1 : Int)).toNat = 1 from rfl] at hx112_0);(try rw [show 1 * 2 = 2 from rfl] at hx112_0);(try rw [show ((1 : Int)).toNat = 1 from rfl] at hx112_1);(try rw [show 1 * 2 = 2 from rfl] at hx112_1);replace p112:=eq_true p112;replace q112:=eq_true q112))
 go_ret
 exact ⟨by first|rfl|(simp [zk,zl] <;> rfl)|(simp [*,zk,zl] <;> rfl),by repeat (first|(with_reducible first|exact HB.out|apply z4|apply z1|apply z3)|exact HB.out)⟩
end Go.Proofs.Ytkhmpaooinpfoaa.P
namespace Go.Proofs.Ytkhmpaooinpfoaa.P
open Go.RowKit Go.Proofs.YtkhmpaooinpfoaaW.PrintWords Go.Proofs.YtkhmpaooinpfoaaW.PrintLast Go.Proofs.YtkhmpaooinpfoaaW.PrintMore
attribute [local go_sem] z15 z17 z1f z1g zW zX z16 z18   -- for this text's walks alone
set_option linter.unusedVariables false
set_option linter.unusedSimpArgs false
def zG.f (k : Nat) (l0 : List (S30)) (l1 : List (S30)) : Option (Bool):=(zu.f k l1).bind fun t101=>((zs.f k l0 t101).bind fun t104=>(some t104))
theorem zG.mono : ∀ a0 a1 k,LeO (zG.f k a0 a1) (zG.f (k + 1) a0 a1):=by
 intro a0 a1 k
 unfold zG.f
 repeat' first
  | (with_reducible exact zu.mono _ _)
  | (with_reducible exact zs.mono _ _ _)
  | (with_reducible exact LeO.refl _)
  | (with_reducible exact LeO.none _)
  | (with_reducible refine LeO.ite ?_ ?_)
  | (with_reducible refine LeO.bind ?_ (fun _=>?_))
  | exact zu.mono _ _
  | exact zs.mono _ _ _
  | exact LeO.none _
  | refine LeO.ite ?_ ?_
  | refine LeO.bind ?_ (fun _=>?_)
set_option maxHeartbeats 8000000 in
set_option maxRecDepth 100000 in
theorem zG.calls (k : Nat) (A0 : Option Addr) (c0 : Nat) (l0 : List (S30)) (A1 : Option Addr) (c1 : Nat) (l1 : List (S30)) (r : Bool) (w : World) (hr0 : Kd.C k30 w A0 l0.length l0) (hc0 : l0.length ≤ c0) (hr1 : Kd.C k30 w A1 l1.length l1) (hc1 : l1.length ≤ c1) (h : zG.f k l0 l1 = some r) :
 Calls Try.prog 48 #[.slice A0 l0.length c0,.slice A1 l1.length c1] w fun e w'=>e = .returned (.bool r) ∧ Below w.heap.size w w':=by
 have HR0:=z2.mk hr0
 have HC0:=z2.mk hc0
 clear hr0 hc0
 have HR1:=z2.mk hr1
 have HC1:=z2.mk hc1
 clear hr1 hc1
 have HB:=z2.mk (Below.refl w.heap.size w)
 have H : ((zu.f k l1).bind fun t101=>((zs.f k l0 t101).bind fun t104=>(some t104))) = some r:=h
 clear h
 replace H:=Option.bind_eq_some_iff.mp H
 obtain ⟨t101,A30,H⟩:=H
 replace H : ((zs.f k l0 t101).bind fun t104=>(some t104)) = some r:=H
 have A3:=z2.mk A30
 clear A30
 replace H:=Option.bind_eq_some_iff.mp H
 obtain ⟨t104,A40,H⟩:=H
 replace H : (some t104) = some r:=H
 have A4:=z2.mk A40
 clear A40
 obtain rfl:=Option.some.inj H
 go_enter Try.func48,Try.ntmps48
 go_wp2_with (first|((with_reducible refine zj (f:=14) rfl ?_);refine goesL_ (some 7) rfl rfl Try.func14 (by kernel_rfl) rfl #[.slice A1 l1.length c1] rfl (by (try simp only [List.map_toArray,List.map_cons,List.map_nil]);first|done|rfl|(simp only [List.length_drop,List.length_take];rfl)) ?_;(with_reducible refine (zu.calls k _ _ l1 t101 _ ?side1 ?side2 A3.out).mono ?_);(case side1=>repeat (first|exact HR1.out|(with_reducible refine Kd.z1o ?_ _)|(with_reducible refine Kd.z1p ?_ _)|(with_reducible refine Kd.z1C ?_)));(case side2=>exact HC1.out);rintro e w5 ⟨v102,rfl,ho0,hb⟩;refine ⟨_,rfl,?_⟩;have n0_:=z2.mk (Kd.z1l ho0 (zb (by repeat (first|(with_reducible first|exact HB.out|apply z4|apply z1|apply z3)|exact HB.out))));have n1_:=z2.mk (za (by repeat (first|(with_reducible first|exact HB.out|apply z4|apply z1|apply z3)|exact HB.out)) hb);clear HB;have HO103:=n0_;have HB:=n1_;clear n0_ n1_;(try clear hb);(try clear hb2);(try clear hk);(try clear hi);(try clear ho0);obtain ⟨Ao6,co6,eo6⟩:=Kd.z1d HO103.out;subst eo6)|((with_reducible refine zj (f:=25) rfl ?_);refine goesL_ (some 8) rfl rfl Try.func25 (by kernel_rfl) rfl #[.slice A0 l0.length c0,.slice Ao6 t101.length co6] rfl (by (try simp only [List.map_toArray,List.map_cons,List.map_nil]);first|done|rfl|(simp only [List.length_drop,List.length_take];rfl)) ?_;(with_reducible refine (zs.calls k _ _ l0 _ _ t101 t104 _ ?side1 ?side2 ?side3 ?side4 A4.out).mono ?_);(case side1=>repeat (first|exact (Kd.z1W HR0.out HB.out)|(with_reducible refine Kd.z1o ?_ _)|(with_reducible refine Kd.z1p ?_ _)|(with_reducible refine Kd.z1C ?_)));(case side2=>exact HC0.out);(case side3=>repeat (first|exact (Kd.zI HO103.out).2.2|(with_reducible refine Kd.z1o ?_ _)|(with_reducible refine Kd.z1p ?_ _)|(with_reducible refine Kd.z1C ?_)));(case side4=>exact (Kd.zI HO103.out).2.1);rintro e w' ⟨rfl,⟨nd,rfl⟩⟩;refine ⟨_,rfl,?_⟩))
 go_ret
 exact ⟨by first|rfl|(simp [zk,zl] <;> rfl)|(simp [*,zk,zl] <;> rfl),by repeat (first|(with_reducible first|exact HB.out|apply z4|apply z1|apply z3)|exact HB.out)⟩
end Go.Proofs.Ytkhmpaooinpfoaa.P
namespace Go.Proofs.Ytkhmpaooinpfoaa.P
open Go.RowKit Go.Proofs.YtkhmpaooinpfoaaW.PrintWords Go.Proofs.YtkhmpaooinpfoaaW.PrintLast Go.Proofs.YtkhmpaooinpfoaaW.PrintMore
attribute [local go_sem] z15 z17 z1f z1g zW zX z16 z18   -- for this text's walks alone
set_option linter.unusedVariables false
set_option linter.unusedSimpArgs false
set_option maxHeartbeats 800000 in
set_option maxRecDepth 100000 in
theorem z3H.nil (n : Int) (w : World) (h0 : 0 ≤ n) (hl : n ≤ 8796093022207) :
 Calls Try.prog 130 #[.slice none 0 0,.int .i64 n] w fun e w'=>∃ v0_ : Value,e = .returned (v0_) ∧ Kd.R k30 30 w' w.heap.size (fun _=>True) v0_ ([] : List S30) ∧ Below w.heap.size w w':=by
 have HB:=z2.mk (Below.refl w.heap.size w)
 have HN:=z2.mk h0
 have HL:=z2.mk hl
 have hw : IntKind.i64.wrap n = n:=by rw [IntKind.wrap_i64];omega
 have hw2 : wrap64 n = n:=by unfold wrap64;omega
 have d0 : decide (n < 0) = false:=decide_eq_false (by omega)
 by_cases hp : n > 0
 rotate_left
 · have d1 : decide (n > 0) = false:=decide_eq_false hp
   have d1' : decide (0 < n) = false:=decide_eq_false hp
   clear h0 hl hp
   go_enter Try.func130,Try.ntmps130
   go_wp2
   go_ret
   exact ⟨_,rfl,Kd.z2C _ _ _ _ _,HB.out⟩
 have d1 : decide (n > 0) = true:=decide_eq_true hp
 have d1' : decide (0 < n) = true:=decide_eq_true hp
 clear h0 hl hp
 go_enter Try.func130,Try.ntmps130
 go_wp2_with (first
  | ((with_reducible refine z20 (b:=.append) (xs:=#[.tmp 20,.tmp 21]) rfl ?_);at_builtin;refine Kd.z4H k30 (w0:=w) w.heap.size rfl (.tmp 20) (.tmp 21) 24 3 30 (.agg #[(.int .u64 0),(.int .u64 0)]) 16 rfl Try.underlying24 Try.underlying3 info30 rfl (by decide) (by omega) (.slice none 0 0) [] z30 n (fun _=>True) rfl rfl ?aZ (fun _ _=>trivial) (Kd.z2C _ _ _ _ _) ?a0 ?aB (Nat.le_refl _) ?aL ?_;(case aZ=>exact (z2e _ _ _ z30));(case a0=>exact HN.out);(case aB=>exact HB.out);(case aL=>have:=HL.out;have:=HN.out;simp only [List.length_nil];omega);intro v1 w1 ho hb hg hat;obtain ⟨A1,c1,rfl⟩:=Kd.z1d ho;have hcut:=cut_to (P:=Try.prog) 24 30 .i64 Try.underlying24 (info_parts info30).choose_spec.1 A1 _ c1 0 (Int.le_refl 0) (Int.natCast_nonneg _) (Kd.zI ho).2.1;have n0_:=z2.mk (Kd.R_take (m:=0) ho (Nat.zero_le _));have n1_:=z2.mk hb;clear HB ho hb hg hat;have HO:=n0_;have HB:=n1_;clear n0_ n1_))
 go_ret
 exact ⟨_,rfl,HO.out,HB.out⟩
end Go.Proofs.Ytkhmpaooinpfoaa.P
namespace Go.Proofs.Ytkhmpaooinpfoaa.P
open Go.RowKit Go.Proofs.YtkhmpaooinpfoaaW.PrintWords Go.Proofs.YtkhmpaooinpfoaaW.PrintLast Go.Proofs.YtkhmpaooinpfoaaW.PrintMore
attribute [local go_sem] z15 z17 z1f z1g zW zX z16 z18   -- for this text's walks alone
set_option linter.unusedVariables false
set_option linter.unusedSimpArgs false
mutual
def zn.l0 : Nat → List (List (S30)) → Int → List (List (S30)) → Int → Int → Option ((List (S30)))
 | 0,_,_,_,_,_=>none
 | k + 1,x0,x3,x9,x10,x11=>if x11 < x10 then (if 0 ≤ x11 then (if x11 < (x9.length : Int) then (if (wrap64 (x3 + ((z2f x9 x11).length : Int))) < 0 then (none) else (zn.l0 k x0 (wrap64 (x3 + ((z2f x9 x11).length : Int))) x9 x10 (wrap64 (x11 + 1)))) else (none)) else (none)) else (if 0 ≤ x3 then (if x3 ≤ 8796093022207 then (zn.l1 k (([] : List (S30))) x0 (x0.length : Int) 0) else (none)) else (none))
def zn.l1 : Nat → List (S30) → List (List (S30)) → Int → Int → Option ((List (S30)))
 | 0,_,_,_,_=>none
 | k + 1,x6,x25,x26,x27=>if x27 < x26 then (if 0 ≤ x27 then (if x27 < (x25.length : Int) then (if x6.length + (z2f x25 x27).length < 8796093022208 then (zn.l1 k (x6 ++ (z2f x25 x27)) x25 x26 (wrap64 (x27 + 1))) else (none)) else (none)) else (none)) else (some x6)
end
def zn.f (k : Nat) (l0 : List (List (S30))) : Option ((List (S30))):=zn.l0 k l0 0 l0 (l0.length : Int) 0
theorem zn.z1b : ∀ k,(∀ y0 y1 y2 y3 y4,LeO (zn.l0 k y0 y1 y2 y3 y4) (zn.l0 (k + 1) y0 y1 y2 y3 y4)) ∧ (∀ y0 y1 y2 y3,LeO (zn.l1 k y0 y1 y2 y3) (zn.l1 (k + 1) y0 y1 y2 y3))
 | 0=>⟨fun _ _ _ _ _ r h=>by simp [zn.l0] at h,fun _ _ _ _ r h=>by simp [zn.l1] at h⟩
 | k + 1=>by
  obtain ⟨ih0,ih1⟩:=zn.z1b k
  refine ⟨?_,?_⟩
  · intro y0 y1 y2 y3 y4
    unfold zn.l0
    repeat' first
    | (with_reducible exact ih0 _ _ _ _ _)
    | (with_reducible exact ih1 _ _ _ _)
    | (with_reducible exact LeO.refl _)
    | (with_reducible exact LeO.none _)
    | (with_reducible refine LeO.ite ?_ ?_)
    | (with_reducible refine LeO.bind ?_ (fun _=>?_))
    | exact ih0 _ _ _ _ _
    | exact ih1 _ _ _ _
    | exact LeO.none _
    | refine LeO.ite ?_ ?_
    | refine LeO.bind ?_ (fun _=>?_)
  · intro y0 y1 y2 y3
    unfold zn.l1
    repeat' first
    | (with_reducible exact ih0 _ _ _ _ _)
    | (with_reducible exact ih1 _ _ _ _)
    | (with_reducible exact LeO.refl _)
    | (with_reducible exact LeO.none _)
    | (with_reducible refine LeO.ite ?_ ?_)
    | (with_reducible refine LeO.bind ?_ (fun _=>?_))
    | exact ih0 _ _ _ _ _
    | exact ih1 _ _ _ _
    | exact LeO.none _
    | refine LeO.ite ?_ ?_
    | refine LeO.bind ?_ (fun _=>?_)
theorem zn.mono : ∀ a0 k,LeO (zn.f k a0) (zn.f (k + 1) a0):=by
 intro a0 k
 obtain ⟨ih0,ih1⟩:=zn.z1b k
 unfold zn.f
 repeat' first
  | (with_reducible exact ih0 _ _ _ _ _)
  | (with_reducible exact ih1 _ _ _ _)
  | (with_reducible exact LeO.refl _)
  | (with_reducible exact LeO.none _)
  | (with_reducible refine LeO.ite ?_ ?_)
  | (with_reducible refine LeO.bind ?_ (fun _=>?_))
  | exact ih0 _ _ _ _ _
  | exact ih1 _ _ _ _
  | exact LeO.none _
  | refine LeO.ite ?_ ?_
  | refine LeO.bind ?_ (fun _=>?_)
set_option maxHeartbeats 8000000 in
set_option maxRecDepth 100000 in
theorem zn.calls (k : Nat) (A0 : Option Addr) (c0 : Nat) (l0 : List (List (S30))) (r : List (S30)) (w : World) (hr0 : Kd.C (Kd.slice 30 k30) w A0 l0.length l0) (hc0 : l0.length ≤ c0) (h : zn.f k l0 = some r) :
 Calls Try.prog 100 #[.slice A0 l0.length c0] w fun e w'=>∃ v0_ : Value,e = .returned (v0_) ∧ Kd.R k30 30 w' w.heap.size (fun _=>True) v0_ r ∧ Below w.heap.size w w':=by
 have HR0:=z2.mk hr0
 have HC0:=z2.mk hc0
 clear hr0 hc0
 have HB:=z2.mk (Below.refl w.heap.size w)
 have H : (zn.l0 k l0 0 l0 (l0.length : Int) 0) = some r:=h
 clear h
 have H':=z2.mk H
 clear H
 go_enter Try.func100,Try.ntmps100
 go_wp2
 go_loopg [3,11] k (fun kq v3 v11 w'=>∃ (x3_1 : Int) (x11_1 : Int),v3 = .int .i64 x3_1 ∧ v11 = .int .i64 x11_1 ∧ z2 (zn.l0 kq l0 x3_1 l0 (l0.length : Int) x11_1 = some r) ∧ z2 (kq ≤ k) ∧ z2 (Below w.heap.size w w'))
 case atStart=>exact ⟨(0),(0),(by first|rfl|(simp;done)|(simp [*];done)),(by first|rfl|(simp;done)|(simp [*];done)),H',⟨Nat.le_refl _⟩,⟨by repeat (first|(with_reducible first|exact HB.out|apply z4|apply z1|apply z3)|exact HB.out)⟩⟩
 case round =>
  clear H'
  (try clear c1)
  obtain ⟨x3_1,x11_1,rfl,rfl,HA,HK1,HB⟩:=hrel
  cases gk with
  | zero=>exact absurd HA.out (by simp [zn.l0])
  | succ k1 =>
   have H:=HA.out
   clear HA
   simp only [zn.l0] at H
   by_cases c2 : x11_1 < (l0.length : Int)
   · rw [if_pos c2] at H
     have c2b0 : decide (x11_1 < (l0.length : Int)) = true:=decide_eq_true c2
     clear c2
     by_cases c3 : 0 ≤ x11_1
     rotate_left
     · rw [if_neg c3] at H
       exact absurd H (by simp)
     rw [if_pos c3] at H
     have c3b0 : decide (0 ≤ x11_1) = true:=decide_eq_true c3
     clear c3
     by_cases c4 : x11_1 < (l0.length : Int)
     rotate_left
     · rw [if_neg c4] at H
       exact absurd H (by simp)
     rw [if_pos c4] at H
     have c4b0 : decide (x11_1 < (l0.length : Int)) = true:=decide_eq_true c4
     clear c4
     by_cases c5 : (wrap64 (x3_1 + ((z2f l0 x11_1).length : Int))) < 0
     · rw [if_pos c5] at H
       exact absurd H (by simp)
     rw [if_neg c5] at H
     have c5b0 : decide ((wrap64 (x3_1 + ((z2f l0 x11_1).length : Int))) < 0) = false:=decide_eq_false c5
     clear c5
     have H':=z2.mk H
     clear H
     have p101 : 0 ≤ (x11_1 : Int):=of_decide_eq_true (by first|(with_reducible assumption)|assumption)
     have q101 : x11_1 < (l0.length : Int):=of_decide_eq_true (by first|(with_reducible assumption)|assumption)
     obtain ⟨ad101,A101_0,c101_0,e101,hx101_0,hl101_0,hi101_0⟩:=at_L3 HR0.out x11_1 p101 q101
     cases e101
     replace hx101_0:=(HB.out.cell (World.block_lt_of_cell? w _ hx101_0)).trans hx101_0
     have HR101_0:=z2.mk hi101_0
     have HC101_0:=z2.mk hl101_0
     clear hi101_0 hl101_0
     replace p101:=eq_true p101
     replace q101:=eq_true q101
     go_wp2
     go_roundg k1
     case measure=>have:=HK1.out;omega
     case rel=>exact ⟨(wrap64 (x3_1 + ((z2f l0 x11_1).length : Int))),(wrap64 (x11_1 + 1)),(by first|rfl|(simp;done)|(simp [*];done)),(by first|rfl|(simp;done)|(simp [*];done)),H',⟨by have:=HK1.out;omega⟩,⟨by repeat (first|(with_reducible first|exact HB.out|apply z4|apply z1|apply z3)|exact HB.out)⟩⟩
   rw [if_neg c2] at H
   have c2b0 : decide (x11_1 < (l0.length : Int)) = false:=decide_eq_false c2
   clear c2
   by_cases c6 : 0 ≤ x3_1
   rotate_left
   · rw [if_neg c6] at H
     exact absurd H (by simp)
   rw [if_pos c6] at H
   have c6b0:=eq_true c6
   have c6b1 : decide (0 ≤ x3_1) = true:=decide_eq_true c6
   clear c6
   by_cases c7 : x3_1 ≤ 8796093022207
   rotate_left
   · rw [if_neg c7] at H
     exact absurd H (by simp)
   rw [if_pos c7] at H
   have c7b0:=eq_true c7
   have c7b1 : decide (x3_1 ≤ 8796093022207) = true:=decide_eq_true c7
   clear c7
   obtain ⟨y102,hy102⟩ : ∃ y_ : List (S30),y_ = (([] : List (S30))):=⟨_,rfl⟩
   replace H : (zn.l1 k1 y102 l0 (l0.length : Int) 0) = some r:=by first|(rw [hy102];with_reducible exact H)|(have H2_:=(Option.bind_some _ _).symm.trans H;rw [hy102];with_reducible exact H2_)|(have H2_:=(Option.bind_some _ _).symm.trans H;with_reducible exact H2_)|with_reducible exact H|(rw [hy102];exact H)|exact H
   have Ny102:=z2.mk hy102
   clear hy102
   have H':=z2.mk H
   clear H
   go_wp2_with (first|((with_reducible refine zj (f:=130) rfl ?_);refine goesL_ (some 24) rfl rfl Try.func130 (by kernel_rfl) rfl #[.slice none 0 0,.int .i64 x3_1] rfl (by (try simp only [List.map_toArray,List.map_cons,List.map_nil]);first|done|rfl) ?_;(with_reducible refine (z3H.nil x3_1 _ (of_decide_eq_true (by first|(with_reducible assumption)|assumption)) (of_decide_eq_true (by first|(with_reducible assumption)|assumption))).mono ?_);rintro e_ w8 ⟨v103,rfl,ho9,hb⟩;refine ⟨_,rfl,?_⟩;(first|rw [← Ny102.out] at ho9|(simp only [Int.reduceToNat] at ho9;rw [← Ny102.out] at ho9));have n0_:=z2.mk (Kd.z1l ho9 (zb (by repeat (first|(with_reducible first|exact HB.out|apply z4|apply z1|apply z3)|exact HB.out))));have n1_:=z2.mk (za (by repeat (first|(with_reducible first|exact HB.out|apply z4|apply z1|apply z3)|exact HB.out)) hb);clear HB;have HO104:=n0_;have HB:=n1_;clear n0_ n1_;clear hb ho9))
   go_loopg [6,27] k1 (fun kq v6 v27 w'=>∃ (x6_2 : List (S30)) (x27_2 : Int),v27 = .int .i64 x27_2 ∧ z2 (zn.l1 kq x6_2 l0 (l0.length : Int) x27_2 = some r) ∧ z2 (kq ≤ k1) ∧ z2 (Kd.R k30 30 w' w.heap.size (fun _=>True) v6 x6_2) ∧ z2 (Below w.heap.size w w'))
   case atStart=>exact ⟨(y102),(0),(by first|rfl|(simp;done)|(simp [*];done)),H',⟨Nat.le_refl _⟩,⟨by (with_reducible repeat (first|apply Kd.ze|apply Kd.zf|apply Kd.zo));exact HO104.out⟩,⟨by repeat (first|(with_reducible first|exact HB.out|apply z4|apply z1|apply z3)|exact HB.out)⟩⟩
   case round =>
    clear H'
    (try clear c1);(try clear p1);(try clear q1);(try clear hx1);(try clear c2);(try clear c2b0);(try clear p2);(try clear c3);(try clear c3b0);(try clear c4);(try clear c4b0);(try clear c5);(try clear c5b0);(try clear c6);(try clear c6b0);(try clear c6b1);(try clear p6);(try clear c7);(try clear c7b0);(try clear c7b1);(try clear hx101_0);(try clear p101);(try clear q101)
    obtain ⟨x6_2,x27_2,rfl,HA,HK2,HO_6,HB⟩:=hrel
    cases gk with
    | zero=>exact absurd HA.out (by simp [zn.l1])
    | succ k2 =>
     have H:=HA.out
     clear HA
     simp only [zn.l1] at H
     by_cases c10 : x27_2 < (l0.length : Int)
     rotate_left
     · rw [if_neg c10] at H
       have c10b0 : decide (x27_2 < (l0.length : Int)) = false:=decide_eq_false c10
       clear c10
       obtain rfl:=Option.some.inj H
       go_wp2
       go_ret
       exact ⟨_,by first|rfl|(simp [zk,zl] <;> rfl)|(simp [*,zk,zl] <;> rfl),by (with_reducible repeat (first|apply Kd.ze|apply Kd.zf|apply Kd.zo));exact HO_6.out,by repeat (first|(with_reducible first|exact HB.out|apply z4|apply z1|apply z3)|exact HB.out)⟩
     rw [if_pos c10] at H
     have c10b0 : decide (x27_2 < (l0.length : Int)) = true:=decide_eq_true c10
     clear c10
     by_cases c11 : 0 ≤ x27_2
     rotate_left
     · rw [if_neg c11] at H
       exact absurd H (by simp)
     rw [if_pos c11] at H
     have c11b0 : decide (0 ≤ x27_2) = true:=decide_eq_true c11
     clear c11
     by_cases c12 : x27_2 < (l0.length : Int)
     rotate_left
     · rw [if_neg c12] at H
       exact absurd H (by simp)
     rw [if_pos c12] at H
     have c12b0 : decide (x27_2 < (l0.length : Int)) = true:=decide_eq_true c12
     clear c12
     by_cases c13 : x6_2.length + (z2f l0 x27_2).length < 8796093022208
     rotate_left
     · rw [if_neg c13] at H
       exact absurd H (by simp)
     rw [if_pos c13] at H
     have LMc13:=z2.mk c13
     clear c13
     obtain ⟨y106,hy106⟩ : ∃ y_ : List (S30),y_ = (x6_2 ++ (z2f l0 x27_2)):=⟨_,rfl⟩
     replace H : (zn.l1 k2 y106 l0 (l0.length : Int) (wrap64 (x27_2 + 1))) = some r:=by first|(rw [hy106];with_reducible exact H)|(have H2_:=(Option.bind_some _ _).symm.trans H;rw [hy106];with_reducible exact H2_)|(have H2_:=(Option.bind_some _ _).symm.trans H;with_reducible exact H2_)|with_reducible exact H|(rw [hy106];exact H)|exact H
     have Ny106:=z2.mk hy106
     clear hy106
     have H':=z2.mk H
     clear H
     have p105 : 0 ≤ (x27_2 : Int):=of_decide_eq_true (by first|(with_reducible assumption)|assumption)
     have q105 : x27_2 < (l0.length : Int):=of_decide_eq_true (by first|(with_reducible assumption)|assumption)
     obtain ⟨ad105,A105_0,c105_0,e105,hx105_0,hl105_0,hi105_0⟩:=at_L3 HR0.out x27_2 p105 q105
     cases e105
     replace hx105_0:=(HB.out.cell (World.block_lt_of_cell? w _ hx105_0)).trans hx105_0
     have HR105_0:=z2.mk hi105_0
     have HC105_0:=z2.mk hl105_0
     clear hi105_0 hl105_0
     replace p105:=eq_true p105
     replace q105:=eq_true q105
     go_wp2_with (first|((with_reducible refine z20 (b:=.append) (xs:=#[.tmp 31,.tmp 32]) rfl ?_);at_builtin;refine Kd.z2H k30 (w0:=w) w.heap.size rfl (.tmp 31) (.tmp 32) 24 30 (.agg #[(.int .u64 0),(.int .u64 0)]) 16 rfl Try.underlying24 info30 rfl (by decide) (by omega) u6 x6_2 (z2f l0 x27_2) _ _ _ (fun _=>True) (fun _=>False) rfl rfl ?aO ?aR (fun _ _ h=>h) (fun _ h=>h.elim) ?aF ?aB ?aS ?aL ?_;(case aR=>repeat (first|exact (Kd.z1W HR105_0.out HB.out)|(with_reducible refine Kd.z1o ?_ _)|(with_reducible refine Kd.z1p ?_ _)|(with_reducible refine Kd.z1C ?_)));(case aB=>exact (by repeat (first|(with_reducible first|exact HB.out|apply z4|apply z1|apply z3)|exact HB.out)));(case aF=>exact (fun _ _=>trivial));(case aO=>exact (by (with_reducible repeat (first|apply Kd.ze|apply Kd.zf|apply Kd.zo));exact HO_6.out));(case aS=>exact (zb (by repeat (first|(with_reducible first|exact HB.out|apply z4|apply z1|apply z3)|exact HB.out))));(case aL=>have:=LMc13.out;omega);intro v107 w14 ho hb hg hat;rw [← Ny106.out] at ho;have n0_:=z2.mk (hb);have n1_:=z2.mk (ho);clear HB;clear HO_6;have HB:=n0_;have HO108:=n1_;clear n0_ n1_;clear ho hb hg hat))
     go_roundg k2
     case measure=>have:=HK1.out;have:=HK2.out;omega
     case rel=>exact ⟨(y106),(wrap64 (x27_2 + 1)),(by first|rfl|(simp;done)|(simp [*];done)),H',⟨by have:=HK1.out;have:=HK2.out;omega⟩,⟨by (with_reducible repeat (first|apply Kd.ze|apply Kd.zf|apply Kd.zo));exact HO108.out⟩,⟨by repeat (first|(with_reducible first|exact HB.out|apply z4|apply z1|apply z3)|exact HB.out)⟩⟩
end Go.Proofs.Ytkhmpaooinpfoaa.P
namespace Go.Proofs.Ytkhmpaooinpfoaa.P
open Go.RowKit Go.Proofs.YtkhmpaooinpfoaaW.PrintWords Go.Proofs.YtkhmpaooinpfoaaW.PrintLast Go.Proofs.YtkhmpaooinpfoaaW.PrintMore
attribute [local go_sem] z15 z17 z1f z1g zW zX z16 z18   -- for this text's walks alone
set_option linter.unusedVariables false
set_option linter.unusedSimpArgs false
def z1z.f (l0 : List S30) : Option (List S30):=if l0.length < 8796093022208 then some l0 else none
set_option maxHeartbeats 800000 in
set_option maxRecDepth 100000 in
theorem z1z.calls (A0 : Option Addr) (c0 : Nat) (l0 : List S30) (r : List S30) (w : World) (hr0 : Kd.C k30 w A0 l0.length l0) (hc0 : l0.length ≤ c0) (h : z1z.f l0 = some r) :
 Calls Try.prog 91 #[.slice A0 l0.length c0] w fun e w'=>∃ v0_ : Value,e = .returned (v0_) ∧ Kd.R k30 30 w' w.heap.size (fun _=>True) v0_ r ∧ Below w.heap.size w w':=by
 have hlen : l0.length < 8796093022208 ∧ r = l0:=by
  unfold z1z.f at h
  split at h
  · exact ⟨by assumption,(Option.some.inj h).symm⟩
  · cases h
 obtain ⟨hlen,rfl⟩:=hlen
 have HB:=z2.mk (Below.refl w.heap.size w)
 have HR:=z2.mk hr0
 have HL:=z2.mk hlen
 clear h hlen
 cases A0 with
 | none =>
  have h0 : r = []:=by
   rcases Nat.eq_zero_or_pos r.length with h0|h0
   · exact List.eq_nil_of_length_eq_zero h0
   · obtain ⟨ad,h,_⟩:=HR.out.2.2 h0
     cases h
  subst h0
  clear hr0
  have he : ∀ w : World,(binOp .eql 80 (.slice none 0 c0) (.slice none 0 0)).run Try.prog w = .ok (.bool true) w:=fun _=>rfl
  go_enter Try.func91,Try.ntmps91
  go_wp2
  go_ret
  exact ⟨_,rfl,Kd.z2C _ _ _ _ _,HB.out⟩
 | some a =>
  clear hr0
  have he : ∀ w : World,(binOp .eql 80 (.slice (some a) r.length c0) (.slice none 0 0)).run Try.prog w = .ok (.bool false) w:=fun _=>rfl
  go_enter Try.func91,Try.ntmps91
  go_wp2_with (first
   | ((with_reducible refine zK (N:=5) rfl ?_);refine Kd.z6M k30 (w0:=w) w.heap.size 30 ?hg (N:=5) ?hd (xs:=([] : List S30)) (inner:=[]) (ok:=fun _=>True) (okp:=fun _=>True) ?hr ?hp (fun _ hk=>hk) trivial HB.out (zb HB.out) (by simp) ?_;(case hd=>rfl);(case hg=>rfl);(case hr=>first|(go_simp;done)|(go_simp;rfl));(case hp=>exact Reps.none _ _);intro v1 w1 ho hb hg hat;have n0_:=z2.mk ho;have n1_:=z2.mk hb;clear HB ho hb hg hat;have HO:=n0_;have HB:=n1_;clear n0_ n1_)
   | ((with_reducible refine z20 (b:=.append) (xs:=#[.tmp 5,.tmp 6]) rfl ?_);at_builtin;refine Kd.z2H k30 (w0:=w) w.heap.size rfl (.tmp 5) (.tmp 6) 80 30 (.agg #[(.int .u64 0),(.int .u64 0)]) 16 rfl Try.underlying80 info30 rfl (by decide) (by omega) v1 [] r _ _ _ (fun _=>True) (fun _=>False) rfl rfl ?aO ?aR (fun _ _ h=>h) (fun _ h=>h.elim) ?aF ?aB ?aS ?aL ?_;(case aR=>exact (Kd.z1W HR.out HB.out));(case aB=>exact HB.out);(case aF=>exact fun _ _=>trivial);(case aO=>exact HO.out);(case aS=>exact (zb HB.out));(case aL=>have:=HL.out;simp only [List.length_nil];omega);intro v2 w2 ho hb hg hat;have n0_:=z2.mk ho;have n1_:=z2.mk hb;clear HB HO ho hb hg hat;have HO:=n0_;have HB:=n1_;clear n0_ n1_))
  go_ret
  exact ⟨_,rfl,HO.out,HB.out⟩
end Go.Proofs.Ytkhmpaooinpfoaa.P
namespace Go.Proofs.Ytkhmpaooinpfoaa.P
open Go.RowKit Go.Proofs.YtkhmpaooinpfoaaW.PrintWords Go.Proofs.YtkhmpaooinpfoaaW.PrintLast Go.Proofs.YtkhmpaooinpfoaaW.PrintMore
attribute [local go_sem] z15 z17 z1f z1g zW zX z16 z18   -- for this text's walks alone
set_option linter.unusedVariables false
set_option linter.unusedSimpArgs false
def z1k.f (k : Nat) (a0 : Int) : Option ((List (S30))):=(z1D.f).bind fun bt101=>((zQ.f k a0 bt101.1 bt101.2).bind fun t103=>(some t103))
theorem z1k.mono : ∀ a0 k,LeO (z1k.f k a0) (z1k.f (k + 1) a0):=by
 intro a0 k
 unfold z1k.f
 repeat' first
  | (with_reducible exact zQ.mono _ _ _ _)
  | (with_reducible exact LeO.refl _)
  | (with_reducible exact LeO.none _)
  | (with_reducible refine LeO.ite ?_ ?_)
  | (with_reducible refine LeO.bind ?_ (fun _=>?_))
  | exact zQ.mono _ _ _ _
  | exact LeO.none _
  | refine LeO.ite ?_ ?_
  | refine LeO.bind ?_ (fun _=>?_)
set_option maxHeartbeats 8000000 in
set_option maxRecDepth 100000 in
theorem z1k.calls (k : Nat) (a0 : Int) (r : List (S30)) (w : World) (h : z1k.f k a0 = some r) :
 Calls Try.prog 47 #[.int .i64 a0] w fun e w'=>∃ v0_ : Value,e = .returned (v0_) ∧ Kd.R k30 30 w' w.heap.size (fun _=>True) v0_ r ∧ Below w.heap.size w w':=by
 have HB:=z2.mk (Below.refl w.heap.size w)
 have H : ((z1D.f).bind fun bt101=>((zQ.f k a0 bt101.1 bt101.2).bind fun t103=>(some t103))) = some r:=h
 clear h
 replace H:=Option.bind_eq_some_iff.mp H
 obtain ⟨⟨t101,t102⟩,A20,H⟩:=H
 replace H : ((zQ.f k a0 t101 t102).bind fun t103=>(some t103)) = some r:=H
 have A2:=z2.mk A20
 clear A20
 replace H:=Option.bind_eq_some_iff.mp H
 obtain ⟨t103,A30,H⟩:=H
 replace H : (some t103) = some r:=H
 have A3:=z2.mk A30
 clear A30
 obtain rfl:=Option.some.inj H
 go_enter Try.func47,Try.ntmps47
 go_wp2_with (first|((with_reducible refine zj (f:=99) rfl ?_);refine goesL_ (some 4) rfl rfl Try.func99 (by kernel_rfl) rfl #[] rfl (by (try simp only [List.map_toArray,List.map_cons,List.map_nil]);first|done|rfl|(simp only [List.length_drop,List.length_take];rfl)) ?_;(with_reducible refine (z1D.calls  t101 t102 _ A2.out).mono ?_);rintro e w4 ⟨rfl,hb⟩;refine ⟨_,rfl,?_⟩;have n0_:=z2.mk (za (by repeat (first|(with_reducible first|exact HB.out|apply z4|apply z1|apply z3)|exact HB.out)) hb);clear HB;have HB:=n0_;clear n0_;(try clear hb);(try clear hb2);(try clear hk);(try clear hi))|((with_reducible refine zj (f:=88) rfl ?_);refine goesL_ (some 5) rfl rfl Try.func88 (by kernel_rfl) rfl #[.int .i64 a0,.agg #[.int .u64 t101,.int .u64 t102]] rfl (by (try simp only [List.map_toArray,List.map_cons,List.map_nil]);first|done|rfl|(simp only [List.length_drop,List.length_take];rfl)) ?_;(with_reducible refine (zQ.calls k a0 t101 t102 t103 _ A3.out).mono ?_);rintro e w5 ⟨v104,rfl,ho0,hb⟩;refine ⟨_,rfl,?_⟩;have n0_:=z2.mk (Kd.z1l ho0 (zb (by repeat (first|(with_reducible first|exact HB.out|apply z4|apply z1|apply z3)|exact HB.out))));have n1_:=z2.mk (za (by repeat (first|(with_reducible first|exact HB.out|apply z4|apply z1|apply z3)|exact HB.out)) hb);clear HB;have HO105:=n0_;have HB:=n1_;clear n0_ n1_;(try clear hb);(try clear hb2);(try clear hk);(try clear hi);(try clear ho0)))
 go_ret
 exact ⟨_,by first|rfl|(simp [zk,zl] <;> rfl)|(simp [*,zk,zl] <;> rfl),by (with_reducible repeat (first|apply Kd.ze|apply Kd.zf|apply Kd.zo));exact HO105.out,by repeat (first|(with_reducible first|exact HB.out|apply z4|apply z1|apply z3)|exact HB.out)⟩
end Go.Proofs.Ytkhmpaooinpfoaa.P

/- Own text: merged by wip/tools/pack.py out of what the law PackvReckons reaches. -/
import Derived.Test.YtkhmpaooinpfoaaMPackvReckonsb
namespace Go.Proofs.Ytkhmpaooinpfoaa.P
open Go.RowKit Go.Proofs.YtkhmpaooinpfoaaW.PrintWords Go.Proofs.YtkhmpaooinpfoaaW.PrintLast Go.Proofs.YtkhmpaooinpfoaaW.PrintMore
attribute [local go_sem] z12 z14 z1b z1c zW zX z13 z15   -- for this text's walks alone
set_option linter.unusedVariables false
set_option linter.unusedSimpArgs false
attribute [local go_sem high] eqA30
mutual
def zq.l0 : Nat → Int → List (S30) → List (S30) → Int → Int → Int → Int → Int → Int → Option ((List (S30)))
 | 0,_,_,_,_,_,_,_,_,_=>none
 | k + 1,x0,x1,x15,x16,x17,x102000,x102001,x103000,x103001=>if x17 < x16 then (if 0 ≤ x17 then (if x17 < (x15.length : Int) then ((z10.f k x0 ((rd_T30 x15 x17).f0) ((rd_T30 x15 x17).f1) x103000 x103001).bind fun bt105=>(if (bt105.1 == 0 && (bt105.2 == 0)) = true then (zq.l0 k x0 x1 x15 x16 (wrap64 (x17 + 1)) x102000 x102001 x103000 x103001) else ((zI.f k x17).bind fun bt108=>((z10.f k x0 bt108.1 bt108.2 x102000 x102001).bind fun bt110=>((zK.f k x0 bt110.1 bt110.2).bind fun t112=>(zq.l1 k x0 x1 x15 x16 x17 t112 (t112.length : Int) 0 x102000 x102001 x103000 x103001 bt105.1 bt105.2)))))) else (none)) else (none)) else (some x1)
def zq.l1 : Nat → Int → List (S30) → List (S30) → Int → Int → List Bool → Int → Int → Int → Int → Int → Int → Int → Int → Option ((List (S30)))
 | 0,_,_,_,_,_,_,_,_,_,_,_,_,_,_=>none
 | k + 1,x0,x1,x15,x16,x17,x35,x36,x37,x102000,x102001,x103000,x103001,x108000,x108001=>if x37 < x36 then (if 0 ≤ x37 then (if x37 < (x35.length : Int) then (if rdOf false x35 x37 = true then (if x37 < (x1.length : Int) then ((z1L.f ((rd_T30 x1 x37).f0) ((rd_T30 x1 x37).f1) x108000 x108001).bind fun bt117=>(zq.l1 k x0 (x1.set (x37 : Int).toNat (⟨bt117.1,bt117.2⟩ : S30)) x15 x16 x17 x35 x36 (wrap64 (x37 + 1)) x102000 x102001 x103000 x103001 x108000 x108001)) else (none)) else (zq.l1 k x0 x1 x15 x16 x17 x35 x36 (wrap64 (x37 + 1)) x102000 x102001 x103000 x103001 x108000 x108001)) else (none)) else (none)) else (zq.l0 k x0 x1 x15 x16 (wrap64 (x17 + 1)) x102000 x102001 x103000 x103001)
end
def zq.f (k : Nat) (a0 : Int) (l1 : List (S30)) (l2 : List (S30)) (a3_0 : Int) (a3_1 : Int) (a4_0 : Int) (a4_1 : Int) : Option ((List (S30))):=zq.l0 k a0 l1 l2 (l2.length : Int) 0 a3_0 a3_1 a4_0 a4_1
theorem zq.z17 : ∀ k,(∀ y0 y1 y2 y3 y4 y5 y6 y7 y8,LeO (zq.l0 k y0 y1 y2 y3 y4 y5 y6 y7 y8) (zq.l0 (k + 1) y0 y1 y2 y3 y4 y5 y6 y7 y8)) ∧ (∀ y0 y1 y2 y3 y4 y5 y6 y7 y8 y9 y10 y11 y12 y13,LeO (zq.l1 k y0 y1 y2 y3 y4 y5 y6 y7 y8 y9 y10 y11 y12 y13) (zq.l1 (k + 1) y0 y1 y2 y3 y4 y5 y6 y7 y8 y9 y10 y11 y12 y13))
 | 0=>⟨fun _ _ _ _ _ _ _ _ _ r h=>by simp [zq.l0] at h,fun _ _ _ _ _ _ _ _ _ _ _ _ _ _ r h=>by simp [zq.l1] at h⟩
 | k + 1=>by
  obtain ⟨ih0,ih1⟩:=zq.z17 k
  refine ⟨?_,?_⟩
  · intro y0 y1 y2 y3 y4 y5 y6 y7 y8
    unfold zq.l0
    repeat' first
    | (with_reducible exact ih0 _ _ _ _ _ _ _ _ _)
    | (with_reducible exact ih1 _ _ _ _ _ _ _ _ _ _ _ _ _ _)
    | (with_reducible exact zI.mono _ _)
    | (with_reducible exact zK.mono _ _ _ _)
    | (with_reducible exact z10.mono _ _ _ _ _ _)
    | (with_reducible exact LeO.refl _)
    | (with_reducible exact LeO.none _)
    | (with_reducible refine LeO.ite ?_ ?_)
    | (with_reducible refine LeO.bind ?_ (fun _=>?_))
    | exact ih0 _ _ _ _ _ _ _ _ _
    | exact ih1 _ _ _ _ _ _ _ _ _ _ _ _ _ _
    | exact zI.mono _ _
    | exact zK.mono _ _ _ _
    | exact z10.mono _ _ _ _ _ _
    | exact LeO.none _
    | refine LeO.ite ?_ ?_
    | refine LeO.bind ?_ (fun _=>?_)
  · intro y0 y1 y2 y3 y4 y5 y6 y7 y8 y9 y10 y11 y12 y13
    unfold zq.l1
    repeat' first
    | (with_reducible exact ih0 _ _ _ _ _ _ _ _ _)
    | (with_reducible exact ih1 _ _ _ _ _ _ _ _ _ _ _ _ _ _)
    | (with_reducible exact zI.mono _ _)
    | (with_reducible exact zK.mono _ _ _ _)
    | (with_reducible exact z10.mono _ _ _ _ _ _)
    | (with_reducible exact LeO.refl _)
    | (with_reducible exact LeO.none _)
    | (with_reducible refine LeO.ite ?_ ?_)
    | (with_reducible refine LeO.bind ?_ (fun _=>?_))
    | exact ih0 _ _ _ _ _ _ _ _ _
    | exact ih1 _ _ _ _ _ _ _ _ _ _ _ _ _ _
    | exact zI.mono _ _
    | exact zK.mono _ _ _ _
    | exact z10.mono _ _ _ _ _ _
    | exact LeO.none _
    | refine LeO.ite ?_ ?_
    | refine LeO.bind ?_ (fun _=>?_)
theorem zq.mono : ∀ a0 a1 a2 a3 a4 a5 a6 k,LeO (zq.f k a0 a1 a2 a3 a4 a5 a6) (zq.f (k + 1) a0 a1 a2 a3 a4 a5 a6):=by
 intro a0 a1 a2 a3 a4 a5 a6 k
 obtain ⟨ih0,ih1⟩:=zq.z17 k
 unfold zq.f
 repeat' first
  | (with_reducible exact ih0 _ _ _ _ _ _ _ _ _)
  | (with_reducible exact ih1 _ _ _ _ _ _ _ _ _ _ _ _ _ _)
  | (with_reducible exact zI.mono _ _)
  | (with_reducible exact zK.mono _ _ _ _)
  | (with_reducible exact z10.mono _ _ _ _ _ _)
  | (with_reducible exact LeO.refl _)
  | (with_reducible exact LeO.none _)
  | (with_reducible refine LeO.ite ?_ ?_)
  | (with_reducible refine LeO.bind ?_ (fun _=>?_))
  | exact ih0 _ _ _ _ _ _ _ _ _
  | exact ih1 _ _ _ _ _ _ _ _ _ _ _ _ _ _
  | exact zI.mono _ _
  | exact zK.mono _ _ _ _
  | exact z10.mono _ _ _ _ _ _
  | exact LeO.none _
  | refine LeO.ite ?_ ?_
  | refine LeO.bind ?_ (fun _=>?_)
def zq.T6 : Bool × List (List Nat × List Nat):=(true,[([],[]),([],[]),([],[]),([2],[2]),([],[]),([1,3,4,3],[1,3,4]),([0,5,5],[0,5]),([6],[6]),([],[])])
def zq.B6 : List Nat:=[0,0,0,4,0,30,63,127,0]
theorem zq.tab6 : rtab .any (opsOf Try.f93 6) = zq.T6:=by kernel_rfl
theorem zq.bits6 : waitsOk zq.T6.2 zq.B6 = true:=by kernel_rfl
def zq.T10 : Bool × List (List Nat × List Nat):=(true,[([],[]),([],[]),([],[]),([],[]),([2,3],[2,3]),([4],[4]),([],[]),([5,6],[5,6]),([0,1,0,1,2,3,4,5,6,7],[0,1]),([8,7,7,0,1,2,3,4,5,6,7],[7,8])])
def zq.B10 : List Nat:=[0,0,0,0,12,28,0,124,255,511]
theorem zq.tab10 : rtab .any (opsOf Try.f93 10) = zq.T10:=by kernel_rfl
theorem zq.bits10 : waitsOk zq.T10.2 zq.B10 = true:=by kernel_rfl
set_option maxHeartbeats 8000000 in
set_option maxRecDepth 100000 in
theorem zq.calls (k : Nat) (a0 : Int) (P1_ : Nat → Prop) (u9000_ : Value) (l1 : List (S30)) (A2 : Option Addr) (c2 : Nat) (l2 : List (S30)) (a3_0 : Int) (a3_1 : Int) (a4_0 : Int) (a4_1 : Int) (r : List (S30)) (w0 w : World) (hB : Below w0.heap.size w0 w) (ho1 : Kd.R k30 30 w w0.heap.size P1_ u9000_ l1) (hr2 : ∀ W_,Kept w W_ (fun k_=>P1_ k_) → Kd.C k30 W_ A2 l2.length l2) (hc2 : l2.length ≤ c2) (h : zq.f k a0 l1 l2 a3_0 a3_1 a4_0 a4_1 = some r) :
 Calls Try.prog 93 #[.int .i64 a0,u9000_,.slice A2 l2.length c2,.agg #[.int .u64 a3_0,.int .u64 a3_1],.agg #[.int .u64 a4_0,.int .u64 a4_1]] w fun e w'=>e = .returned (.tuple #[]) ∧ Kd.R k30 30 w' w0.heap.size (fun k_=>(P1_ k_ ∨ w.heap.size ≤ k_)) u9000_ r ∧ Below w0.heap.size w0 w' ∧ Kept w w' (fun k_=>P1_ k_):=by
 have hu30:=Try.underlying30
 have HO1:=z1.mk (show Kd.R k30 30 w w0.heap.size (fun k_=>(P1_ k_ ∨ w.heap.size ≤ k_)) u9000_ l1 from Kd.z16 ho1 (fun k_ hk=>(.inl hk)))
 have HR2:=z1.mk hr2
 have HC2:=z1.mk hc2
 clear hr2 hc2
 have HK:=z1.mk (Kept.refl w (fun k_=>P1_ k_))
 have HW0:=z1.mk hB.size
 have HB:=z1.mk hB
 clear hB
 have H : (zq.l0 k a0 l1 l2 (l2.length : Int) 0 a3_0 a3_1 a4_0 a4_1) = some r:=h
 clear h
 have H':=z1.mk H
 clear H
 go_enter Try.func93,Try.ntmps93
 go_wp2_with (first|((with_reducible refine zF (N:=8) rfl ?_);refine zG ?hg (N:=8) ?hd (cs:=#[.int .u64 a3_0,.int .u64 a3_1]) (t:=30) ?hr ?_;(case hd=>rfl);(case hg=>rfl);(case hr=>first|(go_simp;done)|(go_simp;rfl));intro gb101 hg w6 hbox hb;have n0_:=z1.mk (Kd.zJ (Kd.z1U zz60 gb101 (Nat.le_of_eq hg.symm)) hb);have n1_:=z1.mk (Kept.below (S:=(fun k_=>P1_ k_)) (by repeat (first|(with_reducible first|exact HK.out|apply Kept.alloc|apply Kept.drewN|apply Kept.drew)|exact HK.out)) hb);have n2_:=z1.mk (z4 zz28 hb);have n3_:=z1.mk (hbox);have n4_:=z1.mk ((by rw [hg];exact (by first|exact HK.out.1|exact (show Kept w _ (fun k_=>P1_ k_) from by repeat (first|(with_reducible first|exact HK.out|apply Kept.alloc|apply Kept.drewN|apply Kept.drew)|exact HK.out)).1) : w.heap.size ≤ gb101));have n5_:=z1.mk ((by rw [hg];exact (z5 zz28) : w0.heap.size ≤ gb101));clear HO1;clear HK;clear HB;have HO1:=n0_;have HK:=n1_;have HB:=n2_;have BK101:=n3_;have GW101:=n4_;have GE101:=n5_;clear n0_ n1_ n2_ n3_ n4_ n5_;clear hb hbox hg)|((with_reducible refine zF (N:=9) rfl ?_);refine zG ?hg (N:=9) ?hd (cs:=#[.int .u64 a4_0,.int .u64 a4_1]) (t:=30) ?hr ?_;(case hd=>rfl);(case hg=>rfl);(case hr=>first|(go_simp;done)|(go_simp;rfl));intro gb102 hg w7 hbox hb;have n0_:=z1.mk (Kd.zJ (Kd.z1U zz60 gb102 (Nat.le_of_eq hg.symm)) hb);have n1_:=z1.mk (zg (g:=gb101) (o:=.cells #[.int .u64 a3_0,.int .u64 a3_1] 30 (0,0)) zz29 hb);have n2_:=z1.mk (Kept.below (S:=(fun k_=>P1_ k_)) (by repeat (first|(with_reducible first|exact HK.out|apply Kept.alloc|apply Kept.drewN|apply Kept.drew|refine Kept.setCell ?_ (.inr GW101.out) _)|exact HK.out)) hb);have n3_:=z1.mk (z4 zz25 hb);have n4_:=z1.mk (hbox);have n5_:=z1.mk ((by rw [hg];exact (by first|exact HK.out.1|exact (show Kept w _ (fun k_=>P1_ k_) from by repeat (first|(with_reducible first|exact HK.out|apply Kept.alloc|apply Kept.drewN|apply Kept.drew|refine Kept.setCell ?_ (.inr GW101.out) _)|exact HK.out)).1) : w.heap.size ≤ gb102));have n6_:=z1.mk ((by rw [hg];exact (z5 zz25) : w0.heap.size ≤ gb102));have n7_:=z1.mk ((by rw [hg];exact Nat.ne_of_lt (zU (g:=gb101) (o:=.cells #[.int .u64 a3_0,.int .u64 a3_1] 30 (0,0)) zz29) : gb101 ≠ gb102));have n8_:=z1.mk ((by rw [hg];exact Nat.ne_of_gt (zU (g:=gb101) (o:=.cells #[.int .u64 a3_0,.int .u64 a3_1] 30 (0,0)) zz29) : gb102 ≠ gb101));clear HO1;clear BK101;clear HK;clear HB;have HO1:=n0_;have BK101:=n1_;have HK:=n2_;have HB:=n3_;have BK102:=n4_;have GW102:=n5_;have GE102:=n6_;have NB101_102:=n7_;have NB102_101:=n8_;clear n0_ n1_ n2_ n3_ n4_ n5_ n6_ n7_ n8_;clear hb hbox hg))
 go_loopg [17] k (fun kq v17 w'=>∃ (x1_1 : List (S30)) (x17_1 : Int) (x102000_1 : Int) (x102001_1 : Int) (x103000_1 : Int) (x103001_1 : Int),v17 = .int .i64 x17_1 ∧ z1 (zq.l0 kq a0 x1_1 l2 (l2.length : Int) x17_1 x102000_1 x102001_1 x103000_1 x103001_1 = some r) ∧ z1 (kq ≤ k) ∧ z1 (Kd.R k30 30 w' w0.heap.size (fun k_=>(P1_ k_ ∨ w.heap.size ≤ k_) ∧ k_ ≠ gb101 ∧ k_ ≠ gb102) u9000_ x1_1) ∧ z1 (w'.heap[gb101]? = some (.cells #[.int .u64 x102000_1,.int .u64 x102001_1] 30 (0,0))) ∧ z1 (w'.heap[gb102]? = some (.cells #[.int .u64 x103000_1,.int .u64 x103001_1] 30 (0,0))) ∧ z1 (Kept w w' (fun k_=>P1_ k_)) ∧ z1 (Below w0.heap.size w0 w'))
 case atStart=>exact ⟨(l1),(0),(a3_0),(a3_1),(a4_0),(a4_1),zz75,H',⟨Nat.le_refl _⟩,⟨by (with_reducible repeat (first|apply Kd.zC|apply Kd.zD|apply Kd.zO));exact Kd.z16 HO1.out (fun _ hk=>⟨hk.1.1,⟨hk.1.2,hk.2⟩⟩)⟩,⟨by (with_reducible repeat (first|refine zb ?_ _|refine zf ?_|refine za ?_ _));exact BK101.out⟩,⟨by (with_reducible repeat (first|refine zb ?_ _|refine zf ?_|refine za ?_ _));exact BK102.out⟩,⟨by repeat (first|(with_reducible first|exact HK.out|apply Kept.alloc|apply Kept.drewN|apply Kept.drew|refine Kept.setCell ?_ (.inr GW101.out) _|refine Kept.setCell ?_ (.inr GW102.out) _)|exact HK.out)⟩,⟨by repeat (first|(with_reducible first|exact HB.out|apply z7|apply z2|apply z6|refine zd ?_ GE101.out|refine zd ?_ GE102.out)|exact HB.out)⟩⟩
 case round =>
  clear H'
  (try clear c2);(try clear p2)
  obtain ⟨x1_1,x17_1,x102000_1,x102001_1,x103000_1,x103001_1,rfl,HA,HK1,HO_1,BK101,BK102,HK,HB⟩:=hrel
  cases gk with
  | zero=>exact absurd HA.out (by simp [zq.l0])
  | succ k1 =>
   have H:=HA.out
   clear HA
   simp only [zq.l0] at H
   by_cases c8 : x17_1 < (l2.length : Int)
   rotate_left
   · rw [if_neg c8] at H
     have c8b0 : decide (x17_1 < (l2.length : Int)) = false:=decide_eq_false c8
     clear c8
     obtain rfl:=Option.some.inj H
     go_wp2
     first|go_end0|((try simp only [Exit.inBlock,Exit.then]);refine bodyPost_ret (results_none rfl _ _ _) rfl ?_)
     exact ⟨by first|rfl|(simp [zi,zj] <;> rfl)|(simp [*,zi,zj] <;> rfl),by (with_reducible repeat (first|apply Kd.zC|apply Kd.zD|apply Kd.zO));exact Kd.z16 HO_1.out (fun _ hk=>hk.1),by repeat (first|(with_reducible first|exact HB.out|apply z7|apply z2|apply z6|refine zd ?_ GE101.out|refine zd ?_ GE102.out)|exact HB.out),by repeat (first|(with_reducible first|exact HK.out|apply Kept.alloc|apply Kept.drewN|apply Kept.drew|refine Kept.setCell ?_ (.inr GW101.out) _|refine Kept.setCell ?_ (.inr GW102.out) _)|exact HK.out)⟩
   rw [if_pos c8] at H
   have c8b0 : decide (x17_1 < (l2.length : Int)) = true:=decide_eq_true c8
   clear c8
   by_cases c9 : 0 ≤ x17_1
   rotate_left
   · rw [if_neg c9] at H
     exact absurd H zz81
   rw [if_pos c9] at H
   have c9b0 : decide (0 ≤ x17_1) = true:=decide_eq_true c9
   clear c9
   by_cases c10 : x17_1 < (l2.length : Int)
   rotate_left
   · rw [if_neg c10] at H
     exact absurd H zz81
   rw [if_pos c10] at H
   have c10b0 : decide (x17_1 < (l2.length : Int)) = true:=decide_eq_true c10
   clear c10
   replace H:=Option.bind_eq_some_iff.mp H
   obtain ⟨⟨t105,t106⟩,A110,H⟩:=H
   replace H : (if (t105 == 0 && (t106 == 0)) = true then (zq.l0 k1 a0 x1_1 l2 (l2.length : Int) (wrap64 (x17_1 + 1)) x102000_1 x102001_1 x103000_1 x103001_1) else ((zI.f k1 x17_1).bind fun bt108=>((z10.f k1 a0 bt108.1 bt108.2 x102000_1 x102001_1).bind fun bt110=>((zK.f k1 a0 bt110.1 bt110.2).bind fun t112=>(zq.l1 k1 a0 x1_1 l2 (l2.length : Int) x17_1 t112 (t112.length : Int) 0 x102000_1 x102001_1 x103000_1 x103001_1 t105 t106))))) = some r:=H
   have A11:=z1.mk A110
   clear A110
   by_cases c12 : (t105 == 0 && (t106 == 0)) = true
   · rw [if_pos c12] at H
     have c12b0 : (t105 == 0 && (t106 == 0)) = true:=c12
     (try (have c12b1 : decide (t105 = 0 && (t106 == 0)) = true:=by simpa using c12))
     (try (have c12b2 : (t105 == 0 && (t106 == 0)) = true:=by simpa using c12))
     clear c12
     have H':=z1.mk H
     clear H
     have p103 : 0 ≤ (x17_1 : Int):=of_decide_eq_true zz74
     have q103 : x17_1 < (l2.length : Int):=of_decide_eq_true zz74
     obtain ⟨ad103,e103,hx103_0,hx103_1⟩:=z2j (Kd.z4C HR2.out HK.out) x17_1 p103 q103
     cases e103
     replace p103:=eq_true p103
     replace q103:=eq_true q103
     go_wp2_with (first|((with_reducible refine zF (N:=11) rfl ?_);refine zG ?hg (N:=11) ?hd (cs:=#[.int .u64 0,.int .u64 0]) (t:=30) ?hr ?_;(case hd=>rfl);(case hg=>rfl);(case hr=>first|(go_simp;done)|(go_simp;rfl));intro gb104 hg w13 hbox hb;have n0_:=z1.mk (Kd.zJ (Kd.z1U zz54 gb104 (Nat.le_of_eq hg.symm)) hb);have n1_:=z1.mk (zg (g:=gb101) (o:=.cells #[.int .u64 x102000_1,.int .u64 x102001_1] 30 (0,0)) zz29 hb);have n2_:=z1.mk (zg (g:=gb102) (o:=.cells #[.int .u64 x103000_1,.int .u64 x103001_1] 30 (0,0)) zz30 hb);have n3_:=z1.mk (Kept.below (S:=(fun k_=>P1_ k_)) zz21 hb);have n4_:=z1.mk (z4 zz22 hb);have n5_:=z1.mk (hbox);have n6_:=z1.mk ((by rw [hg];exact zz15 : w.heap.size ≤ gb104));have n7_:=z1.mk ((by rw [hg];exact (z5 zz22) : w0.heap.size ≤ gb104));have n8_:=z1.mk ((by rw [hg];exact Nat.ne_of_lt (zU (g:=gb101) (o:=.cells #[.int .u64 x102000_1,.int .u64 x102001_1] 30 (0,0)) zz29) : gb101 ≠ gb104));have n9_:=z1.mk ((by rw [hg];exact Nat.ne_of_gt (zU (g:=gb101) (o:=.cells #[.int .u64 x102000_1,.int .u64 x102001_1] 30 (0,0)) zz29) : gb104 ≠ gb101));have n10_:=z1.mk ((by rw [hg];exact Nat.ne_of_lt (zU (g:=gb102) (o:=.cells #[.int .u64 x103000_1,.int .u64 x103001_1] 30 (0,0)) zz30) : gb102 ≠ gb104));have n11_:=z1.mk ((by rw [hg];exact Nat.ne_of_gt (zU (g:=gb102) (o:=.cells #[.int .u64 x103000_1,.int .u64 x103001_1] 30 (0,0)) zz30) : gb104 ≠ gb102));clear HO_1;clear BK101;clear BK102;clear HK;clear HB;have HO_1:=n0_;have BK101:=n1_;have BK102:=n2_;have HK:=n3_;have HB:=n4_;have BK104:=n5_;have GW104:=n6_;have GE104:=n7_;have NB101_104:=n8_;have NB104_101:=n9_;have NB102_104:=n10_;have NB104_102:=n11_;clear n0_ n1_ n2_ n3_ n4_ n5_ n6_ n7_ n8_ n9_ n10_ n11_;clear hb hbox hg;have hnb14:=NB104_101.out;have hnc14:=NB101_104.out;have hnb15:=NB104_102.out;have hnc15:=NB102_104.out;have hcz16_0 : w13.cell? ⟨gb104,0,none⟩ = some (.int .u64 0):=(zc BK104.out 0).trans rfl;have hcz16_1 : w13.cell? ⟨gb104,1,none⟩ = some (.int .u64 0):=(zc BK104.out 1).trans rfl;have hfz16_0:=z8 BK104.out 0;have hfz16_1:=z8 BK104.out 1;have hnb17:=NB102_101.out;have hnc17:=NB101_102.out;have hcz18_0 : w13.cell? ⟨gb102,0,none⟩ = some (.int .u64 x103000_1):=(zc BK102.out 0).trans rfl;have hcz18_1 : w13.cell? ⟨gb102,1,none⟩ = some (.int .u64 x103001_1):=(zc BK102.out 1).trans rfl;have hfz18_0:=z8 BK102.out 0;have hfz18_1:=z8 BK102.out 1)|((with_reducible refine zl (f:=78) rfl ?_);refine goesL_ (some 25) rfl rfl Try.func78 zz78 rfl #[.int .i64 a0,.agg #[.int .u64 ((rd_T30 l2 x17_1).f0),.int .u64 ((rd_T30 l2 x17_1).f1)],.agg #[.int .u64 x103000_1,.int .u64 x103001_1]] rfl zz27 ?_;(with_reducible refine (z10.calls k1 a0 ((rd_T30 l2 x17_1).f0) ((rd_T30 l2 x17_1).f1) x103000_1 x103001_1 t105 t106 _ A11.out).mono ?_);rintro e w19 ⟨rfl,hb⟩;refine ⟨_,rfl,?_⟩;have n0_:=z1.mk (Kd.zJ zz11 hb);have n1_:=z1.mk (zg (g:=gb101) (o:=.cells #[.int .u64 x102000_1,.int .u64 x102001_1] 30 (0,0)) zz9 hb);have n2_:=z1.mk (zg (g:=gb102) (o:=.cells #[.int .u64 x103000_1,.int .u64 x103001_1] 30 (0,0)) zz10 hb);have n3_:=z1.mk (zg (g:=gb104) (o:=.cells #[.int .u64 ((rd_T30 l2 x17_1).f0),.int .u64 ((rd_T30 l2 x17_1).f1)] 30 (0,0)) zz5 hb);have n4_:=z1.mk (Kept.below (S:=(fun k_=>P1_ k_)) zz18 hb);have n5_:=z1.mk (z4 zz20 hb);clear HO_1;clear BK101;clear BK102;clear BK104;clear HK;clear HB;have HO_1:=n0_;have BK101:=n1_;have BK102:=n2_;have BK104:=n3_;have HK:=n4_;have HB:=n5_;clear n0_ n1_ n2_ n3_ n4_ n5_;(try clear hb);(try clear hb2);(try clear hk);(try clear hi))|((with_reducible refine zF (N:=12) rfl ?_);refine zG ?hg (N:=12) ?hd (cs:=#[.int .u64 0,.int .u64 0]) (t:=30) ?hr ?_;(case hd=>rfl);(case hg=>rfl);(case hr=>first|(go_simp;done)|(go_simp;rfl));intro gb107 hg w20 hbox hb;have n0_:=z1.mk (Kd.zJ (Kd.z1U zz54 gb107 (Nat.le_of_eq hg.symm)) hb);have n1_:=z1.mk (zg (g:=gb101) (o:=.cells #[.int .u64 x102000_1,.int .u64 x102001_1] 30 (0,0)) zz29 hb);have n2_:=z1.mk (zg (g:=gb102) (o:=.cells #[.int .u64 x103000_1,.int .u64 x103001_1] 30 (0,0)) zz30 hb);have n3_:=z1.mk (zg (g:=gb104) (o:=.cells #[.int .u64 ((rd_T30 l2 x17_1).f0),.int .u64 ((rd_T30 l2 x17_1).f1)] 30 (0,0)) zz32 hb);have n4_:=z1.mk (Kept.below (S:=(fun k_=>P1_ k_)) zz18 hb);have n5_:=z1.mk (z4 zz20 hb);have n6_:=z1.mk (hbox);have n7_:=z1.mk ((by rw [hg];exact zz12 : w.heap.size ≤ gb107));have n8_:=z1.mk ((by rw [hg];exact (z5 zz20) : w0.heap.size ≤ gb107));have n9_:=z1.mk ((by rw [hg];exact Nat.ne_of_lt (zU (g:=gb101) (o:=.cells #[.int .u64 x102000_1,.int .u64 x102001_1] 30 (0,0)) zz29) : gb101 ≠ gb107));have n10_:=z1.mk ((by rw [hg];exact Nat.ne_of_gt (zU (g:=gb101) (o:=.cells #[.int .u64 x102000_1,.int .u64 x102001_1] 30 (0,0)) zz29) : gb107 ≠ gb101));have n11_:=z1.mk ((by rw [hg];exact Nat.ne_of_lt (zU (g:=gb102) (o:=.cells #[.int .u64 x103000_1,.int .u64 x103001_1] 30 (0,0)) zz30) : gb102 ≠ gb107));have n12_:=z1.mk ((by rw [hg];exact Nat.ne_of_gt (zU (g:=gb102) (o:=.cells #[.int .u64 x103000_1,.int .u64 x103001_1] 30 (0,0)) zz30) : gb107 ≠ gb102));have n13_:=z1.mk ((by rw [hg];exact Nat.ne_of_lt (zU (g:=gb104) (o:=.cells #[.int .u64 ((rd_T30 l2 x17_1).f0),.int .u64 ((rd_T30 l2 x17_1).f1)] 30 (0,0)) zz32) : gb104 ≠ gb107));have n14_:=z1.mk ((by rw [hg];exact Nat.ne_of_gt (zU (g:=gb104) (o:=.cells #[.int .u64 ((rd_T30 l2 x17_1).f0),.int .u64 ((rd_T30 l2 x17_1).f1)] 30 (0,0)) zz32) : gb107 ≠ gb104));clear HO_1;clear BK101;clear BK102;clear BK104;clear HK;clear HB;have HO_1:=n0_;have BK101:=n1_;have BK102:=n2_;have BK104:=n3_;have HK:=n4_;have HB:=n5_;have BK107:=n6_;have GW107:=n7_;have GE107:=n8_;have NB101_107:=n9_;have NB107_101:=n10_;have NB102_107:=n11_;have NB107_102:=n12_;have NB104_107:=n13_;have NB107_104:=n14_;clear n0_ n1_ n2_ n3_ n4_ n5_ n6_ n7_ n8_ n9_ n10_ n11_ n12_ n13_ n14_;clear hb hbox hg;have hnb21:=NB107_101.out;have hnc21:=NB101_107.out;have hnb22:=NB107_102.out;have hnc22:=NB102_107.out;have hnb23:=NB107_104.out;have hnc23:=NB104_107.out;have hcz24_0 : w20.cell? ⟨gb107,0,none⟩ = some (.int .u64 0):=(zc BK107.out 0).trans rfl;have hcz24_1 : w20.cell? ⟨gb107,1,none⟩ = some (.int .u64 0):=(zc BK107.out 1).trans rfl;have hfz24_0:=z8 BK107.out 0;have hfz24_1:=z8 BK107.out 1))
     go_roundg k1
     case measure=>have:=HK1.out;omega
     case rel=>exact ⟨(x1_1),(wrap64 (x17_1 + 1)),(x102000_1),(x102001_1),(x103000_1),(x103001_1),zz75,H',⟨by have:=HK1.out;omega⟩,⟨by (with_reducible repeat (first|apply Kd.zC|apply Kd.zD|apply Kd.zO));exact Kd.z16 (Kd.z2u (p:=⟨gb107,1,none⟩) (Kd.z2u (p:=⟨gb107,0,none⟩) (Kd.z16 HO_1.out (fun k_ hk=>(⟨hk,hk.2⟩ : _ ∧ k_ ≠ gb107))) (fun _ hk=>hk.2) (.int .u64 t105)) (fun _ hk=>hk.2) (.int .u64 t106)) (fun _ hk=>⟨hk.1.1.1.1,⟨hk.1.1.1.2.1,hk.1.1.1.2.2⟩⟩)⟩,⟨by (with_reducible repeat (first|refine zb ?_ _|refine zf ?_|refine za ?_ _));refine z1a ?_ NB101_107.out _;(with_reducible repeat (first|refine zb ?_ _|refine zf ?_|refine za ?_ _));refine z1a ?_ NB101_107.out _;(with_reducible repeat (first|refine zb ?_ _|refine zf ?_|refine za ?_ _));exact BK101.out⟩,⟨by (with_reducible repeat (first|refine zb ?_ _|refine zf ?_|refine za ?_ _));refine z1a ?_ NB102_107.out _;(with_reducible repeat (first|refine zb ?_ _|refine zf ?_|refine za ?_ _));refine z1a ?_ NB102_107.out _;(with_reducible repeat (first|refine zb ?_ _|refine zf ?_|refine za ?_ _));exact BK102.out⟩,⟨by repeat (first|(with_reducible first|exact HK.out|apply Kept.alloc|apply Kept.drewN|apply Kept.drew|refine Kept.setCell ?_ (.inr GW101.out) _|refine Kept.setCell ?_ (.inr GW102.out) _|refine Kept.setCell ?_ (.inr GW104.out) _|refine Kept.setCell ?_ (.inr GW107.out) _)|exact HK.out)⟩,⟨by repeat (first|(with_reducible first|exact HB.out|apply z7|apply z2|apply z6|refine zd ?_ GE101.out|refine zd ?_ GE102.out|refine zd ?_ GE104.out|refine zd ?_ GE107.out)|exact HB.out)⟩⟩
   rw [if_neg c12] at H
   have c12b0 : (t105 == 0 && (t106 == 0)) = false:=by simpa using c12
   (try (have c12b1 : decide (t105 = 0 && (t106 == 0)) = false:=by simpa using c12))
   (try (have c12b2 : (t105 == 0 && (t106 == 0)) = false:=by simpa using c12))
   (try (have c12b3 : ¬ (t105 = 0 && (t106 == 0)):=by simpa using c12))
   clear c12
   replace H:=Option.bind_eq_some_iff.mp H
   obtain ⟨⟨t108,t109⟩,A250,H⟩:=H
   replace H : ((z10.f k1 a0 t108 t109 x102000_1 x102001_1).bind fun bt110=>((zK.f k1 a0 bt110.1 bt110.2).bind fun t112=>(zq.l1 k1 a0 x1_1 l2 (l2.length : Int) x17_1 t112 (t112.length : Int) 0 x102000_1 x102001_1 x103000_1 x103001_1 t105 t106))) = some r:=H
   have A25:=z1.mk A250
   clear A250
   replace H:=Option.bind_eq_some_iff.mp H
   obtain ⟨⟨t110,t111⟩,A260,H⟩:=H
   replace H : ((zK.f k1 a0 t110 t111).bind fun t112=>(zq.l1 k1 a0 x1_1 l2 (l2.length : Int) x17_1 t112 (t112.length : Int) 0 x102000_1 x102001_1 x103000_1 x103001_1 t105 t106)) = some r:=H
   have A26:=z1.mk A260
   clear A260
   replace H:=Option.bind_eq_some_iff.mp H
   obtain ⟨t112,A270,H⟩:=H
   replace H : (zq.l1 k1 a0 x1_1 l2 (l2.length : Int) x17_1 t112 (t112.length : Int) 0 x102000_1 x102001_1 x103000_1 x103001_1 t105 t106) = some r:=H
   have A27:=z1.mk A270
   clear A270
   have H':=z1.mk H
   clear H
   have p103 : 0 ≤ (x17_1 : Int):=of_decide_eq_true zz74
   have q103 : x17_1 < (l2.length : Int):=of_decide_eq_true zz74
   obtain ⟨ad103,e103,hx103_0,hx103_1⟩:=z2j (Kd.z4C HR2.out HK.out) x17_1 p103 q103
   cases e103
   replace p103:=eq_true p103
   replace q103:=eq_true q103
   try go_wp2_with (first|((with_reducible refine zF (N:=11) rfl ?_);refine zG ?hg (N:=11) ?hd (cs:=#[.int .u64 0,.int .u64 0]) (t:=30) ?hr ?_;(case hd=>rfl);(case hg=>rfl);(case hr=>first|(go_simp;done)|(go_simp;rfl));intro gb104 hg w28 hbox hb;have n0_:=z1.mk (Kd.zJ (Kd.z1U zz54 gb104 (Nat.le_of_eq hg.symm)) hb);have n1_:=z1.mk (zg (g:=gb101) (o:=.cells #[.int .u64 x102000_1,.int .u64 x102001_1] 30 (0,0)) zz29 hb);have n2_:=z1.mk (zg (g:=gb102) (o:=.cells #[.int .u64 x103000_1,.int .u64 x103001_1] 30 (0,0)) zz30 hb);have n3_:=z1.mk (Kept.below (S:=(fun k_=>P1_ k_)) zz21 hb);have n4_:=z1.mk (z4 zz22 hb);have n5_:=z1.mk (hbox);have n6_:=z1.mk ((by rw [hg];exact zz15 : w.heap.size ≤ gb104));have n7_:=z1.mk ((by rw [hg];exact (z5 zz22) : w0.heap.size ≤ gb104));have n8_:=z1.mk ((by rw [hg];exact Nat.ne_of_lt (zU (g:=gb101) (o:=.cells #[.int .u64 x102000_1,.int .u64 x102001_1] 30 (0,0)) zz29) : gb101 ≠ gb104));have n9_:=z1.mk ((by rw [hg];exact Nat.ne_of_gt (zU (g:=gb101) (o:=.cells #[.int .u64 x102000_1,.int .u64 x102001_1] 30 (0,0)) zz29) : gb104 ≠ gb101));have n10_:=z1.mk ((by rw [hg];exact Nat.ne_of_lt (zU (g:=gb102) (o:=.cells #[.int .u64 x103000_1,.int .u64 x103001_1] 30 (0,0)) zz30) : gb102 ≠ gb104));have n11_:=z1.mk ((by rw [hg];exact Nat.ne_of_gt (zU (g:=gb102) (o:=.cells #[.int .u64 x103000_1,.int .u64 x103001_1] 30 (0,0)) zz30) : gb104 ≠ gb102));clear HO_1;clear BK101;clear BK102;clear HK;clear HB;have HO_1:=n0_;have BK101:=n1_;have BK102:=n2_;have HK:=n3_;have HB:=n4_;have BK104:=n5_;have GW104:=n6_;have GE104:=n7_;have NB101_104:=n8_;have NB104_101:=n9_;have NB102_104:=n10_;have NB104_102:=n11_;clear n0_ n1_ n2_ n3_ n4_ n5_ n6_ n7_ n8_ n9_ n10_ n11_;clear hb hbox hg;have hnb29:=NB104_101.out;have hnc29:=NB101_104.out;have hnb30:=NB104_102.out;have hnc30:=NB102_104.out;have hcz31_0 : w28.cell? ⟨gb104,0,none⟩ = some (.int .u64 0):=(zc BK104.out 0).trans rfl;have hcz31_1 : w28.cell? ⟨gb104,1,none⟩ = some (.int .u64 0):=(zc BK104.out 1).trans rfl;have hfz31_0:=z8 BK104.out 0;have hfz31_1:=z8 BK104.out 1;have hnb32:=NB102_101.out;have hnc32:=NB101_102.out;have hcz33_0 : w28.cell? ⟨gb102,0,none⟩ = some (.int .u64 x103000_1):=(zc BK102.out 0).trans rfl;have hcz33_1 : w28.cell? ⟨gb102,1,none⟩ = some (.int .u64 x103001_1):=(zc BK102.out 1).trans rfl;have hfz33_0:=z8 BK102.out 0;have hfz33_1:=z8 BK102.out 1)|((with_reducible refine zl (f:=78) rfl ?_);refine goesL_ (some 25) rfl rfl Try.func78 zz78 rfl #[.int .i64 a0,.agg #[.int .u64 ((rd_T30 l2 x17_1).f0),.int .u64 ((rd_T30 l2 x17_1).f1)],.agg #[.int .u64 x103000_1,.int .u64 x103001_1]] rfl zz27 ?_;(with_reducible refine (z10.calls k1 a0 ((rd_T30 l2 x17_1).f0) ((rd_T30 l2 x17_1).f1) x103000_1 x103001_1 t105 t106 _ A11.out).mono ?_);rintro e w34 ⟨rfl,hb⟩;refine ⟨_,rfl,?_⟩;have n0_:=z1.mk (Kd.zJ zz11 hb);have n1_:=z1.mk (zg (g:=gb101) (o:=.cells #[.int .u64 x102000_1,.int .u64 x102001_1] 30 (0,0)) zz9 hb);have n2_:=z1.mk (zg (g:=gb102) (o:=.cells #[.int .u64 x103000_1,.int .u64 x103001_1] 30 (0,0)) zz10 hb);have n3_:=z1.mk (zg (g:=gb104) (o:=.cells #[.int .u64 ((rd_T30 l2 x17_1).f0),.int .u64 ((rd_T30 l2 x17_1).f1)] 30 (0,0)) zz5 hb);have n4_:=z1.mk (Kept.below (S:=(fun k_=>P1_ k_)) zz18 hb);have n5_:=z1.mk (z4 zz20 hb);clear HO_1;clear BK101;clear BK102;clear BK104;clear HK;clear HB;have HO_1:=n0_;have BK101:=n1_;have BK102:=n2_;have BK104:=n3_;have HK:=n4_;have HB:=n5_;clear n0_ n1_ n2_ n3_ n4_ n5_;(try clear hb);(try clear hb2);(try clear hk);(try clear hi))|((with_reducible refine zF (N:=12) rfl ?_);refine zG ?hg (N:=12) ?hd (cs:=#[.int .u64 0,.int .u64 0]) (t:=30) ?hr ?_;(case hd=>rfl);(case hg=>rfl);(case hr=>first|(go_simp;done)|(go_simp;rfl));intro gb107 hg w35 hbox hb;have n0_:=z1.mk (Kd.zJ (Kd.z1U zz54 gb107 (Nat.le_of_eq hg.symm)) hb);have n1_:=z1.mk (zg (g:=gb101) (o:=.cells #[.int .u64 x102000_1,.int .u64 x102001_1] 30 (0,0)) zz29 hb);have n2_:=z1.mk (zg (g:=gb102) (o:=.cells #[.int .u64 x103000_1,.int .u64 x103001_1] 30 (0,0)) zz30 hb);have n3_:=z1.mk (zg (g:=gb104) (o:=.cells #[.int .u64 ((rd_T30 l2 x17_1).f0),.int .u64 ((rd_T30 l2 x17_1).f1)] 30 (0,0)) zz32 hb);have n4_:=z1.mk (Kept.below (S:=(fun k_=>P1_ k_)) zz18 hb);have n5_:=z1.mk (z4 zz20 hb);have n6_:=z1.mk (hbox);have n7_:=z1.mk ((by rw [hg];exact zz12 : w.heap.size ≤ gb107));have n8_:=z1.mk ((by rw [hg];exact (z5 zz20) : w0.heap.size ≤ gb107));have n9_:=z1.mk ((by rw [hg];exact Nat.ne_of_lt (zU (g:=gb101) (o:=.cells #[.int .u64 x102000_1,.int .u64 x102001_1] 30 (0,0)) zz29) : gb101 ≠ gb107));have n10_:=z1.mk ((by rw [hg];exact Nat.ne_of_gt (zU (g:=gb101) (o:=.cells #[.int .u64 x102000_1,.int .u64 x102001_1] 30 (0,0)) zz29) : gb107 ≠ gb101));have n11_:=z1.mk ((by rw [hg];exact Nat.ne_of_lt (zU (g:=gb102) (o:=.cells #[.int .u64 x103000_1,.int .u64 x103001_1] 30 (0,0)) zz30) : gb102 ≠ gb107));have n12_:=z1.mk ((by rw [hg];exact Nat.ne_of_gt (zU (g:=gb102) (o:=.cells #[.int .u64 x103000_1,.int .u64 x103001_1] 30 (0,0)) zz30) : gb107 ≠ gb102));have n13_:=z1.mk ((by rw [hg];exact Nat.ne_of_lt (zU (g:=gb104) (o:=.cells #[.int .u64 ((rd_T30 l2 x17_1).f0),.int .u64 ((rd_T30 l2 x17_1).f1)] 30 (0,0)) zz32) : gb104 ≠ gb107));have n14_:=z1.mk ((by rw [hg];exact Nat.ne_of_gt (zU (g:=gb104) (o:=.cells #[.int .u64 ((rd_T30 l2 x17_1).f0),.int .u64 ((rd_T30 l2 x17_1).f1)] 30 (0,0)) zz32) : gb107 ≠ gb104));clear HO_1;clear BK101;clear BK102;clear BK104;clear HK;clear HB;have HO_1:=n0_;have BK101:=n1_;have BK102:=n2_;have BK104:=n3_;have HK:=n4_;have HB:=n5_;have BK107:=n6_;have GW107:=n7_;have GE107:=n8_;have NB101_107:=n9_;have NB107_101:=n10_;have NB102_107:=n11_;have NB107_102:=n12_;have NB104_107:=n13_;have NB107_104:=n14_;clear n0_ n1_ n2_ n3_ n4_ n5_ n6_ n7_ n8_ n9_ n10_ n11_ n12_ n13_ n14_;clear hb hbox hg;have hnb36:=NB107_101.out;have hnc36:=NB101_107.out;have hnb37:=NB107_102.out;have hnc37:=NB102_107.out;have hnb38:=NB107_104.out;have hnc38:=NB104_107.out;have hcz39_0 : w35.cell? ⟨gb107,0,none⟩ = some (.int .u64 0):=(zc BK107.out 0).trans rfl;have hcz39_1 : w35.cell? ⟨gb107,1,none⟩ = some (.int .u64 0):=(zc BK107.out 1).trans rfl;have hfz39_0:=z8 BK107.out 0;have hfz39_1:=z8 BK107.out 1))
   have n0_ : z1 (Kd.R k30 30 ((w35.setCell ⟨gb107,0,none⟩ (.int .u64 t105)).setCell ⟨gb107,1,none⟩ (.int .u64 t106)) w0.heap.size (fun k_=>(P1_ k_ ∨ w.heap.size ≤ k_) ∧ k_ ≠ gb101 ∧ k_ ≠ gb102 ∧ k_ ≠ gb104 ∧ k_ ≠ gb107) u9000_ x1_1):=⟨by (with_reducible repeat (first|apply Kd.zC|apply Kd.zD|apply Kd.zO));exact Kd.z16 (Kd.z2u (p:=⟨gb107,1,none⟩) (Kd.z2u (p:=⟨gb107,0,none⟩) (Kd.z16 HO_1.out (fun k_ hk=>(⟨hk,hk.2⟩ : _ ∧ k_ ≠ gb107))) (fun _ hk=>hk.2) (.int .u64 t105)) (fun _ hk=>hk.2) (.int .u64 t106)) (fun _ hk=>⟨hk.1.1.1.1,⟨hk.1.1.1.2.1,⟨hk.1.1.1.2.2,⟨hk.1.1.2,hk.1.2⟩⟩⟩⟩)⟩
   have n1_ : z1 (((w35.setCell ⟨gb107,0,none⟩ (.int .u64 t105)).setCell ⟨gb107,1,none⟩ (.int .u64 t106)).heap[gb101]? = some (.cells #[.int .u64 x102000_1,.int .u64 x102001_1] 30 (0,0))):=⟨by (with_reducible repeat (first|refine zb ?_ _|refine zf ?_|refine za ?_ _));refine z1a ?_ NB101_107.out _;(with_reducible repeat (first|refine zb ?_ _|refine zf ?_|refine za ?_ _));refine z1a ?_ NB101_107.out _;(with_reducible repeat (first|refine zb ?_ _|refine zf ?_|refine za ?_ _));exact BK101.out⟩
   have n2_ : z1 (((w35.setCell ⟨gb107,0,none⟩ (.int .u64 t105)).setCell ⟨gb107,1,none⟩ (.int .u64 t106)).heap[gb102]? = some (.cells #[.int .u64 x103000_1,.int .u64 x103001_1] 30 (0,0))):=⟨by (with_reducible repeat (first|refine zb ?_ _|refine zf ?_|refine za ?_ _));refine z1a ?_ NB102_107.out _;(with_reducible repeat (first|refine zb ?_ _|refine zf ?_|refine za ?_ _));refine z1a ?_ NB102_107.out _;(with_reducible repeat (first|refine zb ?_ _|refine zf ?_|refine za ?_ _));exact BK102.out⟩
   have n3_ : z1 (((w35.setCell ⟨gb107,0,none⟩ (.int .u64 t105)).setCell ⟨gb107,1,none⟩ (.int .u64 t106)).heap[gb104]? = some (.cells #[.int .u64 ((rd_T30 l2 x17_1).f0),.int .u64 ((rd_T30 l2 x17_1).f1)] 30 (0,0))):=⟨by (with_reducible repeat (first|refine zb ?_ _|refine zf ?_|refine za ?_ _));refine z1a ?_ NB104_107.out _;(with_reducible repeat (first|refine zb ?_ _|refine zf ?_|refine za ?_ _));refine z1a ?_ NB104_107.out _;(with_reducible repeat (first|refine zb ?_ _|refine zf ?_|refine za ?_ _));exact BK104.out⟩
   have n4_ : z1 (((w35.setCell ⟨gb107,0,none⟩ (.int .u64 t105)).setCell ⟨gb107,1,none⟩ (.int .u64 t106)).heap[gb107]? = some (.cells #[.int .u64 t105,.int .u64 t106] 30 (0,0))):=⟨by (with_reducible repeat (first|refine zb ?_ _|refine zf ?_|refine za ?_ _));refine z1m (cs:=#[.int .u64 t105,.int .u64 0]) ?_ 1 _ rfl;(with_reducible repeat (first|refine zb ?_ _|refine zf ?_|refine za ?_ _));refine z1m (cs:=#[.int .u64 0,.int .u64 0]) ?_ 0 _ rfl;(with_reducible repeat (first|refine zb ?_ _|refine zf ?_|refine za ?_ _));exact BK107.out⟩
   have n5_ : z1 (Kept w ((w35.setCell ⟨gb107,0,none⟩ (.int .u64 t105)).setCell ⟨gb107,1,none⟩ (.int .u64 t106)) (fun k_=>P1_ k_)):=⟨by repeat (first|(with_reducible first|exact HK.out|apply Kept.alloc|apply Kept.drewN|apply Kept.drew|refine Kept.setCell ?_ (.inr GW101.out) _|refine Kept.setCell ?_ (.inr GW102.out) _|refine Kept.setCell ?_ (.inr GW104.out) _|refine Kept.setCell ?_ (.inr GW107.out) _)|exact HK.out)⟩
   have n6_ : z1 (Below w0.heap.size w0 ((w35.setCell ⟨gb107,0,none⟩ (.int .u64 t105)).setCell ⟨gb107,1,none⟩ (.int .u64 t106))):=⟨by repeat (first|(with_reducible first|exact HB.out|apply z7|apply z2|apply z6|refine zd ?_ GE101.out|refine zd ?_ GE102.out|refine zd ?_ GE104.out|refine zd ?_ GE107.out)|exact HB.out)⟩
   (try clear HO_1)
   (try clear BK101)
   (try clear BK102)
   (try clear BK104)
   (try clear BK107)
   (try clear HK)
   (try clear HB)
   generalize ((w35.setCell ⟨gb107,0,none⟩ (.int .u64 t105)).setCell ⟨gb107,1,none⟩ (.int .u64 t106)) = w40 at n0_ n1_ n2_ n3_ n4_ n5_ n6_ ⊢
   have HO_1:=n0_
   have BK101:=n1_
   have BK102:=n2_
   have BK104:=n3_
   have BK107:=n4_
   have HK:=n5_
   have HB:=n6_
   clear n0_ n1_ n2_ n3_ n4_ n5_ n6_
   have n0_:=z1.mk (Kd.zO HO_1.out)
   have n1_:=z1.mk (zf BK101.out)
   have n2_:=z1.mk (zf BK102.out)
   have n3_:=z1.mk (zf BK104.out)
   have n4_:=z1.mk (zf BK107.out)
   have n5_:=z1.mk (Kept.drew HK.out)
   have n6_:=z1.mk (z6 HB.out)
   clear HO_1
   clear BK101
   clear BK102
   clear BK104
   clear BK107
   clear HK
   clear HB
   have HO_1:=n0_
   have BK101:=n1_
   have BK102:=n2_
   have BK104:=n3_
   have BK107:=n4_
   have HK:=n5_
   have HB:=n6_
   clear n0_ n1_ n2_ n3_ n4_ n5_ n6_
   refine start_ (n:=9) (S:=fun w'=>w'.cell? ⟨gb101,0,none⟩ = some (.int .u64 x102000_1) ∧ w'.cell? ⟨gb101,1,none⟩ = some (.int .u64 x102001_1)) (ds:=[]) #[false,false,false,false,false,false,false,false,false] zz78 rfl rfl ⟨(zc BK101.out 0).trans rfl,(zc BK101.out 1).trans rfl⟩ (fun hHeld=>?_);refine z22 zq.tab6 zq.bits6 (fun HT_ HW_=>?_)
   generalize w40.drew = w41 at HO_1 BK101 BK102 BK104 BK107 HK HB hHeld ⊢
   refine pure_ (i:=0) (N:=some 29) (v:=?_) (a':=?_) #[true,false,false,false,false,false,false,false,false] rfl rfl (z1e HT_.out zz78) (fun _ _ _ h=>h) (Or.inl ⟨by rfl,?_⟩) ?_ ?_
   rotate_left
   · intro w'
     go_simp
     with_reducible rfl
   rotate_left
   · simp only [Act.put,List.setIfInBounds_toArray,List.set_cons_zero,List.set_cons_succ,zS,zZ]
     rfl
   refine pure_ (i:=1) (N:=some 30) (v:=?_) (a':=?_) #[true,true,false,false,false,false,false,false,false] rfl rfl (z1e HT_.out zz78) (fun _ _ _ h=>h) (Or.inl ⟨by rfl,?_⟩) ?_ ?_
   rotate_left
   · intro w'
     go_simp
     with_reducible rfl
   rotate_left
   · simp only [Act.put,List.setIfInBounds_toArray,List.set_cons_zero,List.set_cons_succ,zS,zZ]
     rfl
   refine pure_ (i:=2) (N:=some 31) (v:=?_) (a':=?_) #[true,true,true,false,false,false,false,false,false] rfl rfl (z1e HT_.out zz78) (fun _ _ _ h=>h) (Or.inl ⟨by rfl,?_⟩) ?_ ?_
   rotate_left
   · intro w'
     go_simp
     with_reducible rfl
   rotate_left
   · simp only [Act.put,List.setIfInBounds_toArray,List.set_cons_zero,List.set_cons_succ,zS,zZ]
     rfl
   refine pure_ (i:=8) (N:=some 37) (v:=?_) (a':=?_) #[true,true,true,false,false,false,false,false,true] rfl rfl (z1e HT_.out zz78) (fun _ _ _ h=>h) (Or.inl ⟨by rfl,?_⟩) ?_ ?_
   rotate_left
   · intro w'
     go_simp
     with_reducible rfl
   rotate_left
   · simp only [Act.put,List.setIfInBounds_toArray,List.set_cons_zero,List.set_cons_succ,zS,zZ]
     rfl
   refine take_ (i:=4) (N:=some 33) (v:=?_) (a':=?_) #[true,true,true,false,true,false,false,false,true] rfl rfl (z1I HT_.out HW_.out zz78) (fun _ _ _ h=>h) (Or.inl ⟨by rfl,?_⟩) hHeld ?_ ?_
   rotate_left
   · rintro w' ⟨s0,s1⟩
     go_simp
     with_reducible rfl
   rotate_left
   · simp only [Act.put,List.setIfInBounds_toArray,List.set_cons_zero,List.set_cons_succ,zS,zZ]
     rfl
   refine one_ (i:=3) (N:=some 32) #[true,true,true,true,true,false,false,false,true] rfl rfl (z1J HT_.out zz78) zz79 (fun K hK=>?_)
   refine goes_ Try.func94 zz78 rfl #[.int .i64 x17_1] zz82 rfl rfl zz27 ?_
   with_reducible refine (zI.calls k1 x17_1 t108 t109 _ A25.out).mono ?_
   rintro e w42 ⟨rfl,hb⟩
   refine ⟨_,rfl,?_⟩
   have n0_:=z1.mk (Kd.zJ zz54 hb)
   have n1_:=z1.mk (zg (g:=gb101) (o:=.cells #[.int .u64 x102000_1,.int .u64 x102001_1] 30 (0,0)) zz29 hb)
   have n2_:=z1.mk (zg (g:=gb102) (o:=.cells #[.int .u64 x103000_1,.int .u64 x103001_1] 30 (0,0)) zz30 hb)
   have n3_:=z1.mk (zg (g:=gb104) (o:=.cells #[.int .u64 ((rd_T30 l2 x17_1).f0),.int .u64 ((rd_T30 l2 x17_1).f1)] 30 (0,0)) zz32 hb)
   have n4_:=z1.mk (zg (g:=gb107) (o:=.cells #[.int .u64 t105,.int .u64 t106] 30 (0,0)) zz33 hb)
   have n5_:=z1.mk (Kept.below (S:=(fun k_=>P1_ k_)) zz13 hb)
   have n6_:=z1.mk (z4 zz16 hb)
   clear HO_1
   clear BK101
   clear BK102
   clear BK104
   clear BK107
   clear HK
   clear HB
   have HO_1:=n0_
   have BK101:=n1_
   have BK102:=n2_
   have BK104:=n3_
   have BK107:=n4_
   have HK:=n5_
   have HB:=n6_
   clear n0_ n1_ n2_ n3_ n4_ n5_ n6_
   (try clear hb)
   (try clear hb2)
   (try clear hk)
   (try clear hi)
   refine hK.out _ _ ⟨(zc BK101.out 0).trans rfl,(zc BK101.out 1).trans rfl⟩ (fun hHeld=>?_)
   clear hK K
   refine norm_ (a':=?_) ?_ ?_
   rotate_left
   · show Act.put _ (some 32) _ = _
     simp only [Act.put,List.setIfInBounds_toArray,List.set_cons_zero,List.set_cons_succ,zS,zZ]
     rfl
   refine one_ (i:=5) (N:=some 34) #[true,true,true,true,true,true,false,false,true] rfl rfl (z1J HT_.out zz78) zz79 (fun K hK=>?_)
   refine goes_ Try.func78 zz78 rfl #[.int .i64 a0,.agg #[.int .u64 t108,.int .u64 t109],.agg #[.int .u64 x102000_1,.int .u64 x102001_1]] zz82 rfl rfl zz27 ?_
   with_reducible refine (z10.calls k1 a0 t108 t109 x102000_1 x102001_1 t110 t111 _ A26.out).mono ?_
   rintro e w43 ⟨rfl,hb⟩
   refine ⟨_,rfl,?_⟩
   have n0_:=z1.mk (Kd.zJ zz54 hb)
   have n1_:=z1.mk (zg (g:=gb101) (o:=.cells #[.int .u64 x102000_1,.int .u64 x102001_1] 30 (0,0)) zz29 hb)
   have n2_:=z1.mk (zg (g:=gb102) (o:=.cells #[.int .u64 x103000_1,.int .u64 x103001_1] 30 (0,0)) zz30 hb)
   have n3_:=z1.mk (zg (g:=gb104) (o:=.cells #[.int .u64 ((rd_T30 l2 x17_1).f0),.int .u64 ((rd_T30 l2 x17_1).f1)] 30 (0,0)) zz32 hb)
   have n4_:=z1.mk (zg (g:=gb107) (o:=.cells #[.int .u64 t105,.int .u64 t106] 30 (0,0)) zz33 hb)
   have n5_:=z1.mk (Kept.below (S:=(fun k_=>P1_ k_)) zz13 hb)
   have n6_:=z1.mk (z4 zz16 hb)
   clear HO_1
   clear BK101
   clear BK102
   clear BK104
   clear BK107
   clear HK
   clear HB
   have HO_1:=n0_
   have BK101:=n1_
   have BK102:=n2_
   have BK104:=n3_
   have BK107:=n4_
   have HK:=n5_
   have HB:=n6_
   clear n0_ n1_ n2_ n3_ n4_ n5_ n6_
   (try clear hb)
   (try clear hb2)
   (try clear hk)
   (try clear hi)
   refine hK.out _ _ ⟨(zc BK101.out 0).trans rfl,(zc BK101.out 1).trans rfl⟩ (fun hHeld=>?_)
   clear hK K
   refine norm_ (a':=?_) ?_ ?_
   rotate_left
   · show Act.put _ (some 34) _ = _
     simp only [Act.put,List.setIfInBounds_toArray,List.set_cons_zero,List.set_cons_succ,zS,zZ]
     rfl
   refine one_ (i:=6) (N:=some 35) #[true,true,true,true,true,true,true,false,true] rfl rfl (z1J HT_.out zz78) zz79 (fun K hK=>?_)
   refine goes_ Try.func125 zz78 rfl #[.int .i64 a0,.agg #[.int .u64 t110,.int .u64 t111]] zz82 rfl rfl zz27 ?_
   with_reducible refine (zK.calls k1 a0 t110 t111 t112 _ A27.out).mono ?_
   rintro e w44 ⟨v113,rfl,ho0,hb⟩
   refine ⟨_,rfl,?_⟩
   have n0_:=z1.mk (Kd.zJ zz54 hb)
   have n1_:=z1.mk (Kd.z1l (Kd.z2I (M:=fun k_=>(P1_ k_ ∨ w.heap.size ≤ k_)) ho0 (by first|exact HK.out.1|exact (show Kept w _ (fun k_=>P1_ k_) from by repeat (first|(with_reducible first|exact HK.out|apply Kept.alloc|apply Kept.drewN|apply Kept.drew|refine Kept.setCell ?_ (.inr GW101.out) _|refine Kept.setCell ?_ (.inr GW102.out) _|refine Kept.setCell ?_ (.inr GW104.out) _|refine Kept.setCell ?_ (.inr GW107.out) _)|exact HK.out)).1) (fun k_ h_=>.inr h_)) (z5 zz16))
   have n2_:=z1.mk (zg (g:=gb101) (o:=.cells #[.int .u64 x102000_1,.int .u64 x102001_1] 30 (0,0)) zz29 hb)
   have n3_:=z1.mk (zg (g:=gb102) (o:=.cells #[.int .u64 x103000_1,.int .u64 x103001_1] 30 (0,0)) zz30 hb)
   have n4_:=z1.mk (zg (g:=gb104) (o:=.cells #[.int .u64 ((rd_T30 l2 x17_1).f0),.int .u64 ((rd_T30 l2 x17_1).f1)] 30 (0,0)) zz32 hb)
   have n5_:=z1.mk (zg (g:=gb107) (o:=.cells #[.int .u64 t105,.int .u64 t106] 30 (0,0)) zz33 hb)
   have n6_:=z1.mk (Kept.below (S:=(fun k_=>P1_ k_)) zz13 hb)
   have n7_:=z1.mk (z4 zz16 hb)
   clear HO_1
   clear BK101
   clear BK102
   clear BK104
   clear BK107
   clear HK
   clear HB
   have HO_1:=n0_
   have HO114:=n1_
   have BK101:=n2_
   have BK102:=n3_
   have BK104:=n4_
   have BK107:=n5_
   have HK:=n6_
   have HB:=n7_
   clear n0_ n1_ n2_ n3_ n4_ n5_ n6_ n7_
   (try clear hb)
   (try clear hb2)
   (try clear hk)
   (try clear hi)
   (try clear ho0)
   obtain ⟨Ao45,co45,eo45⟩:=Kd.z1p HO114.out
   (first|subst eo45|(injection eo45 with f1_ f2_ f3_;have f4_:=f1_.symm;have f5_:=f3_.symm;clear f1_ f2_ f3_;subst f4_;subst f5_))
   refine hK.out _ _ ⟨(zc BK101.out 0).trans rfl,(zc BK101.out 1).trans rfl⟩ (fun hHeld=>?_)
   clear hK K
   refine norm_ (a':=?_) ?_ ?_
   rotate_left
   · show Act.put _ (some 35) _ = _
     simp only [Act.put,List.setIfInBounds_toArray,List.set_cons_zero,List.set_cons_succ,zS,zZ]
     rfl
   refine pure_ (i:=7) (N:=some 36) (v:=?_) (a':=?_) #[true,true,true,true,true,true,true,true,true] rfl rfl (z1e HT_.out zz78) (fun _ _ _ h=>h) (Or.inl ⟨by rfl,?_⟩) ?_ ?_
   rotate_left
   · intro w'
     go_simp
     with_reducible rfl
   rotate_left
   · simp only [Act.put,List.setIfInBounds_toArray,List.set_cons_zero,List.set_cons_succ,zS,zZ]
     rfl
   refine done_ (z2q HT_.out zz78) ?_
   try go_wp2
   go_loopg [37] k1 (fun kq v37 w'=>∃ (x1_2 : List (S30)) (x37_2 : Int) (x102000_2 : Int) (x102001_2 : Int) (x103000_2 : Int) (x103001_2 : Int) (x105000_2 : Int) (x105001_2 : Int) (x108000_2 : Int) (x108001_2 : Int),v37 = .int .i64 x37_2 ∧ z1 (zq.l1 kq a0 x1_2 l2 (l2.length : Int) x17_1 t112 (t112.length : Int) x37_2 x102000_2 x102001_2 x103000_2 x103001_2 x108000_2 x108001_2 = some r) ∧ z1 (kq ≤ k1) ∧ z1 (Kd.R k30 30 w' w0.heap.size (fun k_=>(P1_ k_ ∨ w.heap.size ≤ k_) ∧ k_ ≠ gb101 ∧ k_ ≠ gb102 ∧ k_ ≠ gb104 ∧ k_ ≠ gb107) u9000_ x1_2) ∧ z1 (Kd.R Kd.bool 4 w' w0.heap.size (fun k_=>(P1_ k_ ∨ w.heap.size ≤ k_)) (.slice Ao45 t112.length co45) t112) ∧ z1 (w'.heap[gb101]? = some (.cells #[.int .u64 x102000_2,.int .u64 x102001_2] 30 (0,0))) ∧ z1 (w'.heap[gb102]? = some (.cells #[.int .u64 x103000_2,.int .u64 x103001_2] 30 (0,0))) ∧ z1 (w'.heap[gb104]? = some (.cells #[.int .u64 x105000_2,.int .u64 x105001_2] 30 (0,0))) ∧ z1 (w'.heap[gb107]? = some (.cells #[.int .u64 x108000_2,.int .u64 x108001_2] 30 (0,0))) ∧ z1 (Kept w w' (fun k_=>P1_ k_)) ∧ z1 (Below w0.heap.size w0 w'))
   case atStart=>exact ⟨(x1_1),(0),(x102000_1),(x102001_1),(x103000_1),(x103001_1),((rd_T30 l2 x17_1).f0),((rd_T30 l2 x17_1).f1),(t105),(t106),zz75,H',⟨Nat.le_refl _⟩,⟨by (with_reducible repeat (first|apply Kd.zC|apply Kd.zD|apply Kd.zO));exact HO_1.out⟩,⟨by (with_reducible repeat (first|apply Kd.zC|apply Kd.zD|apply Kd.zO));exact Kd.z16 HO114.out (fun _ hk=>hk.1)⟩,⟨by (with_reducible repeat (first|refine zb ?_ _|refine zf ?_|refine za ?_ _));exact BK101.out⟩,⟨by (with_reducible repeat (first|refine zb ?_ _|refine zf ?_|refine za ?_ _));exact BK102.out⟩,⟨by (with_reducible repeat (first|refine zb ?_ _|refine zf ?_|refine za ?_ _));exact BK104.out⟩,⟨by (with_reducible repeat (first|refine zb ?_ _|refine zf ?_|refine za ?_ _));exact BK107.out⟩,⟨by repeat (first|(with_reducible first|exact HK.out|apply Kept.alloc|apply Kept.drewN|apply Kept.drew|refine Kept.setCell ?_ (.inr GW101.out) _|refine Kept.setCell ?_ (.inr GW102.out) _|refine Kept.setCell ?_ (.inr GW104.out) _|refine Kept.setCell ?_ (.inr GW107.out) _)|exact HK.out)⟩,⟨by repeat (first|(with_reducible first|exact HB.out|apply z7|apply z2|apply z6|refine zd ?_ GE101.out|refine zd ?_ GE102.out|refine zd ?_ GE104.out|refine zd ?_ GE107.out)|exact HB.out)⟩⟩
   case round =>
    clear H'
    (try clear c1);(try clear p1);(try clear q1);(try clear hx1);(try clear c2);(try clear p2);(try clear c3);(try clear p6);(try clear c7);(try clear c8);(try clear c8b0);(try clear c9);(try clear c9b0);(try clear c10);(try clear c10b0);(try clear p10);(try clear q10);(try clear hx10);(try clear c12);(try clear c12b0);(try clear c12b1);(try clear c12b2);(try clear c14);(try clear c15);(try clear c17);(try clear c21);(try clear c22);(try clear c23);(try clear c29);(try clear c30);(try clear c32);(try clear c36);(try clear c37);(try clear c38);(try clear hcz16_0);(try clear hcz16_1);(try clear hcz18_0);(try clear hcz18_1);(try clear hcz24_0);(try clear hcz24_1);(try clear hcz31_0);(try clear hcz31_1);(try clear hcz33_0);(try clear hcz33_1);(try clear hcz39_0);(try clear hcz39_1);(try clear hfz16_0);(try clear hfz16_1);(try clear hfz18_0);(try clear hfz18_1);(try clear hfz24_0);(try clear hfz24_1);(try clear hfz31_0);(try clear hfz31_1);(try clear hfz33_0);(try clear hfz33_1);(try clear hfz39_0);(try clear hfz39_1);(try clear hx103_0);(try clear hx103_1);(try clear p103);(try clear p2);(try clear q103)
    obtain ⟨x1_2,x37_2,x102000_2,x102001_2,x103000_2,x103001_2,x105000_2,x105001_2,x108000_2,x108001_2,rfl,HA,HK2,HO_1,HO_35,BK101,BK102,BK104,BK107,HK,HB⟩:=hrel
    cases gk with
    | zero=>exact absurd HA.out (by simp [zq.l1])
    | succ k2 =>
     have H:=HA.out
     clear HA
     simp only [zq.l1] at H
     by_cases c46 : x37_2 < (t112.length : Int)
     rotate_left
     · rw [if_neg c46] at H
       have c46b0 : decide (x37_2 < (t112.length : Int)) = false:=decide_eq_false c46
       clear c46
       have H':=z1.mk H
       clear H
       go_wp2
       go_roundg k2
       case measure=>have:=HK1.out;have:=HK2.out;omega
       case rel=>exact ⟨(x1_2),(wrap64 (x17_1 + 1)),(x102000_2),(x102001_2),(x103000_2),(x103001_2),zz75,H',⟨by have:=HK1.out;have:=HK2.out;omega⟩,⟨by (with_reducible repeat (first|apply Kd.zC|apply Kd.zD|apply Kd.zO));exact Kd.z16 HO_1.out (fun _ hk=>⟨hk.1,⟨hk.2.1,hk.2.2.1⟩⟩)⟩,⟨by (with_reducible repeat (first|refine zb ?_ _|refine zf ?_|refine za ?_ _));exact BK101.out⟩,⟨by (with_reducible repeat (first|refine zb ?_ _|refine zf ?_|refine za ?_ _));exact BK102.out⟩,⟨by repeat (first|(with_reducible first|exact HK.out|apply Kept.alloc|apply Kept.drewN|apply Kept.drew|refine Kept.setCell ?_ (.inr GW101.out) _|refine Kept.setCell ?_ (.inr GW102.out) _|refine Kept.setCell ?_ (.inr GW104.out) _|refine Kept.setCell ?_ (.inr GW107.out) _)|exact HK.out)⟩,⟨by repeat (first|(with_reducible first|exact HB.out|apply z7|apply z2|apply z6|refine zd ?_ GE101.out|refine zd ?_ GE102.out|refine zd ?_ GE104.out|refine zd ?_ GE107.out)|exact HB.out)⟩⟩
     rw [if_pos c46] at H
     have c46b0 : decide (x37_2 < (t112.length : Int)) = true:=decide_eq_true c46
     clear c46
     by_cases c47 : 0 ≤ x37_2
     rotate_left
     · rw [if_neg c47] at H
       exact absurd H zz81
     rw [if_pos c47] at H
     have c47b0 : decide (0 ≤ x37_2) = true:=decide_eq_true c47
     clear c47
     by_cases c48 : x37_2 < (t112.length : Int)
     rotate_left
     · rw [if_neg c48] at H
       exact absurd H zz81
     rw [if_pos c48] at H
     have c48b0 : decide (x37_2 < (t112.length : Int)) = true:=decide_eq_true c48
     clear c48
     obtain ⟨bq49,hbq49⟩ : ∃ b_ : Bool,b_ = (rdOf false t112 x37_2):=⟨_,rfl⟩
     replace H : (if bq49 = true then (if x37_2 < (x1_2.length : Int) then ((z1L.f ((rd_T30 x1_2 x37_2).f0) ((rd_T30 x1_2 x37_2).f1) x108000_2 x108001_2).bind fun bt117=>(zq.l1 k2 a0 (x1_2.set (x37_2 : Int).toNat (⟨bt117.1,bt117.2⟩ : S30)) l2 (l2.length : Int) x17_1 t112 (t112.length : Int) (wrap64 (x37_2 + 1)) x102000_2 x102001_2 x103000_2 x103001_2 x108000_2 x108001_2)) else (none)) else (zq.l1 k2 a0 x1_2 l2 (l2.length : Int) x17_1 t112 (t112.length : Int) (wrap64 (x37_2 + 1)) x102000_2 x102001_2 x103000_2 x103001_2 x108000_2 x108001_2)) = some r:=by rw [← hbq49] at H;exact H
     have Nbq49:=z1.mk hbq49
     clear hbq49
     by_cases c50 : bq49 = true
     rotate_left
     · replace c50:=Bool.eq_false_iff.mpr c50
       subst c50
       have H1 : (zq.l1 k2 a0 x1_2 l2 (l2.length : Int) x17_1 t112 (t112.length : Int) (wrap64 (x37_2 + 1)) x102000_2 x102001_2 x103000_2 x103001_2 x108000_2 x108001_2) = some r:=by rw [if_neg (show ¬ (false = true) by decide)] at H;exact H
       clear H
       have H:=H1
       clear H1
       have H':=z1.mk H
       clear H
       have p115 : 0 ≤ (x37_2 : Int):=of_decide_eq_true zz74
       have q115 : x37_2 < (t112.length : Int):=of_decide_eq_true zz74
       obtain ⟨ad115,e115,hx115_0⟩:=Kd.z4Y (Kd.zL HO_35.out).2.2 x37_2 p115 q115
       (try rw [← Nbq49.out] at hx115_0)
       cases e115
       replace p115:=eq_true p115
       replace q115:=eq_true q115
       go_wp2
       go_roundg k2
       case measure=>have:=HK1.out;have:=HK2.out;omega
       case rel=>exact ⟨(x1_2),(wrap64 (x37_2 + 1)),(x102000_2),(x102001_2),(x103000_2),(x103001_2),(x105000_2),(x105001_2),(x108000_2),(x108001_2),zz75,H',⟨by have:=HK1.out;have:=HK2.out;omega⟩,⟨by (with_reducible repeat (first|apply Kd.zC|apply Kd.zD|apply Kd.zO));exact HO_1.out⟩,⟨by (with_reducible repeat (first|apply Kd.zC|apply Kd.zD|apply Kd.zO));exact HO_35.out⟩,⟨by (with_reducible repeat (first|refine zb ?_ _|refine zf ?_|refine za ?_ _));exact BK101.out⟩,⟨by (with_reducible repeat (first|refine zb ?_ _|refine zf ?_|refine za ?_ _));exact BK102.out⟩,⟨by (with_reducible repeat (first|refine zb ?_ _|refine zf ?_|refine za ?_ _));exact BK104.out⟩,⟨by (with_reducible repeat (first|refine zb ?_ _|refine zf ?_|refine za ?_ _));exact BK107.out⟩,⟨by repeat (first|(with_reducible first|exact HK.out|apply Kept.alloc|apply Kept.drewN|apply Kept.drew|refine Kept.setCell ?_ (.inr GW101.out) _|refine Kept.setCell ?_ (.inr GW102.out) _|refine Kept.setCell ?_ (.inr GW104.out) _|refine Kept.setCell ?_ (.inr GW107.out) _)|exact HK.out)⟩,⟨by repeat (first|(with_reducible first|exact HB.out|apply z7|apply z2|apply z6|refine zd ?_ GE101.out|refine zd ?_ GE102.out|refine zd ?_ GE104.out|refine zd ?_ GE107.out)|exact HB.out)⟩⟩
     subst c50
     have H1 : (if x37_2 < (x1_2.length : Int) then ((z1L.f ((rd_T30 x1_2 x37_2).f0) ((rd_T30 x1_2 x37_2).f1) x108000_2 x108001_2).bind fun bt117=>(zq.l1 k2 a0 (x1_2.set (x37_2 : Int).toNat (⟨bt117.1,bt117.2⟩ : S30)) l2 (l2.length : Int) x17_1 t112 (t112.length : Int) (wrap64 (x37_2 + 1)) x102000_2 x102001_2 x103000_2 x103001_2 x108000_2 x108001_2)) else (none)) = some r:=by rw [if_pos rfl] at H;exact H
     clear H
     have H:=H1
     clear H1
     by_cases c51 : x37_2 < (x1_2.length : Int)
     rotate_left
     · rw [if_neg c51] at H
       exact absurd H zz81
     rw [if_pos c51] at H
     have c51b0 : decide (x37_2 < (x1_2.length : Int)) = true:=decide_eq_true c51
     clear c51
     replace H:=Option.bind_eq_some_iff.mp H
     obtain ⟨⟨t117,t118⟩,A520,H⟩:=H
     replace H : (zq.l1 k2 a0 (x1_2.set (x37_2 : Int).toNat (⟨t117,t118⟩ : S30)) l2 (l2.length : Int) x17_1 t112 (t112.length : Int) (wrap64 (x37_2 + 1)) x102000_2 x102001_2 x103000_2 x103001_2 x108000_2 x108001_2) = some r:=H
     have A52:=z1.mk A520
     clear A520
     obtain ⟨y119,hy119⟩ : ∃ y_ : List (S30),y_ = (x1_2.set (x37_2 : Int).toNat (⟨t117,t118⟩ : S30)):=⟨_,rfl⟩
     replace H : (zq.l1 k2 a0 y119 l2 (l2.length : Int) x17_1 t112 (t112.length : Int) (wrap64 (x37_2 + 1)) x102000_2 x102001_2 x103000_2 x103001_2 x108000_2 x108001_2) = some r:=by first|(rw [hy119];with_reducible exact H)|(have H2_:=(Option.bind_some _ _).symm.trans H;rw [hy119];with_reducible exact H2_)|(have H2_:=(Option.bind_some _ _).symm.trans H;with_reducible exact H2_)|with_reducible exact H|(rw [hy119];exact H)|exact H
     have Ny119:=z1.mk hy119
     clear hy119
     have H':=z1.mk H
     clear H
     have p115 : 0 ≤ (x37_2 : Int):=of_decide_eq_true zz74
     have q115 : x37_2 < (t112.length : Int):=of_decide_eq_true zz74
     obtain ⟨ad115,e115,hx115_0⟩:=Kd.z4Y (Kd.zL HO_35.out).2.2 x37_2 p115 q115
     (try rw [← Nbq49.out] at hx115_0)
     cases e115
     replace p115:=eq_true p115
     replace q115:=eq_true q115
     try go_wp2
     have n0_:=z1.mk (Kd.zO HO_1.out)
     have n1_:=z1.mk (Kd.zO HO_35.out)
     have n2_:=z1.mk (zf BK101.out)
     have n3_:=z1.mk (zf BK102.out)
     have n4_:=z1.mk (zf BK104.out)
     have n5_:=z1.mk (zf BK107.out)
     have n6_:=z1.mk (Kept.drew HK.out)
     have n7_:=z1.mk (z6 HB.out)
     clear HO_1
     clear HO_35
     clear BK101
     clear BK102
     clear BK104
     clear BK107
     clear HK
     clear HB
     have HO_1:=n0_
     have HO_35:=n1_
     have BK101:=n2_
     have BK102:=n3_
     have BK104:=n4_
     have BK107:=n5_
     have HK:=n6_
     have HB:=n7_
     clear n0_ n1_ n2_ n3_ n4_ n5_ n6_ n7_
     obtain ⟨Ao55,co55,eo55⟩:=Kd.z1p HO_1.out
     (first|subst eo55|(injection eo55 with f1_ f2_ f3_;have f4_:=f1_.symm;have f5_:=f3_.symm;clear f1_ f2_ f3_;subst f4_;subst f5_))
     have p116 : 0 ≤ (x37_2 : Int):=of_decide_eq_true zz74
     have q116 : x37_2 < (x1_2.length : Int):=of_decide_eq_true zz74
     obtain ⟨ad116,e116,hx116_0,hx116_1⟩:=z2j (Kd.zL HO_1.out).2.2 x37_2 p116 q116
     cases e116
     replace p116:=eq_true p116
     replace q116:=eq_true q116
     refine start_ (n:=10) (S:=fun w'=>w'.cell? ⟨gb107,0,none⟩ = some (.int .u64 x108000_2) ∧ w'.cell? ⟨gb107,1,none⟩ = some (.int .u64 x108001_2) ∧ w'.cell? (ad116.add ((x37_2).toNat * 2)) = some (.int .u64 ((rd_T30 x1_2 x37_2).f0)) ∧ w'.cell? ⟨(ad116.add ((x37_2).toNat * 2)).block,(ad116.add ((x37_2).toNat * 2)).off + 1,none⟩ = some (.int .u64 ((rd_T30 x1_2 x37_2).f1))) (ds:=[9]) #[false,false,false,false,false,false,false,false,false,false] zz78 rfl rfl ⟨(zc BK107.out 0).trans rfl,(zc BK107.out 1).trans rfl,hx116_0,hx116_1⟩ (fun hHeld=>?_);refine z22 zq.tab10 zq.bits10 (fun HT_ HW_=>?_)
     generalize wr.drew = w54 at HO_1 HO_35 BK101 BK102 BK104 BK107 HK HB hx116_0 hx116_1 hHeld ⊢
     refine pure_ (i:=0) (N:=some 43) (v:=?_) (a':=?_) #[true,false,false,false,false,false,false,false,false,false] rfl rfl (z1e HT_.out zz78) (fun _ _ _ h=>h) (Or.inl ⟨by rfl,?_⟩) ?_ ?_
     rotate_left
     · intro w'
       go_simp
       with_reducible rfl
     rotate_left
     · simp only [Act.put,List.setIfInBounds_toArray,List.set_cons_zero,List.set_cons_succ,zS,zZ]
       rfl
     refine pure_ (i:=1) (N:=some 44) (v:=?_) (a':=?_) #[true,true,false,false,false,false,false,false,false,false] rfl rfl (z1e HT_.out zz78) (fun _ _ _ h=>h) (Or.inl ⟨by rfl,?_⟩) ?_ ?_
     rotate_left
     · intro w'
       go_simp
       with_reducible rfl
     rotate_left
     · simp only [Act.put,List.setIfInBounds_toArray,List.set_cons_zero,List.set_cons_succ,zS,zZ]
       rfl
     refine pure_ (i:=2) (N:=some 45) (v:=?_) (a':=?_) #[true,true,true,false,false,false,false,false,false,false] rfl rfl (z1e HT_.out zz78) (fun _ _ _ h=>h) (Or.inl ⟨by rfl,?_⟩) ?_ ?_
     rotate_left
     · intro w'
       go_simp
       with_reducible rfl
     rotate_left
     · simp only [Act.put,List.setIfInBounds_toArray,List.set_cons_zero,List.set_cons_succ,zS,zZ]
       rfl
     refine pure_ (i:=3) (N:=some 46) (v:=?_) (a':=?_) #[true,true,true,true,false,false,false,false,false,false] rfl rfl (z1e HT_.out zz78) (fun _ _ _ h=>h) (Or.inl ⟨by rfl,?_⟩) ?_ ?_
     rotate_left
     · intro w'
       go_simp
       with_reducible rfl
     rotate_left
     · simp only [Act.put,List.setIfInBounds_toArray,List.set_cons_zero,List.set_cons_succ,zS,zZ]
       rfl
     refine pure_ (i:=4) (N:=some 47) (v:=?_) (a':=?_) #[true,true,true,true,true,false,false,false,false,false] rfl rfl (z1e HT_.out zz78) (fun _ _ _ h=>h) (Or.inl ⟨by rfl,?_⟩) ?_ ?_
     rotate_left
     · intro w'
       go_simp
       with_reducible rfl
     rotate_left
     · simp only [Act.put,List.setIfInBounds_toArray,List.set_cons_zero,List.set_cons_succ,zS,zZ]
       rfl
     refine take_ (i:=5) (N:=some 48) (v:=?_) (a':=?_) #[true,true,true,true,true,true,false,false,false,false] rfl rfl (z1I HT_.out HW_.out zz78) (fun _ _ _ h=>h) (Or.inl ⟨by rfl,?_⟩) hHeld ?_ ?_
     rotate_left
     · rintro w' ⟨s0,s1,s2,s3⟩
       go_simp
       with_reducible rfl
     rotate_left
     · simp only [Act.put,List.setIfInBounds_toArray,List.set_cons_zero,List.set_cons_succ,zS,zZ]
       rfl
     refine take_ (i:=6) (N:=some 49) (v:=?_) (a':=?_) #[true,true,true,true,true,true,true,false,false,false] rfl rfl (z1I HT_.out HW_.out zz78) (fun _ _ _ h=>h) (Or.inl ⟨by rfl,?_⟩) hHeld ?_ ?_
     rotate_left
     · rintro w' ⟨s0,s1,s2,s3⟩
       go_simp
       with_reducible rfl
     rotate_left
     · simp only [Act.put,List.setIfInBounds_toArray,List.set_cons_zero,List.set_cons_succ,zS,zZ]
       rfl
     refine one_ (i:=7) (N:=some 50) #[true,true,true,true,true,true,true,true,false,false] rfl rfl (z1J HT_.out zz78) zz79 (fun K hK=>?_)
     refine goes_ Try.func64 zz78 rfl #[.agg #[.int .u64 ((rd_T30 x1_2 x37_2).f0),.int .u64 ((rd_T30 x1_2 x37_2).f1)],.agg #[.int .u64 x108000_2,.int .u64 x108001_2]] zz82 rfl rfl zz27 ?_
     with_reducible refine (z1L.calls ((rd_T30 x1_2 x37_2).f0) ((rd_T30 x1_2 x37_2).f1) x108000_2 x108001_2 t117 t118 _ A52.out).mono ?_
     rintro e w56 ⟨rfl,hb⟩
     have HS2_:=(hb.cell (World.block_lt_of_cell? _ _ (hHeld.2.2.1))).trans (hHeld.2.2.1)
     have HS3_:=(hb.cell (World.block_lt_of_cell? _ _ (hHeld.2.2.2))).trans (hHeld.2.2.2)
     refine ⟨_,rfl,?_⟩
     have n0_:=z1.mk (Kd.zJ zz54 hb)
     have n1_:=z1.mk (Kd.zJ (by (with_reducible repeat (first|apply Kd.zC|apply Kd.zD|apply Kd.zO));exact HO_35.out) hb)
     have n2_:=z1.mk (zg (g:=gb101) (o:=.cells #[.int .u64 x102000_2,.int .u64 x102001_2] 30 (0,0)) zz29 hb)
     have n3_:=z1.mk (zg (g:=gb102) (o:=.cells #[.int .u64 x103000_2,.int .u64 x103001_2] 30 (0,0)) zz30 hb)
     have n4_:=z1.mk (zg (g:=gb104) (o:=.cells #[.int .u64 x105000_2,.int .u64 x105001_2] 30 (0,0)) zz32 hb)
     have n5_:=z1.mk (zg (g:=gb107) (o:=.cells #[.int .u64 x108000_2,.int .u64 x108001_2] 30 (0,0)) zz33 hb)
     have n6_:=z1.mk (Kept.below (S:=(fun k_=>P1_ k_)) zz13 hb)
     have n7_:=z1.mk (z4 zz16 hb)
     clear HO_1
     clear HO_35
     clear BK101
     clear BK102
     clear BK104
     clear BK107
     clear HK
     clear HB
     have HO_1:=n0_
     have HO_35:=n1_
     have BK101:=n2_
     have BK102:=n3_
     have BK104:=n4_
     have BK107:=n5_
     have HK:=n6_
     have HB:=n7_
     clear n0_ n1_ n2_ n3_ n4_ n5_ n6_ n7_
     (try clear hb)
     (try clear hb2)
     (try clear hk)
     (try clear hi)
     have p53 : 0 ≤ (x37_2 : Int):=of_decide_eq_true zz74
     have q53 : (x37_2 : Int) < ((x1_2.length : Int) : Int):=of_decide_eq_true zz74
     obtain ⟨go53,co53,eo53,gb53,gl53,cl53,HG53⟩:=Kd.z5k HO_1.out zz80
     (first|cases eo53|(injection eo53 with ea_ en_ ec_;(first|subst ea_|(injection ea_ with ea_;subst ea_));subst ec_;clear en_))
     have GB53:=z1.mk gb53
     have GG53:=z1.mk HG53
     clear gb53 gl53 HG53
     have HMgo53:=z1.mk (show (P1_ go53 ∨ w.heap.size ≤ go53) from (HO_1.out.1 _ rfl).1)
     (first|simp only [z2p] at hx116_0|skip)
     (first|simp only [z2p] at hx116_1|skip)
     obtain ⟨ce53,hcl53,hM53,hcc53,hfr53⟩:=Kd.z3g HO_1.out z30 (x37_2 : Int) p53 q53
     obtain rfl:=z1Y hM53
     have hx53_0 : World.cell? _ ⟨go53,(x37_2 : Int).toNat * 2,none⟩ = some (.int .u64 ((rd_T30 x1_2 x37_2).f0)):=hcc53 0 _ rfl
     have hx53_1 : World.cell? _ ⟨go53,(x37_2 : Int).toNat * 2 + 1,none⟩ = some (.int .u64 ((rd_T30 x1_2 x37_2).f1)):=hcc53 1 _ rfl
     have hf53_0 : World.frozen? _ ⟨go53,(x37_2 : Int).toNat * 2,none⟩ = false:=hfr53 0
     have hf53_1 : World.frozen? _ ⟨go53,(x37_2 : Int).toNat * 2 + 1,none⟩ = false:=hfr53 1
     clear hcl53 hcc53 hfr53 hM53
     replace p53:=eq_true p53
     replace q53:=eq_true q53
     obtain ⟨ce57,hcl57,hM57,hcc57,hfr57⟩:=Kd.z3g HO_1.out z30 (x37_2 : Int) (of_decide_eq_true zz74) (by have h_ : (x37_2 : Int) < ((x1_2.length : Int) : Int):=of_decide_eq_true zz74;first|exact h_|(have e_:=(Kd.zL HO_1.out).1;omega)|simpa using h_)
     obtain rfl:=z1Y hM57
     have HP57:=(Kd.z6O HO_1.out (x37_2 : Int) (of_decide_eq_true zz74) (by have h_ : (x37_2 : Int) < ((x1_2.length : Int) : Int):=of_decide_eq_true zz74;first|exact h_|(have e_:=(Kd.zL HO_1.out).1;omega)|simpa using h_) (seg:=[.int .u64 t117,.int .u64 t118]) (j:=0) hcl57 hcc57 (show 2 ≤ 2 from by decide) (x':=(⟨t117,t118⟩ : S30)) (z2F _ _ _ (⟨t117,t118⟩ : S30) ) (fun _ hk=>hk)).1
     rw [← Ny119.out] at HP57
     have HQ57:=z1.mk HP57
     clear hcl57 hcc57 hfr57 hM57 HP57
     refine hK.out _ _ ⟨(zc BK107.out 0).trans rfl,(zc BK107.out 1).trans rfl,HS2_,HS3_⟩ (fun hHeld=>?_)
     clear hK K
     refine norm_ (a':=?_) ?_ ?_
     rotate_left
     · show Act.put _ (some 50) _ = _
       simp only [Act.put,List.setIfInBounds_toArray,List.set_cons_zero,List.set_cons_succ,zS,zZ]
       rfl
     refine pure_ (i:=8) (N:=some 51) (v:=?_) (a':=?_) #[true,true,true,true,true,true,true,true,true,false] rfl rfl (z1e HT_.out zz78) (fun _ _ _ h=>h) (Or.inl ⟨by rfl,?_⟩) ?_ ?_
     rotate_left
     · intro w'
       go_simp
       with_reducible rfl
     rotate_left
     · simp only [Act.put,List.setIfInBounds_toArray,List.set_cons_zero,List.set_cons_succ,zS,zZ]
       rfl
     refine last_ (i:=9) (N:=none) #[true,true,true,true,true,true,true,true,true,true] rfl rfl (z1J HT_.out zz78) zz79 (fun K hK=>?_)
     refine skip_ (w1:=?_) zz82 rfl ?_ ?_
     rotate_left
     · go_simp
       rfl
     refine hK.out _ _ ?_
     clear hK K
     refine done_ (z2q HT_.out zz78) ?_
     try go_wp2
     go_roundg k2
     case measure=>have:=HK1.out;have:=HK2.out;omega
     case rel=>exact ⟨(y119),(wrap64 (x37_2 + 1)),(x102000_2),(x102001_2),(x103000_2),(x103001_2),(x105000_2),(x105001_2),(x108000_2),(x108001_2),zz75,H',⟨by have:=HK1.out;have:=HK2.out;omega⟩,⟨by (with_reducible repeat (first|apply Kd.zC|apply Kd.zD|apply Kd.zO));exact HQ57.out⟩,⟨by (with_reducible repeat (first|apply Kd.zC|apply Kd.zD|apply Kd.zO));exact Kd.z16 (Kd.z2u (p:=⟨go53,(x37_2 : Int).toNat * 2 + 1,none⟩) (Kd.z2u (p:=⟨go53,(x37_2 : Int).toNat * 2,none⟩) (Kd.z6P HO_35.out GG53.out zz79) (fun _ hk=>hk.2) (.int .u64 t117)) (fun _ hk=>hk.2) (.int .u64 t118)) (fun _ hk=>hk.1)⟩,⟨by (with_reducible repeat (first|refine zb ?_ _|refine zf ?_|refine za ?_ _));refine z1a ?_ zz71 _;(with_reducible repeat (first|refine zb ?_ _|refine zf ?_|refine za ?_ _));refine z1a ?_ zz71 _;(with_reducible repeat (first|refine zb ?_ _|refine zf ?_|refine za ?_ _));exact BK101.out⟩,⟨by (with_reducible repeat (first|refine zb ?_ _|refine zf ?_|refine za ?_ _));refine z1a ?_ zz66 _;(with_reducible repeat (first|refine zb ?_ _|refine zf ?_|refine za ?_ _));refine z1a ?_ zz66 _;(with_reducible repeat (first|refine zb ?_ _|refine zf ?_|refine za ?_ _));exact BK102.out⟩,⟨by (with_reducible repeat (first|refine zb ?_ _|refine zf ?_|refine za ?_ _));refine z1a ?_ zz64 _;(with_reducible repeat (first|refine zb ?_ _|refine zf ?_|refine za ?_ _));refine z1a ?_ zz64 _;(with_reducible repeat (first|refine zb ?_ _|refine zf ?_|refine za ?_ _));exact BK104.out⟩,⟨by (with_reducible repeat (first|refine zb ?_ _|refine zf ?_|refine za ?_ _));refine z1a ?_ zz65 _;(with_reducible repeat (first|refine zb ?_ _|refine zf ?_|refine za ?_ _));refine z1a ?_ zz65 _;(with_reducible repeat (first|refine zb ?_ _|refine zf ?_|refine za ?_ _));exact BK107.out⟩,⟨by repeat (first|(with_reducible first|exact HK.out|apply Kept.alloc|apply Kept.drewN|apply Kept.drew|refine Kept.setCell ?_ HMgo53.out _|refine Kept.setCell ?_ HMgo53.out _|refine Kept.setCell ?_ (.inr GW101.out) _|refine Kept.setCell ?_ (.inr GW102.out) _|refine Kept.setCell ?_ (.inr GW104.out) _|refine Kept.setCell ?_ (.inr GW107.out) _)|exact HK.out)⟩,⟨by repeat (first|(with_reducible first|exact HB.out|apply z7|apply z2|apply z6|refine zd ?_ GB53.out|refine zd ?_ GB53.out|refine zd ?_ GE101.out|refine zd ?_ GE102.out|refine zd ?_ GE104.out|refine zd ?_ GE107.out)|exact HB.out)⟩⟩
end Go.Proofs.Ytkhmpaooinpfoaa.P
namespace Go.Proofs.Ytkhmpaooinpfoaa.P
open Go.RowKit Go.Proofs.YtkhmpaooinpfoaaW.PrintWords Go.Proofs.YtkhmpaooinpfoaaW.PrintLast Go.Proofs.YtkhmpaooinpfoaaW.PrintMore
attribute [local go_sem] z12 z14 z1b z1c zW zX z13 z15   -- for this text's walks alone
set_option linter.unusedVariables false
set_option linter.unusedSimpArgs false
def zB.l0 : Nat → Int → List (S30) → List (S30) → List (S30) → Int → Int → Option ((List (S30)) × Int)
 | 0,_,_,_,_,_,_=>none
 | k + 1,x0,x1,x9,x23,x24,x25=>if x25 < x24 then (if 0 ≤ x25 then (if x25 < (x23.length : Int) then ((zI.f k x25).bind fun bt111=>((zq.f k x0 x9 x1 bt111.1 bt111.2 ((rd_T30 x23 x25).f0) ((rd_T30 x23 x25).f1)).bind fun t113=>(zB.l0 k x0 x1 t113 x23 x24 (wrap64 (x25 + 1))))) else (none)) else (none)) else (some (x9,0))
def zB.f (k : Nat) (a0 : Int) (l1 : List (S30)) (l2 : List (S30)) : Option ((List (S30)) × Int):=(zv.f k a0 (([l1,l2] : List (List (S30)))) ([] : List (S30))).bind fun t104=>(if t104 = 0 then ((zP.f k a0).bind fun t105=>(if 0 ≤ t105 then (if (t105 : Int).toNat ≤ 17592186044416 then (zB.l0 k a0 l1 (List.replicate (t105 : Int).toNat z30) l2 (l2.length : Int) 0) else (none)) else (none))) else (some (([] : List (S30)),t104)))
theorem zB.z17 : ∀ k,(∀ y0 y1 y2 y3 y4 y5,LeO (zB.l0 k y0 y1 y2 y3 y4 y5) (zB.l0 (k + 1) y0 y1 y2 y3 y4 y5))
 | 0=>fun _ _ _ _ _ _ r h=>by simp [zB.l0] at h
 | k + 1=>by
  have ih0:=zB.z17 k
  · intro y0 y1 y2 y3 y4 y5
    unfold zB.l0
    repeat' first
    | (with_reducible exact ih0 _ _ _ _ _ _)
    | (with_reducible exact zv.mono _ _ _ _)
    | (with_reducible exact zq.mono _ _ _ _ _ _ _ _)
    | (with_reducible exact zP.mono _ _)
    | (with_reducible exact zI.mono _ _)
    | (with_reducible exact LeO.refl _)
    | (with_reducible exact LeO.none _)
    | (with_reducible refine LeO.ite ?_ ?_)
    | (with_reducible refine LeO.bind ?_ (fun _=>?_))
    | exact ih0 _ _ _ _ _ _
    | exact zv.mono _ _ _ _
    | exact zq.mono _ _ _ _ _ _ _ _
    | exact zP.mono _ _
    | exact zI.mono _ _
    | exact LeO.none _
    | refine LeO.ite ?_ ?_
    | refine LeO.bind ?_ (fun _=>?_)
theorem zB.mono : ∀ a0 a1 a2 k,LeO (zB.f k a0 a1 a2) (zB.f (k + 1) a0 a1 a2):=by
 intro a0 a1 a2 k
 have ih0:=zB.z17 k
 unfold zB.f
 repeat' first
  | (with_reducible exact ih0 _ _ _ _ _ _)
  | (with_reducible exact zv.mono _ _ _ _)
  | (with_reducible exact zq.mono _ _ _ _ _ _ _ _)
  | (with_reducible exact zP.mono _ _)
  | (with_reducible exact zI.mono _ _)
  | (with_reducible exact LeO.refl _)
  | (with_reducible exact LeO.none _)
  | (with_reducible refine LeO.ite ?_ ?_)
  | (with_reducible refine LeO.bind ?_ (fun _=>?_))
  | exact ih0 _ _ _ _ _ _
  | exact zv.mono _ _ _ _
  | exact zq.mono _ _ _ _ _ _ _ _
  | exact zP.mono _ _
  | exact zI.mono _ _
  | exact LeO.none _
  | refine LeO.ite ?_ ?_
  | refine LeO.bind ?_ (fun _=>?_)
set_option maxHeartbeats 8000000 in
set_option maxRecDepth 100000 in
theorem zB.calls (k : Nat) (a0 : Int) (P1_ : Nat → Prop) (A1 : Option Addr) (c1 : Nat) (l1 : List (S30)) (P2_ : Nat → Prop) (A2 : Option Addr) (c2 : Nat) (l2 : List (S30)) (r1 : List (S30)) (r2 : Int) (w : World) (hs1 : Kd.V k30 30 w w.heap.size (fun k_=>P1_ k_) (.slice A1 l1.length c1) l1) (hs2 : Kd.V k30 30 w w.heap.size (fun k_=>P2_ k_) (.slice A2 l2.length c2) l2) (h : zB.f k a0 l1 l2 = some (r1,r2)) :
 Calls Try.prog 41 #[.int .i64 a0,.slice A1 l1.length c1,.slice A2 l2.length c2] w fun e w'=>∃ v0_ : Value,e = .returned (.tuple #[v0_,.int .i64 r2]) ∧ Kd.R k30 30 w' w.heap.size (fun k_=>(w.heap.size ≤ k_)) v0_ r1 ∧ Below w.heap.size w w':=by
 have hu30:=Try.underlying30
 have HO1:=z1.mk (show Kd.V k30 30 w w.heap.size (fun k_=>((P1_ k_ ∨ P2_ k_) ∨ w.heap.size ≤ k_)) (.slice A1 l1.length c1) l1 from Kd.z1o hs1 (fun k_ hk=>.inl (.inl hk)))
 have HO2:=z1.mk (show Kd.V k30 30 w w.heap.size (fun k_=>((P1_ k_ ∨ P2_ k_) ∨ w.heap.size ≤ k_)) (.slice A2 l2.length c2) l2 from Kd.z1o hs2 (fun k_ hk=>.inl (.inr hk)))
 have HB:=z1.mk (Below.refl w.heap.size w)
 have H : ((zv.f k a0 (([l1,l2] : List (List (S30)))) ([] : List (S30))).bind fun t104=>(if t104 = 0 then ((zP.f k a0).bind fun t105=>(if 0 ≤ t105 then (if (t105 : Int).toNat ≤ 17592186044416 then (zB.l0 k a0 l1 (List.replicate (t105 : Int).toNat z30) l2 (l2.length : Int) 0) else (none)) else (none))) else (some (([] : List (S30)),t104)))) = some (r1,r2):=h
 clear h
 obtain ⟨y101,hy101⟩ : ∃ y_ : List (List (S30)),y_ = (([l1,l2] : List (List (S30)))):=⟨_,rfl⟩
 replace H : ((zv.f k a0 y101 ([] : List (S30))).bind fun t104=>(if t104 = 0 then ((zP.f k a0).bind fun t105=>(if 0 ≤ t105 then (if (t105 : Int).toNat ≤ 17592186044416 then (zB.l0 k a0 l1 (List.replicate (t105 : Int).toNat z30) l2 (l2.length : Int) 0) else (none)) else (none))) else (some (([] : List (S30)),t104)))) = some (r1,r2):=by first|(rw [hy101];with_reducible exact H)|(have H2_:=(Option.bind_some _ _).symm.trans H;rw [hy101];with_reducible exact H2_)|(have H2_:=(Option.bind_some _ _).symm.trans H;with_reducible exact H2_)|with_reducible exact H|(rw [hy101];exact H)|exact H
 have Ny101:=z1.mk hy101
 clear hy101
 replace H:=Option.bind_eq_some_iff.mp H
 obtain ⟨t104,A40,H⟩:=H
 replace H : (if t104 = 0 then ((zP.f k a0).bind fun t105=>(if 0 ≤ t105 then (if (t105 : Int).toNat ≤ 17592186044416 then (zB.l0 k a0 l1 (List.replicate (t105 : Int).toNat z30) l2 (l2.length : Int) 0) else (none)) else (none))) else (some (([] : List (S30)),t104))) = some (r1,r2):=H
 have A4:=z1.mk A40
 clear A40
 by_cases c5 : t104 = 0
 rotate_left
 · rw [if_neg c5] at H
   have c5b0 : (t104 == 0) = false:=beq_eq_false_iff_ne.mpr c5
   have c5b1 : (t104 != 0) = true:=bne_iff_ne.mpr c5
   simp only [Option.some.injEq,Prod.mk.injEq] at H
   obtain ⟨rfl,rfl⟩:=H
   go_enter Try.func41,Try.ntmps41
   go_wp2_with (first|((with_reducible refine zF (N:=15) rfl ?_);refine Kd.z5j (Kd.slice 30 k30) _ 80 ?hg (N':=15) ?hd (xs:=([l1,l2] : List (List (S30)))) (inner:=[.slice A1 l1.length c1,.slice A2 l2.length c2]) (ok:=(fun k_=>((P1_ k_ ∨ P2_ k_) ∨ w.heap.size ≤ k_))) (okp:=(fun k_=>((P1_ k_ ∨ P2_ k_) ∨ w.heap.size ≤ k_))) ?hr ?hp (fun _ hk=>hk) ((show ∀ k_,w.heap.size ≤ k_ → (fun k_=>((P1_ k_ ∨ P2_ k_) ∨ w.heap.size ≤ k_)) k_ from fun k_ hk=>(.inr (Nat.le_trans (z5 zz28) hk))) _ (Nat.le_refl _)) (Below.refl _ _) (Nat.le_refl _) zz81 ?_;(case hd=>rfl);(case hg=>rfl);(case hr=>first|(go_simp;done)|(go_simp;rfl));(case hp=>exact (Reps.one (show Kd.FK (Kd.slice 30 k30) _ _ l1 [.slice A1 l1.length c1] from (Kd.z1A (Kd.z1t (Kd.z1o (ok':=(fun k_=>((P1_ k_ ∨ P2_ k_) ∨ w.heap.size ≤ k_))) (HO1.out) (fun k_ hk=>hk))).2.1 (Kd.V_F (Kd.z1o (ok':=(fun k_=>((P1_ k_ ∨ P2_ k_) ∨ w.heap.size ≤ k_))) zz61 (fun k_ hk=>hk))))) (Reps.one (show Kd.FK (Kd.slice 30 k30) _ _ l2 [.slice A2 l2.length c2] from (Kd.z1A (Kd.z1t (Kd.z1o (ok':=(fun k_=>((P1_ k_ ∨ P2_ k_) ∨ w.heap.size ≤ k_))) (HO2.out) (fun k_ hk=>hk))).2.1 (Kd.V_F (Kd.z1o (ok':=(fun k_=>((P1_ k_ ∨ P2_ k_) ∨ w.heap.size ≤ k_))) zz62 (fun k_ hk=>hk))))) (Reps.none _ _))));intro v102 w27 ho28 hb hg_ hnew_;clear hg_ hnew_;(first|rw [← Ny101.out] at ho28|(simp only [Int.reduceToNat] at ho28;rw [← Ny101.out] at ho28));have n0_:=z1.mk (Kd.z1q zz61 (Kd.z2v ho28) hb);have n1_:=z1.mk (Kd.z1q zz62 (Kd.z2v ho28) hb);have n2_:=z1.mk (Kd.z2W ho28 (z5 zz28));have n3_:=z1.mk (z4 zz28 hb);clear HO1;clear HO2;clear HB;have HO1:=n0_;have HO2:=n1_;have HO103:=n2_;have HB:=n3_;clear n0_ n1_ n2_ n3_;clear hb ho28;obtain ⟨Ao29,co29,eo29⟩:=Kd.z2X HO103.out;subst eo29)|((with_reducible refine zl (f:=90) rfl ?_);refine goesL_ (some 16) rfl rfl Try.func90 zz78 rfl #[.int .i64 a0,.slice Ao29 y101.length co29,.slice none 0 0] rfl zz27 ?_;(refine (zv.calls k a0 _ _ y101 _ _ ([] : List (S30)) t104 _ ?side1 ?side2 ?side3 ?side4 A4.out).mono ?_);(case side1=>repeat (first|exact (Kd.z1T HO103.out).2.2|(with_reducible refine Kd.z1h ?_ _)|(with_reducible refine Kd.z1i ?_ _)|(with_reducible refine Kd.z1y ?_)));(case side2=>exact (Kd.z1T HO103.out).2.1);(case side3=>exact Kd.z5i _ _);(case side4=>exact Nat.le_refl _);rintro e w30 ⟨rfl,hb⟩;refine ⟨_,rfl,?_⟩;have n0_:=z1.mk (Kd.z1O zz61 hb);have n1_:=z1.mk (Kd.z1O zz62 hb);have n2_:=z1.mk (Kd.z2d zz37 hb);have n3_:=z1.mk (z4 zz28 hb);clear HO1;clear HO2;clear HO103;clear HB;have HO1:=n0_;have HO2:=n1_;have HO103:=n2_;have HB:=n3_;clear n0_ n1_ n2_ n3_;(try clear hb);(try clear hb2);(try clear hk);(try clear hi)))
   go_ret2
   exact ⟨_,by first|rfl|(simp [zi,zj] <;> rfl)|(simp [*,zi,zj] <;> rfl),by first|exact Kd.z3f _ _ _ _ _|exact Kd.z3P _ _ _ _ _|exact Kd.z3S _ _ _ _ _|exact Kd.z3Q _ _ _ _ _|exact Kd.z3R _ _ _ _ _,by repeat (first|(with_reducible first|exact HB.out|apply z7|apply z2|apply z6)|exact HB.out)⟩
 rw [if_pos c5] at H
 have c5b0 : (t104 == 0) = true:=beq_iff_eq.mpr c5
 have c5b1 : (t104 != 0) = false:=bne_eq_false_iff_eq.mpr c5
 clear c5
 replace H:=Option.bind_eq_some_iff.mp H
 obtain ⟨t105,A60,H⟩:=H
 replace H : (if 0 ≤ t105 then (if (t105 : Int).toNat ≤ 17592186044416 then (zB.l0 k a0 l1 (List.replicate (t105 : Int).toNat z30) l2 (l2.length : Int) 0) else (none)) else (none)) = some (r1,r2):=H
 have A6:=z1.mk A60
 clear A60
 by_cases c7 : 0 ≤ t105
 rotate_left
 · rw [if_neg c7] at H
   exact absurd H zz81
 rw [if_pos c7] at H
 have c7b0:=eq_true c7
 have c7b1 : decide (0 ≤ t105) = true:=decide_eq_true c7
 clear c7
 by_cases c8 : (t105 : Int).toNat ≤ 17592186044416
 rotate_left
 · rw [if_neg c8] at H
   exact absurd H zz81
 rw [if_pos c8] at H
 have c8b0:=eq_true c8
 have c8b1 : decide ((t105 : Int).toNat ≤ 17592186044416) = true:=decide_eq_true c8
 clear c8
 obtain ⟨y106,hy106⟩ : ∃ y_ : List (S30),y_ = (List.replicate (t105 : Int).toNat z30):=⟨_,rfl⟩
 replace H : (zB.l0 k a0 l1 y106 l2 (l2.length : Int) 0) = some (r1,r2):=by first|(rw [hy106];with_reducible exact H)|(have H2_:=(Option.bind_some _ _).symm.trans H;rw [hy106];with_reducible exact H2_)|(have H2_:=(Option.bind_some _ _).symm.trans H;with_reducible exact H2_)|with_reducible exact H|(rw [hy106];exact H)|exact H
 have Ny106:=z1.mk hy106
 clear hy106
 have H':=z1.mk H
 clear H
 go_enter Try.func41,Try.ntmps41
 go_wp2_with (first|((with_reducible refine zF (N:=15) rfl ?_);refine Kd.z5j (Kd.slice 30 k30) _ 80 ?hg (N':=15) ?hd (xs:=([l1,l2] : List (List (S30)))) (inner:=[.slice A1 l1.length c1,.slice A2 l2.length c2]) (ok:=(fun k_=>((P1_ k_ ∨ P2_ k_) ∨ w.heap.size ≤ k_))) (okp:=(fun k_=>((P1_ k_ ∨ P2_ k_) ∨ w.heap.size ≤ k_))) ?hr ?hp (fun _ hk=>hk) ((show ∀ k_,w.heap.size ≤ k_ → (fun k_=>((P1_ k_ ∨ P2_ k_) ∨ w.heap.size ≤ k_)) k_ from fun k_ hk=>(.inr (Nat.le_trans (z5 zz28) hk))) _ (Nat.le_refl _)) (Below.refl _ _) (Nat.le_refl _) zz81 ?_;(case hd=>rfl);(case hg=>rfl);(case hr=>first|(go_simp;done)|(go_simp;rfl));(case hp=>exact (Reps.one (show Kd.FK (Kd.slice 30 k30) _ _ l1 [.slice A1 l1.length c1] from (Kd.z1A (Kd.z1t (Kd.z1o (ok':=(fun k_=>((P1_ k_ ∨ P2_ k_) ∨ w.heap.size ≤ k_))) (HO1.out) (fun k_ hk=>hk))).2.1 (Kd.V_F (Kd.z1o (ok':=(fun k_=>((P1_ k_ ∨ P2_ k_) ∨ w.heap.size ≤ k_))) zz61 (fun k_ hk=>hk))))) (Reps.one (show Kd.FK (Kd.slice 30 k30) _ _ l2 [.slice A2 l2.length c2] from (Kd.z1A (Kd.z1t (Kd.z1o (ok':=(fun k_=>((P1_ k_ ∨ P2_ k_) ∨ w.heap.size ≤ k_))) (HO2.out) (fun k_ hk=>hk))).2.1 (Kd.V_F (Kd.z1o (ok':=(fun k_=>((P1_ k_ ∨ P2_ k_) ∨ w.heap.size ≤ k_))) zz62 (fun k_ hk=>hk))))) (Reps.none _ _))));intro v102 w9 ho10 hb hg_ hnew_;clear hg_ hnew_;(first|rw [← Ny101.out] at ho10|(simp only [Int.reduceToNat] at ho10;rw [← Ny101.out] at ho10));have n0_:=z1.mk (Kd.z1q zz61 (Kd.z2v ho10) hb);have n1_:=z1.mk (Kd.z1q zz62 (Kd.z2v ho10) hb);have n2_:=z1.mk (Kd.z2W ho10 (z5 zz28));have n3_:=z1.mk (z4 zz28 hb);clear HO1;clear HO2;clear HB;have HO1:=n0_;have HO2:=n1_;have HO103:=n2_;have HB:=n3_;clear n0_ n1_ n2_ n3_;clear hb ho10;obtain ⟨Ao11,co11,eo11⟩:=Kd.z2X HO103.out;subst eo11)|((with_reducible refine zl (f:=90) rfl ?_);refine goesL_ (some 16) rfl rfl Try.func90 zz78 rfl #[.int .i64 a0,.slice Ao11 y101.length co11,.slice none 0 0] rfl zz27 ?_;(refine (zv.calls k a0 _ _ y101 _ _ ([] : List (S30)) t104 _ ?side1 ?side2 ?side3 ?side4 A4.out).mono ?_);(case side1=>repeat (first|exact (Kd.z1T HO103.out).2.2|(with_reducible refine Kd.z1h ?_ _)|(with_reducible refine Kd.z1i ?_ _)|(with_reducible refine Kd.z1y ?_)));(case side2=>exact (Kd.z1T HO103.out).2.1);(case side3=>exact Kd.z5i _ _);(case side4=>exact Nat.le_refl _);rintro e w12 ⟨rfl,hb⟩;refine ⟨_,rfl,?_⟩;have n0_:=z1.mk (Kd.z1O zz61 hb);have n1_:=z1.mk (Kd.z1O zz62 hb);have n2_:=z1.mk (Kd.z2d zz37 hb);have n3_:=z1.mk (z4 zz28 hb);clear HO1;clear HO2;clear HO103;clear HB;have HO1:=n0_;have HO2:=n1_;have HO103:=n2_;have HB:=n3_;clear n0_ n1_ n2_ n3_;(try clear hb);(try clear hb2);(try clear hk);(try clear hi))|((with_reducible refine zl (f:=92) rfl ?_);refine goesL_ (some 21) rfl rfl Try.func92 zz78 rfl #[.int .i64 a0] rfl zz27 ?_;(with_reducible refine (zP.calls k a0 t105 _ A6.out).mono ?_);rintro e w' ⟨rfl,⟨nd,rfl⟩⟩;refine ⟨_,rfl,?_⟩)|((with_reducible refine zF (N:=22) rfl ?_);refine Kd.z62 k30 _ 30 rfl (N:=22) rfl 80 _ _ rfl t105 rfl rfl Try.underlying80 (.agg #[(.int .u64 0),(.int .u64 0)]) 16 info30 rfl zz79 zz80 z30 (ok:=fun _=>True) (okp:=fun _=>True) (z2F _ _ _ z30 ) (fun _ hk=>hk) trivial (of_decide_eq_true zz74) (Nat.le_trans (Nat.mul_le_mul_right _ (of_decide_eq_true zz74 : t105.toNat ≤ 17592186044416)) zz80) (Below.refl _ _) (Nat.le_refl _) ?_;intro v107 w13 ho14 hb hg_ hnew_;clear hg_ hnew_;(first|rw [← Ny106.out] at ho14|(simp only [Int.reduceToNat] at ho14;rw [← Ny106.out] at ho14));have n0_:=z1.mk (Kd.z1q zz61 (Kd.z1j ho14) hb);have n1_:=z1.mk (Kd.z1q zz62 (Kd.z1j ho14) hb);have n2_:=z1.mk (Kd.z2w zz37 (Kd.z1j ho14) hb);have n3_:=z1.mk (Kd.z1l (Kd.z2I (M:=fun k_=>(w.heap.size ≤ k_)) ho14 (z5 zz28) (fun k_ h_=>h_)) (z5 zz28));have n4_:=z1.mk (z4 zz28 hb);clear HO1;clear HO2;clear HO103;clear HB;have HO1:=n0_;have HO2:=n1_;have HO103:=n2_;have HO108:=n3_;have HB:=n4_;clear n0_ n1_ n2_ n3_ n4_;clear hb ho14))
 go_loopg [25] k (fun kq v25 w'=>∃ (x9_1 : List (S30)) (x25_1 : Int),v25 = .int .i64 x25_1 ∧ z1 (zB.l0 kq a0 l1 x9_1 l2 (l2.length : Int) x25_1 = some (r1,r2)) ∧ z1 (kq ≤ k) ∧ z1 (Kd.V k30 30 w' w.heap.size (fun k_=>((P1_ k_ ∨ P2_ k_) ∨ w.heap.size ≤ k_) ∧ some k_ ≠ (v107 : Value).ownBlock) (.slice A1 l1.length c1) l1) ∧ z1 (Kd.R k30 30 w' w.heap.size (fun k_=>(w.heap.size ≤ k_)) v107 x9_1) ∧ z1 (Kd.V k30 30 w' w.heap.size (fun k_=>((P1_ k_ ∨ P2_ k_) ∨ w.heap.size ≤ k_) ∧ some k_ ≠ (v107 : Value).ownBlock) (.slice A2 l2.length c2) l2) ∧ z1 (Below w.heap.size w w'))
 case atStart=>exact ⟨(y106),(0),zz75,H',⟨Nat.le_refl _⟩,⟨by (with_reducible repeat (first|apply Kd.z28|apply Kd.z29|apply Kd.z2i));exact Kd.z1o HO1.out (fun _ hk=>⟨hk.1.1,hk.2⟩)⟩,⟨by (with_reducible repeat (first|apply Kd.zC|apply Kd.zD|apply Kd.zO));exact Kd.z16 HO108.out (fun _ hk=>hk.1)⟩,⟨by (with_reducible repeat (first|apply Kd.z28|apply Kd.z29|apply Kd.z2i));exact Kd.z1o HO2.out (fun _ hk=>⟨hk.1.1,hk.2⟩)⟩,⟨by repeat (first|(with_reducible first|exact HB.out|apply z7|apply z2|apply z6)|exact HB.out)⟩⟩
 case round =>
  clear H'
  (try clear c1);(try clear c2);(try clear p2);(try clear c4);(try clear c5);(try clear c5b0);(try clear c5b1);(try clear c7);(try clear c7b0);(try clear c7b1);(try clear c8);(try clear c8b0);(try clear c8b1);(try clear c9)
  obtain ⟨x9_1,x25_1,rfl,HA,HK1,HO_1,HO_9,HO_23,HB⟩:=hrel
  cases gk with
  | zero=>exact absurd HA.out (by simp [zB.l0])
  | succ k1 =>
   have H:=HA.out
   clear HA
   simp only [zB.l0] at H
   by_cases c15 : x25_1 < (l2.length : Int)
   rotate_left
   · rw [if_neg c15] at H
     have c15b0 : decide (x25_1 < (l2.length : Int)) = false:=decide_eq_false c15
     clear c15
     simp only [Option.some.injEq,Prod.mk.injEq] at H
     obtain ⟨rfl,rfl⟩:=H
     go_wp2
     go_ret2
     exact ⟨_,by first|rfl|(simp [zi,zj] <;> rfl)|(simp [*,zi,zj] <;> rfl),by (with_reducible repeat (first|apply Kd.zC|apply Kd.zD|apply Kd.zO));exact HO_9.out,by repeat (first|(with_reducible first|exact HB.out|apply z7|apply z2|apply z6)|exact HB.out)⟩
   rw [if_pos c15] at H
   have c15b0 : decide (x25_1 < (l2.length : Int)) = true:=decide_eq_true c15
   clear c15
   by_cases c16 : 0 ≤ x25_1
   rotate_left
   · rw [if_neg c16] at H
     exact absurd H zz81
   rw [if_pos c16] at H
   have c16b0 : decide (0 ≤ x25_1) = true:=decide_eq_true c16
   clear c16
   by_cases c17 : x25_1 < (l2.length : Int)
   rotate_left
   · rw [if_neg c17] at H
     exact absurd H zz81
   rw [if_pos c17] at H
   have c17b0 : decide (x25_1 < (l2.length : Int)) = true:=decide_eq_true c17
   clear c17
   replace H:=Option.bind_eq_some_iff.mp H
   obtain ⟨⟨t111,t112⟩,A180,H⟩:=H
   replace H : ((zq.f k1 a0 x9_1 l1 t111 t112 ((rd_T30 l2 x25_1).f0) ((rd_T30 l2 x25_1).f1)).bind fun t113=>(zB.l0 k1 a0 l1 t113 l2 (l2.length : Int) (wrap64 (x25_1 + 1)))) = some (r1,r2):=H
   have A18:=z1.mk A180
   clear A180
   replace H:=Option.bind_eq_some_iff.mp H
   obtain ⟨t113,A190,H⟩:=H
   replace H : (zB.l0 k1 a0 l1 t113 l2 (l2.length : Int) (wrap64 (x25_1 + 1))) = some (r1,r2):=H
   have A19:=z1.mk A190
   clear A190
   have H':=z1.mk H
   clear H
   have p109 : 0 ≤ (x25_1 : Int):=of_decide_eq_true zz74
   have q109 : x25_1 < (l2.length : Int):=of_decide_eq_true zz74
   obtain ⟨ad109,e109,hx109_0,hx109_1⟩:=z2j (Kd.z1t HO_23.out).2.2 x25_1 p109 q109
   cases e109
   replace p109:=eq_true p109
   replace q109:=eq_true q109
   try go_wp2_with (first|((with_reducible refine zF (N:=11) rfl ?_);refine zG ?hg (N:=11) ?hd (cs:=#[.int .u64 0,.int .u64 0]) (t:=30) ?hr ?_;(case hd=>rfl);(case hg=>rfl);(case hr=>first|(go_simp;done)|(go_simp;rfl));intro gb110 hg w20 hbox hb;have n0_:=z1.mk (Kd.z1O (Kd.z4W zz55 gb110 (Nat.le_of_eq hg.symm)) hb);have n1_:=z1.mk (Kd.zJ (Kd.z1U zz56 gb110 (Nat.le_of_eq hg.symm)) hb);have n2_:=z1.mk (Kd.z1O (Kd.z4W zz38 gb110 (Nat.le_of_eq hg.symm)) hb);have n3_:=z1.mk (z4 zz28 hb);have n4_:=z1.mk (hbox);have n5_:=z1.mk ((by rw [hg];exact (z5 zz28) : w.heap.size ≤ gb110));have n6_:=z1.mk ((by rw [hg];exact (z5 zz28) : w.heap.size ≤ gb110));clear HO_1;clear HO_9;clear HO_23;clear HB;have HO_1:=n0_;have HO_9:=n1_;have HO_23:=n2_;have HB:=n3_;have BK110:=n4_;have GW110:=n5_;have GE110:=n6_;clear n0_ n1_ n2_ n3_ n4_ n5_ n6_;clear hb hbox hg;have hcz21_0 : w20.cell? ⟨gb110,0,none⟩ = some (.int .u64 0):=(zc BK110.out 0).trans rfl;have hcz21_1 : w20.cell? ⟨gb110,1,none⟩ = some (.int .u64 0):=(zc BK110.out 1).trans rfl;have hfz21_0:=z8 BK110.out 0;have hfz21_1:=z8 BK110.out 1))
   have n0_ : z1 (Kd.V k30 30 ((w20.setCell ⟨gb110,0,none⟩ (.int .u64 ((rd_T30 l2 x25_1).f0))).setCell ⟨gb110,1,none⟩ (.int .u64 ((rd_T30 l2 x25_1).f1))) w.heap.size (fun k_=>((P1_ k_ ∨ P2_ k_) ∨ w.heap.size ≤ k_) ∧ some k_ ≠ (v107 : Value).ownBlock ∧ k_ ≠ gb110) (.slice A1 l1.length c1) l1):=⟨by (with_reducible repeat (first|apply Kd.z28|apply Kd.z29|apply Kd.z2i));exact Kd.z1o (Kd.z5l (p:=⟨gb110,1,none⟩) (Kd.z5l (p:=⟨gb110,0,none⟩) (Kd.z1o HO_1.out (fun k_ hk=>(⟨hk,hk.2⟩ : _ ∧ k_ ≠ gb110))) (fun _ hk=>hk.2) (.int .u64 ((rd_T30 l2 x25_1).f0))) (fun _ hk=>hk.2) (.int .u64 ((rd_T30 l2 x25_1).f1))) (fun _ hk=>⟨hk.1.1.1,⟨hk.1.1.2,hk.1.2⟩⟩)⟩
   have n1_ : z1 (Kd.R k30 30 ((w20.setCell ⟨gb110,0,none⟩ (.int .u64 ((rd_T30 l2 x25_1).f0))).setCell ⟨gb110,1,none⟩ (.int .u64 ((rd_T30 l2 x25_1).f1))) w.heap.size (fun k_=>(w.heap.size ≤ k_) ∧ k_ ≠ gb110) v107 x9_1):=⟨by (with_reducible repeat (first|apply Kd.zC|apply Kd.zD|apply Kd.zO));exact Kd.z16 (Kd.z2u (p:=⟨gb110,1,none⟩) (Kd.z2u (p:=⟨gb110,0,none⟩) (Kd.z16 HO_9.out (fun k_ hk=>(⟨hk,hk.2⟩ : _ ∧ k_ ≠ gb110))) (fun _ hk=>hk.2) (.int .u64 ((rd_T30 l2 x25_1).f0))) (fun _ hk=>hk.2) (.int .u64 ((rd_T30 l2 x25_1).f1))) (fun _ hk=>⟨hk.1.1,hk.1.2⟩)⟩
   have n2_ : z1 (Kd.V k30 30 ((w20.setCell ⟨gb110,0,none⟩ (.int .u64 ((rd_T30 l2 x25_1).f0))).setCell ⟨gb110,1,none⟩ (.int .u64 ((rd_T30 l2 x25_1).f1))) w.heap.size (fun k_=>((P1_ k_ ∨ P2_ k_) ∨ w.heap.size ≤ k_) ∧ some k_ ≠ (v107 : Value).ownBlock ∧ k_ ≠ gb110) (.slice (some ad109) l2.length c2) l2):=⟨by (with_reducible repeat (first|apply Kd.z28|apply Kd.z29|apply Kd.z2i));exact Kd.z1o (Kd.z5l (p:=⟨gb110,1,none⟩) (Kd.z5l (p:=⟨gb110,0,none⟩) (Kd.z1o HO_23.out (fun k_ hk=>(⟨hk,hk.2⟩ : _ ∧ k_ ≠ gb110))) (fun _ hk=>hk.2) (.int .u64 ((rd_T30 l2 x25_1).f0))) (fun _ hk=>hk.2) (.int .u64 ((rd_T30 l2 x25_1).f1))) (fun _ hk=>⟨hk.1.1.1,⟨hk.1.1.2,hk.1.2⟩⟩)⟩
   have n3_ : z1 (((w20.setCell ⟨gb110,0,none⟩ (.int .u64 ((rd_T30 l2 x25_1).f0))).setCell ⟨gb110,1,none⟩ (.int .u64 ((rd_T30 l2 x25_1).f1))).heap[gb110]? = some (.cells #[.int .u64 ((rd_T30 l2 x25_1).f0),.int .u64 ((rd_T30 l2 x25_1).f1)] 30 (0,0))):=⟨by (with_reducible repeat (first|refine zb ?_ _|refine zf ?_|refine za ?_ _));refine z1m (cs:=#[.int .u64 ((rd_T30 l2 x25_1).f0),.int .u64 0]) ?_ 1 _ rfl;(with_reducible repeat (first|refine zb ?_ _|refine zf ?_|refine za ?_ _));refine z1m (cs:=#[.int .u64 0,.int .u64 0]) ?_ 0 _ rfl;(with_reducible repeat (first|refine zb ?_ _|refine zf ?_|refine za ?_ _));exact BK110.out⟩
   have n4_ : z1 (Below w.heap.size w ((w20.setCell ⟨gb110,0,none⟩ (.int .u64 ((rd_T30 l2 x25_1).f0))).setCell ⟨gb110,1,none⟩ (.int .u64 ((rd_T30 l2 x25_1).f1)))):=⟨by repeat (first|(with_reducible first|exact HB.out|apply z7|apply z2|apply z6|refine zd ?_ GE110.out)|exact HB.out)⟩
   (try clear HO_1)
   (try clear HO_9)
   (try clear HO_23)
   (try clear BK110)
   (try clear HB)
   generalize ((w20.setCell ⟨gb110,0,none⟩ (.int .u64 ((rd_T30 l2 x25_1).f0))).setCell ⟨gb110,1,none⟩ (.int .u64 ((rd_T30 l2 x25_1).f1))) = w22 at n0_ n1_ n2_ n3_ n4_ ⊢
   have HO_1:=n0_
   have HO_9:=n1_
   have HO_23:=n2_
   have BK110:=n3_
   have HB:=n4_
   clear n0_ n1_ n2_ n3_ n4_
   have n0_:=z1.mk (Kd.z2i HO_1.out)
   have n1_:=z1.mk (Kd.zO HO_9.out)
   have n2_:=z1.mk (Kd.z2i HO_23.out)
   have n3_:=z1.mk (zf BK110.out)
   have n4_:=z1.mk (z6 HB.out)
   clear HO_1
   clear HO_9
   clear HO_23
   clear BK110
   clear HB
   have HO_1:=n0_
   have HO_9:=n1_
   have HO_23:=n2_
   have BK110:=n3_
   have HB:=n4_
   clear n0_ n1_ n2_ n3_ n4_
   refine start_ (n:=7) (S:=fun w'=>w'.cell? ⟨gb110,0,none⟩ = some (.int .u64 ((rd_T30 l2 x25_1).f0)) ∧ w'.cell? ⟨gb110,1,none⟩ = some (.int .u64 ((rd_T30 l2 x25_1).f1))) (ds:=[]) #[false,false,false,false,false,false,false] zz78 rfl rfl ⟨(zc BK110.out 0).trans rfl,(zc BK110.out 1).trans rfl⟩ (fun hHeld=>?_)
   generalize w22.drew = w23 at HO_1 HO_9 HO_23 BK110 HB hHeld ⊢
   refine pure_ (i:=0) (N:=some 30) (v:=?_) (a':=?_) #[true,false,false,false,false,false,false] rfl rfl zz78 (fun _ _ _ h=>h) (Or.inl ⟨by rfl,?_⟩) ?_ ?_
   rotate_left
   · intro w'
     go_simp
     with_reducible rfl
   rotate_left
   · simp only [Act.put,List.setIfInBounds_toArray,List.set_cons_zero,List.set_cons_succ,zS,zZ]
     rfl
   refine pure_ (i:=1) (N:=some 31) (v:=?_) (a':=?_) #[true,true,false,false,false,false,false] rfl rfl zz78 (fun _ _ _ h=>h) (Or.inl ⟨by rfl,?_⟩) ?_ ?_
   rotate_left
   · intro w'
     go_simp
     with_reducible rfl
   rotate_left
   · simp only [Act.put,List.setIfInBounds_toArray,List.set_cons_zero,List.set_cons_succ,zS,zZ]
     rfl
   refine pure_ (i:=2) (N:=some 32) (v:=?_) (a':=?_) #[true,true,true,false,false,false,false] rfl rfl zz78 (fun _ _ _ h=>h) (Or.inl ⟨by rfl,?_⟩) ?_ ?_
   rotate_left
   · intro w'
     go_simp
     with_reducible rfl
   rotate_left
   · simp only [Act.put,List.setIfInBounds_toArray,List.set_cons_zero,List.set_cons_succ,zS,zZ]
     rfl
   refine pure_ (i:=3) (N:=some 33) (v:=?_) (a':=?_) #[true,true,true,true,false,false,false] rfl rfl zz78 (fun _ _ _ h=>h) (Or.inl ⟨by rfl,?_⟩) ?_ ?_
   rotate_left
   · intro w'
     go_simp
     with_reducible rfl
   rotate_left
   · simp only [Act.put,List.setIfInBounds_toArray,List.set_cons_zero,List.set_cons_succ,zS,zZ]
     rfl
   refine take_ (i:=5) (N:=some 35) (v:=?_) (a':=?_) #[true,true,true,true,false,true,false] rfl rfl zz78 (fun _ _ _ h=>h) (Or.inl ⟨by rfl,?_⟩) hHeld ?_ ?_
   rotate_left
   · rintro w' ⟨s0,s1⟩
     go_simp
     with_reducible rfl
   rotate_left
   · simp only [Act.put,List.setIfInBounds_toArray,List.set_cons_zero,List.set_cons_succ,zS,zZ]
     rfl
   refine one_ (i:=4) (N:=some 34) #[true,true,true,true,true,true,false] rfl rfl zz78 zz79 (fun K hK=>?_)
   refine goes_ Try.func94 zz78 rfl #[.int .i64 x25_1] zz82 rfl rfl zz27 ?_
   with_reducible refine (zI.calls k1 x25_1 t111 t112 _ A18.out).mono ?_
   rintro e w24 ⟨rfl,hb⟩
   refine ⟨_,rfl,?_⟩
   have n0_:=z1.mk (Kd.z1O zz55 hb)
   have n1_:=z1.mk (Kd.zJ zz56 hb)
   have n2_:=z1.mk (Kd.z1O zz38 hb)
   have n3_:=z1.mk (zg (g:=gb110) (o:=.cells #[.int .u64 ((rd_T30 l2 x25_1).f0),.int .u64 ((rd_T30 l2 x25_1).f1)] 30 (0,0)) zz34 hb)
   have n4_:=z1.mk (z4 (by repeat (first|(with_reducible first|exact HB.out|apply z7|apply z2|apply z6|refine zd ?_ GE110.out)|exact HB.out)) hb)
   clear HO_1
   clear HO_9
   clear HO_23
   clear BK110
   clear HB
   have HO_1:=n0_
   have HO_9:=n1_
   have HO_23:=n2_
   have BK110:=n3_
   have HB:=n4_
   clear n0_ n1_ n2_ n3_ n4_
   (try clear hb)
   (try clear hb2)
   (try clear hk)
   (try clear hi)
   obtain ⟨Ao25,co25,eo25⟩:=Kd.z1p HO_9.out
   (first|subst eo25|(injection eo25 with f1_ f2_ f3_;have f4_:=f1_.symm;have f5_:=f3_.symm;clear f1_ f2_ f3_;subst f4_;subst f5_))
   refine hK.out _ _ ⟨(zc BK110.out 0).trans rfl,(zc BK110.out 1).trans rfl⟩ (fun hHeld=>?_)
   clear hK K
   refine norm_ (a':=?_) ?_ ?_
   rotate_left
   · show Act.put _ (some 34) _ = _
     simp only [Act.put,List.setIfInBounds_toArray,List.set_cons_zero,List.set_cons_succ,zS,zZ]
     rfl
   refine one_ (i:=6) (N:=some 36) #[true,true,true,true,true,true,true] rfl rfl zz78 zz79 (fun K hK=>?_)
   refine goes_ Try.func93 zz78 rfl #[.int .i64 a0,.slice Ao25 x9_1.length co25,.slice A1 l1.length c1,.agg #[.int .u64 t111,.int .u64 t112],.agg #[.int .u64 ((rd_T30 l2 x25_1).f0),.int .u64 ((rd_T30 l2 x25_1).f1)]] zz82 rfl rfl zz27 ?_
   with_reducible refine (zq.calls k1 a0 (fun k_=>some k_ = (.slice Ao25 x9_1.length co25 : Value).ownBlock) (.slice Ao25 x9_1.length co25) x9_1 _ _ l1 t111 t112 ((rd_T30 l2 x25_1).f0) ((rd_T30 l2 x25_1).f1) t113 w _ ?side1 ?side2 ?side3 ?side4 A19.out).mono ?_
   (case side1=>repeat (first|(with_reducible first|exact HB.out|apply z7|apply z2|apply z6|refine zd ?_ GE110.out)|exact HB.out))
   (case side2=>exact Kd.z2o rfl HO_9.out)
   (case side3=>exact Kd.z5M (HO_1.out) (fun k_ hk_ hs_=>(hk_.2.1) hs_))
   (case side4=>exact (Kd.z1t HO_1.out).2.1)
   rintro e w26 ⟨rfl,hy0,hb,hkp⟩
   refine ⟨_,rfl,?_⟩
   have n0_:=z1.mk (Kd.z1o (ok':=fun k_=>((P1_ k_ ∨ P2_ k_) ∨ w.heap.size ≤ k_) ∧ some k_ ≠ (.slice Ao25 x9_1.length co25 : Value).ownBlock ∧ k_ ≠ gb110) (Kd.z6S (HO_1.out) hkp (fun k_ hk_ hs_=>(hk_.2.1) hs_)) (fun k_ hk_=>⟨hk_.1.1,hk_.1.2.1,hk_.1.2.2⟩))
   have n1_:=z1.mk (Kd.R_reok rfl hy0 (fun k_ e_=>HO_9.out.1 k_ e_))
   have n2_:=z1.mk (Kd.z1o (ok':=fun k_=>((P1_ k_ ∨ P2_ k_) ∨ w.heap.size ≤ k_) ∧ some k_ ≠ (.slice Ao25 x9_1.length co25 : Value).ownBlock ∧ k_ ≠ gb110) (Kd.z6S (HO_23.out) hkp (fun k_ hk_ hs_=>(hk_.2.1) hs_)) (fun k_ hk_=>⟨hk_.1.1,hk_.1.2.1,hk_.1.2.2⟩))
   have n3_:=z1.mk (blk_kept zz34 hkp (fun hs_=>(fun e_=>(Kd.z2x HO_9.out (fun _ hk=>hk.2)) e_) hs_))
   have n4_:=z1.mk (hb)
   clear HO_1
   clear HO_9
   clear HO_23
   clear BK110
   clear HB
   have HO_1:=n0_
   have HO_9:=n1_
   have HO_23:=n2_
   have BK110:=n3_
   have HB:=n4_
   clear n0_ n1_ n2_ n3_ n4_
   (try clear hb)
   (try clear hkp)
   (try clear hy0)
   refine hK.out _ _ ⟨(zc BK110.out 0).trans rfl,(zc BK110.out 1).trans rfl⟩ (fun hHeld=>?_)
   clear hK K
   refine norm_ (a':=?_) ?_ ?_
   rotate_left
   · show Act.put _ (some 36) _ = _
     simp only [Act.put,List.setIfInBounds_toArray,List.set_cons_zero,List.set_cons_succ,zS,zZ]
     rfl
   refine done_ zz78 ?_
   try go_wp2
   go_roundg k1
   case measure=>have:=HK1.out;omega
   case rel=>exact ⟨(t113),(wrap64 (x25_1 + 1)),zz75,H',⟨by have:=HK1.out;omega⟩,⟨by (with_reducible repeat (first|apply Kd.z28|apply Kd.z29|apply Kd.z2i));exact Kd.z1o HO_1.out (fun _ hk=>⟨hk.1,hk.2.1⟩)⟩,⟨by (with_reducible repeat (first|apply Kd.zC|apply Kd.zD|apply Kd.zO));exact Kd.z16 HO_9.out (fun _ hk=>hk.1)⟩,⟨by (with_reducible repeat (first|apply Kd.z28|apply Kd.z29|apply Kd.z2i));exact Kd.z1o HO_23.out (fun _ hk=>⟨hk.1,hk.2.1⟩)⟩,⟨by repeat (first|(with_reducible first|exact HB.out|apply z7|apply z2|apply z6|refine zd ?_ GE110.out)|exact HB.out)⟩⟩
end Go.Proofs.Ytkhmpaooinpfoaa.P
namespace Go.Proofs.Ytkhmpaooinpfoaa.P
open Go.RowKit Go.Proofs.YtkhmpaooinpfoaaW.PrintWords Go.Proofs.YtkhmpaooinpfoaaW.PrintLast Go.Proofs.YtkhmpaooinpfoaaW.PrintMore
attribute [local go_sem] z12 z14 z1b z1c zW zX z13 z15   -- for this text's walks alone
set_option linter.unusedVariables false
set_option linter.unusedSimpArgs false
def z21.f  : Option (Int × Int):=some (0,1)
set_option maxHeartbeats 8000000 in
set_option maxRecDepth 100000 in
theorem z21.calls  (r1 : Int) (r2 : Int) (w : World) (h : z21.f  = some (r1,r2)) :
 Calls Try.prog 99 #[] w fun e w'=>e = .returned (.agg #[.int .u64 r1,.int .u64 r2]) ∧ Below w.heap.size w w':=by
 have hu30:=Try.underlying30
 have HB:=z1.mk (Below.refl w.heap.size w)
 have H : (some (0,1)) = some (r1,r2):=h
 clear h
 simp only [Option.some.injEq,Prod.mk.injEq] at H
 obtain ⟨rfl,rfl⟩:=H
 go_enter Try.func99,Try.ntmps99
 go_wp2_with (first|((with_reducible refine zF (N:=0) rfl ?_);refine zG ?hg (N:=0) ?hd (cs:=#[.int .u64 0,.int .u64 0]) (t:=30) ?hr ?_;(case hd=>rfl);(case hg=>rfl);(case hr=>first|(go_simp;done)|(go_simp;rfl));intro gb101 hg w1 hbox hb;have n0_:=z1.mk (z4 zz28 hb);have n1_:=z1.mk (hbox);have n2_:=z1.mk ((by rw [hg];exact (z5 zz28) : w.heap.size ≤ gb101));have n3_:=z1.mk ((by rw [hg];exact (z5 zz28) : w.heap.size ≤ gb101));clear HB;have HB:=n0_;have BK101:=n1_;have GW101:=n2_;have GE101:=n3_;clear n0_ n1_ n2_ n3_;clear hb hbox hg;have hcz2_0 : w1.cell? ⟨gb101,0,none⟩ = some (.int .u64 0):=(zc BK101.out 0).trans rfl;have hcz2_1 : w1.cell? ⟨gb101,1,none⟩ = some (.int .u64 0):=(zc BK101.out 1).trans rfl;have hfz2_0:=z8 BK101.out 0;have hfz2_1:=z8 BK101.out 1))
 refine bodyPost_ret (results_cell_row rfl _ _ gb101 30 #[.int .u64 0,.int .u64 1] (0,0) _ rfl zz7 Try.underlying30 rfl zz78) rfl ?_
 exact ⟨by first|rfl|(simp [zi,zj] <;> rfl)|(simp [*,zi,zj] <;> rfl),by repeat (first|(with_reducible first|exact HB.out|apply z7|apply z2|apply z6|refine zd ?_ GE101.out)|exact HB.out)⟩
end Go.Proofs.Ytkhmpaooinpfoaa.P
namespace Go.Proofs.Ytkhmpaooinpfoaa.P
open Go.RowKit Go.Proofs.YtkhmpaooinpfoaaW.PrintWords Go.Proofs.YtkhmpaooinpfoaaW.PrintLast Go.Proofs.YtkhmpaooinpfoaaW.PrintMore
attribute [local go_sem] z12 z14 z1b z1c zW zX z13 z15   -- for this text's walks alone
set_option linter.unusedVariables false
set_option linter.unusedSimpArgs false
def zN.l0 : Nat → List (S30) → List Bool → Int → Int → Option ((List (S30)))
 | 0,_,_,_,_=>none
 | k + 1,x5,x17,x18,x19=>if x19 < x18 then (if 0 ≤ x19 then (if x19 < (x17.length : Int) then (if rdOf false x17 x19 = true then ((z21.f).bind fun bt111=>(if x19 < (x5.length : Int) then (zN.l0 k (x5.set (x19 : Int).toNat (⟨bt111.1,bt111.2⟩ : S30)) x17 x18 (wrap64 (x19 + 1))) else (none))) else (zN.l0 k x5 x17 x18 (wrap64 (x19 + 1)))) else (none)) else (none)) else (some x5)
def zN.f (k : Nat) (a0 : Int) (a1_0 : Int) (a1_1 : Int) : Option ((List (S30))):=(zM.f k a0 a1_0 a1_1).bind fun t102=>(if t102 = true then ((zP.f k a0).bind fun t103=>(if 0 ≤ t103 then (if (t103 : Int).toNat ≤ 17592186044416 then ((zK.f k a0 a1_0 a1_1).bind fun t107=>(zN.l0 k (List.replicate (t103 : Int).toNat z30) t107 (t107.length : Int) 0)) else (none)) else (none))) else (some ([] : List (S30))))
theorem zN.z17 : ∀ k,(∀ y0 y1 y2 y3,LeO (zN.l0 k y0 y1 y2 y3) (zN.l0 (k + 1) y0 y1 y2 y3))
 | 0=>fun _ _ _ _ r h=>by simp [zN.l0] at h
 | k + 1=>by
  have ih0:=zN.z17 k
  · intro y0 y1 y2 y3
    unfold zN.l0
    repeat' first
    | (with_reducible exact ih0 _ _ _ _)
    | (with_reducible exact zM.mono _ _ _ _)
    | (with_reducible exact zP.mono _ _)
    | (with_reducible exact zK.mono _ _ _ _)
    | (with_reducible exact LeO.refl _)
    | (with_reducible exact LeO.none _)
    | (with_reducible refine LeO.ite ?_ ?_)
    | (with_reducible refine LeO.bind ?_ (fun _=>?_))
    | exact ih0 _ _ _ _
    | exact zM.mono _ _ _ _
    | exact zP.mono _ _
    | exact zK.mono _ _ _ _
    | exact LeO.none _
    | refine LeO.ite ?_ ?_
    | refine LeO.bind ?_ (fun _=>?_)
theorem zN.mono : ∀ a0 a1 a2 k,LeO (zN.f k a0 a1 a2) (zN.f (k + 1) a0 a1 a2):=by
 intro a0 a1 a2 k
 have ih0:=zN.z17 k
 unfold zN.f
 repeat' first
  | (with_reducible exact ih0 _ _ _ _)
  | (with_reducible exact zM.mono _ _ _ _)
  | (with_reducible exact zP.mono _ _)
  | (with_reducible exact zK.mono _ _ _ _)
  | (with_reducible exact LeO.refl _)
  | (with_reducible exact LeO.none _)
  | (with_reducible refine LeO.ite ?_ ?_)
  | (with_reducible refine LeO.bind ?_ (fun _=>?_))
  | exact ih0 _ _ _ _
  | exact zM.mono _ _ _ _
  | exact zP.mono _ _
  | exact zK.mono _ _ _ _
  | exact LeO.none _
  | refine LeO.ite ?_ ?_
  | refine LeO.bind ?_ (fun _=>?_)
set_option maxHeartbeats 8000000 in
set_option maxRecDepth 100000 in
theorem zN.calls (k : Nat) (a0 : Int) (a1_0 : Int) (a1_1 : Int) (r : List (S30)) (w : World) (h : zN.f k a0 a1_0 a1_1 = some r) :
 Calls Try.prog 88 #[.int .i64 a0,.agg #[.int .u64 a1_0,.int .u64 a1_1]] w fun e w'=>∃ v0_ : Value,e = .returned (v0_) ∧ Kd.R k30 30 w' w.heap.size (fun _=>True) v0_ r ∧ Below w.heap.size w w':=by
 have hu30:=Try.underlying30
 have HB:=z1.mk (Below.refl w.heap.size w)
 have H : ((zM.f k a0 a1_0 a1_1).bind fun t102=>(if t102 = true then ((zP.f k a0).bind fun t103=>(if 0 ≤ t103 then (if (t103 : Int).toNat ≤ 17592186044416 then ((zK.f k a0 a1_0 a1_1).bind fun t107=>(zN.l0 k (List.replicate (t103 : Int).toNat z30) t107 (t107.length : Int) 0)) else (none)) else (none))) else (some ([] : List (S30))))) = some r:=h
 clear h
 replace H:=Option.bind_eq_some_iff.mp H
 obtain ⟨t102,A30,H⟩:=H
 replace H : (if t102 = true then ((zP.f k a0).bind fun t103=>(if 0 ≤ t103 then (if (t103 : Int).toNat ≤ 17592186044416 then ((zK.f k a0 a1_0 a1_1).bind fun t107=>(zN.l0 k (List.replicate (t103 : Int).toNat z30) t107 (t107.length : Int) 0)) else (none)) else (none))) else (some ([] : List (S30)))) = some r:=H
 have A3:=z1.mk A30
 clear A30
 by_cases c4 : t102 = true
 rotate_left
 · replace c4:=Bool.eq_false_iff.mpr c4
   subst c4
   have H1 : (some ([] : List (S30))) = some r:=by rw [if_neg (show ¬ (false = true) by decide)] at H;exact H
   clear H
   have H:=H1
   clear H1
   obtain rfl:=Option.some.inj H
   go_enter Try.func88,Try.ntmps88
   go_wp2_with (first|((with_reducible refine zF (N:=3) rfl ?_);refine zG ?hg (N:=3) ?hd (cs:=#[.int .u64 a1_0,.int .u64 a1_1]) (t:=30) ?hr ?_;(case hd=>rfl);(case hg=>rfl);(case hr=>first|(go_simp;done)|(go_simp;rfl));intro gb101 hg w28 hbox hb;have n0_:=z1.mk (z4 zz28 hb);have n1_:=z1.mk (hbox);have n2_:=z1.mk ((by rw [hg];exact (z5 zz28) : w.heap.size ≤ gb101));have n3_:=z1.mk ((by rw [hg];exact (z5 zz28) : w.heap.size ≤ gb101));clear HB;have HB:=n0_;have BK101:=n1_;have GW101:=n2_;have GE101:=n3_;clear n0_ n1_ n2_ n3_;clear hb hbox hg;have hcz29_0 : w28.cell? ⟨gb101,0,none⟩ = some (.int .u64 a1_0):=(zc BK101.out 0).trans rfl;have hcz29_1 : w28.cell? ⟨gb101,1,none⟩ = some (.int .u64 a1_1):=(zc BK101.out 1).trans rfl;have hfz29_0:=z8 BK101.out 0;have hfz29_1:=z8 BK101.out 1)|((with_reducible refine zl (f:=81) rfl ?_);refine goesL_ (some 10) rfl rfl Try.func81 zz78 rfl #[.int .i64 a0,.agg #[.int .u64 a1_0,.int .u64 a1_1]] rfl zz27 ?_;(with_reducible refine (zM.calls k a0 a1_0 a1_1 false _ A3.out).mono ?_);rintro e w30 ⟨rfl,hb⟩;refine ⟨_,rfl,?_⟩;have n0_:=z1.mk (zg (g:=gb101) (o:=.cells #[.int .u64 a1_0,.int .u64 a1_1] 30 (0,0)) zz29 hb);have n1_:=z1.mk (z4 zz25 hb);clear BK101;clear HB;have BK101:=n0_;have HB:=n1_;clear n0_ n1_;(try clear hb);(try clear hb2);(try clear hk);(try clear hi)))
   go_ret
   exact ⟨_,by first|rfl|(simp [zi,zj] <;> rfl)|(simp [*,zi,zj] <;> rfl),by first|exact Kd.z3f _ _ _ _ _|exact Kd.z3P _ _ _ _ _|exact Kd.z3S _ _ _ _ _|exact Kd.z3Q _ _ _ _ _|exact Kd.z3R _ _ _ _ _,by repeat (first|(with_reducible first|exact HB.out|apply z7|apply z2|apply z6|refine zd ?_ GE101.out)|exact HB.out)⟩
 subst c4
 have H1 : ((zP.f k a0).bind fun t103=>(if 0 ≤ t103 then (if (t103 : Int).toNat ≤ 17592186044416 then ((zK.f k a0 a1_0 a1_1).bind fun t107=>(zN.l0 k (List.replicate (t103 : Int).toNat z30) t107 (t107.length : Int) 0)) else (none)) else (none))) = some r:=by rw [if_pos rfl] at H;exact H
 clear H
 have H:=H1
 clear H1
 replace H:=Option.bind_eq_some_iff.mp H
 obtain ⟨t103,A50,H⟩:=H
 replace H : (if 0 ≤ t103 then (if (t103 : Int).toNat ≤ 17592186044416 then ((zK.f k a0 a1_0 a1_1).bind fun t107=>(zN.l0 k (List.replicate (t103 : Int).toNat z30) t107 (t107.length : Int) 0)) else (none)) else (none)) = some r:=H
 have A5:=z1.mk A50
 clear A50
 by_cases c6 : 0 ≤ t103
 rotate_left
 · rw [if_neg c6] at H
   exact absurd H zz81
 rw [if_pos c6] at H
 have c6b0:=eq_true c6
 have c6b1 : decide (0 ≤ t103) = true:=decide_eq_true c6
 clear c6
 by_cases c7 : (t103 : Int).toNat ≤ 17592186044416
 rotate_left
 · rw [if_neg c7] at H
   exact absurd H zz81
 rw [if_pos c7] at H
 have c7b0:=eq_true c7
 have c7b1 : decide ((t103 : Int).toNat ≤ 17592186044416) = true:=decide_eq_true c7
 clear c7
 obtain ⟨y104,hy104⟩ : ∃ y_ : List (S30),y_ = (List.replicate (t103 : Int).toNat z30):=⟨_,rfl⟩
 replace H : ((zK.f k a0 a1_0 a1_1).bind fun t107=>(zN.l0 k y104 t107 (t107.length : Int) 0)) = some r:=by first|(rw [hy104];with_reducible exact H)|(have H2_:=(Option.bind_some _ _).symm.trans H;rw [hy104];with_reducible exact H2_)|(have H2_:=(Option.bind_some _ _).symm.trans H;with_reducible exact H2_)|with_reducible exact H|(rw [hy104];exact H)|exact H
 have Ny104:=z1.mk hy104
 clear hy104
 replace H:=Option.bind_eq_some_iff.mp H
 obtain ⟨t107,A80,H⟩:=H
 replace H : (zN.l0 k y104 t107 (t107.length : Int) 0) = some r:=H
 have A8:=z1.mk A80
 clear A80
 have H':=z1.mk H
 clear H
 go_enter Try.func88,Try.ntmps88
 go_wp2_with (first|((with_reducible refine zF (N:=3) rfl ?_);refine zG ?hg (N:=3) ?hd (cs:=#[.int .u64 a1_0,.int .u64 a1_1]) (t:=30) ?hr ?_;(case hd=>rfl);(case hg=>rfl);(case hr=>first|(go_simp;done)|(go_simp;rfl));intro gb101 hg w9 hbox hb;have n0_:=z1.mk (z4 zz28 hb);have n1_:=z1.mk (hbox);have n2_:=z1.mk ((by rw [hg];exact (z5 zz28) : w.heap.size ≤ gb101));have n3_:=z1.mk ((by rw [hg];exact (z5 zz28) : w.heap.size ≤ gb101));clear HB;have HB:=n0_;have BK101:=n1_;have GW101:=n2_;have GE101:=n3_;clear n0_ n1_ n2_ n3_;clear hb hbox hg;have hcz10_0 : w9.cell? ⟨gb101,0,none⟩ = some (.int .u64 a1_0):=(zc BK101.out 0).trans rfl;have hcz10_1 : w9.cell? ⟨gb101,1,none⟩ = some (.int .u64 a1_1):=(zc BK101.out 1).trans rfl;have hfz10_0:=z8 BK101.out 0;have hfz10_1:=z8 BK101.out 1)|((with_reducible refine zl (f:=81) rfl ?_);refine goesL_ (some 10) rfl rfl Try.func81 zz78 rfl #[.int .i64 a0,.agg #[.int .u64 a1_0,.int .u64 a1_1]] rfl zz27 ?_;(with_reducible refine (zM.calls k a0 a1_0 a1_1 true _ A3.out).mono ?_);rintro e w11 ⟨rfl,hb⟩;refine ⟨_,rfl,?_⟩;have n0_:=z1.mk (zg (g:=gb101) (o:=.cells #[.int .u64 a1_0,.int .u64 a1_1] 30 (0,0)) zz29 hb);have n1_:=z1.mk (z4 zz25 hb);clear BK101;clear HB;have BK101:=n0_;have HB:=n1_;clear n0_ n1_;(try clear hb);(try clear hb2);(try clear hk);(try clear hi))|((with_reducible refine zl (f:=92) rfl ?_);refine goesL_ (some 13) rfl rfl Try.func92 zz78 rfl #[.int .i64 a0] rfl zz27 ?_;(with_reducible refine (zP.calls k a0 t103 _ A5.out).mono ?_);rintro e w' ⟨rfl,⟨nd,rfl⟩⟩;refine ⟨_,rfl,?_⟩)|((with_reducible refine zF (N:=14) rfl ?_);refine Kd.z62 k30 _ 30 rfl (N:=14) rfl 80 _ _ rfl t103 rfl rfl Try.underlying80 (.agg #[(.int .u64 0),(.int .u64 0)]) 16 info30 rfl zz79 zz80 z30 (ok:=fun _=>True) (okp:=fun _=>True) (z2F _ _ _ z30 ) (fun _ hk=>hk) trivial (of_decide_eq_true zz74) (Nat.le_trans (Nat.mul_le_mul_right _ (of_decide_eq_true zz74 : t103.toNat ≤ 17592186044416)) zz80) (Below.refl _ _) (Nat.le_refl _) ?_;intro v105 w12 ho13 hb hg_ hnew_;clear hg_ hnew_;(first|rw [← Ny104.out] at ho13|(simp only [Int.reduceToNat] at ho13;rw [← Ny104.out] at ho13));have n0_:=z1.mk (Kd.z1l (Kd.z3h ho13 (g:=gb101) (o:=.cells #[.int .u64 a1_0,.int .u64 a1_1] 30 (0,0)) zz29) (z5 zz25));have n1_:=z1.mk (zg (g:=gb101) (o:=.cells #[.int .u64 a1_0,.int .u64 a1_1] 30 (0,0)) zz29 hb);have n2_:=z1.mk (z4 zz25 hb);clear BK101;clear HB;have HO106:=n0_;have BK101:=n1_;have HB:=n2_;clear n0_ n1_ n2_;clear hb ho13;have hcz14_0 : w12.cell? ⟨gb101,0,none⟩ = some (.int .u64 a1_0):=(zc BK101.out 0).trans rfl;have hcz14_1 : w12.cell? ⟨gb101,1,none⟩ = some (.int .u64 a1_1):=(zc BK101.out 1).trans rfl;have hfz14_0:=z8 BK101.out 0;have hfz14_1:=z8 BK101.out 1)|((with_reducible refine zl (f:=125) rfl ?_);refine goesL_ (some 17) rfl rfl Try.func125 zz78 rfl #[.int .i64 a0,.agg #[.int .u64 a1_0,.int .u64 a1_1]] rfl zz27 ?_;(with_reducible refine (zK.calls k a0 a1_0 a1_1 t107 _ A8.out).mono ?_);rintro e w15 ⟨v108,rfl,ho0,hb⟩;refine ⟨_,rfl,?_⟩;have n0_:=z1.mk (Kd.zJ zz39 hb);have n1_:=z1.mk (Kd.z1l ho0 (z5 zz25));have n2_:=z1.mk (zg (g:=gb101) (o:=.cells #[.int .u64 a1_0,.int .u64 a1_1] 30 (0,0)) zz29 hb);have n3_:=z1.mk (z4 zz25 hb);clear HO106;clear BK101;clear HB;have HO106:=n0_;have HO109:=n1_;have BK101:=n2_;have HB:=n3_;clear n0_ n1_ n2_ n3_;(try clear hb);(try clear hb2);(try clear hk);(try clear hi);(try clear ho0);obtain ⟨Ao16,co16,eo16⟩:=Kd.z1p HO109.out;subst eo16))
 go_loopg [19] k (fun kq v19 w'=>∃ (x5_1 : List (S30)) (x19_1 : Int) (x102000_1 : Int) (x102001_1 : Int),v19 = .int .i64 x19_1 ∧ z1 (zN.l0 kq x5_1 t107 (t107.length : Int) x19_1 = some r) ∧ z1 (kq ≤ k) ∧ z1 (Kd.R k30 30 w' w.heap.size (fun k_=>k_ ≠ gb101) v105 x5_1) ∧ z1 (Kd.R Kd.bool 4 w' w.heap.size (fun _=>True) (.slice Ao16 t107.length co16) t107) ∧ z1 (w'.heap[gb101]? = some (.cells #[.int .u64 x102000_1,.int .u64 x102001_1] 30 (0,0))) ∧ z1 (Below w.heap.size w w'))
 case atStart=>exact ⟨(y104),(0),(a1_0),(a1_1),zz75,H',⟨Nat.le_refl _⟩,⟨by (with_reducible repeat (first|apply Kd.zC|apply Kd.zD|apply Kd.zO));exact Kd.z16 HO106.out (fun _ hk=>hk.2)⟩,⟨by (with_reducible repeat (first|apply Kd.zC|apply Kd.zD|apply Kd.zO));exact HO109.out⟩,⟨by (with_reducible repeat (first|refine zb ?_ _|refine zf ?_|refine za ?_ _));exact BK101.out⟩,⟨by repeat (first|(with_reducible first|exact HB.out|apply z7|apply z2|apply z6|refine zd ?_ GE101.out)|exact HB.out)⟩⟩
 case round =>
  clear H'
  (try clear c1);(try clear p2);(try clear c4);(try clear c6);(try clear c6b0);(try clear c6b1);(try clear c7);(try clear c7b0);(try clear c7b1);(try clear c8);(try clear c9);(try clear c12);(try clear hcz10_0);(try clear hcz10_1);(try clear hcz14_0);(try clear hcz14_1);(try clear hfz10_0);(try clear hfz10_1);(try clear hfz14_0);(try clear hfz14_1)
  obtain ⟨x5_1,x19_1,x102000_1,x102001_1,rfl,HA,HK1,HO_5,HO_17,BK101,HB⟩:=hrel
  cases gk with
  | zero=>exact absurd HA.out (by simp [zN.l0])
  | succ k1 =>
   have H:=HA.out
   clear HA
   simp only [zN.l0] at H
   by_cases c17 : x19_1 < (t107.length : Int)
   rotate_left
   · rw [if_neg c17] at H
     have c17b0 : decide (x19_1 < (t107.length : Int)) = false:=decide_eq_false c17
     clear c17
     obtain rfl:=Option.some.inj H
     go_wp2
     go_ret
     exact ⟨_,by first|rfl|(simp [zi,zj] <;> rfl)|(simp [*,zi,zj] <;> rfl),by (with_reducible repeat (first|apply Kd.zC|apply Kd.zD|apply Kd.zO));exact Kd.z16 HO_5.out (fun _ hk=>trivial),by repeat (first|(with_reducible first|exact HB.out|apply z7|apply z2|apply z6|refine zd ?_ GE101.out)|exact HB.out)⟩
   rw [if_pos c17] at H
   have c17b0 : decide (x19_1 < (t107.length : Int)) = true:=decide_eq_true c17
   clear c17
   by_cases c18 : 0 ≤ x19_1
   rotate_left
   · rw [if_neg c18] at H
     exact absurd H zz81
   rw [if_pos c18] at H
   have c18b0 : decide (0 ≤ x19_1) = true:=decide_eq_true c18
   clear c18
   by_cases c19 : x19_1 < (t107.length : Int)
   rotate_left
   · rw [if_neg c19] at H
     exact absurd H zz81
   rw [if_pos c19] at H
   have c19b0 : decide (x19_1 < (t107.length : Int)) = true:=decide_eq_true c19
   clear c19
   obtain ⟨bq20,hbq20⟩ : ∃ b_ : Bool,b_ = (rdOf false t107 x19_1):=⟨_,rfl⟩
   replace H : (if bq20 = true then ((z21.f).bind fun bt111=>(if x19_1 < (x5_1.length : Int) then (zN.l0 k1 (x5_1.set (x19_1 : Int).toNat (⟨bt111.1,bt111.2⟩ : S30)) t107 (t107.length : Int) (wrap64 (x19_1 + 1))) else (none))) else (zN.l0 k1 x5_1 t107 (t107.length : Int) (wrap64 (x19_1 + 1)))) = some r:=by rw [← hbq20] at H;exact H
   have Nbq20:=z1.mk hbq20
   clear hbq20
   by_cases c21 : bq20 = true
   rotate_left
   · replace c21:=Bool.eq_false_iff.mpr c21
     subst c21
     have H1 : (zN.l0 k1 x5_1 t107 (t107.length : Int) (wrap64 (x19_1 + 1))) = some r:=by rw [if_neg (show ¬ (false = true) by decide)] at H;exact H
     clear H
     have H:=H1
     clear H1
     have H':=z1.mk H
     clear H
     have p110 : 0 ≤ (x19_1 : Int):=of_decide_eq_true zz74
     have q110 : x19_1 < (t107.length : Int):=of_decide_eq_true zz74
     obtain ⟨ad110,e110,hx110_0⟩:=Kd.z4Y (Kd.zL HO_17.out).2.2 x19_1 p110 q110
     (try rw [← Nbq20.out] at hx110_0)
     cases e110
     replace p110:=eq_true p110
     replace q110:=eq_true q110
     go_wp2
     go_roundg k1
     case measure=>have:=HK1.out;omega
     case rel=>exact ⟨(x5_1),(wrap64 (x19_1 + 1)),(x102000_1),(x102001_1),zz75,H',⟨by have:=HK1.out;omega⟩,⟨by (with_reducible repeat (first|apply Kd.zC|apply Kd.zD|apply Kd.zO));exact HO_5.out⟩,⟨by (with_reducible repeat (first|apply Kd.zC|apply Kd.zD|apply Kd.zO));exact HO_17.out⟩,⟨by (with_reducible repeat (first|refine zb ?_ _|refine zf ?_|refine za ?_ _));exact BK101.out⟩,⟨by repeat (first|(with_reducible first|exact HB.out|apply z7|apply z2|apply z6|refine zd ?_ GE101.out)|exact HB.out)⟩⟩
   subst c21
   have H1 : ((z21.f).bind fun bt111=>(if x19_1 < (x5_1.length : Int) then (zN.l0 k1 (x5_1.set (x19_1 : Int).toNat (⟨bt111.1,bt111.2⟩ : S30)) t107 (t107.length : Int) (wrap64 (x19_1 + 1))) else (none))) = some r:=by rw [if_pos rfl] at H;exact H
   clear H
   have H:=H1
   clear H1
   replace H:=Option.bind_eq_some_iff.mp H
   obtain ⟨⟨t111,t112⟩,A220,H⟩:=H
   replace H : (if x19_1 < (x5_1.length : Int) then (zN.l0 k1 (x5_1.set (x19_1 : Int).toNat (⟨t111,t112⟩ : S30)) t107 (t107.length : Int) (wrap64 (x19_1 + 1))) else (none)) = some r:=H
   have A22:=z1.mk A220
   clear A220
   by_cases c23 : x19_1 < (x5_1.length : Int)
   rotate_left
   · rw [if_neg c23] at H
     exact absurd H zz81
   rw [if_pos c23] at H
   have c23b0 : decide (x19_1 < (x5_1.length : Int)) = true:=decide_eq_true c23
   clear c23
   obtain ⟨y113,hy113⟩ : ∃ y_ : List (S30),y_ = (x5_1.set (x19_1 : Int).toNat (⟨t111,t112⟩ : S30)):=⟨_,rfl⟩
   replace H : (zN.l0 k1 y113 t107 (t107.length : Int) (wrap64 (x19_1 + 1))) = some r:=by first|(rw [hy113];with_reducible exact H)|(have H2_:=(Option.bind_some _ _).symm.trans H;rw [hy113];with_reducible exact H2_)|(have H2_:=(Option.bind_some _ _).symm.trans H;with_reducible exact H2_)|with_reducible exact H|(rw [hy113];exact H)|exact H
   have Ny113:=z1.mk hy113
   clear hy113
   have H':=z1.mk H
   clear H
   have p110 : 0 ≤ (x19_1 : Int):=of_decide_eq_true zz74
   have q110 : x19_1 < (t107.length : Int):=of_decide_eq_true zz74
   obtain ⟨ad110,e110,hx110_0⟩:=Kd.z4Y (Kd.zL HO_17.out).2.2 x19_1 p110 q110
   (try rw [← Nbq20.out] at hx110_0)
   cases e110
   replace p110:=eq_true p110
   replace q110:=eq_true q110
   go_wp2_with (first|((with_reducible refine zl (f:=99) rfl ?_);refine goesL_ (some 27) rfl rfl Try.func99 zz78 rfl #[] rfl zz27 ?_;(with_reducible refine (z21.calls  t111 t112 _ A22.out).mono ?_);rintro e w25 ⟨rfl,hb⟩;refine ⟨_,rfl,?_⟩;have n0_:=z1.mk (Kd.zJ zz53 hb);have n1_:=z1.mk (Kd.zJ zz40 hb);have n2_:=z1.mk (zg (g:=gb101) (o:=.cells #[.int .u64 x102000_1,.int .u64 x102001_1] 30 (0,0)) zz29 hb);have n3_:=z1.mk (z4 zz25 hb);clear HO_5;clear HO_17;clear BK101;clear HB;have HO_5:=n0_;have HO_17:=n1_;have BK101:=n2_;have HB:=n3_;clear n0_ n1_ n2_ n3_;(try clear hb);(try clear hb2);(try clear hk);(try clear hi);have p24 : 0 ≤ (x19_1 : Int):=of_decide_eq_true zz74;have q24 : (x19_1 : Int) < ((x5_1.length : Int) : Int):=of_decide_eq_true zz74;obtain ⟨go24,co24,eo24,gb24,gl24,cl24,HG24⟩:=Kd.z5k HO_5.out zz80;(first|cases eo24|(injection eo24 with ea_ en_ ec_;(first|subst ea_|(injection ea_ with ea_;subst ea_));subst ec_;clear en_));have GB24:=z1.mk gb24;have GG24:=z1.mk HG24;clear gb24 gl24 HG24;obtain ⟨ce24,hcl24,hM24,hcc24,hfr24⟩:=Kd.z3g HO_5.out z30 (x19_1 : Int) p24 q24;obtain rfl:=z1Y hM24;have hx24_0 : w25.cell? ⟨go24,(x19_1 : Int).toNat * 2,none⟩ = some (.int .u64 ((rd_T30 x5_1 x19_1).f0)):=hcc24 0 _ rfl;have hx24_1 : w25.cell? ⟨go24,(x19_1 : Int).toNat * 2 + 1,none⟩ = some (.int .u64 ((rd_T30 x5_1 x19_1).f1)):=hcc24 1 _ rfl;have hf24_0 : w25.frozen? ⟨go24,(x19_1 : Int).toNat * 2,none⟩ = false:=hfr24 0;have hf24_1 : w25.frozen? ⟨go24,(x19_1 : Int).toNat * 2 + 1,none⟩ = false:=hfr24 1;clear hcl24 hcc24 hfr24 hM24;replace p24:=eq_true p24;replace q24:=eq_true q24;have HX26:=z1.mk (show Kd.R k30 30 w25 w.heap.size (fun k_=>k_ ≠ gb101) (.slice (some ⟨go24,0,none⟩) x5_1.length co24) x5_1 from zz53);obtain ⟨ce26,hcl26,hM26,hcc26,hfr26⟩:=Kd.z3g HX26.out z30 (x19_1 : Int) (of_decide_eq_true zz74) (by have h_ : (x19_1 : Int) < ((x5_1.length : Int) : Int):=of_decide_eq_true zz74;first|exact h_|(have e_:=(Kd.zL HO_5.out).1;omega)|simpa using h_);obtain rfl:=z1Y hM26;have HP26:=Kd.z6O HX26.out (x19_1 : Int) (of_decide_eq_true zz74) (by have h_ : (x19_1 : Int) < ((x5_1.length : Int) : Int):=of_decide_eq_true zz74;first|exact h_|(have e_:=(Kd.zL HO_5.out).1;omega)|simpa using h_) (seg:=[.int .u64 t111,.int .u64 t112]) (j:=0) hcl26 hcc26 (show 2 ≤ 2 from by decide) (x':=(⟨t111,t112⟩ : S30)) (z2F _ _ _ (⟨t111,t112⟩ : S30) ) (fun _ hk=>hk);have hx26_0:=hcc26 0 _ rfl;(try simp only [show (k30).sz = 2 from rfl,Nat.mul_one,Nat.add_zero] at hx26_0);have hf26_0:=hfr26 0;(try simp only [show (k30).sz = 2 from rfl,Nat.mul_one,Nat.add_zero] at hf26_0);have hx26_1:=hcc26 1 _ rfl;(try simp only [show (k30).sz = 2 from rfl,Nat.mul_one,Nat.add_zero] at hx26_1);have hf26_1:=hfr26 1;(try simp only [show (k30).sz = 2 from rfl,Nat.mul_one,Nat.add_zero] at hf26_1);clear hcl26 hcc26 hfr26 hM26)|((with_reducible refine z4K (t:=30) (p:=28) rfl ?_);refine z4m (t:=30) (p:=28) (v:=?vo_w27) (w1:=((w25.setCell ⟨go24,(x19_1 : Int).toNat * 2,none⟩ (.int .u64 t111)).setCell ⟨go24,(x19_1 : Int).toNat * 2 + 1,none⟩ (.int .u64 t112))) ?hg ?ho ?hn ?hr ?_;(case ho=>rfl);(case hg=>rfl);(case hn=>rfl);(case hr=>first|(go_simp;done)|(go_simp;rfl));intro w27 hw;have hg : w25.grownBy w27 (some go24):=(by rw [hw];exact HP26.2);have hp_ : Kd.R k30 30 w27 w.heap.size (fun k_=>k_ ≠ gb101) (.slice (some ⟨go24,0,none⟩) x5_1.length co24) y113:=(by rw [hw,Ny113.out];exact HP26.1);clear HP26;have n0_:=z1.mk (hp_);have n1_:=z1.mk (Kd.R_over' (v:=(.slice (some ⟨go24,0,none⟩) x5_1.length co24)) zz40 (Kd.R_typed HO_5.out) zz79 hg);have n2_:=z1.mk (z26 (g:=gb101) (o:=.cells #[.int .u64 x102000_1,.int .u64 x102001_1] 30 (0,0)) zz29 hg (Kd.z2x HO_5.out (fun _ hk=>hk)));have n3_:=z1.mk ((by rw [hw];exact zd (zd (HB.out) GB24.out) GB24.out : Below w.heap.size w w27));clear HO_5;clear HO_17;clear BK101;clear HB;have HO_5:=n0_;have HO_17:=n1_;have BK101:=n2_;have HB:=n3_;clear n0_ n1_ n2_ n3_;clear hg hw hp_))
   go_roundg k1
   case measure=>have:=HK1.out;omega
   case rel=>exact ⟨(y113),(wrap64 (x19_1 + 1)),(x102000_1),(x102001_1),zz75,H',⟨by have:=HK1.out;omega⟩,⟨by (with_reducible repeat (first|apply Kd.zC|apply Kd.zD|apply Kd.zO));exact HO_5.out⟩,⟨by (with_reducible repeat (first|apply Kd.zC|apply Kd.zD|apply Kd.zO));exact HO_17.out⟩,⟨by (with_reducible repeat (first|refine zb ?_ _|refine zf ?_|refine za ?_ _));exact BK101.out⟩,⟨by repeat (first|(with_reducible first|exact HB.out|apply z7|apply z2|apply z6|refine zd ?_ GE101.out)|exact HB.out)⟩⟩
end Go.Proofs.Ytkhmpaooinpfoaa.P
namespace Go.Proofs.Ytkhmpaooinpfoaa.P
open Go.RowKit Go.Proofs.YtkhmpaooinpfoaaW.PrintWords Go.Proofs.YtkhmpaooinpfoaaW.PrintLast Go.Proofs.YtkhmpaooinpfoaaW.PrintMore
attribute [local go_sem] z12 z14 z1b z1c zW zX z13 z15   -- for this text's walks alone
set_option linter.unusedVariables false
set_option linter.unusedSimpArgs false
def z1s.f (k : Nat) (a0 : Int) (a1_0 : Int) (a1_1 : Int) : Option ((List (S30))):=(zM.f k a0 a1_0 a1_1).bind fun t102=>(if t102 = true then ((zP.f k a0).bind fun t103=>(if 0 ≤ t103 then (if (t103 : Int).toNat ≤ 17592186044416 then ((some (List.replicate (t103 : Int).toNat z30 : List (S30))).bind fun y104=>(if 0 < (y104.length : Int) then (some (y104.set (0 : Int).toNat (⟨a1_0,a1_1⟩ : S30))) else (none))) else (none)) else (none))) else (some ([] : List (S30))))
theorem z1s.mono : ∀ a0 a1 a2 k,LeO (z1s.f k a0 a1 a2) (z1s.f (k + 1) a0 a1 a2):=by
 intro a0 a1 a2 k
 unfold z1s.f
 repeat' first
  | (with_reducible exact zM.mono _ _ _ _)
  | (with_reducible exact zP.mono _ _)
  | (with_reducible exact LeO.refl _)
  | (with_reducible exact LeO.none _)
  | (with_reducible refine LeO.ite ?_ ?_)
  | (with_reducible refine LeO.bind ?_ (fun _=>?_))
  | exact zM.mono _ _ _ _
  | exact zP.mono _ _
  | exact LeO.none _
  | refine LeO.ite ?_ ?_
  | refine LeO.bind ?_ (fun _=>?_)
set_option maxHeartbeats 8000000 in
set_option maxRecDepth 100000 in
theorem z1s.calls (k : Nat) (a0 : Int) (a1_0 : Int) (a1_1 : Int) (r : List (S30)) (w : World) (h : z1s.f k a0 a1_0 a1_1 = some r) :
 Calls Try.prog 89 #[.int .i64 a0,.agg #[.int .u64 a1_0,.int .u64 a1_1]] w fun e w'=>∃ v0_ : Value,e = .returned (v0_) ∧ Kd.R k30 30 w' w.heap.size (fun _=>True) v0_ r ∧ Below w.heap.size w w':=by
 have hu30:=Try.underlying30
 have HB:=z1.mk (Below.refl w.heap.size w)
 have H : ((zM.f k a0 a1_0 a1_1).bind fun t102=>(if t102 = true then ((zP.f k a0).bind fun t103=>(if 0 ≤ t103 then (if (t103 : Int).toNat ≤ 17592186044416 then ((some (List.replicate (t103 : Int).toNat z30 : List (S30))).bind fun y104=>(if 0 < (y104.length : Int) then (some (y104.set (0 : Int).toNat (⟨a1_0,a1_1⟩ : S30))) else (none))) else (none)) else (none))) else (some ([] : List (S30))))) = some r:=h
 clear h
 replace H:=Option.bind_eq_some_iff.mp H
 obtain ⟨t102,A30,H⟩:=H
 replace H : (if t102 = true then ((zP.f k a0).bind fun t103=>(if 0 ≤ t103 then (if (t103 : Int).toNat ≤ 17592186044416 then ((some (List.replicate (t103 : Int).toNat z30 : List (S30))).bind fun y104=>(if 0 < (y104.length : Int) then (some (y104.set (0 : Int).toNat (⟨a1_0,a1_1⟩ : S30))) else (none))) else (none)) else (none))) else (some ([] : List (S30)))) = some r:=H
 have A3:=z1.mk A30
 clear A30
 by_cases c4 : t102 = true
 rotate_left
 · replace c4:=Bool.eq_false_iff.mpr c4
   subst c4
   have H1 : (some ([] : List (S30))) = some r:=by rw [if_neg (show ¬ (false = true) by decide)] at H;exact H
   clear H
   have H:=H1
   clear H1
   obtain rfl:=Option.some.inj H
   go_enter Try.func89,Try.ntmps89
   go_wp2_with (first|((with_reducible refine zF (N:=3) rfl ?_);refine zG ?hg (N:=3) ?hd (cs:=#[.int .u64 a1_0,.int .u64 a1_1]) (t:=30) ?hr ?_;(case hd=>rfl);(case hg=>rfl);(case hr=>first|(go_simp;done)|(go_simp;rfl));intro gb101 hg w18 hbox hb;have n0_:=z1.mk (z4 zz28 hb);have n1_:=z1.mk (hbox);have n2_:=z1.mk ((by rw [hg];exact (z5 zz28) : w.heap.size ≤ gb101));have n3_:=z1.mk ((by rw [hg];exact (z5 zz28) : w.heap.size ≤ gb101));clear HB;have HB:=n0_;have BK101:=n1_;have GW101:=n2_;have GE101:=n3_;clear n0_ n1_ n2_ n3_;clear hb hbox hg;have hcz19_0 : w18.cell? ⟨gb101,0,none⟩ = some (.int .u64 a1_0):=(zc BK101.out 0).trans rfl;have hcz19_1 : w18.cell? ⟨gb101,1,none⟩ = some (.int .u64 a1_1):=(zc BK101.out 1).trans rfl;have hfz19_0:=z8 BK101.out 0;have hfz19_1:=z8 BK101.out 1)|((with_reducible refine zl (f:=81) rfl ?_);refine goesL_ (some 8) rfl rfl Try.func81 zz78 rfl #[.int .i64 a0,.agg #[.int .u64 a1_0,.int .u64 a1_1]] rfl zz27 ?_;(with_reducible refine (zM.calls k a0 a1_0 a1_1 false _ A3.out).mono ?_);rintro e w20 ⟨rfl,hb⟩;refine ⟨_,rfl,?_⟩;have n0_:=z1.mk (zg (g:=gb101) (o:=.cells #[.int .u64 a1_0,.int .u64 a1_1] 30 (0,0)) zz29 hb);have n1_:=z1.mk (z4 zz25 hb);clear BK101;clear HB;have BK101:=n0_;have HB:=n1_;clear n0_ n1_;(try clear hb);(try clear hb2);(try clear hk);(try clear hi)))
   go_ret
   exact ⟨_,by first|rfl|(simp [zi,zj] <;> rfl)|(simp [*,zi,zj] <;> rfl),by first|exact Kd.z3f _ _ _ _ _|exact Kd.z3P _ _ _ _ _|exact Kd.z3S _ _ _ _ _|exact Kd.z3Q _ _ _ _ _|exact Kd.z3R _ _ _ _ _,by repeat (first|(with_reducible first|exact HB.out|apply z7|apply z2|apply z6|refine zd ?_ GE101.out)|exact HB.out)⟩
 subst c4
 have H1 : ((zP.f k a0).bind fun t103=>(if 0 ≤ t103 then (if (t103 : Int).toNat ≤ 17592186044416 then ((some (List.replicate (t103 : Int).toNat z30 : List (S30))).bind fun y104=>(if 0 < (y104.length : Int) then (some (y104.set (0 : Int).toNat (⟨a1_0,a1_1⟩ : S30))) else (none))) else (none)) else (none))) = some r:=by rw [if_pos rfl] at H;exact H
 clear H
 have H:=H1
 clear H1
 replace H:=Option.bind_eq_some_iff.mp H
 obtain ⟨t103,A50,H⟩:=H
 replace H : (if 0 ≤ t103 then (if (t103 : Int).toNat ≤ 17592186044416 then ((some (List.replicate (t103 : Int).toNat z30 : List (S30))).bind fun y104=>(if 0 < (y104.length : Int) then (some (y104.set (0 : Int).toNat (⟨a1_0,a1_1⟩ : S30))) else (none))) else (none)) else (none)) = some r:=H
 have A5:=z1.mk A50
 clear A50
 by_cases c6 : 0 ≤ t103
 rotate_left
 · rw [if_neg c6] at H
   exact absurd H zz81
 rw [if_pos c6] at H
 have c6b0:=eq_true c6
 have c6b1 : decide (0 ≤ t103) = true:=decide_eq_true c6
 clear c6
 by_cases c7 : (t103 : Int).toNat ≤ 17592186044416
 rotate_left
 · rw [if_neg c7] at H
   exact absurd H zz81
 rw [if_pos c7] at H
 have c7b0:=eq_true c7
 have c7b1 : decide ((t103 : Int).toNat ≤ 17592186044416) = true:=decide_eq_true c7
 clear c7
 obtain ⟨y104,hy104⟩ : ∃ y_ : List (S30),y_ = (List.replicate (t103 : Int).toNat z30):=⟨_,rfl⟩
 replace H : (if 0 < (y104.length : Int) then (some (y104.set (0 : Int).toNat (⟨a1_0,a1_1⟩ : S30))) else (none)) = some r:=by first|(rw [hy104];with_reducible exact H)|(have H2_:=(Option.bind_some _ _).symm.trans H;rw [hy104];with_reducible exact H2_)|(have H2_:=(Option.bind_some _ _).symm.trans H;with_reducible exact H2_)|with_reducible exact H|(rw [hy104];exact H)|exact H
 have Ny104:=z1.mk hy104
 clear hy104
 by_cases c8 : 0 < (y104.length : Int)
 rotate_left
 · rw [if_neg c8] at H
   exact absurd H zz81
 rw [if_pos c8] at H
 have c8b0 : decide (0 < (y104.length : Int)) = true:=decide_eq_true c8
 have c8b1 : decide (0 < y104.length) = true:=decide_eq_true zz80
 clear c8
 obtain ⟨y107,hy107⟩ : ∃ y_ : List (S30),y_ = (y104.set (0 : Int).toNat (⟨a1_0,a1_1⟩ : S30)):=⟨_,rfl⟩
 replace H : (some y107) = some r:=by first|(rw [hy107];with_reducible exact H)|(have H2_:=(Option.bind_some _ _).symm.trans H;rw [hy107];with_reducible exact H2_)|(have H2_:=(Option.bind_some _ _).symm.trans H;with_reducible exact H2_)|with_reducible exact H|(rw [hy107];exact H)|exact H
 have Ny107:=z1.mk hy107
 clear hy107
 obtain rfl:=Option.some.inj H
 go_enter Try.func89,Try.ntmps89
 go_wp2_with (first|((with_reducible refine zF (N:=3) rfl ?_);refine zG ?hg (N:=3) ?hd (cs:=#[.int .u64 a1_0,.int .u64 a1_1]) (t:=30) ?hr ?_;(case hd=>rfl);(case hg=>rfl);(case hr=>first|(go_simp;done)|(go_simp;rfl));intro gb101 hg w10 hbox hb;have n0_:=z1.mk (z4 zz28 hb);have n1_:=z1.mk (hbox);have n2_:=z1.mk ((by rw [hg];exact (z5 zz28) : w.heap.size ≤ gb101));have n3_:=z1.mk ((by rw [hg];exact (z5 zz28) : w.heap.size ≤ gb101));clear HB;have HB:=n0_;have BK101:=n1_;have GW101:=n2_;have GE101:=n3_;clear n0_ n1_ n2_ n3_;clear hb hbox hg;have hcz11_0 : w10.cell? ⟨gb101,0,none⟩ = some (.int .u64 a1_0):=(zc BK101.out 0).trans rfl;have hcz11_1 : w10.cell? ⟨gb101,1,none⟩ = some (.int .u64 a1_1):=(zc BK101.out 1).trans rfl;have hfz11_0:=z8 BK101.out 0;have hfz11_1:=z8 BK101.out 1)|((with_reducible refine zl (f:=81) rfl ?_);refine goesL_ (some 8) rfl rfl Try.func81 zz78 rfl #[.int .i64 a0,.agg #[.int .u64 a1_0,.int .u64 a1_1]] rfl zz27 ?_;(with_reducible refine (zM.calls k a0 a1_0 a1_1 true _ A3.out).mono ?_);rintro e w12 ⟨rfl,hb⟩;refine ⟨_,rfl,?_⟩;have n0_:=z1.mk (zg (g:=gb101) (o:=.cells #[.int .u64 a1_0,.int .u64 a1_1] 30 (0,0)) zz29 hb);have n1_:=z1.mk (z4 zz25 hb);clear BK101;clear HB;have BK101:=n0_;have HB:=n1_;clear n0_ n1_;(try clear hb);(try clear hb2);(try clear hk);(try clear hi))|((with_reducible refine zl (f:=92) rfl ?_);refine goesL_ (some 11) rfl rfl Try.func92 zz78 rfl #[.int .i64 a0] rfl zz27 ?_;(with_reducible refine (zP.calls k a0 t103 _ A5.out).mono ?_);rintro e w' ⟨rfl,⟨nd,rfl⟩⟩;refine ⟨_,rfl,?_⟩;(try (rw [z4I w12];generalize hq_ : World.drewN w12 _ = w12;have n0_ : z1 (w12.heap[gb101]? = some (.cells #[.int .u64 a1_0,.int .u64 a1_1] 30 (0,0))):=⟨by rw [← hq_];exact zz29⟩;have n1_ : z1 (Below w.heap.size w w12):=⟨by rw [← hq_];exact zz25⟩;clear BK101 HB hq_;have BK101:=n0_;have HB:=n1_;clear n0_ n1_)))|((with_reducible refine zF (N:=12) rfl ?_);refine Kd.z62 k30 _ 30 rfl (N:=12) rfl 80 _ _ rfl t103 rfl rfl Try.underlying80 (.agg #[(.int .u64 0),(.int .u64 0)]) 16 info30 rfl zz79 zz80 z30 (ok:=fun _=>True) (okp:=fun _=>True) (z2F _ _ _ z30 ) (fun _ hk=>hk) trivial (of_decide_eq_true zz74) (Nat.le_trans (Nat.mul_le_mul_right _ (of_decide_eq_true zz74 : t103.toNat ≤ 17592186044416)) zz80) (Below.refl _ _) (Nat.le_refl _) ?_;intro v105 w13 ho14 hb hg_ hnew_;clear hg_ hnew_;(first|rw [← Ny104.out] at ho14|(simp only [Int.reduceToNat] at ho14;rw [← Ny104.out] at ho14));have n0_:=z1.mk (Kd.z1l (Kd.z3h ho14 (g:=gb101) (o:=.cells #[.int .u64 a1_0,.int .u64 a1_1] 30 (0,0)) zz29) (z5 zz25));have n1_:=z1.mk (zg (g:=gb101) (o:=.cells #[.int .u64 a1_0,.int .u64 a1_1] 30 (0,0)) zz29 hb);have n2_:=z1.mk (z4 zz25 hb);clear BK101;clear HB;have HO106:=n0_;have BK101:=n1_;have HB:=n2_;clear n0_ n1_ n2_;clear hb ho14;have hcz15_0 : w13.cell? ⟨gb101,0,none⟩ = some (.int .u64 a1_0):=(zc BK101.out 0).trans rfl;have hcz15_1 : w13.cell? ⟨gb101,1,none⟩ = some (.int .u64 a1_1):=(zc BK101.out 1).trans rfl;have hfz15_0:=z8 BK101.out 0;have hfz15_1:=z8 BK101.out 1;have p9 : 0 ≤ (0 : Int):=zz80;have q9 : (0 : Int) < ((y104.length : Int) : Int):=of_decide_eq_true zz74;have qi9 : (0 < y104.length) = True:=eq_true zz80;obtain ⟨go9,co9,eo9,gb9,gl9,cl9,HG9⟩:=Kd.z5k HO106.out zz80;(first|cases eo9|(injection eo9 with ea_ en_ ec_;(first|subst ea_|(injection ea_ with ea_;subst ea_));subst ec_;clear en_));have GB9:=z1.mk gb9;have GG9:=z1.mk HG9;clear gb9 gl9 HG9;obtain ⟨ce9,hcl9,hM9,hcc9,hfr9⟩:=Kd.z3g HO106.out z30 (0 : Int) p9 q9;obtain rfl:=z1Y hM9;have hx9_0 : w13.cell? ⟨go9,(0 : Int).toNat * 2,none⟩ = some (.int .u64 ((rd_T30 y104 0).f0)):=hcc9 0 _ rfl;have hx9_1 : w13.cell? ⟨go9,(0 : Int).toNat * 2 + 1,none⟩ = some (.int .u64 ((rd_T30 y104 0).f1)):=hcc9 1 _ rfl;have hf9_0 : w13.frozen? ⟨go9,(0 : Int).toNat * 2,none⟩ = false:=hfr9 0;have hf9_1 : w13.frozen? ⟨go9,(0 : Int).toNat * 2 + 1,none⟩ = false:=hfr9 1;clear hcl9 hcc9 hfr9 hM9;(try rw [show ((0 : Int)).toNat = 0 from rfl] at hx9_0);(try simp only [Nat.reduceMul,Nat.zero_mul,Nat.zero_add,Nat.reduceAdd] at hx9_0);(try rw [show ((0 : Int)).toNat = 0 from rfl] at hf9_0);(try simp only [Nat.reduceMul,Nat.zero_mul,Nat.zero_add,Nat.reduceAdd] at hf9_0);(try rw [show ((0 : Int)).toNat = 0 from rfl] at hx9_1);(try simp only [Nat.reduceMul,Nat.zero_mul,Nat.zero_add,Nat.reduceAdd] at hx9_1);(try rw [show ((0 : Int)).toNat = 0 from rfl] at hf9_1);(try simp only [Nat.reduceMul,Nat.zero_mul,Nat.zero_add,Nat.reduceAdd] at hf9_1);replace p9:=eq_true p9;replace q9:=eq_true q9;have n_:=z1.mk (Kd.z16 (ok':=(fun k_=>k_ ≠ gb101)) HO106.out (fun k_ hk=>hk.2));clear HO106;have HO106:=n_;clear n_;have HX16:=z1.mk (show Kd.R k30 30 w13 w.heap.size (fun k_=>k_ ≠ gb101) (.slice (some ⟨go9,0,none⟩) y104.length co9) y104 from zz39);obtain ⟨ce16,hcl16,hM16,hcc16,hfr16⟩:=Kd.z3g HX16.out z30 (0 : Int) zz80 (by have h_ : (0 : Int) < ((y104.length : Int) : Int):=of_decide_eq_true zz74;first|exact h_|(have e_:=(Kd.zL HO106.out).1;omega)|simpa using h_);obtain rfl:=z1Y hM16;have HP16:=Kd.z6O HX16.out (0 : Int) zz80 (by have h_ : (0 : Int) < ((y104.length : Int) : Int):=of_decide_eq_true zz74;first|exact h_|(have e_:=(Kd.zL HO106.out).1;omega)|simpa using h_) (seg:=[.int .u64 a1_0,.int .u64 a1_1]) (j:=0) hcl16 hcc16 (show 2 ≤ 2 from by decide) (x':=(⟨a1_0,a1_1⟩ : S30)) (z2F _ _ _ (⟨a1_0,a1_1⟩ : S30) ) (fun _ hk=>hk);have hx16_0:=hcc16 0 _ rfl;(try simp only [show (k30).sz = 2 from rfl,Nat.mul_one,Nat.add_zero] at hx16_0);(try rw [show ((0 : Int)).toNat = 0 from rfl] at hx16_0);(try simp only [Nat.reduceMul,Nat.zero_mul,Nat.zero_add,Nat.reduceAdd] at hx16_0);have hf16_0:=hfr16 0;(try simp only [show (k30).sz = 2 from rfl,Nat.mul_one,Nat.add_zero] at hf16_0);(try rw [show ((0 : Int)).toNat = 0 from rfl] at hf16_0);(try simp only [Nat.reduceMul,Nat.zero_mul,Nat.zero_add,Nat.reduceAdd] at hf16_0);have hx16_1:=hcc16 1 _ rfl;(try simp only [show (k30).sz = 2 from rfl,Nat.mul_one,Nat.add_zero] at hx16_1);(try rw [show ((0 : Int)).toNat = 0 from rfl] at hx16_1);(try simp only [Nat.reduceMul,Nat.zero_mul,Nat.zero_add,Nat.reduceAdd] at hx16_1);have hf16_1:=hfr16 1;(try simp only [show (k30).sz = 2 from rfl,Nat.mul_one,Nat.add_zero] at hf16_1);(try rw [show ((0 : Int)).toNat = 0 from rfl] at hf16_1);(try simp only [Nat.reduceMul,Nat.zero_mul,Nat.zero_add,Nat.reduceAdd] at hf16_1);clear hcl16 hcc16 hfr16 hM16)|((with_reducible refine z4K (t:=30) (p:=15) rfl ?_);refine z4m (t:=30) (p:=15) (v:=?vo_w17) (w1:=((w13.setCell ⟨go9,0,none⟩ (.int .u64 a1_0)).setCell ⟨go9,1,none⟩ (.int .u64 a1_1))) ?hg ?ho ?hn ?hr ?_;(case ho=>rfl);(case hg=>rfl);(case hn=>rfl);(case hr=>first|(go_simp;done)|(go_simp;rfl));intro w17 hw;have hg : w13.grownBy w17 (some go9):=(by rw [hw];exact HP16.2);have hp_ : Kd.R k30 30 w17 w.heap.size (fun k_=>k_ ≠ gb101) (.slice (some ⟨go9,0,none⟩) y104.length co9) y107:=(by rw [hw,Ny107.out];exact HP16.1);clear HP16;have n0_:=z1.mk (z26 (g:=gb101) (o:=.cells #[.int .u64 a1_0,.int .u64 a1_1] 30 (0,0)) zz29 hg (Kd.z2x HO106.out (fun _ hk=>hk)));have n1_:=z1.mk (hp_);have n2_:=z1.mk ((by rw [hw];exact zd (zd (HB.out) GB9.out) GB9.out : Below w.heap.size w w17));clear BK101;clear HO106;clear HB;have BK101:=n0_;have HO106:=n1_;have HB:=n2_;clear n0_ n1_ n2_;clear hg hw hp_))
 go_ret
 exact ⟨_,by first|rfl|(simp [zi,zj] <;> rfl)|(simp [*,zi,zj] <;> rfl),by (with_reducible repeat (first|apply Kd.zC|apply Kd.zD|apply Kd.zO));exact Kd.z16 HO106.out (fun _ hk=>trivial),by repeat (first|(with_reducible first|exact HB.out|apply z7|apply z2|apply z6|refine zd ?_ GE101.out)|exact HB.out)⟩
end Go.Proofs.Ytkhmpaooinpfoaa.P
namespace Go.Proofs.Ytkhmpaooinpfoaa.P
open Go.RowKit Go.Proofs.YtkhmpaooinpfoaaW.PrintWords Go.Proofs.YtkhmpaooinpfoaaW.PrintLast Go.Proofs.YtkhmpaooinpfoaaW.PrintMore
attribute [local go_sem] z12 z14 z1b z1c zW zX z13 z15   -- for this text's walks alone
set_option linter.unusedVariables false
set_option linter.unusedSimpArgs false
attribute [local go_sem high] eqA30
def zA.f (k : Nat)  : Option (Bool):=(zN.f k 1 0 2).bind fun t101=>((z1s.f k 1 0 2).bind fun t104=>((zB.f k 1 t101 t104).bind fun bt107=>(if bt107.2 = 0 then (if (bt107.1.length : Int) = 2 then (if 0 < (bt107.1.length : Int) then (if (((rd_T30 bt107.1 0).f0) == 0 && (((rd_T30 bt107.1 0).f1) == 0)) = true then (if 1 < (bt107.1.length : Int) then (some (((rd_T30 bt107.1 1).f0) == 0 && (((rd_T30 bt107.1 1).f1) == 2))) else (none)) else (some false)) else (none)) else (some false)) else (some false))))
theorem zA.mono : ∀ k,LeO (zA.f k ) (zA.f (k + 1) ):=by
 intro  k
 unfold zA.f
 repeat' first
  | (with_reducible exact zN.mono _ _ _ _)
  | (with_reducible exact z1s.mono _ _ _ _)
  | (with_reducible exact zB.mono _ _ _ _)
  | (with_reducible exact LeO.refl _)
  | (with_reducible exact LeO.none _)
  | (with_reducible refine LeO.ite ?_ ?_)
  | (with_reducible refine LeO.bind ?_ (fun _=>?_))
  | exact zN.mono _ _ _ _
  | exact z1s.mono _ _ _ _
  | exact zB.mono _ _ _ _
  | exact LeO.none _
  | refine LeO.ite ?_ ?_
  | refine LeO.bind ?_ (fun _=>?_)
set_option maxHeartbeats 8000000 in
set_option maxRecDepth 100000 in
theorem zA.calls (k : Nat)  (r : Bool) (w : World) (h : zA.f k  = some r) :
 Calls Try.prog 39 #[] w fun e w'=>e = .returned (.bool r) ∧ Below w.heap.size w w':=by
 have hu30:=Try.underlying30
 have HB:=z1.mk (Below.refl w.heap.size w)
 have H : ((zN.f k 1 0 2).bind fun t101=>((z1s.f k 1 0 2).bind fun t104=>((zB.f k 1 t101 t104).bind fun bt107=>(if bt107.2 = 0 then (if (bt107.1.length : Int) = 2 then (if 0 < (bt107.1.length : Int) then (if (((rd_T30 bt107.1 0).f0) == 0 && (((rd_T30 bt107.1 0).f1) == 0)) = true then (if 1 < (bt107.1.length : Int) then (some (((rd_T30 bt107.1 1).f0) == 0 && (((rd_T30 bt107.1 1).f1) == 2))) else (none)) else (some false)) else (none)) else (some false)) else (some false))))) = some r:=h
 clear h
 replace H:=Option.bind_eq_some_iff.mp H
 obtain ⟨t101,A10,H⟩:=H
 replace H : ((z1s.f k 1 0 2).bind fun t104=>((zB.f k 1 t101 t104).bind fun bt107=>(if bt107.2 = 0 then (if (bt107.1.length : Int) = 2 then (if 0 < (bt107.1.length : Int) then (if (((rd_T30 bt107.1 0).f0) == 0 && (((rd_T30 bt107.1 0).f1) == 0)) = true then (if 1 < (bt107.1.length : Int) then (some (((rd_T30 bt107.1 1).f0) == 0 && (((rd_T30 bt107.1 1).f1) == 2))) else (none)) else (some false)) else (none)) else (some false)) else (some false)))) = some r:=H
 have A1:=z1.mk A10
 clear A10
 replace H:=Option.bind_eq_some_iff.mp H
 obtain ⟨t104,A20,H⟩:=H
 replace H : ((zB.f k 1 t101 t104).bind fun bt107=>(if bt107.2 = 0 then (if (bt107.1.length : Int) = 2 then (if 0 < (bt107.1.length : Int) then (if (((rd_T30 bt107.1 0).f0) == 0 && (((rd_T30 bt107.1 0).f1) == 0)) = true then (if 1 < (bt107.1.length : Int) then (some (((rd_T30 bt107.1 1).f0) == 0 && (((rd_T30 bt107.1 1).f1) == 2))) else (none)) else (some false)) else (none)) else (some false)) else (some false))) = some r:=H
 have A2:=z1.mk A20
 clear A20
 replace H:=Option.bind_eq_some_iff.mp H
 obtain ⟨⟨t107,t110⟩,A30,H⟩:=H
 replace H : (if t110 = 0 then (if (t107.length : Int) = 2 then (if 0 < (t107.length : Int) then (if (((rd_T30 t107 0).f0) == 0 && (((rd_T30 t107 0).f1) == 0)) = true then (if 1 < (t107.length : Int) then (some (((rd_T30 t107 1).f0) == 0 && (((rd_T30 t107 1).f1) == 2))) else (none)) else (some false)) else (none)) else (some false)) else (some false)) = some r:=H
 have A3:=z1.mk A30
 clear A30
 by_cases c4 : t110 = 0
 rotate_left
 · rw [if_neg c4] at H
   have c4b0 : (t110 == 0) = false:=beq_eq_false_iff_ne.mpr c4
   have c4b1 : (t110 != 0) = true:=bne_iff_ne.mpr c4
   obtain rfl:=Option.some.inj H
   go_enter Try.func39,Try.ntmps39
   go_wp2_with (first|((with_reducible refine zl (f:=88) rfl ?_);refine goesL_ (some 5) rfl rfl Try.func88 zz78 rfl #[.int .i64 1,.agg #[.int .u64 0,.int .u64 2]] rfl zz27 ?_;(with_reducible refine (zN.calls k 1 0 2 t101 _ A1.out).mono ?_);rintro e w27 ⟨v102,rfl,ho0,hb⟩;refine ⟨_,rfl,?_⟩;have n0_:=z1.mk (Kd.z1l ho0 (z5 zz28));have n1_:=z1.mk (z4 zz28 hb);clear HB;have HO103:=n0_;have HB:=n1_;clear n0_ n1_;(try clear hb);(try clear hb2);(try clear hk);(try clear hi);(try clear ho0))|((with_reducible refine zl (f:=89) rfl ?_);refine goesL_ (some 7) rfl rfl Try.func89 zz78 rfl #[.int .i64 1,.agg #[.int .u64 0,.int .u64 2]] rfl zz27 ?_;(with_reducible refine (z1s.calls k 1 0 2 t104 _ A2.out).mono ?_);rintro e w28 ⟨v105,rfl,ho0,hb⟩;refine ⟨_,rfl,?_⟩;have n0_:=z1.mk (Kd.z1n zz41 (Kd.z1j ho0) hb);have n1_:=z1.mk (Kd.z1l (Kd.z1K ho0 (Kd.R_lt zz41)) (z5 zz28));have n2_:=z1.mk (z4 zz28 hb);clear HO103;clear HB;have HO103:=n0_;have HO106:=n1_;have HB:=n2_;clear n0_ n1_ n2_;(try clear hb);(try clear hb2);(try clear hk);(try clear hi);(try clear ho0);obtain ⟨Ao29,co29,eo29⟩:=Kd.z1p HO103.out;subst eo29;obtain ⟨Ao30,co30,eo30⟩:=Kd.z1p HO106.out;subst eo30)|((with_reducible refine zl (f:=41) rfl ?_);refine goesL_ (some 8) rfl rfl Try.func41 zz78 rfl #[.int .i64 1,.slice Ao29 t101.length co29,.slice Ao30 t104.length co30] rfl zz27 ?_;(with_reducible refine (zB.calls k 1 (fun k_=>some k_ = (.slice Ao29 t101.length co29 : Value).ownBlock) _ _ t101 (fun k_=>some k_ = (.slice Ao30 t104.length co30 : Value).ownBlock) _ _ t104 t107 t110 _ ?side1 ?side2 A3.out).mono ?_);(case side1=>exact Kd.R_V (Kd.z2o rfl (HO103.out)));(case side2=>exact Kd.R_V (Kd.z2o rfl (HO106.out)));rintro e w31 ⟨v108,rfl,ho0,hb⟩;refine ⟨_,rfl,?_⟩;have n0_:=z1.mk (Kd.z1n zz41 (Kd.z1j ho0) hb);have n1_:=z1.mk (Kd.z1n zz39 (Kd.z1j ho0) hb);have n2_:=z1.mk (Kd.z1l (Kd.z1K (Kd.z1K (Kd.z16 (ok':=fun k_=>True) ho0 (fun _ hk_=>trivial)) (Kd.R_lt zz41)) (Kd.R_lt zz39)) (z5 zz28));have n3_:=z1.mk (z4 zz28 hb);clear HO103;clear HO106;clear HB;have HO103:=n0_;have HO106:=n1_;have HO109:=n2_;have HB:=n3_;clear n0_ n1_ n2_ n3_;(try clear hb);(try clear hb2);(try clear hk);(try clear hi);(try clear ho0)))
   go_ret
   exact ⟨by first|rfl|(simp [zi,zj] <;> rfl)|(simp [*,zi,zj] <;> rfl),by repeat (first|(with_reducible first|exact HB.out|apply z7|apply z2|apply z6)|exact HB.out)⟩
 rw [if_pos c4] at H
 have c4b0 : (t110 == 0) = true:=beq_iff_eq.mpr c4
 have c4b1 : (t110 != 0) = false:=bne_eq_false_iff_eq.mpr c4
 clear c4
 by_cases c5 : (t107.length : Int) = 2
 rotate_left
 · rw [if_neg c5] at H
   have c5b0 : ((t107.length : Int) == 2) = false:=beq_eq_false_iff_ne.mpr c5
   have c5b1 : ((t107.length : Int) != 2) = true:=bne_iff_ne.mpr c5
   obtain rfl:=Option.some.inj H
   go_enter Try.func39,Try.ntmps39
   go_wp2_with (first|((with_reducible refine zl (f:=88) rfl ?_);refine goesL_ (some 5) rfl rfl Try.func88 zz78 rfl #[.int .i64 1,.agg #[.int .u64 0,.int .u64 2]] rfl zz27 ?_;(with_reducible refine (zN.calls k 1 0 2 t101 _ A1.out).mono ?_);rintro e w21 ⟨v102,rfl,ho0,hb⟩;refine ⟨_,rfl,?_⟩;have n0_:=z1.mk (Kd.z1l ho0 (z5 zz28));have n1_:=z1.mk (z4 zz28 hb);clear HB;have HO103:=n0_;have HB:=n1_;clear n0_ n1_;(try clear hb);(try clear hb2);(try clear hk);(try clear hi);(try clear ho0))|((with_reducible refine zl (f:=89) rfl ?_);refine goesL_ (some 7) rfl rfl Try.func89 zz78 rfl #[.int .i64 1,.agg #[.int .u64 0,.int .u64 2]] rfl zz27 ?_;(with_reducible refine (z1s.calls k 1 0 2 t104 _ A2.out).mono ?_);rintro e w22 ⟨v105,rfl,ho0,hb⟩;refine ⟨_,rfl,?_⟩;have n0_:=z1.mk (Kd.z1n zz41 (Kd.z1j ho0) hb);have n1_:=z1.mk (Kd.z1l (Kd.z1K ho0 (Kd.R_lt zz41)) (z5 zz28));have n2_:=z1.mk (z4 zz28 hb);clear HO103;clear HB;have HO103:=n0_;have HO106:=n1_;have HB:=n2_;clear n0_ n1_ n2_;(try clear hb);(try clear hb2);(try clear hk);(try clear hi);(try clear ho0);obtain ⟨Ao23,co23,eo23⟩:=Kd.z1p HO103.out;subst eo23;obtain ⟨Ao24,co24,eo24⟩:=Kd.z1p HO106.out;subst eo24)|((with_reducible refine zl (f:=41) rfl ?_);refine goesL_ (some 8) rfl rfl Try.func41 zz78 rfl #[.int .i64 1,.slice Ao23 t101.length co23,.slice Ao24 t104.length co24] rfl zz27 ?_;(with_reducible refine (zB.calls k 1 (fun k_=>some k_ = (.slice Ao23 t101.length co23 : Value).ownBlock) _ _ t101 (fun k_=>some k_ = (.slice Ao24 t104.length co24 : Value).ownBlock) _ _ t104 t107 t110 _ ?side1 ?side2 A3.out).mono ?_);(case side1=>exact Kd.R_V (Kd.z2o rfl (HO103.out)));(case side2=>exact Kd.R_V (Kd.z2o rfl (HO106.out)));rintro e w25 ⟨v108,rfl,ho0,hb⟩;refine ⟨_,rfl,?_⟩;have n0_:=z1.mk (Kd.z1n zz41 (Kd.z1j ho0) hb);have n1_:=z1.mk (Kd.z1n zz39 (Kd.z1j ho0) hb);have n2_:=z1.mk (Kd.z1l (Kd.z1K (Kd.z1K (Kd.z16 (ok':=fun k_=>True) ho0 (fun _ hk_=>trivial)) (Kd.R_lt zz41)) (Kd.R_lt zz39)) (z5 zz28));have n3_:=z1.mk (z4 zz28 hb);clear HO103;clear HO106;clear HB;have HO103:=n0_;have HO106:=n1_;have HO109:=n2_;have HB:=n3_;clear n0_ n1_ n2_ n3_;(try clear hb);(try clear hb2);(try clear hk);(try clear hi);(try clear ho0);obtain ⟨Ao26,co26,eo26⟩:=Kd.z1p HO109.out;subst eo26))
   go_ret
   exact ⟨by first|rfl|(simp [zi,zj] <;> rfl)|(simp [*,zi,zj] <;> rfl),by repeat (first|(with_reducible first|exact HB.out|apply z7|apply z2|apply z6)|exact HB.out)⟩
 rw [if_pos c5] at H
 have c5b0 : ((t107.length : Int) == 2) = true:=beq_iff_eq.mpr c5
 have c5b1 : ((t107.length : Int) != 2) = false:=bne_eq_false_iff_eq.mpr c5
 clear c5
 by_cases c6 : 0 < (t107.length : Int)
 rotate_left
 · rw [if_neg c6] at H
   exact absurd H zz81
 rw [if_pos c6] at H
 have c6b0 : decide (0 < (t107.length : Int)) = true:=decide_eq_true c6
 have c6b1 : decide (0 < t107.length) = true:=decide_eq_true zz80
 clear c6
 by_cases c7 : (((rd_T30 t107 0).f0) == 0 && (((rd_T30 t107 0).f1) == 0)) = true
 rotate_left
 · rw [if_neg c7] at H
   have c7b0 : (((rd_T30 t107 0).f0) == 0 && (((rd_T30 t107 0).f1) == 0)) = false:=by simpa using c7
   (try (have c7b1 : decide (((rd_T30 t107 0).f0) = 0 && (((rd_T30 t107 0).f1) == 0)) = false:=by simpa using c7))
   (try (have c7b2 : (((rd_T30 t107 0).f0) == 0 && (((rd_T30 t107 0).f1) == 0)) = false:=by simpa using c7))
   (try (have c7b3 : ¬ (((rd_T30 t107 0).f0) = 0 && (((rd_T30 t107 0).f1) == 0)):=by simpa using c7))
   clear c7
   obtain rfl:=Option.some.inj H
   go_enter Try.func39,Try.ntmps39
   go_wp2_with (first|((with_reducible refine zl (f:=88) rfl ?_);refine goesL_ (some 5) rfl rfl Try.func88 zz78 rfl #[.int .i64 1,.agg #[.int .u64 0,.int .u64 2]] rfl zz27 ?_;(with_reducible refine (zN.calls k 1 0 2 t101 _ A1.out).mono ?_);rintro e w15 ⟨v102,rfl,ho0,hb⟩;refine ⟨_,rfl,?_⟩;have n0_:=z1.mk (Kd.z1l ho0 (z5 zz28));have n1_:=z1.mk (z4 zz28 hb);clear HB;have HO103:=n0_;have HB:=n1_;clear n0_ n1_;(try clear hb);(try clear hb2);(try clear hk);(try clear hi);(try clear ho0))|((with_reducible refine zl (f:=89) rfl ?_);refine goesL_ (some 7) rfl rfl Try.func89 zz78 rfl #[.int .i64 1,.agg #[.int .u64 0,.int .u64 2]] rfl zz27 ?_;(with_reducible refine (z1s.calls k 1 0 2 t104 _ A2.out).mono ?_);rintro e w16 ⟨v105,rfl,ho0,hb⟩;refine ⟨_,rfl,?_⟩;have n0_:=z1.mk (Kd.z1n zz41 (Kd.z1j ho0) hb);have n1_:=z1.mk (Kd.z1l (Kd.z1K ho0 (Kd.R_lt zz41)) (z5 zz28));have n2_:=z1.mk (z4 zz28 hb);clear HO103;clear HB;have HO103:=n0_;have HO106:=n1_;have HB:=n2_;clear n0_ n1_ n2_;(try clear hb);(try clear hb2);(try clear hk);(try clear hi);(try clear ho0);obtain ⟨Ao17,co17,eo17⟩:=Kd.z1p HO103.out;subst eo17;obtain ⟨Ao18,co18,eo18⟩:=Kd.z1p HO106.out;subst eo18)|((with_reducible refine zl (f:=41) rfl ?_);refine goesL_ (some 8) rfl rfl Try.func41 zz78 rfl #[.int .i64 1,.slice Ao17 t101.length co17,.slice Ao18 t104.length co18] rfl zz27 ?_;(with_reducible refine (zB.calls k 1 (fun k_=>some k_ = (.slice Ao17 t101.length co17 : Value).ownBlock) _ _ t101 (fun k_=>some k_ = (.slice Ao18 t104.length co18 : Value).ownBlock) _ _ t104 t107 t110 _ ?side1 ?side2 A3.out).mono ?_);(case side1=>exact Kd.R_V (Kd.z2o rfl (HO103.out)));(case side2=>exact Kd.R_V (Kd.z2o rfl (HO106.out)));rintro e w19 ⟨v108,rfl,ho0,hb⟩;refine ⟨_,rfl,?_⟩;have n0_:=z1.mk (Kd.z1n zz41 (Kd.z1j ho0) hb);have n1_:=z1.mk (Kd.z1n zz39 (Kd.z1j ho0) hb);have n2_:=z1.mk (Kd.z1l (Kd.z1K (Kd.z1K (Kd.z16 (ok':=fun k_=>True) ho0 (fun _ hk_=>trivial)) (Kd.R_lt zz41)) (Kd.R_lt zz39)) (z5 zz28));have n3_:=z1.mk (z4 zz28 hb);clear HO103;clear HO106;clear HB;have HO103:=n0_;have HO106:=n1_;have HO109:=n2_;have HB:=n3_;clear n0_ n1_ n2_ n3_;(try clear hb);(try clear hb2);(try clear hk);(try clear hi);(try clear ho0);obtain ⟨Ao20,co20,eo20⟩:=Kd.z1p HO109.out;subst eo20;have p111 : 0 ≤ (0 : Int):=zz80;have q111 : 0 < (t107.length : Int):=of_decide_eq_true zz74;obtain ⟨ad111,e111,hx111_0,hx111_1⟩:=z2j (Kd.zL HO109.out).2.2 0 p111 q111;cases e111;have qi111 : (0 < t107.length) = True:=eq_true zz80;(try rw [show ((0 : Int)).toNat = 0 from rfl] at hx111_0);(try rw [show 0 * 2 = 0 from rfl] at hx111_0);(try rw [Addr.add_zero'] at hx111_0);(try rw [show ((0 : Int)).toNat = 0 from rfl] at hx111_1);(try rw [show 0 * 2 = 0 from rfl] at hx111_1);(try rw [Addr.add_zero'] at hx111_1);replace p111:=eq_true p111;replace q111:=eq_true q111))
   go_ret
   exact ⟨by first|rfl|(simp [zi,zj] <;> rfl)|(simp [*,zi,zj] <;> rfl),by repeat (first|(with_reducible first|exact HB.out|apply z7|apply z2|apply z6)|exact HB.out)⟩
 rw [if_pos c7] at H
 have c7b0 : (((rd_T30 t107 0).f0) == 0 && (((rd_T30 t107 0).f1) == 0)) = true:=c7
 (try (have c7b1 : decide (((rd_T30 t107 0).f0) = 0 && (((rd_T30 t107 0).f1) == 0)) = true:=by simpa using c7))
 (try (have c7b2 : (((rd_T30 t107 0).f0) == 0 && (((rd_T30 t107 0).f1) == 0)) = true:=by simpa using c7))
 clear c7
 by_cases c8 : 1 < (t107.length : Int)
 rotate_left
 · rw [if_neg c8] at H
   exact absurd H zz81
 rw [if_pos c8] at H
 have c8b0 : decide (1 < (t107.length : Int)) = true:=decide_eq_true c8
 have c8b1 : decide (1 < t107.length) = true:=decide_eq_true zz80
 clear c8
 obtain rfl:=Option.some.inj H
 go_enter Try.func39,Try.ntmps39
 go_wp2_with (first|((with_reducible refine zl (f:=88) rfl ?_);refine goesL_ (some 5) rfl rfl Try.func88 zz78 rfl #[.int .i64 1,.agg #[.int .u64 0,.int .u64 2]] rfl zz27 ?_;(with_reducible refine (zN.calls k 1 0 2 t101 _ A1.out).mono ?_);rintro e w9 ⟨v102,rfl,ho0,hb⟩;refine ⟨_,rfl,?_⟩;have n0_:=z1.mk (Kd.z1l ho0 (z5 zz28));have n1_:=z1.mk (z4 zz28 hb);clear HB;have HO103:=n0_;have HB:=n1_;clear n0_ n1_;(try clear hb);(try clear hb2);(try clear hk);(try clear hi);(try clear ho0))|((with_reducible refine zl (f:=89) rfl ?_);refine goesL_ (some 7) rfl rfl Try.func89 zz78 rfl #[.int .i64 1,.agg #[.int .u64 0,.int .u64 2]] rfl zz27 ?_;(with_reducible refine (z1s.calls k 1 0 2 t104 _ A2.out).mono ?_);rintro e w10 ⟨v105,rfl,ho0,hb⟩;refine ⟨_,rfl,?_⟩;have n0_:=z1.mk (Kd.z1n zz41 (Kd.z1j ho0) hb);have n1_:=z1.mk (Kd.z1l (Kd.z1K ho0 (Kd.R_lt zz41)) (z5 zz28));have n2_:=z1.mk (z4 zz28 hb);clear HO103;clear HB;have HO103:=n0_;have HO106:=n1_;have HB:=n2_;clear n0_ n1_ n2_;(try clear hb);(try clear hb2);(try clear hk);(try clear hi);(try clear ho0);obtain ⟨Ao11,co11,eo11⟩:=Kd.z1p HO103.out;subst eo11;obtain ⟨Ao12,co12,eo12⟩:=Kd.z1p HO106.out;subst eo12)|((with_reducible refine zl (f:=41) rfl ?_);refine goesL_ (some 8) rfl rfl Try.func41 zz78 rfl #[.int .i64 1,.slice Ao11 t101.length co11,.slice Ao12 t104.length co12] rfl zz27 ?_;(with_reducible refine (zB.calls k 1 (fun k_=>some k_ = (.slice Ao11 t101.length co11 : Value).ownBlock) _ _ t101 (fun k_=>some k_ = (.slice Ao12 t104.length co12 : Value).ownBlock) _ _ t104 t107 t110 _ ?side1 ?side2 A3.out).mono ?_);(case side1=>exact Kd.R_V (Kd.z2o rfl (HO103.out)));(case side2=>exact Kd.R_V (Kd.z2o rfl (HO106.out)));rintro e w13 ⟨v108,rfl,ho0,hb⟩;refine ⟨_,rfl,?_⟩;have n0_:=z1.mk (Kd.z1n zz41 (Kd.z1j ho0) hb);have n1_:=z1.mk (Kd.z1n zz39 (Kd.z1j ho0) hb);have n2_:=z1.mk (Kd.z1l (Kd.z1K (Kd.z1K (Kd.z16 (ok':=fun k_=>True) ho0 (fun _ hk_=>trivial)) (Kd.R_lt zz41)) (Kd.R_lt zz39)) (z5 zz28));have n3_:=z1.mk (z4 zz28 hb);clear HO103;clear HO106;clear HB;have HO103:=n0_;have HO106:=n1_;have HO109:=n2_;have HB:=n3_;clear n0_ n1_ n2_ n3_;(try clear hb);(try clear hb2);(try clear hk);(try clear hi);(try clear ho0);obtain ⟨Ao14,co14,eo14⟩:=Kd.z1p HO109.out;subst eo14;have p111 : 0 ≤ (0 : Int):=zz80;have q111 : 0 < (t107.length : Int):=of_decide_eq_true zz74;obtain ⟨ad111,e111,hx111_0,hx111_1⟩:=z2j (Kd.zL HO109.out).2.2 0 p111 q111;cases e111;have qi111 : (0 < t107.length) = True:=eq_true zz80;(try rw [show ((0 : Int)).toNat = 0 from rfl] at hx111_0);(try rw [show 0 * 2 = 0 from rfl] at hx111_0);(try rw [Addr.add_zero'] at hx111_0);(try rw [show ((0 : Int)).toNat = 0 from rfl] at hx111_1);(try rw [show 0 * 2 = 0 from rfl] at hx111_1);(try rw [Addr.add_zero'] at hx111_1);replace p111:=eq_true p111;replace q111:=eq_true q111;have p112 : 0 ≤ (1 : Int):=zz80;have q112 : 1 < (t107.length : Int):=of_decide_eq_true zz74;obtain ⟨ad112,e112,hx112_0,hx112_1⟩:=z2j (Kd.zL HO109.out).2.2 1 p112 q112;obtain rfl : ad111 = ad112:=(by injection e112);(try simp only [show (1 : Int).toNat = 1 from rfl,Nat.reduceMul,Nat.reduceEqDiff,Go.Addr.add,↓reduceIte] at hx112_0);(try simp only [show (1 : Int).toNat = 1 from rfl,Nat.reduceMul,Nat.reduceEqDiff,Go.Addr.add,↓reduceIte] at hx112_1);have qi112 : (1 < t107.length) = True:=eq_true zz80;(try rw [show ((1 : Int)).toNat = 1 from rfl] at hx112_0);(try rw [show 1 * 2 = 2 from rfl] at hx112_0);(try rw [show ((1 : Int)).toNat = 1 from rfl] at hx112_1);(try rw [show 1 * 2 = 2 from rfl] at hx112_1);replace p112:=eq_true p112;replace q112:=eq_true q112))
 go_ret
 exact ⟨by first|rfl|(simp [zi,zj] <;> rfl)|(simp [*,zi,zj] <;> rfl),by repeat (first|(with_reducible first|exact HB.out|apply z7|apply z2|apply z6)|exact HB.out)⟩
end Go.Proofs.Ytkhmpaooinpfoaa.P
namespace Go.Proofs.Ytkhmpaooinpfoaa.P
open Go.RowKit Go.Proofs.YtkhmpaooinpfoaaW.PrintWords Go.Proofs.YtkhmpaooinpfoaaW.PrintLast Go.Proofs.YtkhmpaooinpfoaaW.PrintMore
attribute [local go_sem] z12 z14 z1b z1c zW zX z13 z15   -- for this text's walks alone
set_option linter.unusedVariables false
set_option linter.unusedSimpArgs false
def z1g.f (l0 : List S30) : Option (List S30):=if l0.length < 8796093022208 then some l0 else none
set_option maxHeartbeats 800000 in
set_option maxRecDepth 100000 in
theorem z1g.calls (A0 : Option Addr) (c0 : Nat) (l0 : List S30) (r : List S30) (w : World) (hr0 : Kd.C k30 w A0 l0.length l0) (hc0 : l0.length ≤ c0) (h : z1g.f l0 = some r) :
 Calls Try.prog 91 #[.slice A0 l0.length c0] w fun e w'=>∃ v0_ : Value,e = .returned (v0_) ∧ Kd.R k30 30 w' w.heap.size (fun _=>True) v0_ r ∧ Below w.heap.size w w':=by
 have hlen : l0.length < 8796093022208 ∧ r = l0:=by
  unfold z1g.f at h
  split at h
  · exact ⟨by assumption,(Option.some.inj h).symm⟩
  · cases h
 obtain ⟨hlen,rfl⟩:=hlen
 have HB:=z1.mk (Below.refl w.heap.size w)
 have HR:=z1.mk hr0
 have HL:=z1.mk hlen
 clear h hlen
 cases A0 with
 | none =>
  have h0 : r = []:=by
   rcases Nat.eq_zero_or_pos r.length with h0|h0
   · exact List.eq_nil_of_length_eq_zero h0
   · obtain ⟨ad,h,_⟩:=HR.out.2.2 h0
     cases h
  subst h0
  clear hr0
  have he : ∀ w : World,(binOp .eql 80 (.slice none 0 c0) (.slice none 0 0)).run Try.prog w = .ok (.bool true) w:=fun _=>rfl
  go_enter Try.func91,Try.ntmps91
  go_wp2
  go_ret
  exact ⟨_,rfl,Kd.z3f _ _ _ _ _,HB.out⟩
 | some a =>
  clear hr0
  have he : ∀ w : World,(binOp .eql 80 (.slice (some a) r.length c0) (.slice none 0 0)).run Try.prog w = .ok (.bool false) w:=fun _=>rfl
  go_enter Try.func91,Try.ntmps91
  go_wp2_with (first
   | ((with_reducible refine zF (N:=5) rfl ?_);refine Kd.z6N k30 (w0:=w) w.heap.size 30 ?hg (N:=5) ?hd (xs:=([] : List S30)) (inner:=[]) (ok:=fun _=>True) (okp:=fun _=>True) ?hr ?hp (fun _ hk=>hk) trivial HB.out (z5 HB.out) zz81 ?_;(case hd=>rfl);(case hg=>rfl);(case hr=>first|(go_simp;done)|(go_simp;rfl));(case hp=>exact Reps.none _ _);intro v1 w1 ho hb hg hat;have n0_:=z1.mk ho;have n1_:=z1.mk hb;clear HB ho hb hg hat;have HO:=n0_;have HB:=n1_;clear n0_ n1_)
   | ((with_reducible refine z2k (b:=.append) (xs:=#[.tmp 5,.tmp 6]) rfl ?_);at_builtin;refine Kd.z4U k30 (w0:=w) w.heap.size rfl (.tmp 5) (.tmp 6) 80 30 (.agg #[(.int .u64 0),(.int .u64 0)]) 16 rfl Try.underlying80 info30 rfl zz79 zz80 v1 [] r _ _ _ (fun _=>True) (fun _=>False) rfl rfl ?aO ?aR (fun _ _ h=>h) (fun _ h=>h.elim) ?aF ?aB ?aS ?aL ?_;(case aR=>exact (Kd.z1X HR.out HB.out));(case aB=>exact HB.out);(case aF=>exact fun _ _=>trivial);(case aO=>exact HO.out);(case aS=>exact (z5 HB.out));(case aL=>have:=HL.out;simp only [List.length_nil];omega);intro v2 w2 ho hb hg hat;have n0_:=z1.mk ho;have n1_:=z1.mk hb;clear HB HO ho hb hg hat;have HO:=n0_;have HB:=n1_;clear n0_ n1_))
  go_ret
  exact ⟨_,rfl,HO.out,HB.out⟩
end Go.Proofs.Ytkhmpaooinpfoaa.P
namespace Go.Proofs.Ytkhmpaooinpfoaa.P
open Go.RowKit Go.Proofs.YtkhmpaooinpfoaaW.PrintWords Go.Proofs.YtkhmpaooinpfoaaW.PrintLast Go.Proofs.YtkhmpaooinpfoaaW.PrintMore
attribute [local go_sem] z12 z14 z1b z1c zW zX z13 z15   -- for this text's walks alone
set_option linter.unusedVariables false
set_option linter.unusedSimpArgs false
def zY.l0 : Nat → List (S30) → List (S30) → Int → Int → Option ((List (S30)) × Int)
 | 0,_,_,_,_=>none
 | k + 1,x9,x22,x23,x24=>if x24 < x23 then (if 0 ≤ x24 then (if x24 < (x22.length : Int) then (if x24 < (x9.length : Int) then ((z1L.f ((rd_T30 x9 x24).f0) ((rd_T30 x9 x24).f1) ((rd_T30 x22 x24).f0) ((rd_T30 x22 x24).f1)).bind fun bt111=>(zY.l0 k (x9.set (x24 : Int).toNat (⟨bt111.1,bt111.2⟩ : S30)) x22 x23 (wrap64 (x24 + 1)))) else (none)) else (none)) else (none)) else (some (x9,0))
def zY.f (k : Nat) (a0 : Int) (l1 : List (S30)) (l2 : List (S30)) : Option ((List (S30)) × Int):=(zv.f k a0 (([l1,l2] : List (List (S30)))) ([] : List (S30))).bind fun t104=>(if t104 = 0 then ((z1g.f l1).bind fun t105=>(zY.l0 k t105 l2 (l2.length : Int) 0)) else (some (([] : List (S30)),t104)))
theorem zY.z17 : ∀ k,(∀ y0 y1 y2 y3,LeO (zY.l0 k y0 y1 y2 y3) (zY.l0 (k + 1) y0 y1 y2 y3))
 | 0=>fun _ _ _ _ r h=>by simp [zY.l0] at h
 | k + 1=>by
  have ih0:=zY.z17 k
  · intro y0 y1 y2 y3
    unfold zY.l0
    repeat' first
    | (with_reducible exact ih0 _ _ _ _)
    | (with_reducible exact zv.mono _ _ _ _)
    | (with_reducible exact LeO.refl _)
    | (with_reducible exact LeO.none _)
    | (with_reducible refine LeO.ite ?_ ?_)
    | (with_reducible refine LeO.bind ?_ (fun _=>?_))
    | exact ih0 _ _ _ _
    | exact zv.mono _ _ _ _
    | exact LeO.none _
    | refine LeO.ite ?_ ?_
    | refine LeO.bind ?_ (fun _=>?_)
theorem zY.mono : ∀ a0 a1 a2 k,LeO (zY.f k a0 a1 a2) (zY.f (k + 1) a0 a1 a2):=by
 intro a0 a1 a2 k
 have ih0:=zY.z17 k
 unfold zY.f
 repeat' first
  | (with_reducible exact ih0 _ _ _ _)
  | (with_reducible exact zv.mono _ _ _ _)
  | (with_reducible exact LeO.refl _)
  | (with_reducible exact LeO.none _)
  | (with_reducible refine LeO.ite ?_ ?_)
  | (with_reducible refine LeO.bind ?_ (fun _=>?_))
  | exact ih0 _ _ _ _
  | exact zv.mono _ _ _ _
  | exact LeO.none _
  | refine LeO.ite ?_ ?_
  | refine LeO.bind ?_ (fun _=>?_)
def zY.T8 : Bool × List (List Nat × List Nat):=(true,[([],[]),([],[]),([],[]),([],[]),([2,3],[2,3]),([4],[4]),([],[]),([5,6],[5,6]),([0,1,0,1,2,3,4,5,6,7],[0,1]),([8,7,7,0,1,2,3,4,5,6,7],[7,8])])
def zY.B8 : List Nat:=[0,0,0,0,12,28,0,124,255,511]
theorem zY.tab8 : rtab .any (opsOf Try.f40 8) = zY.T8:=by kernel_rfl
theorem zY.bits8 : waitsOk zY.T8.2 zY.B8 = true:=by kernel_rfl
set_option maxHeartbeats 8000000 in
set_option maxRecDepth 100000 in
theorem zY.calls (k : Nat) (a0 : Int) (P1_ : Nat → Prop) (A1 : Option Addr) (c1 : Nat) (l1 : List (S30)) (P2_ : Nat → Prop) (A2 : Option Addr) (c2 : Nat) (l2 : List (S30)) (r1 : List (S30)) (r2 : Int) (w : World) (hs1 : Kd.V k30 30 w w.heap.size (fun k_=>P1_ k_) (.slice A1 l1.length c1) l1) (hs2 : Kd.V k30 30 w w.heap.size (fun k_=>P2_ k_) (.slice A2 l2.length c2) l2) (h : zY.f k a0 l1 l2 = some (r1,r2)) :
 Calls Try.prog 40 #[.int .i64 a0,.slice A1 l1.length c1,.slice A2 l2.length c2] w fun e w'=>∃ v0_ : Value,e = .returned (.tuple #[v0_,.int .i64 r2]) ∧ Kd.R k30 30 w' w.heap.size (fun k_=>(w.heap.size ≤ k_)) v0_ r1 ∧ Below w.heap.size w w':=by
 have hu30:=Try.underlying30
 have HO1:=z1.mk (show Kd.V k30 30 w w.heap.size (fun k_=>((P1_ k_ ∨ P2_ k_) ∨ w.heap.size ≤ k_)) (.slice A1 l1.length c1) l1 from Kd.z1o hs1 (fun k_ hk=>.inl (.inl hk)))
 have HO2:=z1.mk (show Kd.V k30 30 w w.heap.size (fun k_=>((P1_ k_ ∨ P2_ k_) ∨ w.heap.size ≤ k_)) (.slice A2 l2.length c2) l2 from Kd.z1o hs2 (fun k_ hk=>.inl (.inr hk)))
 have HB:=z1.mk (Below.refl w.heap.size w)
 have H : ((zv.f k a0 (([l1,l2] : List (List (S30)))) ([] : List (S30))).bind fun t104=>(if t104 = 0 then ((z1g.f l1).bind fun t105=>(zY.l0 k t105 l2 (l2.length : Int) 0)) else (some (([] : List (S30)),t104)))) = some (r1,r2):=h
 clear h
 obtain ⟨y101,hy101⟩ : ∃ y_ : List (List (S30)),y_ = (([l1,l2] : List (List (S30)))):=⟨_,rfl⟩
 replace H : ((zv.f k a0 y101 ([] : List (S30))).bind fun t104=>(if t104 = 0 then ((z1g.f l1).bind fun t105=>(zY.l0 k t105 l2 (l2.length : Int) 0)) else (some (([] : List (S30)),t104)))) = some (r1,r2):=by first|(rw [hy101];with_reducible exact H)|(have H2_:=(Option.bind_some _ _).symm.trans H;rw [hy101];with_reducible exact H2_)|(have H2_:=(Option.bind_some _ _).symm.trans H;with_reducible exact H2_)|with_reducible exact H|(rw [hy101];exact H)|exact H
 have Ny101:=z1.mk hy101
 clear hy101
 replace H:=Option.bind_eq_some_iff.mp H
 obtain ⟨t104,A40,H⟩:=H
 replace H : (if t104 = 0 then ((z1g.f l1).bind fun t105=>(zY.l0 k t105 l2 (l2.length : Int) 0)) else (some (([] : List (S30)),t104))) = some (r1,r2):=H
 have A4:=z1.mk A40
 clear A40
 by_cases c5 : t104 = 0
 rotate_left
 · rw [if_neg c5] at H
   have c5b0 : (t104 == 0) = false:=beq_eq_false_iff_ne.mpr c5
   have c5b1 : (t104 != 0) = true:=bne_iff_ne.mpr c5
   simp only [Option.some.injEq,Prod.mk.injEq] at H
   obtain ⟨rfl,rfl⟩:=H
   go_enter Try.func40,Try.ntmps40
   go_wp2_with (first|((with_reducible refine zF (N:=15) rfl ?_);refine Kd.z5j (Kd.slice 30 k30) _ 80 ?hg (N':=15) ?hd (xs:=([l1,l2] : List (List (S30)))) (inner:=[.slice A1 l1.length c1,.slice A2 l2.length c2]) (ok:=(fun k_=>((P1_ k_ ∨ P2_ k_) ∨ w.heap.size ≤ k_))) (okp:=(fun k_=>((P1_ k_ ∨ P2_ k_) ∨ w.heap.size ≤ k_))) ?hr ?hp (fun _ hk=>hk) ((show ∀ k_,w.heap.size ≤ k_ → (fun k_=>((P1_ k_ ∨ P2_ k_) ∨ w.heap.size ≤ k_)) k_ from fun k_ hk=>(.inr (Nat.le_trans (z5 zz28) hk))) _ (Nat.le_refl _)) (Below.refl _ _) (Nat.le_refl _) zz81 ?_;(case hd=>rfl);(case hg=>rfl);(case hr=>first|(go_simp;done)|(go_simp;rfl));(case hp=>exact (Reps.one (show Kd.FK (Kd.slice 30 k30) _ _ l1 [.slice A1 l1.length c1] from (Kd.z1A (Kd.z1t (Kd.z1o (ok':=(fun k_=>((P1_ k_ ∨ P2_ k_) ∨ w.heap.size ≤ k_))) (HO1.out) (fun k_ hk=>hk))).2.1 (Kd.V_F (Kd.z1o (ok':=(fun k_=>((P1_ k_ ∨ P2_ k_) ∨ w.heap.size ≤ k_))) zz61 (fun k_ hk=>hk))))) (Reps.one (show Kd.FK (Kd.slice 30 k30) _ _ l2 [.slice A2 l2.length c2] from (Kd.z1A (Kd.z1t (Kd.z1o (ok':=(fun k_=>((P1_ k_ ∨ P2_ k_) ∨ w.heap.size ≤ k_))) (HO2.out) (fun k_ hk=>hk))).2.1 (Kd.V_F (Kd.z1o (ok':=(fun k_=>((P1_ k_ ∨ P2_ k_) ∨ w.heap.size ≤ k_))) zz62 (fun k_ hk=>hk))))) (Reps.none _ _))));intro v102 w25 ho26 hb hg_ hnew_;clear hg_ hnew_;(first|rw [← Ny101.out] at ho26|(simp only [Int.reduceToNat] at ho26;rw [← Ny101.out] at ho26));have n0_:=z1.mk (Kd.z1q zz61 (Kd.z2v ho26) hb);have n1_:=z1.mk (Kd.z1q zz62 (Kd.z2v ho26) hb);have n2_:=z1.mk (Kd.z2W ho26 (z5 zz28));have n3_:=z1.mk (z4 zz28 hb);clear HO1;clear HO2;clear HB;have HO1:=n0_;have HO2:=n1_;have HO103:=n2_;have HB:=n3_;clear n0_ n1_ n2_ n3_;clear hb ho26;obtain ⟨Ao27,co27,eo27⟩:=Kd.z2X HO103.out;subst eo27)|((with_reducible refine zl (f:=90) rfl ?_);refine goesL_ (some 16) rfl rfl Try.func90 zz78 rfl #[.int .i64 a0,.slice Ao27 y101.length co27,.slice none 0 0] rfl zz27 ?_;(refine (zv.calls k a0 _ _ y101 _ _ ([] : List (S30)) t104 _ ?side1 ?side2 ?side3 ?side4 A4.out).mono ?_);(case side1=>repeat (first|exact (Kd.z1T HO103.out).2.2|(with_reducible refine Kd.z1h ?_ _)|(with_reducible refine Kd.z1i ?_ _)|(with_reducible refine Kd.z1y ?_)));(case side2=>exact (Kd.z1T HO103.out).2.1);(case side3=>exact Kd.z5i _ _);(case side4=>exact Nat.le_refl _);rintro e w28 ⟨rfl,hb⟩;refine ⟨_,rfl,?_⟩;have n0_:=z1.mk (Kd.z1O zz61 hb);have n1_:=z1.mk (Kd.z1O zz62 hb);have n2_:=z1.mk (Kd.z2d zz37 hb);have n3_:=z1.mk (z4 zz28 hb);clear HO1;clear HO2;clear HO103;clear HB;have HO1:=n0_;have HO2:=n1_;have HO103:=n2_;have HB:=n3_;clear n0_ n1_ n2_ n3_;(try clear hb);(try clear hb2);(try clear hk);(try clear hi)))
   go_ret2
   exact ⟨_,by first|rfl|(simp [zi,zj] <;> rfl)|(simp [*,zi,zj] <;> rfl),by first|exact Kd.z3f _ _ _ _ _|exact Kd.z3P _ _ _ _ _|exact Kd.z3S _ _ _ _ _|exact Kd.z3Q _ _ _ _ _|exact Kd.z3R _ _ _ _ _,by repeat (first|(with_reducible first|exact HB.out|apply z7|apply z2|apply z6)|exact HB.out)⟩
 rw [if_pos c5] at H
 have c5b0 : (t104 == 0) = true:=beq_iff_eq.mpr c5
 have c5b1 : (t104 != 0) = false:=bne_eq_false_iff_eq.mpr c5
 clear c5
 replace H:=Option.bind_eq_some_iff.mp H
 obtain ⟨t105,A60,H⟩:=H
 replace H : (zY.l0 k t105 l2 (l2.length : Int) 0) = some (r1,r2):=H
 have A6:=z1.mk A60
 clear A60
 have H':=z1.mk H
 clear H
 go_enter Try.func40,Try.ntmps40
 go_wp2_with (first|((with_reducible refine zF (N:=15) rfl ?_);refine Kd.z5j (Kd.slice 30 k30) _ 80 ?hg (N':=15) ?hd (xs:=([l1,l2] : List (List (S30)))) (inner:=[.slice A1 l1.length c1,.slice A2 l2.length c2]) (ok:=(fun k_=>((P1_ k_ ∨ P2_ k_) ∨ w.heap.size ≤ k_))) (okp:=(fun k_=>((P1_ k_ ∨ P2_ k_) ∨ w.heap.size ≤ k_))) ?hr ?hp (fun _ hk=>hk) ((show ∀ k_,w.heap.size ≤ k_ → (fun k_=>((P1_ k_ ∨ P2_ k_) ∨ w.heap.size ≤ k_)) k_ from fun k_ hk=>(.inr (Nat.le_trans (z5 zz28) hk))) _ (Nat.le_refl _)) (Below.refl _ _) (Nat.le_refl _) zz81 ?_;(case hd=>rfl);(case hg=>rfl);(case hr=>first|(go_simp;done)|(go_simp;rfl));(case hp=>exact (Reps.one (show Kd.FK (Kd.slice 30 k30) _ _ l1 [.slice A1 l1.length c1] from (Kd.z1A (Kd.z1t (Kd.z1o (ok':=(fun k_=>((P1_ k_ ∨ P2_ k_) ∨ w.heap.size ≤ k_))) (HO1.out) (fun k_ hk=>hk))).2.1 (Kd.V_F (Kd.z1o (ok':=(fun k_=>((P1_ k_ ∨ P2_ k_) ∨ w.heap.size ≤ k_))) zz61 (fun k_ hk=>hk))))) (Reps.one (show Kd.FK (Kd.slice 30 k30) _ _ l2 [.slice A2 l2.length c2] from (Kd.z1A (Kd.z1t (Kd.z1o (ok':=(fun k_=>((P1_ k_ ∨ P2_ k_) ∨ w.heap.size ≤ k_))) (HO2.out) (fun k_ hk=>hk))).2.1 (Kd.V_F (Kd.z1o (ok':=(fun k_=>((P1_ k_ ∨ P2_ k_) ∨ w.heap.size ≤ k_))) zz62 (fun k_ hk=>hk))))) (Reps.none _ _))));intro v102 w7 ho8 hb hg_ hnew_;clear hg_ hnew_;(first|rw [← Ny101.out] at ho8|(simp only [Int.reduceToNat] at ho8;rw [← Ny101.out] at ho8));have n0_:=z1.mk (Kd.z1q zz61 (Kd.z2v ho8) hb);have n1_:=z1.mk (Kd.z1q zz62 (Kd.z2v ho8) hb);have n2_:=z1.mk (Kd.z2W ho8 (z5 zz28));have n3_:=z1.mk (z4 zz28 hb);clear HO1;clear HO2;clear HB;have HO1:=n0_;have HO2:=n1_;have HO103:=n2_;have HB:=n3_;clear n0_ n1_ n2_ n3_;clear hb ho8;obtain ⟨Ao9,co9,eo9⟩:=Kd.z2X HO103.out;subst eo9)|((with_reducible refine zl (f:=90) rfl ?_);refine goesL_ (some 16) rfl rfl Try.func90 zz78 rfl #[.int .i64 a0,.slice Ao9 y101.length co9,.slice none 0 0] rfl zz27 ?_;(refine (zv.calls k a0 _ _ y101 _ _ ([] : List (S30)) t104 _ ?side1 ?side2 ?side3 ?side4 A4.out).mono ?_);(case side1=>repeat (first|exact (Kd.z1T HO103.out).2.2|(with_reducible refine Kd.z1h ?_ _)|(with_reducible refine Kd.z1i ?_ _)|(with_reducible refine Kd.z1y ?_)));(case side2=>exact (Kd.z1T HO103.out).2.1);(case side3=>exact Kd.z5i _ _);(case side4=>exact Nat.le_refl _);rintro e w10 ⟨rfl,hb⟩;refine ⟨_,rfl,?_⟩;have n0_:=z1.mk (Kd.z1O zz61 hb);have n1_:=z1.mk (Kd.z1O zz62 hb);have n2_:=z1.mk (Kd.z2d zz37 hb);have n3_:=z1.mk (z4 zz28 hb);clear HO1;clear HO2;clear HO103;clear HB;have HO1:=n0_;have HO2:=n1_;have HO103:=n2_;have HB:=n3_;clear n0_ n1_ n2_ n3_;(try clear hb);(try clear hb2);(try clear hk);(try clear hi))|((with_reducible refine zl (f:=91) rfl ?_);refine goesL_ (some 21) rfl rfl Try.func91 zz78 rfl #[.slice A1 l1.length c1] rfl zz27 ?_;(with_reducible refine (z1g.calls _ _ l1 t105 _ ?side1 ?side2 A6.out).mono ?_);(case side1=>repeat (first|exact (Kd.z1t HO1.out).2.2|(with_reducible refine Kd.z1h ?_ _)|(with_reducible refine Kd.z1i ?_ _)|(with_reducible refine Kd.z1y ?_)));(case side2=>exact (Kd.z1t HO1.out).2.1);rintro e w11 ⟨v106,rfl,ho0,hb⟩;refine ⟨_,rfl,?_⟩;have n0_:=z1.mk (Kd.z1q zz61 (Kd.z1j ho0) hb);have n1_:=z1.mk (Kd.z1q zz62 (Kd.z1j ho0) hb);have n2_:=z1.mk (Kd.z2w zz37 (Kd.z1j ho0) hb);have n3_:=z1.mk (Kd.z1l (Kd.z2I (M:=fun k_=>(w.heap.size ≤ k_)) ho0 (z5 zz28) (fun k_ h_=>h_)) (z5 zz28));have n4_:=z1.mk (z4 zz28 hb);clear HO1;clear HO2;clear HO103;clear HB;have HO1:=n0_;have HO2:=n1_;have HO103:=n2_;have HO107:=n3_;have HB:=n4_;clear n0_ n1_ n2_ n3_ n4_;(try clear hb);(try clear hb2);(try clear hk);(try clear hi);(try clear ho0)))
 go_loopg [24] k (fun kq v24 w'=>∃ (x9_1 : List (S30)) (x24_1 : Int),v24 = .int .i64 x24_1 ∧ z1 (zY.l0 kq x9_1 l2 (l2.length : Int) x24_1 = some (r1,r2)) ∧ z1 (kq ≤ k) ∧ z1 (Kd.R k30 30 w' w.heap.size (fun k_=>(w.heap.size ≤ k_)) v106 x9_1) ∧ z1 (Kd.V k30 30 w' w.heap.size (fun k_=>((P1_ k_ ∨ P2_ k_) ∨ w.heap.size ≤ k_) ∧ some k_ ≠ (v106 : Value).ownBlock) (.slice A2 l2.length c2) l2) ∧ z1 (Below w.heap.size w w'))
 case atStart=>exact ⟨(t105),(0),zz75,H',⟨Nat.le_refl _⟩,⟨by (with_reducible repeat (first|apply Kd.zC|apply Kd.zD|apply Kd.zO));exact Kd.z16 HO107.out (fun _ hk=>hk.1)⟩,⟨by (with_reducible repeat (first|apply Kd.z28|apply Kd.z29|apply Kd.z2i));exact Kd.z1o HO2.out (fun _ hk=>⟨hk.1.1,hk.2⟩)⟩,⟨by repeat (first|(with_reducible first|exact HB.out|apply z7|apply z2|apply z6)|exact HB.out)⟩⟩
 case round =>
  clear H'
  (try clear c1);(try clear c2);(try clear p2);(try clear c4);(try clear c5);(try clear c5b0);(try clear c5b1);(try clear c9)
  obtain ⟨x9_1,x24_1,rfl,HA,HK1,HO_9,HO_22,HB⟩:=hrel
  cases gk with
  | zero=>exact absurd HA.out (by simp [zY.l0])
  | succ k1 =>
   have H:=HA.out
   clear HA
   simp only [zY.l0] at H
   by_cases c12 : x24_1 < (l2.length : Int)
   rotate_left
   · rw [if_neg c12] at H
     have c12b0 : decide (x24_1 < (l2.length : Int)) = false:=decide_eq_false c12
     clear c12
     simp only [Option.some.injEq,Prod.mk.injEq] at H
     obtain ⟨rfl,rfl⟩:=H
     go_wp2
     go_ret2
     exact ⟨_,by first|rfl|(simp [zi,zj] <;> rfl)|(simp [*,zi,zj] <;> rfl),by (with_reducible repeat (first|apply Kd.zC|apply Kd.zD|apply Kd.zO));exact HO_9.out,by repeat (first|(with_reducible first|exact HB.out|apply z7|apply z2|apply z6)|exact HB.out)⟩
   rw [if_pos c12] at H
   have c12b0 : decide (x24_1 < (l2.length : Int)) = true:=decide_eq_true c12
   clear c12
   by_cases c13 : 0 ≤ x24_1
   rotate_left
   · rw [if_neg c13] at H
     exact absurd H zz81
   rw [if_pos c13] at H
   have c13b0 : decide (0 ≤ x24_1) = true:=decide_eq_true c13
   clear c13
   by_cases c14 : x24_1 < (l2.length : Int)
   rotate_left
   · rw [if_neg c14] at H
     exact absurd H zz81
   rw [if_pos c14] at H
   have c14b0 : decide (x24_1 < (l2.length : Int)) = true:=decide_eq_true c14
   clear c14
   by_cases c15 : x24_1 < (x9_1.length : Int)
   rotate_left
   · rw [if_neg c15] at H
     exact absurd H zz81
   rw [if_pos c15] at H
   have c15b0 : decide (x24_1 < (x9_1.length : Int)) = true:=decide_eq_true c15
   clear c15
   replace H:=Option.bind_eq_some_iff.mp H
   obtain ⟨⟨t111,t112⟩,A160,H⟩:=H
   replace H : (zY.l0 k1 (x9_1.set (x24_1 : Int).toNat (⟨t111,t112⟩ : S30)) l2 (l2.length : Int) (wrap64 (x24_1 + 1))) = some (r1,r2):=H
   have A16:=z1.mk A160
   clear A160
   obtain ⟨y113,hy113⟩ : ∃ y_ : List (S30),y_ = (x9_1.set (x24_1 : Int).toNat (⟨t111,t112⟩ : S30)):=⟨_,rfl⟩
   replace H : (zY.l0 k1 y113 l2 (l2.length : Int) (wrap64 (x24_1 + 1))) = some (r1,r2):=by first|(rw [hy113];with_reducible exact H)|(have H2_:=(Option.bind_some _ _).symm.trans H;rw [hy113];with_reducible exact H2_)|(have H2_:=(Option.bind_some _ _).symm.trans H;with_reducible exact H2_)|with_reducible exact H|(rw [hy113];exact H)|exact H
   have Ny113:=z1.mk hy113
   clear hy113
   have H':=z1.mk H
   clear H
   have p108 : 0 ≤ (x24_1 : Int):=of_decide_eq_true zz74
   have q108 : x24_1 < (l2.length : Int):=of_decide_eq_true zz74
   obtain ⟨ad108,e108,hx108_0,hx108_1⟩:=z2j (Kd.z1t HO_22.out).2.2 x24_1 p108 q108
   cases e108
   replace p108:=eq_true p108
   replace q108:=eq_true q108
   try go_wp2_with (first|((with_reducible refine zF (N:=11) rfl ?_);refine zG ?hg (N:=11) ?hd (cs:=#[.int .u64 0,.int .u64 0]) (t:=30) ?hr ?_;(case hd=>rfl);(case hg=>rfl);(case hr=>first|(go_simp;done)|(go_simp;rfl));intro gb109 hg w18 hbox hb;have n0_:=z1.mk (Kd.zJ (Kd.z1U zz56 gb109 (Nat.le_of_eq hg.symm)) hb);have n1_:=z1.mk (Kd.z1O (Kd.z4W zz42 gb109 (Nat.le_of_eq hg.symm)) hb);have n2_:=z1.mk (z4 zz28 hb);have n3_:=z1.mk (hbox);have n4_:=z1.mk ((by rw [hg];exact (z5 zz28) : w.heap.size ≤ gb109));have n5_:=z1.mk ((by rw [hg];exact (z5 zz28) : w.heap.size ≤ gb109));clear HO_9;clear HO_22;clear HB;have HO_9:=n0_;have HO_22:=n1_;have HB:=n2_;have BK109:=n3_;have GW109:=n4_;have GE109:=n5_;clear n0_ n1_ n2_ n3_ n4_ n5_;clear hb hbox hg;have hcz19_0 : w18.cell? ⟨gb109,0,none⟩ = some (.int .u64 0):=(zc BK109.out 0).trans rfl;have hcz19_1 : w18.cell? ⟨gb109,1,none⟩ = some (.int .u64 0):=(zc BK109.out 1).trans rfl;have hfz19_0:=z8 BK109.out 0;have hfz19_1:=z8 BK109.out 1))
   have n0_ : z1 (Kd.R k30 30 ((w18.setCell ⟨gb109,0,none⟩ (.int .u64 ((rd_T30 l2 x24_1).f0))).setCell ⟨gb109,1,none⟩ (.int .u64 ((rd_T30 l2 x24_1).f1))) w.heap.size (fun k_=>(w.heap.size ≤ k_) ∧ k_ ≠ gb109) v106 x9_1):=⟨by (with_reducible repeat (first|apply Kd.zC|apply Kd.zD|apply Kd.zO));exact Kd.z16 (Kd.z2u (p:=⟨gb109,1,none⟩) (Kd.z2u (p:=⟨gb109,0,none⟩) (Kd.z16 HO_9.out (fun k_ hk=>(⟨hk,hk.2⟩ : _ ∧ k_ ≠ gb109))) (fun _ hk=>hk.2) (.int .u64 ((rd_T30 l2 x24_1).f0))) (fun _ hk=>hk.2) (.int .u64 ((rd_T30 l2 x24_1).f1))) (fun _ hk=>⟨hk.1.1,hk.1.2⟩)⟩
   have n1_ : z1 (Kd.V k30 30 ((w18.setCell ⟨gb109,0,none⟩ (.int .u64 ((rd_T30 l2 x24_1).f0))).setCell ⟨gb109,1,none⟩ (.int .u64 ((rd_T30 l2 x24_1).f1))) w.heap.size (fun k_=>((P1_ k_ ∨ P2_ k_) ∨ w.heap.size ≤ k_) ∧ some k_ ≠ (v106 : Value).ownBlock ∧ k_ ≠ gb109) (.slice (some ad108) l2.length c2) l2):=⟨by (with_reducible repeat (first|apply Kd.z28|apply Kd.z29|apply Kd.z2i));exact Kd.z1o (Kd.z5l (p:=⟨gb109,1,none⟩) (Kd.z5l (p:=⟨gb109,0,none⟩) (Kd.z1o HO_22.out (fun k_ hk=>(⟨hk,hk.2⟩ : _ ∧ k_ ≠ gb109))) (fun _ hk=>hk.2) (.int .u64 ((rd_T30 l2 x24_1).f0))) (fun _ hk=>hk.2) (.int .u64 ((rd_T30 l2 x24_1).f1))) (fun _ hk=>⟨hk.1.1.1,⟨hk.1.1.2,hk.1.2⟩⟩)⟩
   have n2_ : z1 (((w18.setCell ⟨gb109,0,none⟩ (.int .u64 ((rd_T30 l2 x24_1).f0))).setCell ⟨gb109,1,none⟩ (.int .u64 ((rd_T30 l2 x24_1).f1))).heap[gb109]? = some (.cells #[.int .u64 ((rd_T30 l2 x24_1).f0),.int .u64 ((rd_T30 l2 x24_1).f1)] 30 (0,0))):=⟨by (with_reducible repeat (first|refine zb ?_ _|refine zf ?_|refine za ?_ _));refine z1m (cs:=#[.int .u64 ((rd_T30 l2 x24_1).f0),.int .u64 0]) ?_ 1 _ rfl;(with_reducible repeat (first|refine zb ?_ _|refine zf ?_|refine za ?_ _));refine z1m (cs:=#[.int .u64 0,.int .u64 0]) ?_ 0 _ rfl;(with_reducible repeat (first|refine zb ?_ _|refine zf ?_|refine za ?_ _));exact BK109.out⟩
   have n3_ : z1 (Below w.heap.size w ((w18.setCell ⟨gb109,0,none⟩ (.int .u64 ((rd_T30 l2 x24_1).f0))).setCell ⟨gb109,1,none⟩ (.int .u64 ((rd_T30 l2 x24_1).f1)))):=⟨by repeat (first|(with_reducible first|exact HB.out|apply z7|apply z2|apply z6|refine zd ?_ GE109.out)|exact HB.out)⟩
   (try clear HO_9)
   (try clear HO_22)
   (try clear BK109)
   (try clear HB)
   generalize ((w18.setCell ⟨gb109,0,none⟩ (.int .u64 ((rd_T30 l2 x24_1).f0))).setCell ⟨gb109,1,none⟩ (.int .u64 ((rd_T30 l2 x24_1).f1))) = w20 at n0_ n1_ n2_ n3_ ⊢
   have HO_9:=n0_
   have HO_22:=n1_
   have BK109:=n2_
   have HB:=n3_
   clear n0_ n1_ n2_ n3_
   have n0_:=z1.mk (Kd.zO HO_9.out)
   have n1_:=z1.mk (Kd.z2i HO_22.out)
   have n2_:=z1.mk (zf BK109.out)
   have n3_:=z1.mk (z6 HB.out)
   clear HO_9
   clear HO_22
   clear BK109
   clear HB
   have HO_9:=n0_
   have HO_22:=n1_
   have BK109:=n2_
   have HB:=n3_
   clear n0_ n1_ n2_ n3_
   obtain ⟨Ao22,co22,eo22⟩:=Kd.z1p HO_9.out
   (first|subst eo22|(injection eo22 with f1_ f2_ f3_;have f4_:=f1_.symm;have f5_:=f3_.symm;clear f1_ f2_ f3_;subst f4_;subst f5_))
   have p110 : 0 ≤ (x24_1 : Int):=of_decide_eq_true zz74
   have q110 : x24_1 < (x9_1.length : Int):=of_decide_eq_true zz74
   obtain ⟨ad110,e110,hx110_0,hx110_1⟩:=z2j (Kd.zL HO_9.out).2.2 x24_1 p110 q110
   cases e110
   replace p110:=eq_true p110
   replace q110:=eq_true q110
   refine start_ (n:=10) (S:=fun w'=>w'.cell? ⟨gb109,0,none⟩ = some (.int .u64 ((rd_T30 l2 x24_1).f0)) ∧ w'.cell? ⟨gb109,1,none⟩ = some (.int .u64 ((rd_T30 l2 x24_1).f1)) ∧ w'.cell? (ad110.add ((x24_1).toNat * 2)) = some (.int .u64 ((rd_T30 x9_1 x24_1).f0)) ∧ w'.cell? ⟨(ad110.add ((x24_1).toNat * 2)).block,(ad110.add ((x24_1).toNat * 2)).off + 1,none⟩ = some (.int .u64 ((rd_T30 x9_1 x24_1).f1))) (ds:=[9]) #[false,false,false,false,false,false,false,false,false,false] zz78 rfl rfl ⟨(zc BK109.out 0).trans rfl,(zc BK109.out 1).trans rfl,hx110_0,hx110_1⟩ (fun hHeld=>?_);refine z22 zY.tab8 zY.bits8 (fun HT_ HW_=>?_)
   generalize w20.drew = w21 at HO_9 HO_22 BK109 HB hx110_0 hx110_1 hHeld ⊢
   refine pure_ (i:=0) (N:=some 29) (v:=?_) (a':=?_) #[true,false,false,false,false,false,false,false,false,false] rfl rfl (z1e HT_.out zz78) (fun _ _ _ h=>h) (Or.inl ⟨by rfl,?_⟩) ?_ ?_
   rotate_left
   · intro w'
     go_simp
     with_reducible rfl
   rotate_left
   · simp only [Act.put,List.setIfInBounds_toArray,List.set_cons_zero,List.set_cons_succ,zS,zZ]
     rfl
   refine pure_ (i:=1) (N:=some 30) (v:=?_) (a':=?_) #[true,true,false,false,false,false,false,false,false,false] rfl rfl (z1e HT_.out zz78) (fun _ _ _ h=>h) (Or.inl ⟨by rfl,?_⟩) ?_ ?_
   rotate_left
   · intro w'
     go_simp
     with_reducible rfl
   rotate_left
   · simp only [Act.put,List.setIfInBounds_toArray,List.set_cons_zero,List.set_cons_succ,zS,zZ]
     rfl
   refine pure_ (i:=2) (N:=some 31) (v:=?_) (a':=?_) #[true,true,true,false,false,false,false,false,false,false] rfl rfl (z1e HT_.out zz78) (fun _ _ _ h=>h) (Or.inl ⟨by rfl,?_⟩) ?_ ?_
   rotate_left
   · intro w'
     go_simp
     with_reducible rfl
   rotate_left
   · simp only [Act.put,List.setIfInBounds_toArray,List.set_cons_zero,List.set_cons_succ,zS,zZ]
     rfl
   refine pure_ (i:=3) (N:=some 32) (v:=?_) (a':=?_) #[true,true,true,true,false,false,false,false,false,false] rfl rfl (z1e HT_.out zz78) (fun _ _ _ h=>h) (Or.inl ⟨by rfl,?_⟩) ?_ ?_
   rotate_left
   · intro w'
     go_simp
     with_reducible rfl
   rotate_left
   · simp only [Act.put,List.setIfInBounds_toArray,List.set_cons_zero,List.set_cons_succ,zS,zZ]
     rfl
   refine pure_ (i:=4) (N:=some 33) (v:=?_) (a':=?_) #[true,true,true,true,true,false,false,false,false,false] rfl rfl (z1e HT_.out zz78) (fun _ _ _ h=>h) (Or.inl ⟨by rfl,?_⟩) ?_ ?_
   rotate_left
   · intro w'
     go_simp
     with_reducible rfl
   rotate_left
   · simp only [Act.put,List.setIfInBounds_toArray,List.set_cons_zero,List.set_cons_succ,zS,zZ]
     rfl
   refine take_ (i:=5) (N:=some 34) (v:=?_) (a':=?_) #[true,true,true,true,true,true,false,false,false,false] rfl rfl (z1I HT_.out HW_.out zz78) (fun _ _ _ h=>h) (Or.inl ⟨by rfl,?_⟩) hHeld ?_ ?_
   rotate_left
   · rintro w' ⟨s0,s1,s2,s3⟩
     go_simp
     with_reducible rfl
   rotate_left
   · simp only [Act.put,List.setIfInBounds_toArray,List.set_cons_zero,List.set_cons_succ,zS,zZ]
     rfl
   refine take_ (i:=6) (N:=some 35) (v:=?_) (a':=?_) #[true,true,true,true,true,true,true,false,false,false] rfl rfl (z1I HT_.out HW_.out zz78) (fun _ _ _ h=>h) (Or.inl ⟨by rfl,?_⟩) hHeld ?_ ?_
   rotate_left
   · rintro w' ⟨s0,s1,s2,s3⟩
     go_simp
     with_reducible rfl
   rotate_left
   · simp only [Act.put,List.setIfInBounds_toArray,List.set_cons_zero,List.set_cons_succ,zS,zZ]
     rfl
   refine one_ (i:=7) (N:=some 36) #[true,true,true,true,true,true,true,true,false,false] rfl rfl (z1J HT_.out zz78) zz79 (fun K hK=>?_)
   refine goes_ Try.func64 zz78 rfl #[.agg #[.int .u64 ((rd_T30 x9_1 x24_1).f0),.int .u64 ((rd_T30 x9_1 x24_1).f1)],.agg #[.int .u64 ((rd_T30 l2 x24_1).f0),.int .u64 ((rd_T30 l2 x24_1).f1)]] zz82 rfl rfl zz27 ?_
   with_reducible refine (z1L.calls ((rd_T30 x9_1 x24_1).f0) ((rd_T30 x9_1 x24_1).f1) ((rd_T30 l2 x24_1).f0) ((rd_T30 l2 x24_1).f1) t111 t112 _ A16.out).mono ?_
   rintro e w23 ⟨rfl,hb⟩
   have HS2_:=(hb.cell (World.block_lt_of_cell? _ _ (hHeld.2.2.1))).trans (hHeld.2.2.1)
   have HS3_:=(hb.cell (World.block_lt_of_cell? _ _ (hHeld.2.2.2))).trans (hHeld.2.2.2)
   refine ⟨_,rfl,?_⟩
   have n0_:=z1.mk (Kd.zJ zz56 hb)
   have n1_:=z1.mk (Kd.z1O zz42 hb)
   have n2_:=z1.mk (zg (g:=gb109) (o:=.cells #[.int .u64 ((rd_T30 l2 x24_1).f0),.int .u64 ((rd_T30 l2 x24_1).f1)] 30 (0,0)) zz35 hb)
   have n3_:=z1.mk (z4 (by repeat (first|(with_reducible first|exact HB.out|apply z7|apply z2|apply z6|refine zd ?_ GE109.out)|exact HB.out)) hb)
   clear HO_9
   clear HO_22
   clear BK109
   clear HB
   have HO_9:=n0_
   have HO_22:=n1_
   have BK109:=n2_
   have HB:=n3_
   clear n0_ n1_ n2_ n3_
   (try clear hb)
   (try clear hb2)
   (try clear hk)
   (try clear hi)
   have p17 : 0 ≤ (x24_1 : Int):=of_decide_eq_true zz74
   have q17 : (x24_1 : Int) < ((x9_1.length : Int) : Int):=of_decide_eq_true zz74
   obtain ⟨go17,co17,eo17,gb17,gl17,cl17,HG17⟩:=Kd.z5k HO_9.out zz80
   (first|cases eo17|(injection eo17 with ea_ en_ ec_;(first|subst ea_|(injection ea_ with ea_;subst ea_));subst ec_;clear en_))
   have GB17:=z1.mk gb17
   have GG17:=z1.mk HG17
   clear gb17 gl17 HG17
   (first|simp only [z2p] at hx110_0|skip)
   (first|simp only [z2p] at hx110_1|skip)
   obtain ⟨ce17,hcl17,hM17,hcc17,hfr17⟩:=Kd.z3g HO_9.out z30 (x24_1 : Int) p17 q17
   obtain rfl:=z1Y hM17
   have hx17_0 : World.cell? _ ⟨go17,(x24_1 : Int).toNat * 2,none⟩ = some (.int .u64 ((rd_T30 x9_1 x24_1).f0)):=hcc17 0 _ rfl
   have hx17_1 : World.cell? _ ⟨go17,(x24_1 : Int).toNat * 2 + 1,none⟩ = some (.int .u64 ((rd_T30 x9_1 x24_1).f1)):=hcc17 1 _ rfl
   have hf17_0 : World.frozen? _ ⟨go17,(x24_1 : Int).toNat * 2,none⟩ = false:=hfr17 0
   have hf17_1 : World.frozen? _ ⟨go17,(x24_1 : Int).toNat * 2 + 1,none⟩ = false:=hfr17 1
   clear hcl17 hcc17 hfr17 hM17
   replace p17:=eq_true p17
   replace q17:=eq_true q17
   obtain ⟨ce24,hcl24,hM24,hcc24,hfr24⟩:=Kd.z3g HO_9.out z30 (x24_1 : Int) (of_decide_eq_true zz74) (by have h_ : (x24_1 : Int) < ((x9_1.length : Int) : Int):=of_decide_eq_true zz74;first|exact h_|(have e_:=(Kd.zL HO_9.out).1;omega)|simpa using h_)
   obtain rfl:=z1Y hM24
   have HP24:=(Kd.z6O HO_9.out (x24_1 : Int) (of_decide_eq_true zz74) (by have h_ : (x24_1 : Int) < ((x9_1.length : Int) : Int):=of_decide_eq_true zz74;first|exact h_|(have e_:=(Kd.zL HO_9.out).1;omega)|simpa using h_) (seg:=[.int .u64 t111,.int .u64 t112]) (j:=0) hcl24 hcc24 (show 2 ≤ 2 from by decide) (x':=(⟨t111,t112⟩ : S30)) (z2F _ _ _ (⟨t111,t112⟩ : S30) ) (fun _ hk=>hk)).1
   rw [← Ny113.out] at HP24
   have HQ24:=z1.mk HP24
   clear hcl24 hcc24 hfr24 hM24 HP24
   refine hK.out _ _ ⟨(zc BK109.out 0).trans rfl,(zc BK109.out 1).trans rfl,HS2_,HS3_⟩ (fun hHeld=>?_)
   clear hK K
   refine norm_ (a':=?_) ?_ ?_
   rotate_left
   · show Act.put _ (some 36) _ = _
     simp only [Act.put,List.setIfInBounds_toArray,List.set_cons_zero,List.set_cons_succ,zS,zZ]
     rfl
   refine pure_ (i:=8) (N:=some 37) (v:=?_) (a':=?_) #[true,true,true,true,true,true,true,true,true,false] rfl rfl (z1e HT_.out zz78) (fun _ _ _ h=>h) (Or.inl ⟨by rfl,?_⟩) ?_ ?_
   rotate_left
   · intro w'
     go_simp
     with_reducible rfl
   rotate_left
   · simp only [Act.put,List.setIfInBounds_toArray,List.set_cons_zero,List.set_cons_succ,zS,zZ]
     rfl
   refine last_ (i:=9) (N:=none) #[true,true,true,true,true,true,true,true,true,true] rfl rfl (z1J HT_.out zz78) zz79 (fun K hK=>?_)
   refine skip_ (w1:=?_) zz82 rfl ?_ ?_
   rotate_left
   · go_simp
     rfl
   refine hK.out _ _ ?_
   clear hK K
   refine done_ (z2q HT_.out zz78) ?_
   try go_wp2
   go_roundg k1
   case measure=>have:=HK1.out;omega
   case rel=>exact ⟨(y113),(wrap64 (x24_1 + 1)),zz75,H',⟨by have:=HK1.out;omega⟩,⟨by (with_reducible repeat (first|apply Kd.zC|apply Kd.zD|apply Kd.zO));exact Kd.z16 HQ24.out (fun _ hk=>hk.1)⟩,⟨by (with_reducible repeat (first|apply Kd.z28|apply Kd.z29|apply Kd.z2i));exact Kd.z1o (Kd.z5l (p:=⟨go17,(x24_1 : Int).toNat * 2 + 1,none⟩) (Kd.z5l (p:=⟨go17,(x24_1 : Int).toNat * 2,none⟩) (Kd.z1o HO_22.out (fun k_ hk=>(⟨hk,fun e_=>hk.2.1 zz77⟩ : _ ∧ k_ ≠ go17))) (fun _ hk=>hk.2) (.int .u64 t111)) (fun _ hk=>hk.2) (.int .u64 t112)) (fun _ hk=>⟨hk.1.1,hk.1.2.1⟩)⟩,⟨by repeat (first|(with_reducible first|exact HB.out|apply z7|apply z2|apply z6|refine zd ?_ GB17.out|refine zd ?_ GB17.out|refine zd ?_ GE109.out)|exact HB.out)⟩⟩
end Go.Proofs.Ytkhmpaooinpfoaa.P
namespace Go.Proofs.Ytkhmpaooinpfoaa.P
open Go.RowKit Go.Proofs.YtkhmpaooinpfoaaW.PrintWords Go.Proofs.YtkhmpaooinpfoaaW.PrintLast Go.Proofs.YtkhmpaooinpfoaaW.PrintMore
attribute [local go_sem] z12 z14 z1b z1c zW zX z13 z15   -- for this text's walks alone
set_option linter.unusedVariables false
set_option linter.unusedSimpArgs false
def z18.j0 : Nat → Int → Int → Option (Int)
 | 0,_,_=>none
 | k + 1,x0,x2=>if x0 ≥ 65536 then (if (x0 / 65536) ≥ 256 then (if 0 ≤ (((x0 / 65536) / 256) % 256) then (if (((x0 / 65536) / 256) % 256) < 256 then (some (wrap64 ((wrap64 ((wrap64 (x2 + 16)) + 8)) + (wrap64 (bt (⟨#[0,1,2,2,3,3,3,3,4,4,4,4,4,4,4,4,5,5,5,5,5,5,5,5,5,5,5,5,5,5,5,5,6,6,6,6,6,6,6,6,6,6,6,6,6,6,6,6,6,6,6,6,6,6,6,6,6,6,6,6,6,6,6,6,7,7,7,7,7,7,7,7,7,7,7,7,7,7,7,7,7,7,7,7,7,7,7,7,7,7,7,7,7,7,7,7,7,7,7,7,7,7,7,7,7,7,7,7,7,7,7,7,7,7,7,7,7,7,7,7,7,7,7,7,7,7,7,7,8,8,8,8,8,8,8,8,8,8,8,8,8,8,8,8,8,8,8,8,8,8,8,8,8,8,8,8,8,8,8,8,8,8,8,8,8,8,8,8,8,8,8,8,8,8,8,8,8,8,8,8,8,8,8,8,8,8,8,8,8,8,8,8,8,8,8,8,8,8,8,8,8,8,8,8,8,8,8,8,8,8,8,8,8,8,8,8,8,8,8,8,8,8,8,8,8,8,8,8,8,8,8,8,8,8,8,8,8,8,8,8,8,8,8,8,8,8,8,8,8,8,8,8,8,8,8,8]⟩ : ByteArray) (((x0 / 65536) / 256) % 256)))))) else (none)) else (none)) else (if 0 ≤ ((x0 / 65536) % 256) then (if ((x0 / 65536) % 256) < 256 then (some (wrap64 ((wrap64 (x2 + 16)) + (wrap64 (bt (⟨#[0,1,2,2,3,3,3,3,4,4,4,4,4,4,4,4,5,5,5,5,5,5,5,5,5,5,5,5,5,5,5,5,6,6,6,6,6,6,6,6,6,6,6,6,6,6,6,6,6,6,6,6,6,6,6,6,6,6,6,6,6,6,6,6,7,7,7,7,7,7,7,7,7,7,7,7,7,7,7,7,7,7,7,7,7,7,7,7,7,7,7,7,7,7,7,7,7,7,7,7,7,7,7,7,7,7,7,7,7,7,7,7,7,7,7,7,7,7,7,7,7,7,7,7,7,7,7,7,8,8,8,8,8,8,8,8,8,8,8,8,8,8,8,8,8,8,8,8,8,8,8,8,8,8,8,8,8,8,8,8,8,8,8,8,8,8,8,8,8,8,8,8,8,8,8,8,8,8,8,8,8,8,8,8,8,8,8,8,8,8,8,8,8,8,8,8,8,8,8,8,8,8,8,8,8,8,8,8,8,8,8,8,8,8,8,8,8,8,8,8,8,8,8,8,8,8,8,8,8,8,8,8,8,8,8,8,8,8,8,8,8,8,8,8,8,8,8,8,8,8,8,8,8,8,8,8]⟩ : ByteArray) ((x0 / 65536) % 256)))))) else (none)) else (none))) else (if x0 ≥ 256 then (if 0 ≤ ((x0 / 256) % 256) then (if ((x0 / 256) % 256) < 256 then (some (wrap64 ((wrap64 (x2 + 8)) + (wrap64 (bt (⟨#[0,1,2,2,3,3,3,3,4,4,4,4,4,4,4,4,5,5,5,5,5,5,5,5,5,5,5,5,5,5,5,5,6,6,6,6,6,6,6,6,6,6,6,6,6,6,6,6,6,6,6,6,6,6,6,6,6,6,6,6,6,6,6,6,7,7,7,7,7,7,7,7,7,7,7,7,7,7,7,7,7,7,7,7,7,7,7,7,7,7,7,7,7,7,7,7,7,7,7,7,7,7,7,7,7,7,7,7,7,7,7,7,7,7,7,7,7,7,7,7,7,7,7,7,7,7,7,7,8,8,8,8,8,8,8,8,8,8,8,8,8,8,8,8,8,8,8,8,8,8,8,8,8,8,8,8,8,8,8,8,8,8,8,8,8,8,8,8,8,8,8,8,8,8,8,8,8,8,8,8,8,8,8,8,8,8,8,8,8,8,8,8,8,8,8,8,8,8,8,8,8,8,8,8,8,8,8,8,8,8,8,8,8,8,8,8,8,8,8,8,8,8,8,8,8,8,8,8,8,8,8,8,8,8,8,8,8,8,8,8,8,8,8,8,8,8,8,8,8,8,8,8,8,8,8,8]⟩ : ByteArray) ((x0 / 256) % 256)))))) else (none)) else (none)) else (if 0 ≤ ((x0) % 256) then (if ((x0) % 256) < 256 then (some (wrap64 (x2 + (wrap64 (bt (⟨#[0,1,2,2,3,3,3,3,4,4,4,4,4,4,4,4,5,5,5,5,5,5,5,5,5,5,5,5,5,5,5,5,6,6,6,6,6,6,6,6,6,6,6,6,6,6,6,6,6,6,6,6,6,6,6,6,6,6,6,6,6,6,6,6,7,7,7,7,7,7,7,7,7,7,7,7,7,7,7,7,7,7,7,7,7,7,7,7,7,7,7,7,7,7,7,7,7,7,7,7,7,7,7,7,7,7,7,7,7,7,7,7,7,7,7,7,7,7,7,7,7,7,7,7,7,7,7,7,8,8,8,8,8,8,8,8,8,8,8,8,8,8,8,8,8,8,8,8,8,8,8,8,8,8,8,8,8,8,8,8,8,8,8,8,8,8,8,8,8,8,8,8,8,8,8,8,8,8,8,8,8,8,8,8,8,8,8,8,8,8,8,8,8,8,8,8,8,8,8,8,8,8,8,8,8,8,8,8,8,8,8,8,8,8,8,8,8,8,8,8,8,8,8,8,8,8,8,8,8,8,8,8,8,8,8,8,8,8,8,8,8,8,8,8,8,8,8,8,8,8,8,8,8,8,8,8]⟩ : ByteArray) ((x0) % 256)))))) else (none)) else (none)))
def z18.f (k : Nat) (a0 : Int) : Option (Int):=if a0 ≥ 4294967296 then (z18.j0 k (a0 / 4294967296) 32) else (z18.j0 k a0 0)
theorem z18.z17 : ∀ k,(∀ y0 y1,LeO (z18.j0 k y0 y1) (z18.j0 (k + 1) y0 y1))
 | 0=>fun _ _ r h=>by simp [z18.j0] at h
 | k + 1=>by
  have ih0:=z18.z17 k
  · intro y0 y1
    unfold z18.j0
    repeat' first
    | (with_reducible exact ih0 _ _)
    | (with_reducible exact LeO.refl _)
    | (with_reducible exact LeO.none _)
    | (with_reducible refine LeO.ite ?_ ?_)
    | (with_reducible refine LeO.bind ?_ (fun _=>?_))
    | exact ih0 _ _
    | exact LeO.none _
    | refine LeO.ite ?_ ?_
    | refine LeO.bind ?_ (fun _=>?_)
theorem z18.mono : ∀ a0 k,LeO (z18.f k a0) (z18.f (k + 1) a0):=by
 intro a0 k
 have ih0:=z18.z17 k
 unfold z18.f
 repeat' first
  | (with_reducible exact ih0 _ _)
  | (with_reducible exact LeO.refl _)
  | (with_reducible exact LeO.none _)
  | (with_reducible refine LeO.ite ?_ ?_)
  | (with_reducible refine LeO.bind ?_ (fun _=>?_))
  | exact ih0 _ _
  | exact LeO.none _
  | refine LeO.ite ?_ ?_
  | refine LeO.bind ?_ (fun _=>?_)
set_option maxHeartbeats 8000000 in
set_option maxRecDepth 100000 in
theorem z18.calls (k : Nat) (a0 : Int) (r : Int) (w : World) (h : z18.f k a0 = some r) :
 Calls Try.prog 149 #[.int .u64 a0] w fun e w'=>e = .returned (.int .i64 r) ∧ Drawn0 w w':=by
 have H : (if a0 ≥ 4294967296 then (z18.j0 k (a0 / 4294967296) 32) else (z18.j0 k a0 0)) = some r:=h
 clear h
 have HC2:=z1.mk H
 clear H
 go_enter Try.func149,Try.ntmps149
 go_upto_if 4 with (fail)
 go_cut [0,2] (fun v0 v2 wc=>∃ (kq : Nat) (x0_1 : Int) (x2_1 : Int),v0 = .int .u64 x0_1 ∧ v2 = .int .i64 x2_1 ∧ z1 (z18.j0 kq x0_1 x2_1 = some r) ∧ z1 (kq ≤ k) ∧ Drawn0 w wc)
 case first =>
  have H:=HC2.out
  clear HC2
  by_cases c3 : a0 ≥ 4294967296
  rotate_left
  · rw [if_neg c3] at H
    have c3b0 : decide (4294967296 ≤ a0) = false:=decide_eq_false c3
    clear c3
    (first|rw [c3b0]|(simp only [zS,zZ];rw [c3b0])|skip)
    have H':=z1.mk H
    clear H
    go_wp2
    go_meet
    case rel=>exact ⟨_,(a0),(0),zz75,zz75,H',⟨by first|omega|exact Nat.le_refl _⟩,by repeat (first|exact Drawn0.refl _|apply Drawn0.step)⟩
  rw [if_pos c3] at H
  have c3b0 : decide (4294967296 ≤ a0) = true:=decide_eq_true c3
  clear c3
  (first|rw [c3b0]|(simp only [zS,zZ];rw [c3b0])|skip)
  have H':=z1.mk H
  clear H
  go_wp2
  go_meet
  case rel=>exact ⟨_,(a0 / 4294967296),(32),zz75,zz75,H',⟨by first|omega|exact Nat.le_refl _⟩,by repeat (first|exact Drawn0.refl _|apply Drawn0.step)⟩
 case rest =>
  clear HC2
  (try clear c1);(try clear p2);(try clear c3);(try clear c3b0)
  obtain ⟨kq,x0_1,x2_1,rfl,rfl,HA,HJ1,⟨mc1,rfl⟩⟩:=hcut
  cases kq with
  | zero=>exact absurd HA.out (by simp [z18.j0])
  | succ kj1 =>
   have H:=HA.out
   clear HA
   simp only [z18.j0] at H
   by_cases c4 : x0_1 ≥ 65536
   · rw [if_pos c4] at H
     have c4b0 : decide (65536 ≤ x0_1) = true:=decide_eq_true c4
     clear c4
     by_cases c5 : (x0_1 / 65536) ≥ 256
     rotate_left
     · rw [if_neg c5] at H
       have c5b0 : decide (256 ≤ (x0_1 / 65536)) = false:=decide_eq_false c5
       clear c5
       obtain ⟨ji10,hji10⟩ : ∃ j_ : Int,((x0_1 / 65536) % 256) = j_:=⟨_,rfl⟩
       replace H : (if 0 ≤ (ji10) then (if (ji10) < 256 then (some (wrap64 ((wrap64 (x2_1 + 16)) + (wrap64 (bt (⟨#[0,1,2,2,3,3,3,3,4,4,4,4,4,4,4,4,5,5,5,5,5,5,5,5,5,5,5,5,5,5,5,5,6,6,6,6,6,6,6,6,6,6,6,6,6,6,6,6,6,6,6,6,6,6,6,6,6,6,6,6,6,6,6,6,7,7,7,7,7,7,7,7,7,7,7,7,7,7,7,7,7,7,7,7,7,7,7,7,7,7,7,7,7,7,7,7,7,7,7,7,7,7,7,7,7,7,7,7,7,7,7,7,7,7,7,7,7,7,7,7,7,7,7,7,7,7,7,7,8,8,8,8,8,8,8,8,8,8,8,8,8,8,8,8,8,8,8,8,8,8,8,8,8,8,8,8,8,8,8,8,8,8,8,8,8,8,8,8,8,8,8,8,8,8,8,8,8,8,8,8,8,8,8,8,8,8,8,8,8,8,8,8,8,8,8,8,8,8,8,8,8,8,8,8,8,8,8,8,8,8,8,8,8,8,8,8,8,8,8,8,8,8,8,8,8,8,8,8,8,8,8,8,8,8,8,8,8,8,8,8,8,8,8,8,8,8,8,8,8,8,8,8,8,8,8,8]⟩ : ByteArray) (ji10)))))) else (none)) else (none)) = some r:=by first|(rw [hji10] at H;exact H)|(simp only [hji10] at H ⊢;exact H)
       by_cases c11 : 0 ≤ (ji10)
       rotate_left
       · rw [if_neg c11] at H
         exact absurd H zz81
       rw [if_pos c11] at H
       have c11b0 : decide (0 ≤ (ji10)) = true:=decide_eq_true c11
       clear c11
       by_cases c12 : (ji10) < 256
       rotate_left
       · rw [if_neg c12] at H
         exact absurd H zz81
       rw [if_pos c12] at H
       have c12b0 : decide ((ji10) < 256) = true:=decide_eq_true c12
       clear c12
       obtain rfl:=Option.some.inj H
       have p13 : 0 ≤ ((ji10) : Int):=of_decide_eq_true zz74
       have q13 : (ji10) < (256 : Int):=of_decide_eq_true zz74
       have hx13:=bt_at (⟨#[0,1,2,2,3,3,3,3,4,4,4,4,4,4,4,4,5,5,5,5,5,5,5,5,5,5,5,5,5,5,5,5,6,6,6,6,6,6,6,6,6,6,6,6,6,6,6,6,6,6,6,6,6,6,6,6,6,6,6,6,6,6,6,6,7,7,7,7,7,7,7,7,7,7,7,7,7,7,7,7,7,7,7,7,7,7,7,7,7,7,7,7,7,7,7,7,7,7,7,7,7,7,7,7,7,7,7,7,7,7,7,7,7,7,7,7,7,7,7,7,7,7,7,7,7,7,7,7,8,8,8,8,8,8,8,8,8,8,8,8,8,8,8,8,8,8,8,8,8,8,8,8,8,8,8,8,8,8,8,8,8,8,8,8,8,8,8,8,8,8,8,8,8,8,8,8,8,8,8,8,8,8,8,8,8,8,8,8,8,8,8,8,8,8,8,8,8,8,8,8,8,8,8,8,8,8,8,8,8,8,8,8,8,8,8,8,8,8,8,8,8,8,8,8,8,8,8,8,8,8,8,8,8,8,8,8,8,8,8,8,8,8,8,8,8,8,8,8,8,8,8,8,8,8,8,8]⟩ : ByteArray) (ji10)
       replace p13:=eq_true p13
       replace q13:=eq_true q13
       go_wp2
       go_ret
       exact ⟨by first|rfl|(simp;done)|(simp only [← hji10] <;> (first|rfl|simp))|(simp [*];done),by repeat (first|exact Drawn0.refl _|apply Drawn0.step)⟩
     rw [if_pos c5] at H
     have c5b0 : decide (256 ≤ (x0_1 / 65536)) = true:=decide_eq_true c5
     clear c5
     obtain ⟨ji6,hji6⟩ : ∃ j_ : Int,(((x0_1 / 65536) / 256) % 256) = j_:=⟨_,rfl⟩
     replace H : (if 0 ≤ (ji6) then (if (ji6) < 256 then (some (wrap64 ((wrap64 ((wrap64 (x2_1 + 16)) + 8)) + (wrap64 (bt (⟨#[0,1,2,2,3,3,3,3,4,4,4,4,4,4,4,4,5,5,5,5,5,5,5,5,5,5,5,5,5,5,5,5,6,6,6,6,6,6,6,6,6,6,6,6,6,6,6,6,6,6,6,6,6,6,6,6,6,6,6,6,6,6,6,6,7,7,7,7,7,7,7,7,7,7,7,7,7,7,7,7,7,7,7,7,7,7,7,7,7,7,7,7,7,7,7,7,7,7,7,7,7,7,7,7,7,7,7,7,7,7,7,7,7,7,7,7,7,7,7,7,7,7,7,7,7,7,7,7,8,8,8,8,8,8,8,8,8,8,8,8,8,8,8,8,8,8,8,8,8,8,8,8,8,8,8,8,8,8,8,8,8,8,8,8,8,8,8,8,8,8,8,8,8,8,8,8,8,8,8,8,8,8,8,8,8,8,8,8,8,8,8,8,8,8,8,8,8,8,8,8,8,8,8,8,8,8,8,8,8,8,8,8,8,8,8,8,8,8,8,8,8,8,8,8,8,8,8,8,8,8,8,8,8,8,8,8,8,8,8,8,8,8,8,8,8,8,8,8,8,8,8,8,8,8,8,8]⟩ : ByteArray) (ji6)))))) else (none)) else (none)) = some r:=by first|(rw [hji6] at H;exact H)|(simp only [hji6] at H ⊢;exact H)
     by_cases c7 : 0 ≤ (ji6)
     rotate_left
     · rw [if_neg c7] at H
       exact absurd H zz81
     rw [if_pos c7] at H
     have c7b0 : decide (0 ≤ (ji6)) = true:=decide_eq_true c7
     clear c7
     by_cases c8 : (ji6) < 256
     rotate_left
     · rw [if_neg c8] at H
       exact absurd H zz81
     rw [if_pos c8] at H
     have c8b0 : decide ((ji6) < 256) = true:=decide_eq_true c8
     clear c8
     obtain rfl:=Option.some.inj H
     have p9 : 0 ≤ ((ji6) : Int):=of_decide_eq_true zz74
     have q9 : (ji6) < (256 : Int):=of_decide_eq_true zz74
     have hx9:=bt_at (⟨#[0,1,2,2,3,3,3,3,4,4,4,4,4,4,4,4,5,5,5,5,5,5,5,5,5,5,5,5,5,5,5,5,6,6,6,6,6,6,6,6,6,6,6,6,6,6,6,6,6,6,6,6,6,6,6,6,6,6,6,6,6,6,6,6,7,7,7,7,7,7,7,7,7,7,7,7,7,7,7,7,7,7,7,7,7,7,7,7,7,7,7,7,7,7,7,7,7,7,7,7,7,7,7,7,7,7,7,7,7,7,7,7,7,7,7,7,7,7,7,7,7,7,7,7,7,7,7,7,8,8,8,8,8,8,8,8,8,8,8,8,8,8,8,8,8,8,8,8,8,8,8,8,8,8,8,8,8,8,8,8,8,8,8,8,8,8,8,8,8,8,8,8,8,8,8,8,8,8,8,8,8,8,8,8,8,8,8,8,8,8,8,8,8,8,8,8,8,8,8,8,8,8,8,8,8,8,8,8,8,8,8,8,8,8,8,8,8,8,8,8,8,8,8,8,8,8,8,8,8,8,8,8,8,8,8,8,8,8,8,8,8,8,8,8,8,8,8,8,8,8,8,8,8,8,8,8]⟩ : ByteArray) (ji6)
     replace p9:=eq_true p9
     replace q9:=eq_true q9
     go_wp2
     go_ret
     exact ⟨by first|rfl|(simp;done)|(simp only [← hji6] <;> (first|rfl|simp))|(simp [*];done),by repeat (first|exact Drawn0.refl _|apply Drawn0.step)⟩
   rw [if_neg c4] at H
   have c4b0 : decide (65536 ≤ x0_1) = false:=decide_eq_false c4
   clear c4
   by_cases c14 : x0_1 ≥ 256
   · rw [if_pos c14] at H
     have c14b0 : decide (256 ≤ x0_1) = true:=decide_eq_true c14
     clear c14
     obtain ⟨ji15,hji15⟩ : ∃ j_ : Int,((x0_1 / 256) % 256) = j_:=⟨_,rfl⟩
     replace H : (if 0 ≤ (ji15) then (if (ji15) < 256 then (some (wrap64 ((wrap64 (x2_1 + 8)) + (wrap64 (bt (⟨#[0,1,2,2,3,3,3,3,4,4,4,4,4,4,4,4,5,5,5,5,5,5,5,5,5,5,5,5,5,5,5,5,6,6,6,6,6,6,6,6,6,6,6,6,6,6,6,6,6,6,6,6,6,6,6,6,6,6,6,6,6,6,6,6,7,7,7,7,7,7,7,7,7,7,7,7,7,7,7,7,7,7,7,7,7,7,7,7,7,7,7,7,7,7,7,7,7,7,7,7,7,7,7,7,7,7,7,7,7,7,7,7,7,7,7,7,7,7,7,7,7,7,7,7,7,7,7,7,8,8,8,8,8,8,8,8,8,8,8,8,8,8,8,8,8,8,8,8,8,8,8,8,8,8,8,8,8,8,8,8,8,8,8,8,8,8,8,8,8,8,8,8,8,8,8,8,8,8,8,8,8,8,8,8,8,8,8,8,8,8,8,8,8,8,8,8,8,8,8,8,8,8,8,8,8,8,8,8,8,8,8,8,8,8,8,8,8,8,8,8,8,8,8,8,8,8,8,8,8,8,8,8,8,8,8,8,8,8,8,8,8,8,8,8,8,8,8,8,8,8,8,8,8,8,8,8]⟩ : ByteArray) (ji15)))))) else (none)) else (none)) = some r:=by first|(rw [hji15] at H;exact H)|(simp only [hji15] at H ⊢;exact H)
     by_cases c16 : 0 ≤ (ji15)
     rotate_left
     · rw [if_neg c16] at H
       exact absurd H zz81
     rw [if_pos c16] at H
     have c16b0 : decide (0 ≤ (ji15)) = true:=decide_eq_true c16
     clear c16
     by_cases c17 : (ji15) < 256
     rotate_left
     · rw [if_neg c17] at H
       exact absurd H zz81
     rw [if_pos c17] at H
     have c17b0 : decide ((ji15) < 256) = true:=decide_eq_true c17
     clear c17
     obtain rfl:=Option.some.inj H
     have p18 : 0 ≤ ((ji15) : Int):=of_decide_eq_true zz74
     have q18 : (ji15) < (256 : Int):=of_decide_eq_true zz74
     have hx18:=bt_at (⟨#[0,1,2,2,3,3,3,3,4,4,4,4,4,4,4,4,5,5,5,5,5,5,5,5,5,5,5,5,5,5,5,5,6,6,6,6,6,6,6,6,6,6,6,6,6,6,6,6,6,6,6,6,6,6,6,6,6,6,6,6,6,6,6,6,7,7,7,7,7,7,7,7,7,7,7,7,7,7,7,7,7,7,7,7,7,7,7,7,7,7,7,7,7,7,7,7,7,7,7,7,7,7,7,7,7,7,7,7,7,7,7,7,7,7,7,7,7,7,7,7,7,7,7,7,7,7,7,7,8,8,8,8,8,8,8,8,8,8,8,8,8,8,8,8,8,8,8,8,8,8,8,8,8,8,8,8,8,8,8,8,8,8,8,8,8,8,8,8,8,8,8,8,8,8,8,8,8,8,8,8,8,8,8,8,8,8,8,8,8,8,8,8,8,8,8,8,8,8,8,8,8,8,8,8,8,8,8,8,8,8,8,8,8,8,8,8,8,8,8,8,8,8,8,8,8,8,8,8,8,8,8,8,8,8,8,8,8,8,8,8,8,8,8,8,8,8,8,8,8,8,8,8,8,8,8,8]⟩ : ByteArray) (ji15)
     replace p18:=eq_true p18
     replace q18:=eq_true q18
     go_wp2
     go_ret
     exact ⟨by first|rfl|(simp;done)|(simp only [← hji15] <;> (first|rfl|simp))|(simp [*];done),by repeat (first|exact Drawn0.refl _|apply Drawn0.step)⟩
   rw [if_neg c14] at H
   have c14b0 : decide (256 ≤ x0_1) = false:=decide_eq_false c14
   clear c14
   obtain ⟨ji19,hji19⟩ : ∃ j_ : Int,((x0_1) % 256) = j_:=⟨_,rfl⟩
   replace H : (if 0 ≤ (ji19) then (if (ji19) < 256 then (some (wrap64 (x2_1 + (wrap64 (bt (⟨#[0,1,2,2,3,3,3,3,4,4,4,4,4,4,4,4,5,5,5,5,5,5,5,5,5,5,5,5,5,5,5,5,6,6,6,6,6,6,6,6,6,6,6,6,6,6,6,6,6,6,6,6,6,6,6,6,6,6,6,6,6,6,6,6,7,7,7,7,7,7,7,7,7,7,7,7,7,7,7,7,7,7,7,7,7,7,7,7,7,7,7,7,7,7,7,7,7,7,7,7,7,7,7,7,7,7,7,7,7,7,7,7,7,7,7,7,7,7,7,7,7,7,7,7,7,7,7,7,8,8,8,8,8,8,8,8,8,8,8,8,8,8,8,8,8,8,8,8,8,8,8,8,8,8,8,8,8,8,8,8,8,8,8,8,8,8,8,8,8,8,8,8,8,8,8,8,8,8,8,8,8,8,8,8,8,8,8,8,8,8,8,8,8,8,8,8,8,8,8,8,8,8,8,8,8,8,8,8,8,8,8,8,8,8,8,8,8,8,8,8,8,8,8,8,8,8,8,8,8,8,8,8,8,8,8,8,8,8,8,8,8,8,8,8,8,8,8,8,8,8,8,8,8,8,8,8]⟩ : ByteArray) (ji19)))))) else (none)) else (none)) = some r:=by first|(rw [hji19] at H;exact H)|(simp only [hji19] at H ⊢;exact H)
   by_cases c20 : 0 ≤ (ji19)
   rotate_left
   · rw [if_neg c20] at H
     exact absurd H zz81
   rw [if_pos c20] at H
   have c20b0 : decide (0 ≤ (ji19)) = true:=decide_eq_true c20
   clear c20
   by_cases c21 : (ji19) < 256
   rotate_left
   · rw [if_neg c21] at H
     exact absurd H zz81
   rw [if_pos c21] at H
   have c21b0 : decide ((ji19) < 256) = true:=decide_eq_true c21
   clear c21
   obtain rfl:=Option.some.inj H
   have p22 : 0 ≤ ((ji19) : Int):=of_decide_eq_true zz74
   have q22 : (ji19) < (256 : Int):=of_decide_eq_true zz74
   have hx22:=bt_at (⟨#[0,1,2,2,3,3,3,3,4,4,4,4,4,4,4,4,5,5,5,5,5,5,5,5,5,5,5,5,5,5,5,5,6,6,6,6,6,6,6,6,6,6,6,6,6,6,6,6,6,6,6,6,6,6,6,6,6,6,6,6,6,6,6,6,7,7,7,7,7,7,7,7,7,7,7,7,7,7,7,7,7,7,7,7,7,7,7,7,7,7,7,7,7,7,7,7,7,7,7,7,7,7,7,7,7,7,7,7,7,7,7,7,7,7,7,7,7,7,7,7,7,7,7,7,7,7,7,7,8,8,8,8,8,8,8,8,8,8,8,8,8,8,8,8,8,8,8,8,8,8,8,8,8,8,8,8,8,8,8,8,8,8,8,8,8,8,8,8,8,8,8,8,8,8,8,8,8,8,8,8,8,8,8,8,8,8,8,8,8,8,8,8,8,8,8,8,8,8,8,8,8,8,8,8,8,8,8,8,8,8,8,8,8,8,8,8,8,8,8,8,8,8,8,8,8,8,8,8,8,8,8,8,8,8,8,8,8,8,8,8,8,8,8,8,8,8,8,8,8,8,8,8,8,8,8,8]⟩ : ByteArray) (ji19)
   replace p22:=eq_true p22
   replace q22:=eq_true q22
   go_wp2
   go_ret
   exact ⟨by first|rfl|(simp;done)|(simp only [← hji19] <;> (first|rfl|simp))|(simp [*];done),by repeat (first|exact Drawn0.refl _|apply Drawn0.step)⟩
end Go.Proofs.Ytkhmpaooinpfoaa.P

/- CubeSums: values of tables go over sums and factors; for all levels, tables of up to 64 elements and any factor of the level. Own text. -/
import Derived.Test.YtngcaphdkgihmaaRows
import Derived.WalkKit
import Derived.ProofKit
import Derived.OpenShut
import Derived.ShutString
import Derived.ChangeOld
import Derived.Below
import Derived.SizedLaws
import Derived.Carry
import Derived.Test.YtngcaphdkgihmaaMCubeSumsb
import Derived.Test.YtngcaphdkgihmaaMCubeSumsc
import Derived.Test.YtngcaphdkgihmaaMCubeSumsd
namespace Go.Proofs.Ytngcaphdkgihmaa.P
open Go.RowKit Go.Proofs.YtngcaphdkgihmaaW.PrintWords Go.Proofs.YtngcaphdkgihmaaW.PrintLast Go.Proofs.YtngcaphdkgihmaaW.PrintMore
attribute [local go_sem] zS zU z11 z12 zM zN zT zV   -- for this text's walks alone
set_option linter.unusedVariables false
set_option linter.unusedSimpArgs false
def zn.l0 : Nat → List (S61) → List (S61) → Int → Int → Int → Option (Int × Int)
 | 0,_,_,_,_,_=>none
 | k + 1,x0,x1,x6,x103000,x103001=>if x6 < (x0.length : Int) then (if 0 ≤ x6 then ((zf.f k x1 x6).bind fun bt104=>((zc.f k ((z13 x0 x6).f0) ((z13 x0 x6).f1) bt104.1 bt104.2).bind fun bt106=>((zW.f x103000 x103001 bt106.1 bt106.2).bind fun bt108=>(zn.l0 k x0 x1 (wrap64 (x6 + 1)) bt108.1 bt108.2)))) else (none)) else (some (x103000,x103001))
def zn.f (k : Nat) (l0 : List (S61)) (l1 : List (S61)) : Option (Int × Int):=zn.l0 k l0 l1 0 0 0
theorem zn.zY : ∀ k,(∀ y0 y1 y2 y3 y4,LeO (zn.l0 k y0 y1 y2 y3 y4) (zn.l0 (k + 1) y0 y1 y2 y3 y4))
 | 0=>fun _ _ _ _ _ r h=>by simp [zn.l0] at h
 | k + 1=>by
  have ih0:=zn.zY k
  · intro y0 y1 y2 y3 y4
    unfold zn.l0
    repeat' first
    | (with_reducible exact ih0 _ _ _ _ _)
    | (with_reducible exact zc.mono _ _ _ _ _)
    | (with_reducible exact zf.mono _ _ _)
    | (with_reducible exact LeO.refl _)
    | (with_reducible exact LeO.none _)
    | (with_reducible refine LeO.ite ?_ ?_)
    | (with_reducible refine LeO.bind ?_ (fun _=>?_))
    | exact ih0 _ _ _ _ _
    | exact zc.mono _ _ _ _ _
    | exact zf.mono _ _ _
    | exact LeO.none _
    | refine LeO.ite ?_ ?_
    | refine LeO.bind ?_ (fun _=>?_)
theorem zn.mono : ∀ a0 a1 k,LeO (zn.f k a0 a1) (zn.f (k + 1) a0 a1):=by
 intro a0 a1 k
 have ih0:=zn.zY k
 unfold zn.f
 repeat' first
  | (with_reducible exact ih0 _ _ _ _ _)
  | (with_reducible exact zc.mono _ _ _ _ _)
  | (with_reducible exact zf.mono _ _ _)
  | (with_reducible exact LeO.refl _)
  | (with_reducible exact LeO.none _)
  | (with_reducible refine LeO.ite ?_ ?_)
  | (with_reducible refine LeO.bind ?_ (fun _=>?_))
  | exact ih0 _ _ _ _ _
  | exact zc.mono _ _ _ _ _
  | exact zf.mono _ _ _
  | exact LeO.none _
  | refine LeO.ite ?_ ?_
  | refine LeO.bind ?_ (fun _=>?_)
def zn.T5 : Bool × List (List Nat × List Nat):=(true,[([],[]),([],[]),([],[]),([1,2],[1,2]),([3],[3]),([],[]),([],[]),([5,6],[5,6]),([4,7,7],[4,7]),([0,8,8],[0,8]),([9,9,0,1,2,3,4,5,6,7,8,9],[9])])
def zn.B5 : List Nat:=[0,0,0,6,14,0,0,96,254,511,1023]
theorem zn.tab5 : rtab .any (opsOf Try.f38 5) = zn.T5:=by kernel_rfl
theorem zn.bits5 : waitsOk zn.T5.2 zn.B5 = true:=by kernel_rfl
set_option maxHeartbeats 8000000 in
set_option maxRecDepth 100000 in
theorem zn.calls (k : Nat) (A0 : Option Addr) (c0 : Nat) (l0 : List (S61)) (A1 : Option Addr) (c1 : Nat) (l1 : List (S61)) (r1 : Int) (r2 : Int) (w : World) (hr0 : Kd.C k61 w A0 l0.length l0) (hc0 : l0.length ≤ c0) (hr1 : Kd.C k61 w A1 l1.length l1) (hc1 : l1.length ≤ c1) (h : zn.f k l0 l1 = some (r1,r2)) :
 Calls Try.prog 38 #[.slice A0 l0.length c0,.slice A1 l1.length c1] w fun e w'=>e = .returned (.agg #[.int .u64 r1,.int .u64 r2]) ∧ Below w.heap.size w w':=by
 have hu61:=Try.underlying61
 have HR0:=z3.mk hr0
 have HC0:=z3.mk hc0
 clear hr0 hc0
 have HR1:=z3.mk hr1
 have HC1:=z3.mk hc1
 clear hr1 hc1
 have HB:=z3.mk (Below.refl w.heap.size w)
 have H : (zn.l0 k l0 l1 0 0 0) = some (r1,r2):=h
 clear h
 have H':=z3.mk H
 clear H
 go_enter Try.func38,Try.ntmps38
 go_wp2_with (first|((with_reducible refine zy (N:=4) rfl ?_);refine zv ?hg (N:=4) ?hd (cs:=#[.int .u64 0,.int .u64 0]) (t:=61) ?hr ?_;(case hd=>rfl);(case hg=>rfl);(case hr=>first|(go_simp;done)|(go_simp;rfl));intro gb101 hg w3 hbox hb;have n0_:=z3.mk (zd (by repeat (first|(with_reducible first|exact HB.out|apply z5|apply z0|apply z4)|exact HB.out)) hb);have n1_:=z3.mk (hbox);have n2_:=z3.mk ((by rw [hg];exact (ze (by repeat (first|(with_reducible first|exact HB.out|apply z5|apply z0|apply z4)|exact HB.out))) : w.heap.size ≤ gb101));have n3_:=z3.mk ((by rw [hg];exact (ze (by repeat (first|(with_reducible first|exact HB.out|apply z5|apply z0|apply z4)|exact HB.out))) : w.heap.size ≤ gb101));clear HB;have HB:=n0_;have BK101:=n1_;have GW101:=n2_;have GE101:=n3_;clear n0_ n1_ n2_ n3_;clear hb hbox hg)|((with_reducible refine zy (N:=5) rfl ?_);refine zv ?hg (N:=5) ?hd (cs:=#[.int .u64 0,.int .u64 0]) (t:=61) ?hr ?_;(case hd=>rfl);(case hg=>rfl);(case hr=>first|(go_simp;done)|(go_simp;rfl));intro gb102 hg w4 hbox hb;have n0_:=z3.mk (zb (g:=gb101) (o:=.cells #[.int .u64 0,.int .u64 0] 61 (0,0)) (by (with_reducible repeat (first|refine z2 ?_ _|refine z6 ?_|refine z1 ?_ _));exact BK101.out) hb);have n1_:=z3.mk (zd (by repeat (first|(with_reducible first|exact HB.out|apply z5|apply z0|apply z4|refine z7 ?_ GE101.out)|exact HB.out)) hb);have n2_:=z3.mk (hbox);have n3_:=z3.mk ((by rw [hg];exact (ze (by repeat (first|(with_reducible first|exact HB.out|apply z5|apply z0|apply z4|refine z7 ?_ GE101.out)|exact HB.out))) : w.heap.size ≤ gb102));have n4_:=z3.mk ((by rw [hg];exact (ze (by repeat (first|(with_reducible first|exact HB.out|apply z5|apply z0|apply z4|refine z7 ?_ GE101.out)|exact HB.out))) : w.heap.size ≤ gb102));have n5_:=z3.mk ((by rw [hg];exact Nat.ne_of_lt (zz (g:=gb101) (o:=.cells #[.int .u64 0,.int .u64 0] 61 (0,0)) (by (with_reducible repeat (first|refine z2 ?_ _|refine z6 ?_|refine z1 ?_ _));exact BK101.out)) : gb101 ≠ gb102));have n6_:=z3.mk ((by rw [hg];exact Nat.ne_of_gt (zz (g:=gb101) (o:=.cells #[.int .u64 0,.int .u64 0] 61 (0,0)) (by (with_reducible repeat (first|refine z2 ?_ _|refine z6 ?_|refine z1 ?_ _));exact BK101.out)) : gb102 ≠ gb101));clear BK101;clear HB;have BK101:=n0_;have HB:=n1_;have BK102:=n2_;have GW102:=n3_;have GE102:=n4_;have NB101_102:=n5_;have NB102_101:=n6_;clear n0_ n1_ n2_ n3_ n4_ n5_ n6_;clear hb hbox hg))
 go_loopg [6] k (fun kq v6 w'=>∃ (x6_1 : Int) (x103000_1 : Int) (x103001_1 : Int),v6 = .int .i64 x6_1 ∧ z3 (zn.l0 kq l0 l1 x6_1 x103000_1 x103001_1 = some (r1,r2)) ∧ z3 (kq ≤ k) ∧ z3 (w'.heap[gb101]? = some (.cells #[.int .u64 0,.int .u64 0] 61 (0,0))) ∧ z3 (w'.heap[gb102]? = some (.cells #[.int .u64 x103000_1,.int .u64 x103001_1] 61 (0,0))) ∧ z3 (Below w.heap.size w w'))
 case atStart=>exact ⟨(0),(0),(0),(by first|rfl|(simp;done)|(simp [*];done)),H',⟨Nat.le_refl _⟩,⟨by (with_reducible repeat (first|refine z2 ?_ _|refine z6 ?_|refine z1 ?_ _));exact BK101.out⟩,⟨by (with_reducible repeat (first|refine z2 ?_ _|refine z6 ?_|refine z1 ?_ _));exact BK102.out⟩,⟨by repeat (first|(with_reducible first|exact HB.out|apply z5|apply z0|apply z4|refine z7 ?_ GE101.out|refine z7 ?_ GE102.out)|exact HB.out)⟩⟩
 case round =>
  clear H'
  (try clear c1);(try clear p2);(try clear c3)
  obtain ⟨x6_1,x103000_1,x103001_1,rfl,HA,HK1,BK101,BK102,HB⟩:=hrel
  cases gk with
  | zero=>exact absurd HA.out (by simp [zn.l0])
  | succ k1 =>
   have H:=HA.out
   clear HA
   simp only [zn.l0] at H
   by_cases c5 : x6_1 < (l0.length : Int)
   rotate_left
   · rw [if_neg c5] at H
     have c5b0 : decide (x6_1 < (l0.length : Int)) = false:=decide_eq_false c5
     clear c5
     simp only [Option.some.injEq,Prod.mk.injEq] at H
     obtain ⟨rfl,rfl⟩:=H
     have hnb16:=NB102_101.out
     have hnc16:=NB101_102.out
     have hcz17_0 : wr.cell? ⟨gb102,0,none⟩ = some (.int .u64 x103000_1):=(z9 BK102.out 0).trans rfl
     have hcz17_1 : wr.cell? ⟨gb102,1,none⟩ = some (.int .u64 x103001_1):=(z9 BK102.out 1).trans rfl
     have hfz17_0:=za BK102.out 0
     have hfz17_1:=za BK102.out 1
     have hcz18_0 : wr.cell? ⟨gb101,0,none⟩ = some (.int .u64 0):=(z9 BK101.out 0).trans rfl
     have hcz18_1 : wr.cell? ⟨gb101,1,none⟩ = some (.int .u64 0):=(z9 BK101.out 1).trans rfl
     have hfz18_0:=za BK101.out 0
     have hfz18_1:=za BK101.out 1
     go_wp2
     refine bodyPost_ret (results_cell_row rfl _ _ gb101 61 #[.int .u64 x103000_1,.int .u64 x103001_1] (0,0) _ rfl (by (with_reducible repeat (first|refine z2 ?_ _|refine z6 ?_|refine z1 ?_ _));refine zG (cs:=#[.int .u64 x103000_1,.int .u64 0]) ?_ 1 _ rfl;(with_reducible repeat (first|refine z2 ?_ _|refine z6 ?_|refine z1 ?_ _));refine zG (cs:=#[.int .u64 0,.int .u64 0]) ?_ 0 _ rfl;(with_reducible repeat (first|refine z2 ?_ _|refine z6 ?_|refine z1 ?_ _));exact BK101.out) Try.underlying61 rfl (by kernel_rfl)) rfl ?_
     exact ⟨by first|rfl|(simp [zh,zi] <;> rfl)|(simp [*,zh,zi] <;> rfl),by repeat (first|(with_reducible first|exact HB.out|apply z5|apply z0|apply z4|refine z7 ?_ GE101.out|refine z7 ?_ GE102.out)|exact HB.out)⟩
   rw [if_pos c5] at H
   have c5b0 : decide (x6_1 < (l0.length : Int)) = true:=decide_eq_true c5
   clear c5
   by_cases c6 : 0 ≤ x6_1
   rotate_left
   · rw [if_neg c6] at H
     exact absurd H (by simp)
   rw [if_pos c6] at H
   have c6b0 : decide (0 ≤ x6_1) = true:=decide_eq_true c6
   clear c6
   replace H:=Option.bind_eq_some_iff.mp H
   obtain ⟨⟨t104,t105⟩,A70,H⟩:=H
   replace H : ((zc.f k1 ((z13 l0 x6_1).f0) ((z13 l0 x6_1).f1) t104 t105).bind fun bt106=>((zW.f x103000_1 x103001_1 bt106.1 bt106.2).bind fun bt108=>(zn.l0 k1 l0 l1 (wrap64 (x6_1 + 1)) bt108.1 bt108.2))) = some (r1,r2):=H
   have A7:=z3.mk A70
   clear A70
   replace H:=Option.bind_eq_some_iff.mp H
   obtain ⟨⟨t106,t107⟩,A80,H⟩:=H
   replace H : ((zW.f x103000_1 x103001_1 t106 t107).bind fun bt108=>(zn.l0 k1 l0 l1 (wrap64 (x6_1 + 1)) bt108.1 bt108.2)) = some (r1,r2):=H
   have A8:=z3.mk A80
   clear A80
   replace H:=Option.bind_eq_some_iff.mp H
   obtain ⟨⟨t108,t109⟩,A90,H⟩:=H
   replace H : (zn.l0 k1 l0 l1 (wrap64 (x6_1 + 1)) t108 t109) = some (r1,r2):=H
   have A9:=z3.mk A90
   clear A90
   have H':=z3.mk H
   clear H
   try go_wp2
   have n0_:=z3.mk (z6 BK101.out)
   have n1_:=z3.mk (z6 BK102.out)
   have n2_:=z3.mk (z4 HB.out)
   clear BK101
   clear BK102
   clear HB
   have BK101:=n0_
   have BK102:=n1_
   have HB:=n2_
   clear n0_ n1_ n2_
   have p103 : 0 ≤ (x6_1 : Int):=of_decide_eq_true (by first|(with_reducible assumption)|assumption)
   have q103 : x6_1 < (l0.length : Int):=of_decide_eq_true (by first|(with_reducible assumption)|assumption)
   obtain ⟨ad103,e103,hx103_0,hx103_1⟩:=z2P HR0.out x6_1 p103 q103
   have hw103_1:=hx103_1
   have hw103_0:=hx103_0
   cases e103
   replace hx103_0:=(HB.out.cell (World.block_lt_of_cell? w _ hx103_0)).trans hx103_0
   replace hx103_1:=(HB.out.cell (World.block_lt_of_cell? w _ hx103_1)).trans hx103_1
   replace p103:=eq_true p103
   replace q103:=eq_true q103
   refine start_ (n:=11) (S:=fun w'=>w'.cell? ⟨gb102,0,none⟩ = some (.int .u64 x103000_1) ∧ w'.cell? ⟨gb102,1,none⟩ = some (.int .u64 x103001_1) ∧ w'.cell? (ad103.add ((x6_1).toNat * 2)) = some (.int .u64 ((z13 l0 x6_1).f0)) ∧ w'.cell? ⟨(ad103.add ((x6_1).toNat * 2)).block,(ad103.add ((x6_1).toNat * 2)).off + 1,none⟩ = some (.int .u64 ((z13 l0 x6_1).f1))) (ds:=[10]) #[false,false,false,false,false,false,false,false,false,false,false] (by kernel_rfl) rfl rfl ⟨(z9 BK102.out 0).trans rfl,(z9 BK102.out 1).trans rfl,((HB.out.cell (World.block_lt_of_cell? w _ hw103_0)).trans hw103_0),((HB.out.cell (World.block_lt_of_cell? w _ hw103_1)).trans hw103_1)⟩ (fun hHeld=>?_);refine z1u zn.tab5 zn.bits5 (fun HT_ HW_=>?_)
   generalize wr.drew = w10 at BK101 BK102 HB hx103_0 hx103_1 hHeld ⊢
   refine pure_ (i:=1) (N:=some 14) (v:=?_) (a':=?_) #[false,true,false,false,false,false,false,false,false,false,false] rfl rfl (zH HT_.out (by kernel_rfl)) (fun _ _ _ h=>h) (Or.inl ⟨by rfl,?_⟩) ?_ ?_
   rotate_left
   · intro w'
     go_simp
     with_reducible rfl
   rotate_left
   · simp only [Act.put,List.setIfInBounds_toArray,List.set_cons_zero,List.set_cons_succ,zx,zC]
     rfl
   refine pure_ (i:=2) (N:=some 15) (v:=?_) (a':=?_) #[false,true,true,false,false,false,false,false,false,false,false] rfl rfl (zH HT_.out (by kernel_rfl)) (fun _ _ _ h=>h) (Or.inl ⟨by rfl,?_⟩) ?_ ?_
   rotate_left
   · intro w'
     go_simp
     with_reducible rfl
   rotate_left
   · simp only [Act.put,List.setIfInBounds_toArray,List.set_cons_zero,List.set_cons_succ,zx,zC]
     rfl
   refine pure_ (i:=3) (N:=some 16) (v:=?_) (a':=?_) #[false,true,true,true,false,false,false,false,false,false,false] rfl rfl (zH HT_.out (by kernel_rfl)) (fun _ _ _ h=>h) (Or.inl ⟨by rfl,?_⟩) ?_ ?_
   rotate_left
   · intro w'
     go_simp
     with_reducible rfl
   rotate_left
   · simp only [Act.put,List.setIfInBounds_toArray,List.set_cons_zero,List.set_cons_succ,zx,zC]
     rfl
   refine pure_ (i:=5) (N:=some 18) (v:=?_) (a':=?_) #[false,true,true,true,false,true,false,false,false,false,false] rfl rfl (zH HT_.out (by kernel_rfl)) (fun _ _ _ h=>h) (Or.inl ⟨by rfl,?_⟩) ?_ ?_
   rotate_left
   · intro w'
     go_simp
     with_reducible rfl
   rotate_left
   · simp only [Act.put,List.setIfInBounds_toArray,List.set_cons_zero,List.set_cons_succ,zx,zC]
     rfl
   refine pure_ (i:=6) (N:=some 19) (v:=?_) (a':=?_) #[false,true,true,true,false,true,true,false,false,false,false] rfl rfl (zH HT_.out (by kernel_rfl)) (fun _ _ _ h=>h) (Or.inl ⟨by rfl,?_⟩) ?_ ?_
   rotate_left
   · intro w'
     go_simp
     with_reducible rfl
   rotate_left
   · simp only [Act.put,List.setIfInBounds_toArray,List.set_cons_zero,List.set_cons_succ,zx,zC]
     rfl
   refine take_ (i:=0) (N:=some 13) (v:=?_) (a':=?_) #[true,true,true,true,false,true,true,false,false,false,false] rfl rfl (z18 HT_.out HW_.out (by kernel_rfl)) (fun _ _ _ h=>h) (Or.inl ⟨by rfl,?_⟩) hHeld ?_ ?_
   rotate_left
   · rintro w' ⟨s0,s1,s2,s3⟩
     go_simp
     with_reducible rfl
   rotate_left
   · simp only [Act.put,List.setIfInBounds_toArray,List.set_cons_zero,List.set_cons_succ,zx,zC]
     rfl
   refine take_ (i:=4) (N:=some 17) (v:=?_) (a':=?_) #[true,true,true,true,true,true,true,false,false,false,false] rfl rfl (z18 HT_.out HW_.out (by kernel_rfl)) (fun _ _ _ h=>h) (Or.inl ⟨by rfl,?_⟩) hHeld ?_ ?_
   rotate_left
   · rintro w' ⟨s0,s1,s2,s3⟩
     go_simp
     with_reducible rfl
   rotate_left
   · simp only [Act.put,List.setIfInBounds_toArray,List.set_cons_zero,List.set_cons_succ,zx,zC]
     rfl
   refine one_ (i:=7) (N:=some 20) #[true,true,true,true,true,true,true,true,false,false,false] rfl rfl (z1n HT_.out (by kernel_rfl)) (by decide) (fun K hK=>?_)
   refine goes_ Try.func80 (by kernel_rfl) rfl #[.slice A1 l1.length c1,.int .i64 x6_1] (by rfl) rfl rfl (by (try simp only [List.map_toArray,List.map_cons,List.map_nil]);first|done|rfl|(simp only [List.length_drop,List.length_take];rfl)) ?_
   with_reducible refine (zf.calls k1 _ _ l1 x6_1 t104 t105 _ ?side1 ?side2 A7.out).mono ?_
   (case side1=>repeat (first|exact (Kd.z1f HR1.out HB.out)|(with_reducible refine Kd.z16 ?_ _)|(with_reducible refine Kd.z17 ?_ _)|(with_reducible refine Kd.z1g ?_)))
   (case side2=>exact HC1.out)
   rintro e w11 ⟨rfl,hb⟩
   refine ⟨_,rfl,?_⟩
   have n0_:=z3.mk (zb (g:=gb101) (o:=.cells #[.int .u64 0,.int .u64 0] 61 (0,0)) (by (with_reducible repeat (first|refine z2 ?_ _|refine z6 ?_|refine z1 ?_ _));exact BK101.out) hb)
   have n1_:=z3.mk (zb (g:=gb102) (o:=.cells #[.int .u64 x103000_1,.int .u64 x103001_1] 61 (0,0)) (by (with_reducible repeat (first|refine z2 ?_ _|refine z6 ?_|refine z1 ?_ _));exact BK102.out) hb)
   have n2_:=z3.mk (zd (by repeat (first|(with_reducible first|exact HB.out|apply z5|apply z0|apply z4|refine z7 ?_ GE101.out|refine z7 ?_ GE102.out)|exact HB.out)) hb)
   clear BK101
   clear BK102
   clear HB
   have BK101:=n0_
   have BK102:=n1_
   have HB:=n2_
   clear n0_ n1_ n2_
   (try clear hb)
   (try clear hb2)
   (try clear hk)
   (try clear hi)
   refine hK.out _ _ ⟨(z9 BK102.out 0).trans rfl,(z9 BK102.out 1).trans rfl,((HB.out.cell (World.block_lt_of_cell? w _ hw103_0)).trans hw103_0),((HB.out.cell (World.block_lt_of_cell? w _ hw103_1)).trans hw103_1)⟩ (fun hHeld=>?_)
   clear hK K
   refine norm_ (a':=?_) ?_ ?_
   rotate_left
   · show Act.put _ (some 20) _ = _
     simp only [Act.put,List.setIfInBounds_toArray,List.set_cons_zero,List.set_cons_succ,zx,zC]
     rfl
   refine one_ (i:=8) (N:=some 21) #[true,true,true,true,true,true,true,true,true,false,false] rfl rfl (z1n HT_.out (by kernel_rfl)) (by decide) (fun K hK=>?_)
   refine goes_ Try.func79 (by kernel_rfl) rfl #[.agg #[.int .u64 ((z13 l0 x6_1).f0),.int .u64 ((z13 l0 x6_1).f1)],.agg #[.int .u64 t104,.int .u64 t105]] (by rfl) rfl rfl (by (try simp only [List.map_toArray,List.map_cons,List.map_nil]);first|done|rfl|(simp only [List.length_drop,List.length_take];rfl)) ?_
   with_reducible refine (zc.calls k1 ((z13 l0 x6_1).f0) ((z13 l0 x6_1).f1) t104 t105 t106 t107 _ A8.out).mono ?_
   rintro e w12 ⟨rfl,hb⟩
   refine ⟨_,rfl,?_⟩
   have n0_:=z3.mk (zb (g:=gb101) (o:=.cells #[.int .u64 0,.int .u64 0] 61 (0,0)) (by (with_reducible repeat (first|refine z2 ?_ _|refine z6 ?_|refine z1 ?_ _));exact BK101.out) hb)
   have n1_:=z3.mk (zb (g:=gb102) (o:=.cells #[.int .u64 x103000_1,.int .u64 x103001_1] 61 (0,0)) (by (with_reducible repeat (first|refine z2 ?_ _|refine z6 ?_|refine z1 ?_ _));exact BK102.out) hb)
   have n2_:=z3.mk (zd (by repeat (first|(with_reducible first|exact HB.out|apply z5|apply z0|apply z4|refine z7 ?_ GE101.out|refine z7 ?_ GE102.out)|exact HB.out)) hb)
   clear BK101
   clear BK102
   clear HB
   have BK101:=n0_
   have BK102:=n1_
   have HB:=n2_
   clear n0_ n1_ n2_
   (try clear hb)
   (try clear hb2)
   (try clear hk)
   (try clear hi)
   refine hK.out _ _ ⟨(z9 BK102.out 0).trans rfl,(z9 BK102.out 1).trans rfl,((HB.out.cell (World.block_lt_of_cell? w _ hw103_0)).trans hw103_0),((HB.out.cell (World.block_lt_of_cell? w _ hw103_1)).trans hw103_1)⟩ (fun hHeld=>?_)
   clear hK K
   refine norm_ (a':=?_) ?_ ?_
   rotate_left
   · show Act.put _ (some 21) _ = _
     simp only [Act.put,List.setIfInBounds_toArray,List.set_cons_zero,List.set_cons_succ,zx,zC]
     rfl
   refine one_ (i:=9) (N:=some 22) #[true,true,true,true,true,true,true,true,true,true,false] rfl rfl (z1n HT_.out (by kernel_rfl)) (by decide) (fun K hK=>?_)
   refine goes_ Try.func74 (by kernel_rfl) rfl #[.agg #[.int .u64 x103000_1,.int .u64 x103001_1],.agg #[.int .u64 t106,.int .u64 t107]] (by rfl) rfl rfl (by (try simp only [List.map_toArray,List.map_cons,List.map_nil]);first|done|rfl|(simp only [List.length_drop,List.length_take];rfl)) ?_
   with_reducible refine (zW.calls x103000_1 x103001_1 t106 t107 t108 t109 _ A9.out).mono ?_
   rintro e w13 ⟨rfl,hb⟩
   refine ⟨_,rfl,?_⟩
   have n0_:=z3.mk (zb (g:=gb101) (o:=.cells #[.int .u64 0,.int .u64 0] 61 (0,0)) (by (with_reducible repeat (first|refine z2 ?_ _|refine z6 ?_|refine z1 ?_ _));exact BK101.out) hb)
   have n1_:=z3.mk (zb (g:=gb102) (o:=.cells #[.int .u64 x103000_1,.int .u64 x103001_1] 61 (0,0)) (by (with_reducible repeat (first|refine z2 ?_ _|refine z6 ?_|refine z1 ?_ _));exact BK102.out) hb)
   have n2_:=z3.mk (zd (by repeat (first|(with_reducible first|exact HB.out|apply z5|apply z0|apply z4|refine z7 ?_ GE101.out|refine z7 ?_ GE102.out)|exact HB.out)) hb)
   clear BK101
   clear BK102
   clear HB
   have BK101:=n0_
   have BK102:=n1_
   have HB:=n2_
   clear n0_ n1_ n2_
   (try clear hb)
   (try clear hb2)
   (try clear hk)
   (try clear hi)
   refine hK.out _ _ ⟨(z9 BK102.out 0).trans rfl,(z9 BK102.out 1).trans rfl,((HB.out.cell (World.block_lt_of_cell? w _ hw103_0)).trans hw103_0),((HB.out.cell (World.block_lt_of_cell? w _ hw103_1)).trans hw103_1)⟩ (fun hHeld=>?_)
   clear hK K
   refine norm_ (a':=?_) ?_ ?_
   rotate_left
   · show Act.put _ (some 22) _ = _
     simp only [Act.put,List.setIfInBounds_toArray,List.set_cons_zero,List.set_cons_succ,zx,zC]
     rfl
   refine last_ (i:=10) (N:=none) #[true,true,true,true,true,true,true,true,true,true,true] rfl rfl (z1n HT_.out (by kernel_rfl)) (by decide) (fun K hK=>?_)
   have hs14 : w13.cell? ⟨gb102,0,none⟩ = some (.int .u64 x103000_1):=(z9 BK102.out 0).trans rfl
   have hfs14:=za BK102.out 0
   have hns14_0:=NB101_102.out
   have hms14_0:=NB102_101.out
   have hs15 : w13.cell? ⟨gb102,1,none⟩ = some (.int .u64 x103001_1):=(z9 BK102.out 1).trans rfl
   have hfs15:=za BK102.out 1
   have hns15_0:=NB101_102.out
   have hms15_0:=NB102_101.out
   refine skip_ (w1:=?_) (by rfl) rfl ?_ ?_
   rotate_left
   · go_simp
     rfl
   refine hK.out _ _ ?_
   clear hK K
   refine done_ (z1P HT_.out (by kernel_rfl)) ?_
   try go_wp2
   go_roundg k1
   case measure=>have:=HK1.out;omega
   case rel=>exact ⟨(wrap64 (x6_1 + 1)),(t108),(t109),(by first|rfl|(simp;done)|(simp [*];done)),H',⟨by have:=HK1.out;omega⟩,⟨by (with_reducible repeat (first|refine z2 ?_ _|refine z6 ?_|refine z1 ?_ _));refine zF ?_ NB101_102.out _;(with_reducible repeat (first|refine z2 ?_ _|refine z6 ?_|refine z1 ?_ _));refine zF ?_ NB101_102.out _;(with_reducible repeat (first|refine z2 ?_ _|refine z6 ?_|refine z1 ?_ _));exact BK101.out⟩,⟨by (with_reducible repeat (first|refine z2 ?_ _|refine z6 ?_|refine z1 ?_ _));refine zG (cs:=#[.int .u64 t108,.int .u64 x103001_1]) ?_ 1 _ rfl;(with_reducible repeat (first|refine z2 ?_ _|refine z6 ?_|refine z1 ?_ _));refine zG (cs:=#[.int .u64 x103000_1,.int .u64 x103001_1]) ?_ 0 _ rfl;(with_reducible repeat (first|refine z2 ?_ _|refine z6 ?_|refine z1 ?_ _));exact BK102.out⟩,⟨by repeat (first|(with_reducible first|exact HB.out|apply z5|apply z0|apply z4|refine z7 ?_ GE101.out|refine z7 ?_ GE102.out)|exact HB.out)⟩⟩
end Go.Proofs.Ytngcaphdkgihmaa.P
namespace Go.Proofs.Ytngcaphdkgihmaa.P
open Go.RowKit Go.Proofs.YtngcaphdkgihmaaW.PrintWords Go.Proofs.YtngcaphdkgihmaaW.PrintLast Go.Proofs.YtngcaphdkgihmaaW.PrintMore
attribute [local go_sem] zS zU z11 z12 zM zN zT zV   -- for this text's walks alone
set_option linter.unusedVariables false
set_option linter.unusedSimpArgs false
def zo.l0 : Nat → Int → Int → Int → Option (Int)
 | 0,_,_,_=>none
 | k + 1,x0,x3,x4=>if x4 ≤ 16 then (if x3 = x0 then (some x4) else (zo.l0 k x0 (wrap64 (2 * x3)) (wrap64 (x4 + 1)))) else (some (-1))
def zo.f (k : Nat) (a0 : Int) : Option (Int):=zo.l0 k a0 1 0
theorem zo.zY : ∀ k,(∀ y0 y1 y2,LeO (zo.l0 k y0 y1 y2) (zo.l0 (k + 1) y0 y1 y2))
 | 0=>fun _ _ _ r h=>by simp [zo.l0] at h
 | k + 1=>by
  have ih0:=zo.zY k
  · intro y0 y1 y2
    unfold zo.l0
    repeat' first
    | (with_reducible exact ih0 _ _ _)
    | (with_reducible exact LeO.refl _)
    | (with_reducible exact LeO.none _)
    | (with_reducible refine LeO.ite ?_ ?_)
    | (with_reducible refine LeO.bind ?_ (fun _=>?_))
    | exact ih0 _ _ _
    | exact LeO.none _
    | refine LeO.ite ?_ ?_
    | refine LeO.bind ?_ (fun _=>?_)
theorem zo.mono : ∀ a0 k,LeO (zo.f k a0) (zo.f (k + 1) a0):=by
 intro a0 k
 have ih0:=zo.zY k
 unfold zo.f
 repeat' first
  | (with_reducible exact ih0 _ _ _)
  | (with_reducible exact LeO.refl _)
  | (with_reducible exact LeO.none _)
  | (with_reducible refine LeO.ite ?_ ?_)
  | (with_reducible refine LeO.bind ?_ (fun _=>?_))
  | exact ih0 _ _ _
  | exact LeO.none _
  | refine LeO.ite ?_ ?_
  | refine LeO.bind ?_ (fun _=>?_)
set_option maxHeartbeats 8000000 in
set_option maxRecDepth 100000 in
theorem zo.calls (k : Nat) (a0 : Int) (r : Int) (w : World) (h : zo.f k a0 = some r) :
 Calls Try.prog 37 #[.int .i64 a0] w fun e w'=>e = .returned (.int .i64 r) ∧ Drawn0 w w':=by
 have H : (zo.l0 k a0 1 0) = some r:=h
 clear h
 have H':=z3.mk H
 clear H
 go_enter Try.func37,Try.ntmps37
 go_wp2
 go_loopg [3,4] k (fun kq v3 v4 w'=>∃ (x3_1 : Int) (x4_1 : Int),v3 = .int .i64 x3_1 ∧ v4 = .int .i64 x4_1 ∧ z3 (zo.l0 kq a0 x3_1 x4_1 = some r) ∧ z3 (kq ≤ k) ∧ Drawn0 w w')
 case atStart=>exact ⟨(1),(0),(by first|rfl|(simp;done)|(simp [*];done)),(by first|rfl|(simp;done)|(simp [*];done)),H',⟨Nat.le_refl _⟩,by repeat (first|exact Drawn0.refl _|apply Drawn0.step)⟩
 case round =>
  clear H'
  obtain ⟨x3_1,x4_1,rfl,rfl,HA,HK1,⟨m1,rfl⟩⟩:=hrel
  cases gk with
  | zero=>exact absurd HA.out (by simp [zo.l0])
  | succ k1 =>
   have H:=HA.out
   clear HA
   simp only [zo.l0] at H
   by_cases c2 : x4_1 ≤ 16
   rotate_left
   · rw [if_neg c2] at H
     have c2b0 : decide (x4_1 ≤ 16) = false:=decide_eq_false c2
     clear c2
     obtain rfl:=Option.some.inj H
     go_wp2
     go_ret
     exact ⟨by first|rfl|(simp;done)|(simp [*];done),by repeat (first|exact Drawn0.refl _|apply Drawn0.step)⟩
   rw [if_pos c2] at H
   have c2b0 : decide (x4_1 ≤ 16) = true:=decide_eq_true c2
   clear c2
   by_cases c3 : x3_1 = a0
   · rw [if_pos c3] at H
     have c3b0 : (x3_1 == a0) = true:=beq_iff_eq.mpr c3
     have c3b1 : (x3_1 != a0) = false:=bne_eq_false_iff_eq.mpr c3
     clear c3
     obtain rfl:=Option.some.inj H
     go_wp2
     go_ret
     exact ⟨by first|rfl|(simp;done)|(simp [*];done),by repeat (first|exact Drawn0.refl _|apply Drawn0.step)⟩
   rw [if_neg c3] at H
   have c3b0 : (x3_1 == a0) = false:=beq_eq_false_iff_ne.mpr c3
   have c3b1 : (x3_1 != a0) = true:=bne_iff_ne.mpr c3
   have H':=z3.mk H
   clear H
   go_wp2
   go_roundg k1
   case measure=>have:=HK1.out;omega
   case rel=>exact ⟨(wrap64 (2 * x3_1)),(wrap64 (x4_1 + 1)),(by first|rfl|(simp;done)|(simp [*];done)),(by first|rfl|(simp;done)|(simp [*];done)),H',⟨by have:=HK1.out;omega⟩,by repeat (first|exact Drawn0.refl _|apply Drawn0.step)⟩
end Go.Proofs.Ytngcaphdkgihmaa.P
namespace Go.Proofs.Ytngcaphdkgihmaa.P
open Go.RowKit Go.Proofs.YtngcaphdkgihmaaW.PrintWords Go.Proofs.YtngcaphdkgihmaaW.PrintLast Go.Proofs.YtngcaphdkgihmaaW.PrintMore
attribute [local go_sem] zS zU z11 z12 zM zN zT zV   -- for this text's walks alone
set_option linter.unusedVariables false
set_option linter.unusedSimpArgs false
mutual
def zl.j0 : Nat → Int → List (S61) → List (S61) → Bool → Option (Int)
 | 0,_,_,_,_=>none
 | k + 1,x0,x1,x2,x12=>if x12 = true then (some 1) else ((zo.f k (x1.length : Int)).bind fun t101=>(if t101 < 0 then (zl.j1 k x0 x1 x2 true) else ((zo.f k (x1.length : Int)).bind fun t102=>(zl.j1 k x0 x1 x2 (decide ((x2.length : Int) > t102))))))
def zl.j1 : Nat → Int → List (S61) → List (S61) → Bool → Option (Int)
 | 0,_,_,_,_=>none
 | k + 1,x0,x1,x2,x24=>if x24 = true then (some 6) else ((zk.f k x0 x1).bind fun t103=>(if t103 = true then ((zk.f k x0 x2).bind fun t104=>(if t104 = true then (some 0) else (some 5))) else (some 5)))
end
def zl.f (k : Nat) (a0 : Int) (l1 : List (S61)) (l2 : List (S61)) : Option (Int):=if a0 < 0 then (zl.j0 k a0 l1 l2 true) else (zl.j0 k a0 l1 l2 (decide (a0 > 7)))
theorem zl.zY : ∀ k,(∀ y0 y1 y2 y3,LeO (zl.j0 k y0 y1 y2 y3) (zl.j0 (k + 1) y0 y1 y2 y3)) ∧ (∀ y0 y1 y2 y3,LeO (zl.j1 k y0 y1 y2 y3) (zl.j1 (k + 1) y0 y1 y2 y3))
 | 0=>⟨fun _ _ _ _ r h=>by simp [zl.j0] at h,fun _ _ _ _ r h=>by simp [zl.j1] at h⟩
 | k + 1=>by
  obtain ⟨ih0,ih1⟩:=zl.zY k
  refine ⟨?_,?_⟩
  · intro y0 y1 y2 y3
    unfold zl.j0
    repeat' first
    | (with_reducible exact ih0 _ _ _ _)
    | (with_reducible exact ih1 _ _ _ _)
    | (with_reducible exact zk.mono _ _ _)
    | (with_reducible exact zo.mono _ _)
    | (with_reducible exact LeO.refl _)
    | (with_reducible exact LeO.none _)
    | (with_reducible refine LeO.ite ?_ ?_)
    | (with_reducible refine LeO.bind ?_ (fun _=>?_))
    | exact ih0 _ _ _ _
    | exact ih1 _ _ _ _
    | exact zk.mono _ _ _
    | exact zo.mono _ _
    | exact LeO.none _
    | refine LeO.ite ?_ ?_
    | refine LeO.bind ?_ (fun _=>?_)
  · intro y0 y1 y2 y3
    unfold zl.j1
    repeat' first
    | (with_reducible exact ih0 _ _ _ _)
    | (with_reducible exact ih1 _ _ _ _)
    | (with_reducible exact zk.mono _ _ _)
    | (with_reducible exact zo.mono _ _)
    | (with_reducible exact LeO.refl _)
    | (with_reducible exact LeO.none _)
    | (with_reducible refine LeO.ite ?_ ?_)
    | (with_reducible refine LeO.bind ?_ (fun _=>?_))
    | exact ih0 _ _ _ _
    | exact ih1 _ _ _ _
    | exact zk.mono _ _ _
    | exact zo.mono _ _
    | exact LeO.none _
    | refine LeO.ite ?_ ?_
    | refine LeO.bind ?_ (fun _=>?_)
theorem zl.mono : ∀ a0 a1 a2 k,LeO (zl.f k a0 a1 a2) (zl.f (k + 1) a0 a1 a2):=by
 intro a0 a1 a2 k
 obtain ⟨ih0,ih1⟩:=zl.zY k
 unfold zl.f
 repeat' first
  | (with_reducible exact ih0 _ _ _ _)
  | (with_reducible exact ih1 _ _ _ _)
  | (with_reducible exact zk.mono _ _ _)
  | (with_reducible exact zo.mono _ _)
  | (with_reducible exact LeO.refl _)
  | (with_reducible exact LeO.none _)
  | (with_reducible refine LeO.ite ?_ ?_)
  | (with_reducible refine LeO.bind ?_ (fun _=>?_))
  | exact ih0 _ _ _ _
  | exact ih1 _ _ _ _
  | exact zk.mono _ _ _
  | exact zo.mono _ _
  | exact LeO.none _
  | refine LeO.ite ?_ ?_
  | refine LeO.bind ?_ (fun _=>?_)
set_option maxHeartbeats 8000000 in
set_option maxRecDepth 100000 in
theorem zl.calls (k : Nat) (a0 : Int) (A1 : Option Addr) (c1 : Nat) (l1 : List (S61)) (A2 : Option Addr) (c2 : Nat) (l2 : List (S61)) (r : Int) (w : World) (hr1 : Kd.C k61 w A1 l1.length l1) (hc1 : l1.length ≤ c1) (hr2 : Kd.C k61 w A2 l2.length l2) (hc2 : l2.length ≤ c2) (h : zl.f k a0 l1 l2 = some r) :
 Calls Try.prog 36 #[.int .i64 a0,.slice A1 l1.length c1,.slice A2 l2.length c2] w fun e w'=>e = .returned (.int .i64 r) ∧ Below w.heap.size w w':=by
 have HR1:=z3.mk hr1
 have HC1:=z3.mk hc1
 clear hr1 hc1
 have HR2:=z3.mk hr2
 have HC2:=z3.mk hc2
 clear hr2 hc2
 have HB:=z3.mk (Below.refl w.heap.size w)
 have H : (if a0 < 0 then (zl.j0 k a0 l1 l2 true) else (zl.j0 k a0 l1 l2 (decide (a0 > 7)))) = some r:=h
 clear h
 have HC4:=z3.mk H
 clear H
 go_enter Try.func36,Try.ntmps36
 go_upto_region 1 with (fail)
 go_cut [12] (fun v12 wc=>∃ (kq : Nat) (x12_3 : Bool),v12 = .bool x12_3 ∧ z3 (zl.j0 kq a0 l1 l2 x12_3 = some r) ∧ z3 (kq ≤ k) ∧ z3 (Below w.heap.size w wc))
 case first =>
  have H:=HC4.out
  clear HC4
  by_cases c5 : a0 < 0
  rotate_left
  · rw [if_neg c5] at H
    have c5b0 : decide (a0 < 0) = false:=decide_eq_false c5
    clear c5
    (first|rw [c5b0]|(simp only [zx,zC];rw [c5b0])|skip)
    have H':=z3.mk H
    clear H
    go_wp2
    go_meet
    case rel=>exact ⟨_,(decide (a0 > 7)),(by first|rfl|(simp;done)|(simp [*];done)),H',⟨by first|omega|exact Nat.le_refl _⟩,⟨by repeat (first|(with_reducible first|exact HB.out|apply z5|apply z0|apply z4)|exact HB.out)⟩⟩
  rw [if_pos c5] at H
  have c5b0 : decide (a0 < 0) = true:=decide_eq_true c5
  clear c5
  (first|rw [c5b0]|(simp only [zx,zC];rw [c5b0])|skip)
  have H':=z3.mk H
  clear H
  go_wp2
  go_meet
  case rel=>exact ⟨_,(true),(by first|rfl|(simp;done)|(simp [*];done)),H',⟨by first|omega|exact Nat.le_refl _⟩,⟨by repeat (first|(with_reducible first|exact HB.out|apply z5|apply z0|apply z4)|exact HB.out)⟩⟩
 case rest =>
  clear HC4
  (try clear c1);(try clear c2);(try clear p2);(try clear c3);(try clear c5);(try clear c5b0)
  obtain ⟨kq,x12_3,rfl,HA,HJ3,HB⟩:=hcut
  cases kq with
  | zero=>exact absurd HA.out (by simp [zl.j0])
  | succ kj3 =>
   have H:=HA.out
   clear HA
   simp only [zl.j0] at H
   by_cases c6 : x12_3 = true
   · subst c6
     have H1 : (some 1) = some r:=by rw [if_pos rfl] at H;exact H
     clear H
     have H:=H1
     clear H1
     obtain rfl:=Option.some.inj H
     go_wp2
     go_ret
     exact ⟨by first|rfl|(simp [zh,zi] <;> rfl)|(simp [*,zh,zi] <;> rfl),by repeat (first|(with_reducible first|exact HB.out|apply z5|apply z0|apply z4)|exact HB.out)⟩
   replace c6:=Bool.eq_false_iff.mpr c6
   subst c6
   have H1 : ((zo.f kj3 (l1.length : Int)).bind fun t101=>(if t101 < 0 then (zl.j1 kj3 a0 l1 l2 true) else ((zo.f kj3 (l1.length : Int)).bind fun t102=>(zl.j1 kj3 a0 l1 l2 (decide ((l2.length : Int) > t102)))))) = some r:=by rw [if_neg (show ¬ (false = true) by decide)] at H;exact H
   clear H
   have H:=H1
   clear H1
   have HC7:=z3.mk H
   clear H
   go_upto_region 3 with (fail)
   go_cut [24] (fun v24 wc=>∃ (kq : Nat) (x24_6 : Bool),v24 = .bool x24_6 ∧ z3 (zl.j1 kq a0 l1 l2 x24_6 = some r) ∧ z3 (kq ≤ kj3) ∧ z3 (Below w.heap.size w wc))
   case first =>
    have H:=HC7.out
    clear HC7
    replace H:=Option.bind_eq_some_iff.mp H
    obtain ⟨t101,A80,H⟩:=H
    replace H : (if t101 < 0 then (zl.j1 kj3 a0 l1 l2 true) else ((zo.f kj3 (l1.length : Int)).bind fun t102=>(zl.j1 kj3 a0 l1 l2 (decide ((l2.length : Int) > t102))))) = some r:=H
    have A8:=z3.mk A80
    clear A80
    by_cases c9 : t101 < 0
    · rw [if_pos c9] at H
      have c9b0 : decide (t101 < 0) = true:=decide_eq_true c9
      clear c9
      (first|rw [c9b0]|(simp only [zx,zC];rw [c9b0])|skip)
      have H':=z3.mk H
      clear H
      go_wp2_with (first|((with_reducible refine zp (f:=37) rfl ?_);refine goesL_ (some 15) rfl rfl Try.func37 (by kernel_rfl) rfl #[.int .i64 (l1.length : Int)] rfl (by (try simp only [List.map_toArray,List.map_cons,List.map_nil]);first|done|rfl|(simp only [List.length_drop,List.length_take];rfl)) ?_;(with_reducible refine (zo.calls kj3 (l1.length : Int) t101 _ A8.out).mono ?_);rintro e w' ⟨rfl,⟨nd,rfl⟩⟩;refine ⟨_,rfl,?_⟩))
      go_meet
      case rel=>exact ⟨_,(true),(by first|rfl|(simp;done)|(simp [*];done)),H',⟨by have:=HJ3.out;first|omega|exact Nat.le_refl _⟩,⟨by repeat (first|(with_reducible first|exact HB.out|apply z5|apply z0|apply z4)|exact HB.out)⟩⟩
    rw [if_neg c9] at H
    have c9b0 : decide (t101 < 0) = false:=decide_eq_false c9
    clear c9
    (first|rw [c9b0]|(simp only [zx,zC];rw [c9b0])|skip)
    replace H:=Option.bind_eq_some_iff.mp H
    obtain ⟨t102,A100,H⟩:=H
    replace H : (zl.j1 kj3 a0 l1 l2 (decide ((l2.length : Int) > t102))) = some r:=H
    have A10:=z3.mk A100
    clear A100
    have H':=z3.mk H
    clear H
    go_wp2_with (first|((with_reducible refine zp (f:=37) rfl ?_);refine goesL_ (some 15) rfl rfl Try.func37 (by kernel_rfl) rfl #[.int .i64 (l1.length : Int)] rfl (by (try simp only [List.map_toArray,List.map_cons,List.map_nil]);first|done|rfl|(simp only [List.length_drop,List.length_take];rfl)) ?_;(with_reducible refine (zo.calls kj3 (l1.length : Int) t101 _ A8.out).mono ?_);rintro e w' ⟨rfl,⟨nd,rfl⟩⟩;refine ⟨_,rfl,?_⟩)|(go_at_call 37;(with_reducible refine (zo.calls kj3 (l1.length : Int) t102 _ A10.out).mono ?_);rintro e w' ⟨rfl,⟨nd,rfl⟩⟩))
    go_meet
    case rel=>exact ⟨_,(decide ((l2.length : Int) > t102)),(by first|rfl|(simp;done)|(simp [*];done)),H',⟨by have:=HJ3.out;first|omega|exact Nat.le_refl _⟩,⟨by repeat (first|(with_reducible first|exact HB.out|apply z5|apply z0|apply z4)|exact HB.out)⟩⟩
   case rest =>
    clear HC7
    (try clear c1);(try clear c2);(try clear p2);(try clear c3);(try clear c5);(try clear c5b0);(try clear c6);(try clear c9);(try clear c9b0);(try clear p2)
    obtain ⟨kq,x24_6,rfl,HA,HJ6,HB⟩:=hcut
    cases kq with
    | zero=>exact absurd HA.out (by simp [zl.j1])
    | succ kj6 =>
     have H:=HA.out
     clear HA
     simp only [zl.j1] at H
     by_cases c11 : x24_6 = true
     · subst c11
       have H1 : (some 6) = some r:=by rw [if_pos rfl] at H;exact H
       clear H
       have H:=H1
       clear H1
       obtain rfl:=Option.some.inj H
       go_wp2
       go_ret
       exact ⟨by first|rfl|(simp [zh,zi] <;> rfl)|(simp [*,zh,zi] <;> rfl),by repeat (first|(with_reducible first|exact HB.out|apply z5|apply z0|apply z4)|exact HB.out)⟩
     replace c11:=Bool.eq_false_iff.mpr c11
     subst c11
     have H1 : ((zk.f kj6 a0 l1).bind fun t103=>(if t103 = true then ((zk.f kj6 a0 l2).bind fun t104=>(if t104 = true then (some 0) else (some 5))) else (some 5))) = some r:=by rw [if_neg (show ¬ (false = true) by decide)] at H;exact H
     clear H
     have H:=H1
     clear H1
     replace H:=Option.bind_eq_some_iff.mp H
     obtain ⟨t103,A120,H⟩:=H
     replace H : (if t103 = true then ((zk.f kj6 a0 l2).bind fun t104=>(if t104 = true then (some 0) else (some 5))) else (some 5)) = some r:=H
     have A12:=z3.mk A120
     clear A120
     by_cases c13 : t103 = true
     rotate_left
     · replace c13:=Bool.eq_false_iff.mpr c13
       subst c13
       have H1 : (some 5) = some r:=by rw [if_neg (show ¬ (false = true) by decide)] at H;exact H
       clear H
       have H:=H1
       clear H1
       obtain rfl:=Option.some.inj H
       go_wp2_with (first|((with_reducible refine zp (f:=46) rfl ?_);refine goesL_ (some 27) rfl rfl Try.func46 (by kernel_rfl) rfl #[.int .i64 a0,.slice A1 l1.length c1] rfl (by (try simp only [List.map_toArray,List.map_cons,List.map_nil]);first|done|rfl|(simp only [List.length_drop,List.length_take];rfl)) ?_;(with_reducible refine (zk.calls kj6 a0 _ _ l1 false _ ?side1 ?side2 A12.out).mono ?_);(case side1=>repeat (first|exact (Kd.z1f HR1.out HB.out)|(with_reducible refine Kd.z16 ?_ _)|(with_reducible refine Kd.z17 ?_ _)|(with_reducible refine Kd.z1g ?_)));(case side2=>exact HC1.out);rintro e w20 ⟨rfl,hb⟩;refine ⟨_,rfl,?_⟩;have n0_:=z3.mk (zd (by repeat (first|(with_reducible first|exact HB.out|apply z5|apply z0|apply z4)|exact HB.out)) hb);clear HB;have HB:=n0_;clear n0_;(try clear hb);(try clear hb2);(try clear hk);(try clear hi)))
       go_ret
       exact ⟨by first|rfl|(simp [zh,zi] <;> rfl)|(simp [*,zh,zi] <;> rfl),by repeat (first|(with_reducible first|exact HB.out|apply z5|apply z0|apply z4)|exact HB.out)⟩
     subst c13
     have H1 : ((zk.f kj6 a0 l2).bind fun t104=>(if t104 = true then (some 0) else (some 5))) = some r:=by rw [if_pos rfl] at H;exact H
     clear H
     have H:=H1
     clear H1
     replace H:=Option.bind_eq_some_iff.mp H
     obtain ⟨t104,A140,H⟩:=H
     replace H : (if t104 = true then (some 0) else (some 5)) = some r:=H
     have A14:=z3.mk A140
     clear A140
     by_cases c15 : t104 = true
     · subst c15
       have H1 : (some 0) = some r:=by rw [if_pos rfl] at H;exact H
       clear H
       have H:=H1
       clear H1
       obtain rfl:=Option.some.inj H
       go_wp2_with (first|((with_reducible refine zp (f:=46) rfl ?_);refine goesL_ (some 27) rfl rfl Try.func46 (by kernel_rfl) rfl #[.int .i64 a0,.slice A1 l1.length c1] rfl (by (try simp only [List.map_toArray,List.map_cons,List.map_nil]);first|done|rfl|(simp only [List.length_drop,List.length_take];rfl)) ?_;(with_reducible refine (zk.calls kj6 a0 _ _ l1 true _ ?side1 ?side2 A12.out).mono ?_);(case side1=>repeat (first|exact (Kd.z1f HR1.out HB.out)|(with_reducible refine Kd.z16 ?_ _)|(with_reducible refine Kd.z17 ?_ _)|(with_reducible refine Kd.z1g ?_)));(case side2=>exact HC1.out);rintro e w16 ⟨rfl,hb⟩;refine ⟨_,rfl,?_⟩;have n0_:=z3.mk (zd (by repeat (first|(with_reducible first|exact HB.out|apply z5|apply z0|apply z4)|exact HB.out)) hb);clear HB;have HB:=n0_;clear n0_;(try clear hb);(try clear hb2);(try clear hk);(try clear hi))|(go_at_call 46;(with_reducible refine (zk.calls kj6 a0 _ _ l2 true _ ?side1 ?side2 A14.out).mono ?_);(case side1=>repeat (first|exact (Kd.z1f HR2.out HB.out)|(with_reducible refine Kd.z16 ?_ _)|(with_reducible refine Kd.z17 ?_ _)|(with_reducible refine Kd.z1g ?_)));(case side2=>exact HC2.out);rintro e w17 ⟨rfl,hb⟩;have n0_:=z3.mk (zd (by repeat (first|(with_reducible first|exact HB.out|apply z5|apply z0|apply z4)|exact HB.out)) hb);clear HB;have HB:=n0_;clear n0_;(try clear hb);(try clear hb2);(try clear hk);(try clear hi)))
       go_ret
       exact ⟨by first|rfl|(simp [zh,zi] <;> rfl)|(simp [*,zh,zi] <;> rfl),by repeat (first|(with_reducible first|exact HB.out|apply z5|apply z0|apply z4)|exact HB.out)⟩
     replace c15:=Bool.eq_false_iff.mpr c15
     subst c15
     have H1 : (some 5) = some r:=by rw [if_neg (show ¬ (false = true) by decide)] at H;exact H
     clear H
     have H:=H1
     clear H1
     obtain rfl:=Option.some.inj H
     go_wp2_with (first|((with_reducible refine zp (f:=46) rfl ?_);refine goesL_ (some 27) rfl rfl Try.func46 (by kernel_rfl) rfl #[.int .i64 a0,.slice A1 l1.length c1] rfl (by (try simp only [List.map_toArray,List.map_cons,List.map_nil]);first|done|rfl|(simp only [List.length_drop,List.length_take];rfl)) ?_;(with_reducible refine (zk.calls kj6 a0 _ _ l1 true _ ?side1 ?side2 A12.out).mono ?_);(case side1=>repeat (first|exact (Kd.z1f HR1.out HB.out)|(with_reducible refine Kd.z16 ?_ _)|(with_reducible refine Kd.z17 ?_ _)|(with_reducible refine Kd.z1g ?_)));(case side2=>exact HC1.out);rintro e w18 ⟨rfl,hb⟩;refine ⟨_,rfl,?_⟩;have n0_:=z3.mk (zd (by repeat (first|(with_reducible first|exact HB.out|apply z5|apply z0|apply z4)|exact HB.out)) hb);clear HB;have HB:=n0_;clear n0_;(try clear hb);(try clear hb2);(try clear hk);(try clear hi))|(go_at_call 46;(with_reducible refine (zk.calls kj6 a0 _ _ l2 false _ ?side1 ?side2 A14.out).mono ?_);(case side1=>repeat (first|exact (Kd.z1f HR2.out HB.out)|(with_reducible refine Kd.z16 ?_ _)|(with_reducible refine Kd.z17 ?_ _)|(with_reducible refine Kd.z1g ?_)));(case side2=>exact HC2.out);rintro e w19 ⟨rfl,hb⟩;have n0_:=z3.mk (zd (by repeat (first|(with_reducible first|exact HB.out|apply z5|apply z0|apply z4)|exact HB.out)) hb);clear HB;have HB:=n0_;clear n0_;(try clear hb);(try clear hb2);(try clear hk);(try clear hi)))
     go_ret
     exact ⟨by first|rfl|(simp [zh,zi] <;> rfl)|(simp [*,zh,zi] <;> rfl),by repeat (first|(with_reducible first|exact HB.out|apply z5|apply z0|apply z4)|exact HB.out)⟩
end Go.Proofs.Ytngcaphdkgihmaa.P
/- Multilinear polynomials by their values on the cube: what layer 15 tells. Own text. -/
namespace Go.Proofs.Ytngcaphdkgihmaa.Sp
open Go.RowKit Go.Proofs.YtngcaphdkgihmaaW.PrintWords Go.Proofs.YtngcaphdkgihmaaW.PrintMore Go.Proofs.Ytngcaphdkgihmaa.P Go.Proofs.Ytngcaphdkgihmaa.Ar Go.Proofs.Ytngcaphdkgihmaa.Tw
set_option linter.unusedVariables false
set_option linter.unusedSimpArgs false
/-- Sums. -/
def sumN (f : Nat → E) : Nat → E
  | 0 => 0
  | n + 1 => sumN f n + f n
theorem z2y {f g : Nat → E} : ∀ n, (∀ i, i < n → f i = g i) → sumN f n = sumN g n
  | 0, _ => rfl
  | n + 1, h => by rw [sumN, sumN, z2y n (fun i hi => h i (by omega)), h n (by omega)]
theorem z4k (f g : Nat → E) : ∀ n, sumN (fun i => f i + g i) n = sumN f n + sumN g n
  | 0 => (add_zero _).symm
  | n + 1 => by
    rw [sumN, sumN, sumN, z4k f g n]
    simp only [add_assoc, z1s]
theorem z4l (c : E) (f : Nat → E) : ∀ n, sumN (fun i => c * f i) n = c * sumN f n
  | 0 => (z1M _).symm
  | n + 1 => by rw [sumN, sumN, z4l c f n, mul_add]
theorem z5o : ∀ n, sumN (fun _ => (0 : E)) n = 0
  | 0 => rfl
  | n + 1 => by rw [sumN, z5o n, add_zero]
theorem z31 (f : Nat → E) : ∀ n, sumN f (2 * n) = sumN (fun i => f (2 * i) + f (2 * i + 1)) n
  | 0 => rfl
  | n + 1 => by
    rw [show 2 * (n + 1) = 2 * n + 1 + 1 by omega, sumN, sumN, sumN, z31 f n, add_assoc]
theorem z4z (f : Nat → E) (m : Nat) : ∀ n, sumN f (m + n) = sumN f m + sumN (fun i => f (m + i)) n
  | 0 => (add_zero _).symm
  | n + 1 => by rw [← Nat.add_assoc, sumN, sumN, z4z f m n, add_assoc]
/-- A corner's weight at a point. -/
def weight : List E → Nat → E
  | [], _ => 1
  | p :: ps, i => (if i % 2 = 1 then p else 1 + p) * weight ps (i / 2)
/-- A table's value at a point. -/
def value (X P : List E) : E := sumN (fun i => X.getD i 0 * weight P i) X.length
/-- A table bound in its first variable. -/
def first (r : E) (X : List E) : List E := (List.range (X.length / 2)).map fun i => X.getD (2 * i) 0 + r * (X.getD (2 * i) 0 + X.getD (2 * i + 1) 0)
def firsts : List E → List E → List E
  | [], X => X
  | r :: rs, X => firsts rs (first r X)
theorem z1E (r : E) (X : List E) : (first r X).length = X.length / 2 := by simp [first]
theorem z3g (r : E) (X : List E) (i : Nat) (h : i < X.length / 2) : (first r X).getD i 0 = X.getD (2 * i) 0 + r * (X.getD (2 * i) 0 + X.getD (2 * i + 1) 0) := by
  rw [List.getD_eq_getElem?_getD]; simp [first, h]
theorem z4u (a b r : E) : a + r * (a + b) = (1 + r) * a + r * b := by
  rw [add_mul, one_mul, mul_add, add_assoc]
theorem z40 (X : List E) (r : E) (P : List E) (h : X.length = 2 * (X.length / 2)) : value X (r :: P) = value (first r X) P := by
  unfold value
  rw [z1E]
  conv => lhs; rw [h]
  rw [z31]
  apply z2y
  intro i hi
  rw [z3g r X i hi, weight, weight, if_neg (by omega), if_pos (by omega), show 2 * i / 2 = i by omega, show (2 * i + 1) / 2 = i by omega, z4u]
  rw [← mul_assoc, ← mul_assoc, mul_comm (X.getD (2 * i) 0), mul_comm (X.getD (2 * i + 1) 0), ← add_mul]
theorem pow_len {X : List E} {k : Nat} (h : X.length = 2 ^ (k + 1)) : X.length = 2 * (X.length / 2) := by rw [h, Nat.pow_succ]; omega
theorem z1V : ∀ (R X : List E) (k : Nat), X.length = 2 ^ k → R.length ≤ k → (firsts R X).length = 2 ^ (k - R.length)
  | [], X, k, h, _ => by rw [firsts, h]; rfl
  | r :: rs, X, k, h, hk => by
    rw [List.length_cons] at hk
    obtain ⟨k', rfl⟩ : ∃ k', k = k' + 1 := ⟨k - 1, by omega⟩
    rw [firsts, z1V rs (first r X) k' (by rw [z1E, h, Nat.pow_succ]; omega) (by omega), List.length_cons]
    congr 1; omega
theorem z2H : ∀ (R X P : List E) (k : Nat), X.length = 2 ^ k → R.length ≤ k → value X (R ++ P) = value (firsts R X) P
  | [], X, P, k, _, _ => rfl
  | r :: rs, X, P, k, h, hk => by
    rw [List.length_cons] at hk
    obtain ⟨k', rfl⟩ : ∃ k', k = k' + 1 := ⟨k - 1, by omega⟩
    rw [List.cons_append, z40 X r (rs ++ P) (pow_len h), firsts]
    exact z2H rs (first r X) P k' (by rw [z1E, h, Nat.pow_succ]; omega) (by omega)
theorem z5t {X : List E} (h : X.length = 1) : value X [] = X.getD 0 0 := by
  unfold value; rw [h, sumN, sumN, zero_add, weight, mul_one]
theorem z4o (X P : List E) (h : X.length = 2 ^ P.length) : value X P = (firsts P X).getD 0 0 := by
  have := z2H P X [] P.length h (Nat.le_refl _)
  rw [List.append_nil] at this
  rw [this, z5t (by rw [z1V P X P.length h (Nat.le_refl _), Nat.sub_self, Nat.pow_zero])]

/-- k of 2^k, as both tell it. -/
def logFrom (n : Int) (k : Nat) : Nat → Int
  | 0 => -1
  | d + 1 => if n = ((2 ^ k : Nat) : Int) then (k : Int) else logFrom n (k + 1) d
def logI (n : Int) : Int := logFrom n 0 17
theorem z2T : ∀ (d k m : Nat), k ≤ m → m < k + d → logFrom ((2 ^ m : Nat) : Int) k d = (m : Int)
  | 0, k, m, h1, h2 => by omega
  | d + 1, k, m, h1, h2 => by
    rw [logFrom]
    by_cases c : m = k
    · rw [if_pos (by rw [c]), c]
    · rw [if_neg ?_, z2T d (k + 1) m (by omega) (by omega)]
      intro e
      have e' : 2 ^ m = 2 ^ k := by omega
      exact c ((Nat.pow_right_inj (by decide)).1 e')
theorem logI_pow {m : Nat} (h : m ≤ 16) : logI ((2 ^ m : Nat) : Int) = (m : Int) := z2T 17 0 m (by omega) (by omega)
theorem z2S : ∀ (d k : Nat) (n : Int), logFrom n k d = -1 ∨ ∃ m : Nat, k ≤ m ∧ m < k + d ∧ n = ((2 ^ m : Nat) : Int) ∧ logFrom n k d = (m : Int)
  | 0, k, n => Or.inl rfl
  | d + 1, k, n => by
    rw [logFrom]
    by_cases c : n = ((2 ^ k : Nat) : Int)
    · rw [if_pos c]; exact Or.inr ⟨k, by omega, by omega, c, rfl⟩
    · rw [if_neg c]
      rcases z2S d (k + 1) n with h | ⟨m, h1, h2, h3, h4⟩
      · exact Or.inl h
      · exact Or.inr ⟨m, by omega, by omega, h3, h4⟩
theorem z4c (n : Int) : logI n = -1 ∨ ∃ m : Nat, m ≤ 16 ∧ n = ((2 ^ m : Nat) : Int) ∧ logI n = (m : Int) := by
  rcases z2S 17 0 n with h | ⟨m, _, h2, h3, h4⟩
  · exact Or.inl h
  · exact Or.inr ⟨m, by omega, h3, h4⟩
theorem Log_l0 (n : Int) : ∀ (d k : Nat), k + d = 17 → Ev (fun q => zK.l0 q n (k : Int)) (logFrom n k d) := by
  intro d
  induction d with
  | zero =>
    intro k hk
    have h17 : ¬ ((k : Int) < 17) := by omega
    refine Ev.step (fun q => by rw [zK.l0]) (Ev.neg h17 ?_)
    exact Ev.ret' rfl
  | succ d ih =>
    intro k hk
    refine Ev.step (fun q => by rw [zK.l0]) (Ev.pos (by omega) (Ev.pos (Int.natCast_nonneg _) ?_))
    rw [z3Z k (by omega), logFrom]
    by_cases c : n = ((2 ^ k : Nat) : Int)
    · rw [if_pos c]; exact Ev.pos c (Ev.ret _)
    · rw [if_neg c]
      refine Ev.neg c ?_
      simp only [z1o (show k < 17 by omega) (by decide)]
      exact ih (k + 1) (by omega)
theorem z4E (n : Int) : Ev (fun q => zK.f q n) (logI n) := Log_l0 n 17 0 (by omega)
theorem z5k (n : Int) : ∀ (d k : Nat), k + d = 17 → Ev (fun q => zo.l0 q n ((2 ^ k : Nat) : Int) (k : Int)) (logFrom n k d) := by
  intro d
  induction d with
  | zero =>
    intro k hk
    have h17 : ¬ ((k : Int) ≤ 16) := by omega
    refine Ev.step (fun q => by rw [zo.l0]) (Ev.neg h17 ?_)
    exact Ev.ret' rfl
  | succ d ih =>
    intro k hk
    have hp : 2 ^ k ≤ 65536 := Nat.pow_le_pow_right (n := 2) (by decide) (show k ≤ 16 by omega)
    refine Ev.step (fun q => by rw [zo.l0]) (Ev.pos (by omega) ?_)
    rw [logFrom]
    by_cases c : n = ((2 ^ k : Nat) : Int)
    · rw [if_pos c]; exact Ev.pos c.symm (Ev.ret _)
    · rw [if_neg c]
      refine Ev.neg (fun h => c h.symm) ?_
      have hih := ih (k + 1) (by omega)
      have e1 : wrap64 (2 * ((2 ^ k : Nat) : Int)) = ((2 ^ (k + 1) : Nat) : Int) := by
        rw [Nat.pow_succ]
        generalize 2 ^ k = p at hp ⊢
        rw [z20 (by omega) (by omega)]; omega
      simp only [z1o (show k < 17 by omega) (by decide), e1]
      exact hih
theorem z3S (n : Int) : Ev (fun q => zo.f q n) (logI n) := z5k n 17 0 (by omega)
theorem z2v (L : Int) : ∀ (X : List E), Ev (fun k => zX.f k L (X.map toS)) (decide (AllS L X))
  | [] => by refine Ev.ret' ?_; symm; rw [decide_eq_true_eq]; intro x hx; cases hx
  | x :: xs => by
    show Ev (fun k => (zI.f k L (toS x).f0 (toS x).f1).bind fun b => if b = true then zX.all k L (xs.map toS) else some false) _
    refine Ev.bnd (z5b L x) ?_
    have hd : AllS L (x :: xs) ↔ OfS L x ∧ AllS L xs := List.forall_mem_cons
    by_cases c : OfS L x
    · refine Ev.pos (decide_eq_true c) ((z2v L xs).eqn ?_)
      rw [decide_eq_decide, hd]; exact ⟨fun h => ⟨c, h⟩, fun h => h.2⟩
    · refine Ev.neg (by simpa using c) (Ev.ret' ?_)
      symm; rw [decide_eq_false_iff_not, hd]; exact fun h => c h.1
/-- What hinders binding. -/
def askS (L : Int) (X R : List E) : Int := if LvS L then (if logI (X.length : Int) < 0 ∨ (R.length : Int) > logI (X.length : Int) then 6 else if AllS L X ∧ AllS L R then 0 else 5) else 1
theorem ask_ev (L : Int) (X R : List E) : Ev (fun k => zP.f k L (X.map toS) (R.map toS)) (askS L X R) := by
  unfold zP.f askS
  rw [List.length_map, List.length_map]
  refine Ev.bnd (z4E _) ?_
  by_cases hL : LvS L
  · obtain ⟨v, hv, hw⟩ := z41 hL
    rw [if_pos hL]
    refine Ev.bnd hw (Ev.neg hv ?_)
    have hj : ∀ b, b = decide (logI (X.length : Int) < 0 ∨ (R.length : Int) > logI (X.length : Int)) → Ev (fun k => zP.j0 k L (X.map toS) (R.map toS) b) (if logI (X.length : Int) < 0 ∨ (R.length : Int) > logI (X.length : Int) then 6 else if AllS L X ∧ AllS L R then 0 else 5) := by
      intro b hb
      refine Ev.step (fun k => by rw [zP.j0]) ?_
      by_cases c : logI (X.length : Int) < 0 ∨ (R.length : Int) > logI (X.length : Int)
      · rw [if_pos c]; exact Ev.pos (by rw [hb]; exact decide_eq_true c) (Ev.ret _)
      · rw [if_neg c]
        refine Ev.neg (by rw [hb]; simpa using c) (Ev.bnd (z2v L X) ?_)
        by_cases cx : AllS L X
        · refine Ev.pos (decide_eq_true cx) (Ev.bnd (z2v L R) ?_)
          by_cases cr : AllS L R
          · have e : (if AllS L X ∧ AllS L R then (0 : Int) else 5) = 0 := if_pos ⟨cx, cr⟩
            rw [e]; exact Ev.pos (decide_eq_true cr) (Ev.ret _)
          · have e : (if AllS L X ∧ AllS L R then (0 : Int) else 5) = 5 := if_neg (fun h => cr h.2)
            rw [e]; exact Ev.neg (by simpa using cr) (Ev.ret _)
        · have e : (if AllS L X ∧ AllS L R then (0 : Int) else 5) = 5 := if_neg (fun h => cx h.1)
          rw [e]; exact Ev.neg (by simpa using cx) (Ev.ret _)
    by_cases c : logI (X.length : Int) < 0
    · exact Ev.pos c (hj true (by symm; rw [decide_eq_true_eq]; exact Or.inl c))
    · exact Ev.neg c (hj _ (by rw [decide_eq_decide]; exact ⟨Or.inr, fun h => h.resolve_left c⟩))
  · rw [if_neg hL]
    exact Ev.bnd (z3A hL) (Ev.pos rfl (Ev.ret _))
theorem z4v {l : Nat} (hl : l ≤ 7) {a b r : E} (ha : InL l a) (hb : InL l b) (hr : InL l r) : Ev (fun k => zJ.f k (l : Int) (hi a) (lo a) (hi b) (lo b) (hi r) (lo r)) (hi (a + r * (a + b)), lo (a + r * (a + b))) := by
  unfold zJ.f
  exact Ev.bnd0 (z42 a b) (Ev.bnd (z4G hl hr (z3r ha hb)) (Ev.bnd0 (z42 a _) (Ev.ret _)))
theorem map_set {α β : Type} (f : α → β) (X : List α) (i : Nat) (x : α) : (X.map f).set i (f x) = (X.set i x).map f := by rw [List.map_set]
theorem toS_mk (x : E) : (⟨hi x, lo x⟩ : S51) = toS x := rfl
theorem toR_mk (x : E) : (⟨hi x, lo x⟩ : S61) = toR x := rfl
theorem z3q {X : List E} {i : Nat} (h : i < X.length) (x : E) : (X.set i x).getD i 0 = x := by
  rw [List.getD_eq_getElem?_getD, List.getElem?_set_self h]; rfl
theorem getD_set_ne {X : List E} {i j : Nat} (h : i ≠ j) (x : E) : (X.set i x).getD j 0 = X.getD j 0 := by
  rw [List.getD_eq_getElem?_getD, List.getD_eq_getElem?_getD, List.getElem?_set_ne h]
theorem ext_getD {X Y : List E} (hl : X.length = Y.length) (h : ∀ i, i < X.length → X.getD i 0 = Y.getD i 0) : X = Y := by
  apply List.ext_getElem hl
  intro j h1 h2
  have := h j h1
  simpa [List.getD_eq_getElem?_getD, h1, h2] using this
theorem z4X {X : List E} {i m : Nat} (h : i < m) : (X.take m).getD i 0 = X.getD i 0 := by
  rw [List.getD_eq_getElem?_getD, List.getD_eq_getElem?_getD, List.getElem?_take_of_lt h]
theorem z1t {l : Nat} {X : List E} (h : AllS (l : Int) X) (i : Nat) : InL l (X.getD i 0) := by
  rw [List.getD_eq_getElem?_getD]
  by_cases c : i < X.length
  · rw [List.getElem?_eq_getElem c]
    have := (h _ (List.getElem_mem c)).2.2
    rw [Int.toNat_natCast] at this; exact this
  · rw [List.getElem?_eq_none (by omega)]; exact inL_zero l
theorem z3c {l : Nat} (hl : l ≤ 7) {X : List E} {r : E} (hX : AllS (l : Int) X) (hr : InL l r) : AllS (l : Int) (first r X) := by
  intro x hx
  unfold first at hx
  rw [List.mem_map] at hx
  obtain ⟨i, _, rfl⟩ := hx
  refine ⟨by omega, by omega, ?_⟩
  rw [Int.toNat_natCast]
  exact z3r (z1t hX _) (z3X hl hr (z3r (z1t hX _) (z1t hX _)))
theorem half_len (n : Nat) (h : n ≤ 1000000) : wrap64 ((n : Int) / 2) = ((n / 2 : Nat) : Int) := by rw [z20 (by omega) (by omega)]; omega
theorem w64_dbl {i : Nat} (h : i ≤ 1000000) : wrap64 (2 * (i : Int)) = ((2 * i : Nat) : Int) := by rw [z20 (by omega) (by omega)]; omega
theorem First_l1 {l : Nat} (hl : l ≤ 7) (X0 : List E) (hlen : X0.length ≤ 1000000) (hX : AllS (l : Int) X0) (r : E) (hr : InL l r) (RS : List S51) (m t : Int) {res : List S51 × Int}
    (hk : Ev (fun q => zq.l0 q (l : Int) ((first r X0).map toS) RS m (wrap64 (t + 1))) res) :
    ∀ (d i : Nat) (X : List E), i + d = X0.length / 2 → X.length = X0.length → (∀ j, j < i → X.getD j 0 = (first r X0).getD j 0) → (∀ j, i ≤ j → X.getD j 0 = X0.getD j 0) →
    Ev (fun q => zq.l1 q (l : Int) (X.map toS) ((X0.length / 2 : Nat) : Int) RS m t ((X0.length / 2 : Nat) : Int) (i : Int) (hi r) (lo r)) res := by
  intro d
  induction d with
  | zero =>
    intro i X hid hXl h1 h2
    refine Ev.step (fun q => by rw [zq.l1]) (Ev.neg (by omega) (Ev.pos (Int.natCast_nonneg _) (Ev.pos (by rw [List.length_map]; omega) ?_)))
    rw [Int.toNat_natCast, ← List.map_take]
    have e : X.take (X0.length / 2) = first r X0 := by
      apply ext_getD
      · rw [List.length_take, z1E]; omega
      · intro j hj
        rw [List.length_take] at hj
        rw [z4X (by omega)]; exact h1 j (by omega)
    rw [e]; exact hk
  | succ d ih =>
    intro i X hid hXl h1 h2
    have hi2 : i < X0.length / 2 := by omega
    refine Ev.step (fun q => by rw [zq.l1]) (Ev.pos (by omega) ?_)
    simp only [w64_dbl (show i ≤ 1000000 by omega), z1o (show 2 * i < X0.length by omega) (show X0.length ≤ 4611686018427387904 by omega), z1o hi2 (show X0.length / 2 ≤ 4611686018427387904 by omega), rdS, z32, z33, List.length_map]
    refine Ev.pos (Int.natCast_nonneg _) (Ev.pos (by omega) (Ev.pos (Int.natCast_nonneg _) (Ev.pos (by omega) ?_)))
    rw [h2 (2 * i) (by omega), h2 (2 * i + 1) (by omega)]
    refine Ev.bnd (z4v hl (z1t hX _) (z1t hX _) hr) (Ev.pos (Int.natCast_nonneg _) (Ev.pos (by omega) ?_))
    rw [Int.toNat_natCast, toS_mk, map_set]
    refine ih (i + 1) _ (by omega) (by rw [List.length_set, hXl]) (fun j hj => ?_) (fun j hj => ?_)
    · by_cases e : j = i
      · subst e
        rw [z3q (by omega), z3g r X0 j hi2]
      · rw [getD_set_ne (by omega)]; exact h1 j (by omega)
    · rw [getD_set_ne (by omega)]; exact h2 j (by omega)
theorem First_l0 {l : Nat} (hl : l ≤ 7) (R : List E) (hR : AllS (l : Int) R) (hRl : R.length ≤ 1000000) : ∀ (d t : Nat) (X : List E), t + d = R.length → X.length ≤ 1000000 → AllS (l : Int) X →
    Ev (fun q => zq.l0 q (l : Int) (X.map toS) (R.map toS) (R.length : Int) (t : Int)) ((firsts (R.drop t) X).map toS, 0) := by
  intro d
  induction d with
  | zero =>
    intro t X ht hXl hX
    refine Ev.step (fun q => by rw [zq.l0]) (Ev.neg (by omega) (Ev.ret' ?_))
    rw [List.drop_eq_nil_of_le (by omega)]; rfl
  | succ d ih =>
    intro t X ht hXl hX
    have ht' : t < R.length := by omega
    refine Ev.step (fun q => by rw [zq.l0]) (Ev.pos (by omega) (Ev.pos (Int.natCast_nonneg _) (Ev.pos (by rw [List.length_map]; omega) ?_)))
    simp only [rdS, z32, z33, List.length_map, half_len X.length hXl]
    have hr := z1t hR t
    have hih := ih (t + 1) (first (R.getD t 0) X) (by omega) (by rw [z1E]; omega) (z3c hl hX hr)
    rw [← z1o ht' (show R.length ≤ 4611686018427387904 by omega)] at hih
    have := First_l1 hl X hXl hX (R.getD t 0) hr (R.map toS) (R.length : Int) (t : Int) hih (X.length / 2) 0 X (by omega) rfl (fun j hj => by omega) (fun j _ => rfl)
    have e : firsts (R.drop t) X = firsts (R.drop (t + 1)) (first (R.getD t 0) X) := by
      rw [List.drop_eq_getElem_cons ht', firsts]
      congr 2
      rw [List.getD_eq_getElem?_getD, List.getElem?_eq_getElem ht']; rfl
    rw [e]; exact this
theorem First_ok {l : Nat} (hl : l ≤ 7) (X R : List E) (hXl : X.length ≤ 1000000) (hRl : R.length ≤ 1000000) (h : askS (l : Int) X R = 0) : Ev (fun q => zq.f q (l : Int) (X.map toS) (R.map toS)) ((firsts R X).map toS, 0) := by
  unfold zq.f
  have hh := h
  unfold askS at hh
  split at hh
  · split at hh
    · omega
    · split at hh
      · rename_i hall
        refine Ev.bnd (ask_ev _ X R) (Ev.pos h ?_)
        refine Ev.bnd0 (a := X.map toS) (by unfold z19.f; rw [if_pos (by rw [List.length_map]; omega)]) ?_
        rw [List.length_map]
        exact First_l0 hl R hall.2 hRl R.length 0 X (by omega) hXl hall.1
      · omega
  · omega
theorem z4C (L : Int) (X R : List E) (h : askS L X R ≠ 0) : Ev (fun q => zq.f q L (X.map toS) (R.map toS)) ([], askS L X R) := by
  unfold zq.f
  exact Ev.bnd (ask_ev L X R) (Ev.neg h (Ev.ret _))
/-- A value, or the error. -/
def atErr (L : Int) (X P : List E) : Int := if LvS L then (if logI (X.length : Int) = (P.length : Int) then (if AllS L X ∧ AllS L P then 0 else 5) else 6) else 1
theorem z56 {X : List E} {k : Nat} (h : logI (X.length : Int) = (k : Int)) : X.length = 2 ^ k := by
  rcases z4c (X.length : Int) with e | ⟨m, _, h3, h4⟩
  · omega
  · have : m = k := by omega
    subst this; omega
theorem At_ev (L : Int) (X P : List E) (hXl : X.length ≤ 1000000) (hPl : P.length ≤ 1000000) : Ev (fun q => z10.f q L (X.map toS) (P.map toS)) (if atErr L X P = 0 then (hi (value X P), lo (value X P), 0) else (0, 0, atErr L X P)) := by
  unfold z10.f
  rw [List.length_map, List.length_map]
  by_cases hL : LvS L
  · obtain ⟨v, hv, hw⟩ := z41 hL
    refine Ev.bnd hw (Ev.neg hv (Ev.bnd (z4E _) ?_))
    by_cases hlog : logI (X.length : Int) = (P.length : Int)
    · refine Ev.pos hlog ?_
      have hask : askS L X P = (if AllS L X ∧ AllS L P then 0 else 5) := by
        unfold askS; rw [if_pos hL, if_neg (by rw [hlog]; omega)]
      have hat : atErr L X P = askS L X P := by unfold atErr; rw [if_pos hL, if_pos hlog, hask]
      rw [hat]
      by_cases h0 : askS L X P = 0
      · rw [if_pos h0]
        obtain ⟨hL0, hL7⟩ := hL
        obtain ⟨l, rfl⟩ := Int.eq_ofNat_of_zero_le hL0
        have hp := z56 hlog
        refine Ev.bnd (First_ok (by omega) X P hXl hPl h0) (Ev.pos rfl (Ev.pos ?_ (Ev.ret' ?_)))
        · rw [List.length_map, z1V P X P.length hp (Nat.le_refl _), Nat.sub_self]; decide
        · have e : zu ((firsts P X).map toS) 0 = toS (value X P) := by
            have := rdS (firsts P X) 0
            rw [z4o X P hp]; exact this
          rw [e]; rfl
      · rw [if_neg h0]
        exact Ev.bnd (z4C L X P h0) (Ev.neg h0 (Ev.ret _))
    · have hat : atErr L X P = 6 := by unfold atErr; rw [if_pos hL, if_neg hlog]
      rw [hat, if_neg (by decide)]
      exact Ev.neg hlog (Ev.ret _)
  · have hat : atErr L X P = 1 := by unfold atErr; rw [if_neg hL]
    rw [hat, if_neg (by decide)]
    exact Ev.bnd (z3A hL) (Ev.pos rfl (Ev.ret _))
/-- The document's weights and values. -/
theorem z3T : z1d.f = some (hi 1, lo 1) := by unfold z1d.f; rw [hi_one, lo_one]
theorem z5v (P : List E) (hP : P.length ≤ 1000000) : ∀ (d j n : Nat) (acc : E), j + d = P.length → n ≤ 4611686018427387904 →
    Ev (fun q => zf.l0 q (P.map toR) (n : Int) (j : Int) (hi acc) (lo acc)) (hi (acc * weight (P.drop j) n), lo (acc * weight (P.drop j) n)) := by
  intro d
  induction d with
  | zero =>
    intro j n acc hj hn
    refine Ev.step (fun q => by rw [zf.l0]) (Ev.neg (by rw [List.length_map]; omega) (Ev.ret' ?_))
    rw [List.drop_eq_nil_of_le (by omega), weight, mul_one]
  | succ d ih =>
    intro j n acc hj hn
    have hj' : j < P.length := by omega
    have e1 : Int.tmod (n : Int) 2 = ((n % 2 : Nat) : Int) := by rw [Int.tmod_eq_emod_of_nonneg (by omega)]; omega
    have e2 : wrap64 (Int.tdiv (n : Int) 2) = ((n / 2 : Nat) : Int) := by
      rw [Int.tdiv_eq_ediv_of_nonneg (by omega), z20 (by omega) (by omega)]; omega
    have hw : weight (P.drop j) n = (if n % 2 = 1 then P.getD j 0 else 1 + P.getD j 0) * weight (P.drop (j + 1)) (n / 2) := by
      rw [List.drop_eq_getElem_cons hj', weight]
      have : P.getD j 0 = P[j] := by rw [List.getD_eq_getElem?_getD, List.getElem?_eq_getElem hj']; rfl
      rw [this]
    refine Ev.step (fun q => by rw [zf.l0]) (Ev.pos (by rw [List.length_map]; omega) ?_)
    simp only [e1, e2, rdR, z4m, z4n, z1o hj' (show P.length ≤ 4611686018427387904 by omega)]
    by_cases c : n % 2 = 1
    · refine Ev.pos (by omega) (Ev.pos (Int.natCast_nonneg _) (Ev.bnd (z2t _ _) ?_))
      rw [hw, if_pos c, ← mul_assoc]
      exact ih (j + 1) (n / 2) _ (by omega) (by omega)
    · refine Ev.neg (by omega) (Ev.bnd0 z3T (Ev.pos (Int.natCast_nonneg _) (Ev.bnd0 (z2Z _ _) (Ev.bnd (z2t _ _) ?_))))
      rw [hw, if_neg c, ← mul_assoc]
      exact ih (j + 1) (n / 2) _ (by omega) (by omega)
theorem z5u (P : List E) (hP : P.length ≤ 1000000) (n : Nat) (hn : n ≤ 4611686018427387904) : Ev (fun q => zf.f q (P.map toR) (n : Int)) (hi (weight P n), lo (weight P n)) := by
  unfold zf.f
  refine Ev.bnd0 z3T ?_
  have := z5v P hP P.length 0 n 1 (by omega) hn
  rw [List.drop_zero, one_mul] at this
  exact this
theorem value_l0 (X P : List E) (hX : X.length ≤ 1000000) (hP : P.length ≤ 1000000) : ∀ (d i : Nat), i + d = X.length →
    Ev (fun q => zn.l0 q (X.map toR) (P.map toR) (i : Int) (hi (sumN (fun i => X.getD i 0 * weight P i) i)) (lo (sumN (fun i => X.getD i 0 * weight P i) i))) (hi (value X P), lo (value X P)) := by
  intro d
  induction d with
  | zero =>
    intro i hid
    have : i = X.length := by omega
    subst this
    have hno : ¬ ((X.length : Int) < ((X.map toR).length : Int)) := by rw [List.length_map]; omega
    refine Ev.step (fun q => by rw [zn.l0]) (Ev.neg hno ?_)
    exact Ev.ret' rfl
  | succ d ih =>
    intro i hid
    have hi' : i < X.length := by omega
    refine Ev.step (fun q => by rw [zn.l0]) (Ev.pos (by rw [List.length_map]; omega) (Ev.pos (Int.natCast_nonneg _) (Ev.bnd (z5u P hP i (by omega)) ?_)))
    simp only [rdR, z4m, z4n, z1o hi' (show X.length ≤ 4611686018427387904 by omega)]
    refine Ev.bnd (z2t _ _) (Ev.bnd0 (z2Z _ _) ?_)
    exact ih (i + 1) (by omega)
theorem value_ev (X P : List E) (hX : X.length ≤ 1000000) (hP : P.length ≤ 1000000) : Ev (fun q => zn.f q (X.map toR) (P.map toR)) (hi (value X P), lo (value X P)) := by
  have := value_l0 X P hX hP X.length 0 (by omega)
  rw [sumN, z2e, z2f] at this
  exact this
theorem may_ev (L : Int) (X R : List E) (hX : X.length ≤ 1000000) (hR : R.length ≤ 1000000) : Ev (fun k => zl.f k L (X.map toR) (R.map toR)) (askS L X R) := by
  have hj : ∀ b, b = decide (¬ LvS L) → Ev (fun k => zl.j0 k L (X.map toR) (R.map toR) b) (askS L X R) := by
    intro b hb
    unfold askS
    refine Ev.step (fun k => by rw [zl.j0]) ?_
    by_cases hL : LvS L
    · rw [if_pos hL]
      refine Ev.neg (by rw [hb]; simpa using hL) ?_
      rw [List.length_map, List.length_map]
      refine Ev.bnd (z3S _) ?_
      have hj1 : ∀ b, b = decide (logI (X.length : Int) < 0 ∨ (R.length : Int) > logI (X.length : Int)) → Ev (fun k => zl.j1 k L (X.map toR) (R.map toR) b) (if logI (X.length : Int) < 0 ∨ (R.length : Int) > logI (X.length : Int) then 6 else if AllS L X ∧ AllS L R then 0 else 5) := by
        intro b hb
        refine Ev.step (fun k => by rw [zl.j1]) ?_
        by_cases c : logI (X.length : Int) < 0 ∨ (R.length : Int) > logI (X.length : Int)
        · rw [if_pos c]; exact Ev.pos (by rw [hb]; exact decide_eq_true c) (Ev.ret _)
        · rw [if_neg c]
          refine Ev.neg (by rw [hb]; simpa using c) (Ev.bnd (All_ev L X hX) ?_)
          by_cases cx : AllS L X
          · refine Ev.pos (decide_eq_true cx) (Ev.bnd (All_ev L R hR) ?_)
            by_cases cr : AllS L R
            · have e : (if AllS L X ∧ AllS L R then (0 : Int) else 5) = 0 := if_pos ⟨cx, cr⟩
              rw [e]; exact Ev.pos (decide_eq_true cr) (Ev.ret _)
            · have e : (if AllS L X ∧ AllS L R then (0 : Int) else 5) = 5 := if_neg (fun h => cr h.2)
              rw [e]; exact Ev.neg (by simpa using cr) (Ev.ret _)
          · have e : (if AllS L X ∧ AllS L R then (0 : Int) else 5) = 5 := if_neg (fun h => cx h.1)
            rw [e]; exact Ev.neg (by simpa using cx) (Ev.ret _)
      by_cases c : logI (X.length : Int) < 0
      · exact Ev.pos c (hj1 true (by symm; rw [decide_eq_true_eq]; exact Or.inl c))
      · exact Ev.neg c (Ev.bnd (z3S _) (hj1 _ (by rw [decide_eq_decide]; exact ⟨Or.inr, fun h => h.resolve_left c⟩)))
    · rw [if_neg hL]
      exact Ev.pos (by rw [hb]; simpa using hL) (Ev.ret _)
  unfold zl.f
  by_cases h0 : L < 0
  · exact Ev.pos h0 (hj true (by symm; rw [decide_eq_true_eq]; unfold LvS; omega))
  · exact Ev.neg h0 (hj _ (by rw [decide_eq_decide]; unfold LvS; omega))
end Go.Proofs.Ytngcaphdkgihmaa.Sp
namespace Go.Proofs.Ytngcaphdkgihmaa.Sp
open Go.RowKit Go.Proofs.YtngcaphdkgihmaaW.PrintWords Go.Proofs.YtngcaphdkgihmaaW.PrintMore Go.Proofs.Ytngcaphdkgihmaa.P Go.Proofs.Ytngcaphdkgihmaa.Ar Go.Proofs.Ytngcaphdkgihmaa.Tw
set_option linter.unusedVariables false
theorem z2d : Ev (fun k => zs.f k) true := Ev.of zs.mono (k := 40) (by decide +kernel)
/-- At, whatever the point's length. -/
theorem z4B (L : Int) (X P : List E) (hX : X.length ≤ 1000000) : Ev (fun q => z10.f q L (X.map toS) (P.map toS)) (if atErr L X P = 0 then (hi (value X P), lo (value X P), 0) else (0, 0, atErr L X P)) := by
  by_cases hP : P.length ≤ 1000000
  · exact At_ev L X P hX hP
  have hlog : ¬ logI (X.length : Int) = (P.length : Int) := by
    intro h
    rcases z4c (X.length : Int) with e | ⟨m, hm, h3, h4⟩ <;> omega
  unfold z10.f
  rw [List.length_map, List.length_map]
  by_cases hL : LvS L
  · obtain ⟨v, hv, hw⟩ := z41 hL
    have hat : atErr L X P = 6 := by unfold atErr; rw [if_pos hL, if_neg hlog]
    rw [hat, if_neg (by decide)]
    exact Ev.bnd hw (Ev.neg hv (Ev.bnd (z4E _) (Ev.neg hlog (Ev.ret _))))
  · have hat : atErr L X P = 1 := by unfold atErr; rw [if_neg hL]
    rw [hat, if_neg (by decide)]
    exact Ev.bnd (z3A hL) (Ev.pos rfl (Ev.ret _))
theorem z2A {l : Nat} (hl : l ≤ 7) : ∀ (P X : List E), AllS (l : Int) P → AllS (l : Int) X → AllS (l : Int) (firsts P X)
  | [], X, _, h => h
  | p :: ps, X, hP, hX => z2A hl ps (first p X) (fun x hx => hP x (List.mem_cons_of_mem _ hx)) (z3c hl hX (by have := (hP p List.mem_cons_self).2.2; rwa [Int.toNat_natCast] at this))
/-- One table plus a factor times another one. -/
def mixL (r : E) (A B : List E) (n : Nat) : List E := (List.range n).map fun i => A.getD i 0 + r * B.getD i 0
theorem z1W (r : E) (A B : List E) (n : Nat) : (mixL r A B n).length = n := by simp [mixL]
theorem z58 (r : E) (A B : List E) (n i : Nat) (h : i < n) : (mixL r A B n).getD i 0 = A.getD i 0 + r * B.getD i 0 := by
  unfold mixL; rw [List.getD_eq_getElem?_getD, List.getElem?_map, List.getElem?_range h]; rfl
theorem z5s (r : E) (A B P : List E) (h : A.length = B.length) : value (mixL r A B A.length) P = value A P + r * value B P := by
  unfold value
  rw [z1W, ← h, ← z4l, ← z4k]
  apply z2y
  intro i hi
  rw [z58 r A B _ i hi, add_mul, mul_assoc]
theorem sums_l0 {l : Nat} (hl : l ≤ 7) (r : E) (hr : InL l r) (A B P : List E) (hA : AllS (l : Int) A) (hB : AllS (l : Int) B) (hlen : A.length = B.length) (hA64 : A.length ≤ 64)
    (hat : atErr (l : Int) A P = 0) : ∀ (d i : Nat), i + d = A.length →
    Ev (fun q => z8.l0 q (l : Int) ((mixL r A B i).map toS) (i : Int) (A.map toS) (B.map toS) ([r].map toS) (P.map toS) (hi (value A P)) (lo (value A P)) (hi (value B P)) (lo (value B P))) true := by
  intro d
  induction d with
  | zero =>
    intro i hi
    have : i = A.length := by omega
    subst this
    have hall : AllS (l : Int) (mixL r A B A.length) := by
      intro x hx
      unfold mixL at hx
      obtain ⟨j, _, rfl⟩ := List.mem_map.1 hx
      refine ⟨by omega, by omega, ?_⟩
      rw [Int.toNat_natCast]
      exact z3r (z1t hA j) (z3X hl hr (z1t hB j))
    have hat2 : atErr (l : Int) (mixL r A B A.length) P = 0 := by
      unfold atErr at hat ⊢
      rw [z1W]
      split at hat
      · next h1 =>
        rw [if_pos h1]
        split at hat
        · next h2 =>
          rw [if_pos h2]
          split at hat
          · next h3 => rw [if_pos ⟨hall, h3.2⟩]
          · omega
        · omega
      · omega
    have hv := z4B (l : Int) (mixL r A B A.length) P (by rw [z1W]; omega)
    rw [hat2, if_pos rfl, z5s r A B P hlen] at hv
    have hvB : InL l (value B P) := by
      unfold atErr at hat
      split at hat
      · split at hat
        · next h2 =>
          split at hat
          · next h3 =>
            have hp := z56 h2
            rw [z4o B P (by omega)]
            exact z1t (z2A hl P B h3.2 hB) 0
          · omega
        · omega
      · omega
    refine Ev.step (fun k => by rw [z8.l0]) (Ev.neg (by rw [List.length_map]; omega) (Ev.bnd hv ?_))
    refine Ev.bnd z2d ?_
    refine Ev.pos rfl ?_
    refine Ev.pos rfl ?_
    refine Ev.pos (show (0 : Int) < (([r].map toS).length : Int) from Int.one_pos) ?_
    have e0 : zu ([r].map toS) 0 = toS r := rfl
    simp only [e0, z32, z33]
    exact Ev.bnd (z4G hl hr hvB) (Ev.bnd0 (z42 _ _) (Ev.ret' (by simp)))
  | succ d ih =>
    intro i hi
    have hi' : i < A.length := by omega
    have hih := ih (i + 1) (by omega)
    have hp : mixL r A B (i + 1) = mixL r A B i ++ [A.getD i 0 + r * B.getD i 0] := by unfold mixL; rw [List.range_succ, List.map_append]; rfl
    rw [hp, List.map_append] at hih
    have e0 : zu ([r].map toS) 0 = toS r := rfl
    refine Ev.step (fun k => by rw [z8.l0]) (Ev.pos (by rw [List.length_map]; omega) (Ev.pos (Int.natCast_nonneg _) (Ev.pos (show (0 : Int) < (([r].map toS).length : Int) from Int.one_pos) (Ev.pos (by rw [List.length_map]; omega) ?_))))
    simp only [e0, rdS, z32, z33, z1o hi' (show A.length ≤ 4611686018427387904 by omega)]
    refine Ev.bnd (z4G hl hr (z1t hB i)) (Ev.bnd0 (z42 _ _) (Ev.pos (by rw [List.length_map, z1W]; omega) ?_))
    exact hih
end Go.Proofs.Ytngcaphdkgihmaa.Sp
namespace Go.Proofs.Ytngcaphdkgihmaa.Pure
open Go.RowKit Go.Proofs.YtngcaphdkgihmaaW.PrintWords Go.Proofs.YtngcaphdkgihmaaW.PrintMore Go.Proofs.Ytngcaphdkgihmaa.P Go.Proofs.Ytngcaphdkgihmaa.Ar Go.Proofs.Ytngcaphdkgihmaa.Tw Go.Proofs.Ytngcaphdkgihmaa.Sp
set_option linter.unusedVariables false
theorem CubeSums : Stated.cubeSums.Pure := by
  intro L t x h0 h1 h2
  obtain ⟨t0, t1⟩ := t
  obtain ⟨R, P⟩ := x
  obtain ⟨A, rfl⟩ := z3t t0 h1.1.1
  obtain ⟨B, rfl⟩ := z3t t1 h1.2.1
  obtain ⟨R, rfl⟩ := z3t R h2.1.1
  obtain ⟨P, rfl⟩ := z3t P h2.2.1
  refine Ev.rounds (g := fun k => z8.f k L (A.map toS) (B.map toS) (R.map toS) (P.map toS)) ?_
  have hT : Ev (fun k => z8.j0 k L true (A.map toS) (B.map toS) (R.map toS) (P.map toS)) true :=
    Ev.step (fun k => by rw [z8.j0]) (Ev.pos rfl (Ev.bnd z2d (Ev.ret _)))
  unfold z8.f
  rw [List.length_map, List.length_map, List.length_map]
  by_cases c1 : (A.length : Int) = (B.length : Int)
  rotate_left
  · exact Ev.neg c1 hT
  refine Ev.pos c1 ?_
  by_cases c2 : (A.length : Int) > 64
  · exact Ev.pos c2 hT
  refine Ev.neg c2 ?_
  by_cases c3 : (R.length : Int) = 1
  rotate_left
  · exact Ev.neg c3 hT
  obtain ⟨r, rfl⟩ : ∃ r, R = [r] := List.length_eq_one_iff.1 (by omega)
  refine Ev.pos c3 (Ev.pos (show (0 : Int) < (([r] : List E).length : Int) from Int.one_pos) ?_)
  have e0 : zu ([r].map toS) 0 = toS r := rfl
  simp only [e0, z32, z33]
  refine Ev.bnd (z4i L r) ?_
  by_cases c4 : OfS L r
  rotate_left
  · rw [decide_eq_false c4]; exact hT
  rw [decide_eq_true c4]
  obtain ⟨l, rfl⟩ := Int.eq_ofNat_of_zero_le c4.1
  have hl : l ≤ 7 := by have := c4.2.1; omega
  have hr : InL l r := by have := c4.2.2; rwa [Int.toNat_natCast] at this
  refine Ev.step (fun k => by rw [z8.j0]) (Ev.neg (by decide) (Ev.bnd (z4B (l : Int) A P (by omega)) (Ev.bnd (z4B (l : Int) B P (by omega)) ?_)))
  have hJ : ∀ a b c d : Int, Ev (fun k => z8.j1 k (l : Int) true (A.map toS) (B.map toS) ([r].map toS) (P.map toS) a b c d) true := fun a b c d =>
    Ev.step (fun k => by rw [z8.j1]) (Ev.pos rfl (Ev.bnd z2d (Ev.ret _)))
  by_cases ca : atErr (l : Int) A P = 0
  rotate_left
  · rw [if_neg ca]
    exact Ev.neg ca (hJ _ _ _ _)
  rw [if_pos ca]
  refine Ev.pos rfl ?_
  by_cases cb : atErr (l : Int) B P = 0
  rotate_left
  · rw [if_neg cb]
    have : (atErr (l : Int) B P != 0) = true := by simpa using cb
    simp only [this]
    exact hJ _ _ _ _
  rw [if_pos cb]
  have hall : ∀ X : List E, atErr (l : Int) X P = 0 → AllS (l : Int) X := by
    intro X h
    unfold atErr at h
    split at h
    · split at h
      · split at h
        · next h3 => exact h3.1
        · omega
      · omega
    · omega
  have e1 : ((0 : Int) != 0) = false := rfl
  simp only [e1]
  refine Ev.step (fun k => by rw [z8.j1]) (Ev.neg (by decide) ?_)
  exact sums_l0 hl r hr A B P (hall A ca) (hall B cb) (by omega) (by omega) ca A.length 0 (Nat.zero_add _)
end Go.Proofs.Ytngcaphdkgihmaa.Pure
-- Own text, written by wip/tools/gen.py: the row of the law CubeSums, out of its pure statement (PureCubeSums) and the walk.
namespace Go.Proofs.Ytngcaphdkgihmaa.cubeSums
open Go.ChangeShapes Go.WideShapes Go.ChangeAt Go.RowKit Go.Proofs.YtngcaphdkgihmaaW.PrintWords Go.Proofs.Ytngcaphdkgihmaa.P Go.Proofs.Ytngcaphdkgihmaa.Reads
set_option linter.unusedVariables false
set_option linter.unusedSimpArgs false
theorem own : ownKnob Try.prog.godebug = none := by kernel_rfl
theorem laidOut : laidOutB Try.prog = true := by kernel_rfl
theorem op51 : ReadsAs Try.prog 51 k51 (fun x => ((Lit.int .u64 x.f0).wf = true) ∧ ((Lit.int .u64 x.f1).wf = true)) :=
  (z3M (fun x : S51 => (x.f0, x.f1)) (fun a => ⟨⟨a.1, a.2⟩, rfl⟩) Try.underlying51 rfl (by kernel_rfl) (z3N (by kernel_rfl) (by kernel_rfl) (z5d Try.underlying49) (z3O (by kernel_rfl) (by kernel_rfl) (z5d Try.underlying49)) (by intro g hg; simp only [List.mem_cons, List.not_mem_nil, or_false] at hg; rcases hg with rfl <;> exact of_decide_eq_true (by kernel_rfl))))
theorem op37 : ReadsAs Try.prog 37 (Kd.slice 51 k51) (fun l => (∀ x_ ∈ l, ((Lit.int .u64 x_.f0).wf = true) ∧ ((Lit.int .u64 x_.f1).wf = true)) ∧ l.length ≤ maxLen) := op_slice Try.underlying37 (by kernel_rfl) op51
theorem op64 : ReadsAs Try.prog 64 k64 (fun x => (((∀ x_ ∈ x.f0, ((Lit.int .u64 x_.f0).wf = true) ∧ ((Lit.int .u64 x_.f1).wf = true)) ∧ x.f0.length ≤ maxLen)) ∧ (((∀ x_ ∈ x.f1, ((Lit.int .u64 x_.f0).wf = true) ∧ ((Lit.int .u64 x_.f1).wf = true)) ∧ x.f1.length ≤ maxLen))) :=
  (op_array (fun x : S64 => (x.f0, x.f1)) (fun a => ⟨⟨a.1, a.2⟩, rfl⟩) Try.underlying64 (by kernel_rfl) (z5e (by kernel_rfl) op37 (z5f (by kernel_rfl) op37)))
theorem op66 : ReadsAs Try.prog 66 k66 (fun x => (((∀ x_ ∈ x.f0, ((Lit.int .u64 x_.f0).wf = true) ∧ ((Lit.int .u64 x_.f1).wf = true)) ∧ x.f0.length ≤ maxLen)) ∧ (((∀ x_ ∈ x.f1, ((Lit.int .u64 x_.f0).wf = true) ∧ ((Lit.int .u64 x_.f1).wf = true)) ∧ x.f1.length ≤ maxLen))) :=
  (z3M (fun x : S66 => (x.f0, x.f1)) (fun a => ⟨⟨a.1, a.2⟩, rfl⟩) Try.underlying66 rfl (by kernel_rfl) (z3N (by kernel_rfl) (by kernel_rfl) op37 (z3O (by kernel_rfl) (by kernel_rfl) op37) (by intro g hg; simp only [List.mem_cons, List.not_mem_nil, or_false] at hg; rcases hg with rfl <;> exact of_decide_eq_true (by kernel_rfl))))
set_option maxRecDepth 100000 in
theorem lifted (os : Os) (started : os.Started) (H : Type) (enc : TypeId × Value → H) :
    ReturnsInHanded {} Try.checked os 9 .any (Rows.cubeSumsSpec.pre6 enc Try.prog Try.f9 Rows.cubeSumsRow.domain false) (Rows.cubeSumsSpec.post enc Try.prog Try.f9 false true false false) := by
  refine returnsInHanded_of_change_sized (C := Try.checked) own started (by kernel_rfl) Try.func9
    (ChangeSpec.witness6 (enc := enc) (C := Try.checked) false ⟨#[], #[.int .i64 0, .agg #[.slice none 0 0, .slice none 0 0], .agg #[.slice none 0 0, .slice none 0 0]], []⟩ 8 (by kernel_rfl) (by kernel_rfl) (by kernel_rfl) (by kernel_rfl)) ?_
  intro W base args ds gs before hval0 hW hcnd hsz0 _
  have hval : ∀ (j : Nat) t v, Try.f9.params[j]? = some t → args[j]? = some v → Value.okWide Try.prog W .any base t v := hval0
  have hW' := hW
  obtain ⟨p, q, hA0, hV, rfl, hfz, hnd⟩ := hW
  have hA : DataW.TrodAll enc Try.prog W 0 (fun _ => true) true Try.f9.params.toList args.toList ds p := hA0
  rw [Try.params9] at hA hval
  obtain ⟨v0, vs0, d0, ds0, p0, q0, hargs, rfl, rfl, h0, r0⟩ := trodAll_cons hA
  obtain ⟨v1, vs1, d1, ds1, p1, q1, rfl, rfl, rfl, h1, r1⟩ := trodAll_cons r0
  obtain ⟨v2, vs2, d2, ds2, p2, q2, rfl, rfl, rfl, h2, r2⟩ := trodAll_cons r1
  obtain ⟨rfl, rfl, rfl⟩ := trodAll_nil r2
  obtain rfl : args = #[v0, v1, v2] := by cases args; simp_all
  obtain ⟨rfl, rfl⟩ := trodVars_none hV
  have k0 := h0
  have lt0 : ∀ x ∈ p0, x.block < W.heap.size := by obtain ⟨m, hm⟩ := k0; exact DataW.trod_lt m _ _ _ hm
  obtain ⟨x0, rfl, g0⟩ := arg_int Try.underlying3 (hval 0 3 v0 rfl rfl) h0
  have k1 := h1
  have lt1 : ∀ x ∈ p1, x.block < W.heap.size := by obtain ⟨m, hm⟩ := k1; exact DataW.trod_lt m _ _ _ hm
  obtain ⟨x1, cs1, rfl, hK1, g1⟩ := z4O op64 Try.underlying64 (hval 1 64 v1 rfl rfl) h1
  obtain ⟨A1_0, c1_0, A1_1, c1_1, rfl, l1_0, r1_0, l1_1, r1_1⟩ := z2k hK1
  have k2 := h2
  have lt2 : ∀ x ∈ p2, x.block < W.heap.size := by obtain ⟨m, hm⟩ := k2; exact DataW.trod_lt m _ _ _ hm
  obtain ⟨x2, cs2, rfl, hK2, g2⟩ := z4s op66 Try.underlying66 (hval 2 66 v2 rfl rfl) h2
  obtain ⟨A2_0, c2_0, A2_1, c2_1, rfl, l2_0, r2_0, l2_1, r2_1⟩ := z2l hK2
  clear hA0 hval0 hsz0
  obtain ⟨k, hpure⟩ := Pure.CubeSums x0 x1 x2 g0 g1 g2
  refine (z8.calls k x0 _ _ x1.f0 _ _ x1.f1 _ _ x2.f0 _ _ x2.f1 true W r1_0 l1_0 r1_1 l1_1 r2_0 l2_0 r2_1 l2_1 hpure).mono fun e W' hh => ?_
  obtain ⟨rfl, bel0⟩ := hh
  have bel : Below W.heap.size W W' := bel0
  exact ⟨_, rfl, _, _, _, [], _, [], hW', trodAll_mk1 (shut_bool Try.underlying4 _), (trodAll_cons_mk (Below.trod laidOut (by kernel_rfl) (of_decide_eq_true (by kernel_rfl)) k0 bel lt0) (trodAll_cons_mk (Below.trod laidOut (by kernel_rfl) (of_decide_eq_true (by kernel_rfl)) k1 bel lt1) (trodAll_cons_mk (Below.trod laidOut (by kernel_rfl) (of_decide_eq_true (by kernel_rfl)) k2 bel lt2) trodAll_mk0))), rfl, bel.frame _, fun h => by cases h⟩
theorem over : Rows.cubeSumsRow.holds Try.pinned (OpenSpec.ofChange Rows.cubeSumsSpec) :=
  OpenClaim.holds_of_wide 9 Try.f9 rfl rfl rfl rfl rfl rfl rfl ⟨rfl, rfl, rfl, rfl, rfl⟩ rfl rfl rfl rfl rfl (by kernel_rfl) Try.func9 (by kernel_rfl)
    (of_decide_eq_true (by kernel_rfl)) (by unfold Func.isWrapper; first | (rw [if_pos (by decide +kernel)]; kernel_rfl) | (rw [if_neg (by decide +kernel)]; exact ⟨rfl, rfl⟩))
    (fun os started H enc _ => lifted os started H enc)
theorem proved : Rows.CubeSumsSaid := over
#print axioms proved
end Go.Proofs.Ytngcaphdkgihmaa.cubeSums
namespace Go.Proofs.Ytngcaphdkgihmaa
/-- The row, under a short name, for the claim. -/
theorem cubeSums_holds : Rows.CubeSumsSaid := cubeSums.proved
end Go.Proofs.Ytngcaphdkgihmaa

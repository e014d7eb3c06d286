/- CubeCorners: a table's value at a corner is the element there, and which powers of 2 there are; for all levels, tables of up to 64 elements and any corner. Own text. -/
import Derived.Test.YtngcaphdkgihmaaRows
import Derived.WalkKit
import Derived.ProofKit
import Derived.OpenShut
import Derived.ShutString
import Derived.ChangeOld
import Derived.Below
import Derived.SizedLaws
import Derived.Carry
import Derived.Test.YtngcaphdkgihmaaMCubeCornersb
import Derived.Test.YtngcaphdkgihmaaMCubeCornersc
import Derived.Test.YtngcaphdkgihmaaMCubeCornersd
namespace Go.Proofs.Ytngcaphdkgihmaa.P
open Go.RowKit Go.Proofs.YtngcaphdkgihmaaW.PrintWords Go.Proofs.YtngcaphdkgihmaaW.PrintLast Go.Proofs.YtngcaphdkgihmaaW.PrintMore
attribute [local go_sem] zS zU z12 z13 zK zL zT zV   -- for this text's walks alone
set_option linter.unusedVariables false
set_option linter.unusedSimpArgs false
def zp.l0 : Nat → List (S61) → List (S61) → Int → Int → Int → Option (Int × Int)
 | 0,_,_,_,_,_=>none
 | k + 1,x0,x1,x6,x103000,x103001=>if x6 < (x0.length : Int) then (if 0 ≤ x6 then ((zi.f k x1 x6).bind fun bt104=>((z9.f k ((z15 x0 x6).f0) ((z15 x0 x6).f1) bt104.1 bt104.2).bind fun bt106=>((zY.f x103000 x103001 bt106.1 bt106.2).bind fun bt108=>(zp.l0 k x0 x1 (wrap64 (x6 + 1)) bt108.1 bt108.2)))) else (none)) else (some (x103000,x103001))
def zp.f (k : Nat) (l0 : List (S61)) (l1 : List (S61)) : Option (Int × Int):=zp.l0 k l0 l1 0 0 0
theorem zp.zX : ∀ k,(∀ y0 y1 y2 y3 y4,LeO (zp.l0 k y0 y1 y2 y3 y4) (zp.l0 (k + 1) y0 y1 y2 y3 y4))
 | 0=>fun _ _ _ _ _ r h=>by simp [zp.l0] at h
 | k + 1=>by
  have ih0:=zp.zX k
  · intro y0 y1 y2 y3 y4
    unfold zp.l0
    repeat' first
    | (with_reducible exact ih0 _ _ _ _ _)
    | (with_reducible exact z9.mono _ _ _ _ _)
    | (with_reducible exact zi.mono _ _ _)
    | (with_reducible exact LeO.refl _)
    | (with_reducible exact LeO.none _)
    | (with_reducible refine LeO.ite ?_ ?_)
    | (with_reducible refine LeO.bind ?_ (fun _=>?_))
    | exact ih0 _ _ _ _ _
    | exact z9.mono _ _ _ _ _
    | exact zi.mono _ _ _
    | exact LeO.none _
    | refine LeO.ite ?_ ?_
    | refine LeO.bind ?_ (fun _=>?_)
theorem zp.mono : ∀ a0 a1 k,LeO (zp.f k a0 a1) (zp.f (k + 1) a0 a1):=by
 intro a0 a1 k
 have ih0:=zp.zX k
 unfold zp.f
 repeat' first
  | (with_reducible exact ih0 _ _ _ _ _)
  | (with_reducible exact z9.mono _ _ _ _ _)
  | (with_reducible exact zi.mono _ _ _)
  | (with_reducible exact LeO.refl _)
  | (with_reducible exact LeO.none _)
  | (with_reducible refine LeO.ite ?_ ?_)
  | (with_reducible refine LeO.bind ?_ (fun _=>?_))
  | exact ih0 _ _ _ _ _
  | exact z9.mono _ _ _ _ _
  | exact zi.mono _ _ _
  | exact LeO.none _
  | refine LeO.ite ?_ ?_
  | refine LeO.bind ?_ (fun _=>?_)
def zp.T5 : Bool × List (List Nat × List Nat):=(true,[([],[]),([],[]),([],[]),([1,2],[1,2]),([3],[3]),([],[]),([],[]),([5,6],[5,6]),([4,7,7],[4,7]),([0,8,8],[0,8]),([9,9,0,1,2,3,4,5,6,7,8,9],[9])])
def zp.B5 : List Nat:=[0,0,0,6,14,0,0,96,254,511,1023]
theorem zp.tab5 : rtab .any (opsOf Try.f38 5) = zp.T5:=by kernel_rfl
theorem zp.bits5 : waitsOk zp.T5.2 zp.B5 = true:=by kernel_rfl
set_option maxHeartbeats 8000000 in
set_option maxRecDepth 100000 in
theorem zp.calls (k : Nat) (A0 : Option Addr) (c0 : Nat) (l0 : List (S61)) (A1 : Option Addr) (c1 : Nat) (l1 : List (S61)) (r1 : Int) (r2 : Int) (w : World) (hr0 : Kd.C k61 w A0 l0.length l0) (hc0 : l0.length ≤ c0) (hr1 : Kd.C k61 w A1 l1.length l1) (hc1 : l1.length ≤ c1) (h : zp.f k l0 l1 = some (r1,r2)) :
 Calls Try.prog 38 #[.slice A0 l0.length c0,.slice A1 l1.length c1] w fun e w'=>e = .returned (.agg #[.int .u64 r1,.int .u64 r2]) ∧ Below w.heap.size w w':=by
 have hu61:=Try.underlying61
 have HR0:=z3.mk hr0
 have HC0:=z3.mk hc0
 clear hr0 hc0
 have HR1:=z3.mk hr1
 have HC1:=z3.mk hc1
 clear hr1 hc1
 have HB:=z3.mk (Below.refl w.heap.size w)
 have H : (zp.l0 k l0 l1 0 0 0) = some (r1,r2):=h
 clear h
 have H':=z3.mk H
 clear H
 go_enter Try.func38,Try.ntmps38
 go_wp2_with (first|((with_reducible refine zA (N:=4) rfl ?_);refine zy ?hg (N:=4) ?hd (cs:=#[.int .u64 0,.int .u64 0]) (t:=61) ?hr ?_;(case hd=>rfl);(case hg=>rfl);(case hr=>first|(go_simp;done)|(go_simp;rfl));intro gb101 hg w3 hbox hb;have n0_:=z3.mk (zc (by repeat (first|(with_reducible first|exact HB.out|apply z2|apply z0|apply z1)|exact HB.out)) hb);have n1_:=z3.mk (hbox);have n2_:=z3.mk ((by rw [hg];exact (zd (by repeat (first|(with_reducible first|exact HB.out|apply z2|apply z0|apply z1)|exact HB.out))) : w.heap.size ≤ gb101));have n3_:=z3.mk ((by rw [hg];exact (zd (by repeat (first|(with_reducible first|exact HB.out|apply z2|apply z0|apply z1)|exact HB.out))) : w.heap.size ≤ gb101));clear HB;have HB:=n0_;have BK101:=n1_;have GW101:=n2_;have GE101:=n3_;clear n0_ n1_ n2_ n3_;clear hb hbox hg)|((with_reducible refine zA (N:=5) rfl ?_);refine zy ?hg (N:=5) ?hd (cs:=#[.int .u64 0,.int .u64 0]) (t:=61) ?hr ?_;(case hd=>rfl);(case hg=>rfl);(case hr=>first|(go_simp;done)|(go_simp;rfl));intro gb102 hg w4 hbox hb;have n0_:=z3.mk (ze (g:=gb101) (o:=.cells #[.int .u64 0,.int .u64 0] 61 (0,0)) (by (with_reducible repeat (first|refine z5 ?_ _|refine z8 ?_|refine z4 ?_ _));exact BK101.out) hb);have n1_:=z3.mk (zc (by repeat (first|(with_reducible first|exact HB.out|apply z2|apply z0|apply z1|refine z7 ?_ GE101.out)|exact HB.out)) hb);have n2_:=z3.mk (hbox);have n3_:=z3.mk ((by rw [hg];exact (zd (by repeat (first|(with_reducible first|exact HB.out|apply z2|apply z0|apply z1|refine z7 ?_ GE101.out)|exact HB.out))) : w.heap.size ≤ gb102));have n4_:=z3.mk ((by rw [hg];exact (zd (by repeat (first|(with_reducible first|exact HB.out|apply z2|apply z0|apply z1|refine z7 ?_ GE101.out)|exact HB.out))) : w.heap.size ≤ gb102));have n5_:=z3.mk ((by rw [hg];exact Nat.ne_of_lt (zJ (g:=gb101) (o:=.cells #[.int .u64 0,.int .u64 0] 61 (0,0)) (by (with_reducible repeat (first|refine z5 ?_ _|refine z8 ?_|refine z4 ?_ _));exact BK101.out)) : gb101 ≠ gb102));have n6_:=z3.mk ((by rw [hg];exact Nat.ne_of_gt (zJ (g:=gb101) (o:=.cells #[.int .u64 0,.int .u64 0] 61 (0,0)) (by (with_reducible repeat (first|refine z5 ?_ _|refine z8 ?_|refine z4 ?_ _));exact BK101.out)) : gb102 ≠ gb101));clear BK101;clear HB;have BK101:=n0_;have HB:=n1_;have BK102:=n2_;have GW102:=n3_;have GE102:=n4_;have NB101_102:=n5_;have NB102_101:=n6_;clear n0_ n1_ n2_ n3_ n4_ n5_ n6_;clear hb hbox hg))
 go_loopg [6] k (fun kq v6 w'=>∃ (x6_1 : Int) (x103000_1 : Int) (x103001_1 : Int),v6 = .int .i64 x6_1 ∧ z3 (zp.l0 kq l0 l1 x6_1 x103000_1 x103001_1 = some (r1,r2)) ∧ z3 (kq ≤ k) ∧ z3 (w'.heap[gb101]? = some (.cells #[.int .u64 0,.int .u64 0] 61 (0,0))) ∧ z3 (w'.heap[gb102]? = some (.cells #[.int .u64 x103000_1,.int .u64 x103001_1] 61 (0,0))) ∧ z3 (Below w.heap.size w w'))
 case atStart=>exact ⟨(0),(0),(0),(by first|rfl|(simp;done)|(simp [*];done)),H',⟨Nat.le_refl _⟩,⟨by (with_reducible repeat (first|refine z5 ?_ _|refine z8 ?_|refine z4 ?_ _));exact BK101.out⟩,⟨by (with_reducible repeat (first|refine z5 ?_ _|refine z8 ?_|refine z4 ?_ _));exact BK102.out⟩,⟨by repeat (first|(with_reducible first|exact HB.out|apply z2|apply z0|apply z1|refine z7 ?_ GE101.out|refine z7 ?_ GE102.out)|exact HB.out)⟩⟩
 case round =>
  clear H'
  (try clear c1);(try clear p2);(try clear c3)
  obtain ⟨x6_1,x103000_1,x103001_1,rfl,HA,HK1,BK101,BK102,HB⟩:=hrel
  cases gk with
  | zero=>exact absurd HA.out (by simp [zp.l0])
  | succ k1 =>
   have H:=HA.out
   clear HA
   simp only [zp.l0] at H
   by_cases c5 : x6_1 < (l0.length : Int)
   rotate_left
   · rw [if_neg c5] at H
     have c5b0 : decide (x6_1 < (l0.length : Int)) = false:=decide_eq_false c5
     clear c5
     simp only [Option.some.injEq,Prod.mk.injEq] at H
     obtain ⟨rfl,rfl⟩:=H
     have hnb16:=NB102_101.out
     have hnc16:=NB101_102.out
     have hcz17_0 : wr.cell? ⟨gb102,0,none⟩ = some (.int .u64 x103000_1):=(za BK102.out 0).trans rfl
     have hcz17_1 : wr.cell? ⟨gb102,1,none⟩ = some (.int .u64 x103001_1):=(za BK102.out 1).trans rfl
     have hfz17_0:=zb BK102.out 0
     have hfz17_1:=zb BK102.out 1
     have hcz18_0 : wr.cell? ⟨gb101,0,none⟩ = some (.int .u64 0):=(za BK101.out 0).trans rfl
     have hcz18_1 : wr.cell? ⟨gb101,1,none⟩ = some (.int .u64 0):=(za BK101.out 1).trans rfl
     have hfz18_0:=zb BK101.out 0
     have hfz18_1:=zb BK101.out 1
     go_wp2
     refine bodyPost_ret (results_cell_row rfl _ _ gb101 61 #[.int .u64 x103000_1,.int .u64 x103001_1] (0,0) _ rfl (by (with_reducible repeat (first|refine z5 ?_ _|refine z8 ?_|refine z4 ?_ _));refine zH (cs:=#[.int .u64 x103000_1,.int .u64 0]) ?_ 1 _ rfl;(with_reducible repeat (first|refine z5 ?_ _|refine z8 ?_|refine z4 ?_ _));refine zH (cs:=#[.int .u64 0,.int .u64 0]) ?_ 0 _ rfl;(with_reducible repeat (first|refine z5 ?_ _|refine z8 ?_|refine z4 ?_ _));exact BK101.out) Try.underlying61 rfl (by kernel_rfl)) rfl ?_
     exact ⟨by first|rfl|(simp [zf,zg] <;> rfl)|(simp [*,zf,zg] <;> rfl),by repeat (first|(with_reducible first|exact HB.out|apply z2|apply z0|apply z1|refine z7 ?_ GE101.out|refine z7 ?_ GE102.out)|exact HB.out)⟩
   rw [if_pos c5] at H
   have c5b0 : decide (x6_1 < (l0.length : Int)) = true:=decide_eq_true c5
   clear c5
   by_cases c6 : 0 ≤ x6_1
   rotate_left
   · rw [if_neg c6] at H
     exact absurd H (by simp)
   rw [if_pos c6] at H
   have c6b0 : decide (0 ≤ x6_1) = true:=decide_eq_true c6
   clear c6
   replace H:=Option.bind_eq_some_iff.mp H
   obtain ⟨⟨t104,t105⟩,A70,H⟩:=H
   replace H : ((z9.f k1 ((z15 l0 x6_1).f0) ((z15 l0 x6_1).f1) t104 t105).bind fun bt106=>((zY.f x103000_1 x103001_1 bt106.1 bt106.2).bind fun bt108=>(zp.l0 k1 l0 l1 (wrap64 (x6_1 + 1)) bt108.1 bt108.2))) = some (r1,r2):=H
   have A7:=z3.mk A70
   clear A70
   replace H:=Option.bind_eq_some_iff.mp H
   obtain ⟨⟨t106,t107⟩,A80,H⟩:=H
   replace H : ((zY.f x103000_1 x103001_1 t106 t107).bind fun bt108=>(zp.l0 k1 l0 l1 (wrap64 (x6_1 + 1)) bt108.1 bt108.2)) = some (r1,r2):=H
   have A8:=z3.mk A80
   clear A80
   replace H:=Option.bind_eq_some_iff.mp H
   obtain ⟨⟨t108,t109⟩,A90,H⟩:=H
   replace H : (zp.l0 k1 l0 l1 (wrap64 (x6_1 + 1)) t108 t109) = some (r1,r2):=H
   have A9:=z3.mk A90
   clear A90
   have H':=z3.mk H
   clear H
   try go_wp2
   have n0_:=z3.mk (z8 BK101.out)
   have n1_:=z3.mk (z8 BK102.out)
   have n2_:=z3.mk (z1 HB.out)
   clear BK101
   clear BK102
   clear HB
   have BK101:=n0_
   have BK102:=n1_
   have HB:=n2_
   clear n0_ n1_ n2_
   have p103 : 0 ≤ (x6_1 : Int):=of_decide_eq_true (by first|(with_reducible assumption)|assumption)
   have q103 : x6_1 < (l0.length : Int):=of_decide_eq_true (by first|(with_reducible assumption)|assumption)
   obtain ⟨ad103,e103,hx103_0,hx103_1⟩:=z2Q HR0.out x6_1 p103 q103
   have hw103_1:=hx103_1
   have hw103_0:=hx103_0
   cases e103
   replace hx103_0:=(HB.out.cell (World.block_lt_of_cell? w _ hx103_0)).trans hx103_0
   replace hx103_1:=(HB.out.cell (World.block_lt_of_cell? w _ hx103_1)).trans hx103_1
   replace p103:=eq_true p103
   replace q103:=eq_true q103
   refine start_ (n:=11) (S:=fun w'=>w'.cell? ⟨gb102,0,none⟩ = some (.int .u64 x103000_1) ∧ w'.cell? ⟨gb102,1,none⟩ = some (.int .u64 x103001_1) ∧ w'.cell? (ad103.add ((x6_1).toNat * 2)) = some (.int .u64 ((z15 l0 x6_1).f0)) ∧ w'.cell? ⟨(ad103.add ((x6_1).toNat * 2)).block,(ad103.add ((x6_1).toNat * 2)).off + 1,none⟩ = some (.int .u64 ((z15 l0 x6_1).f1))) (ds:=[10]) #[false,false,false,false,false,false,false,false,false,false,false] (by kernel_rfl) rfl rfl ⟨(za BK102.out 0).trans rfl,(za BK102.out 1).trans rfl,((HB.out.cell (World.block_lt_of_cell? w _ hw103_0)).trans hw103_0),((HB.out.cell (World.block_lt_of_cell? w _ hw103_1)).trans hw103_1)⟩ (fun hHeld=>?_);refine z1A zp.tab5 zp.bits5 (fun HT_ HW_=>?_)
   generalize wr.drew = w10 at BK101 BK102 HB hx103_0 hx103_1 hHeld ⊢
   refine pure_ (i:=1) (N:=some 14) (v:=?_) (a':=?_) #[false,true,false,false,false,false,false,false,false,false,false] rfl rfl (zR HT_.out (by kernel_rfl)) (fun _ _ _ h=>h) (Or.inl ⟨by rfl,?_⟩) ?_ ?_
   rotate_left
   · intro w'
     go_simp
     with_reducible rfl
   rotate_left
   · simp only [Act.put,List.setIfInBounds_toArray,List.set_cons_zero,List.set_cons_succ,zD,zF]
     rfl
   refine pure_ (i:=2) (N:=some 15) (v:=?_) (a':=?_) #[false,true,true,false,false,false,false,false,false,false,false] rfl rfl (zR HT_.out (by kernel_rfl)) (fun _ _ _ h=>h) (Or.inl ⟨by rfl,?_⟩) ?_ ?_
   rotate_left
   · intro w'
     go_simp
     with_reducible rfl
   rotate_left
   · simp only [Act.put,List.setIfInBounds_toArray,List.set_cons_zero,List.set_cons_succ,zD,zF]
     rfl
   refine pure_ (i:=3) (N:=some 16) (v:=?_) (a':=?_) #[false,true,true,true,false,false,false,false,false,false,false] rfl rfl (zR HT_.out (by kernel_rfl)) (fun _ _ _ h=>h) (Or.inl ⟨by rfl,?_⟩) ?_ ?_
   rotate_left
   · intro w'
     go_simp
     with_reducible rfl
   rotate_left
   · simp only [Act.put,List.setIfInBounds_toArray,List.set_cons_zero,List.set_cons_succ,zD,zF]
     rfl
   refine pure_ (i:=5) (N:=some 18) (v:=?_) (a':=?_) #[false,true,true,true,false,true,false,false,false,false,false] rfl rfl (zR HT_.out (by kernel_rfl)) (fun _ _ _ h=>h) (Or.inl ⟨by rfl,?_⟩) ?_ ?_
   rotate_left
   · intro w'
     go_simp
     with_reducible rfl
   rotate_left
   · simp only [Act.put,List.setIfInBounds_toArray,List.set_cons_zero,List.set_cons_succ,zD,zF]
     rfl
   refine pure_ (i:=6) (N:=some 19) (v:=?_) (a':=?_) #[false,true,true,true,false,true,true,false,false,false,false] rfl rfl (zR HT_.out (by kernel_rfl)) (fun _ _ _ h=>h) (Or.inl ⟨by rfl,?_⟩) ?_ ?_
   rotate_left
   · intro w'
     go_simp
     with_reducible rfl
   rotate_left
   · simp only [Act.put,List.setIfInBounds_toArray,List.set_cons_zero,List.set_cons_succ,zD,zF]
     rfl
   refine take_ (i:=0) (N:=some 13) (v:=?_) (a':=?_) #[true,true,true,true,false,true,true,false,false,false,false] rfl rfl (z1k HT_.out HW_.out (by kernel_rfl)) (fun _ _ _ h=>h) (Or.inl ⟨by rfl,?_⟩) hHeld ?_ ?_
   rotate_left
   · rintro w' ⟨s0,s1,s2,s3⟩
     go_simp
     with_reducible rfl
   rotate_left
   · simp only [Act.put,List.setIfInBounds_toArray,List.set_cons_zero,List.set_cons_succ,zD,zF]
     rfl
   refine take_ (i:=4) (N:=some 17) (v:=?_) (a':=?_) #[true,true,true,true,true,true,true,false,false,false,false] rfl rfl (z1k HT_.out HW_.out (by kernel_rfl)) (fun _ _ _ h=>h) (Or.inl ⟨by rfl,?_⟩) hHeld ?_ ?_
   rotate_left
   · rintro w' ⟨s0,s1,s2,s3⟩
     go_simp
     with_reducible rfl
   rotate_left
   · simp only [Act.put,List.setIfInBounds_toArray,List.set_cons_zero,List.set_cons_succ,zD,zF]
     rfl
   refine one_ (i:=7) (N:=some 20) #[true,true,true,true,true,true,true,true,false,false,false] rfl rfl (z1w HT_.out (by kernel_rfl)) (by decide) (fun K hK=>?_)
   refine goes_ Try.func80 (by kernel_rfl) rfl #[.slice A1 l1.length c1,.int .i64 x6_1] (by rfl) rfl rfl (by (try simp only [List.map_toArray,List.map_cons,List.map_nil]);first|done|rfl|(simp only [List.length_drop,List.length_take];rfl)) ?_
   with_reducible refine (zi.calls k1 _ _ l1 x6_1 t104 t105 _ ?side1 ?side2 A7.out).mono ?_
   (case side1=>repeat (first|exact (Kd.z1f HR1.out HB.out)|(with_reducible refine Kd.z18 ?_ _)|(with_reducible refine Kd.z19 ?_ _)|(with_reducible refine Kd.z1g ?_)))
   (case side2=>exact HC1.out)
   rintro e w11 ⟨rfl,hb⟩
   refine ⟨_,rfl,?_⟩
   have n0_:=z3.mk (ze (g:=gb101) (o:=.cells #[.int .u64 0,.int .u64 0] 61 (0,0)) (by (with_reducible repeat (first|refine z5 ?_ _|refine z8 ?_|refine z4 ?_ _));exact BK101.out) hb)
   have n1_:=z3.mk (ze (g:=gb102) (o:=.cells #[.int .u64 x103000_1,.int .u64 x103001_1] 61 (0,0)) (by (with_reducible repeat (first|refine z5 ?_ _|refine z8 ?_|refine z4 ?_ _));exact BK102.out) hb)
   have n2_:=z3.mk (zc (by repeat (first|(with_reducible first|exact HB.out|apply z2|apply z0|apply z1|refine z7 ?_ GE101.out|refine z7 ?_ GE102.out)|exact HB.out)) hb)
   clear BK101
   clear BK102
   clear HB
   have BK101:=n0_
   have BK102:=n1_
   have HB:=n2_
   clear n0_ n1_ n2_
   (try clear hb)
   (try clear hb2)
   (try clear hk)
   (try clear hi)
   refine hK.out _ _ ⟨(za BK102.out 0).trans rfl,(za BK102.out 1).trans rfl,((HB.out.cell (World.block_lt_of_cell? w _ hw103_0)).trans hw103_0),((HB.out.cell (World.block_lt_of_cell? w _ hw103_1)).trans hw103_1)⟩ (fun hHeld=>?_)
   clear hK K
   refine norm_ (a':=?_) ?_ ?_
   rotate_left
   · show Act.put _ (some 20) _ = _
     simp only [Act.put,List.setIfInBounds_toArray,List.set_cons_zero,List.set_cons_succ,zD,zF]
     rfl
   refine one_ (i:=8) (N:=some 21) #[true,true,true,true,true,true,true,true,true,false,false] rfl rfl (z1w HT_.out (by kernel_rfl)) (by decide) (fun K hK=>?_)
   refine goes_ Try.func79 (by kernel_rfl) rfl #[.agg #[.int .u64 ((z15 l0 x6_1).f0),.int .u64 ((z15 l0 x6_1).f1)],.agg #[.int .u64 t104,.int .u64 t105]] (by rfl) rfl rfl (by (try simp only [List.map_toArray,List.map_cons,List.map_nil]);first|done|rfl|(simp only [List.length_drop,List.length_take];rfl)) ?_
   with_reducible refine (z9.calls k1 ((z15 l0 x6_1).f0) ((z15 l0 x6_1).f1) t104 t105 t106 t107 _ A8.out).mono ?_
   rintro e w12 ⟨rfl,hb⟩
   refine ⟨_,rfl,?_⟩
   have n0_:=z3.mk (ze (g:=gb101) (o:=.cells #[.int .u64 0,.int .u64 0] 61 (0,0)) (by (with_reducible repeat (first|refine z5 ?_ _|refine z8 ?_|refine z4 ?_ _));exact BK101.out) hb)
   have n1_:=z3.mk (ze (g:=gb102) (o:=.cells #[.int .u64 x103000_1,.int .u64 x103001_1] 61 (0,0)) (by (with_reducible repeat (first|refine z5 ?_ _|refine z8 ?_|refine z4 ?_ _));exact BK102.out) hb)
   have n2_:=z3.mk (zc (by repeat (first|(with_reducible first|exact HB.out|apply z2|apply z0|apply z1|refine z7 ?_ GE101.out|refine z7 ?_ GE102.out)|exact HB.out)) hb)
   clear BK101
   clear BK102
   clear HB
   have BK101:=n0_
   have BK102:=n1_
   have HB:=n2_
   clear n0_ n1_ n2_
   (try clear hb)
   (try clear hb2)
   (try clear hk)
   (try clear hi)
   refine hK.out _ _ ⟨(za BK102.out 0).trans rfl,(za BK102.out 1).trans rfl,((HB.out.cell (World.block_lt_of_cell? w _ hw103_0)).trans hw103_0),((HB.out.cell (World.block_lt_of_cell? w _ hw103_1)).trans hw103_1)⟩ (fun hHeld=>?_)
   clear hK K
   refine norm_ (a':=?_) ?_ ?_
   rotate_left
   · show Act.put _ (some 21) _ = _
     simp only [Act.put,List.setIfInBounds_toArray,List.set_cons_zero,List.set_cons_succ,zD,zF]
     rfl
   refine one_ (i:=9) (N:=some 22) #[true,true,true,true,true,true,true,true,true,true,false] rfl rfl (z1w HT_.out (by kernel_rfl)) (by decide) (fun K hK=>?_)
   refine goes_ Try.func74 (by kernel_rfl) rfl #[.agg #[.int .u64 x103000_1,.int .u64 x103001_1],.agg #[.int .u64 t106,.int .u64 t107]] (by rfl) rfl rfl (by (try simp only [List.map_toArray,List.map_cons,List.map_nil]);first|done|rfl|(simp only [List.length_drop,List.length_take];rfl)) ?_
   with_reducible refine (zY.calls x103000_1 x103001_1 t106 t107 t108 t109 _ A9.out).mono ?_
   rintro e w13 ⟨rfl,hb⟩
   refine ⟨_,rfl,?_⟩
   have n0_:=z3.mk (ze (g:=gb101) (o:=.cells #[.int .u64 0,.int .u64 0] 61 (0,0)) (by (with_reducible repeat (first|refine z5 ?_ _|refine z8 ?_|refine z4 ?_ _));exact BK101.out) hb)
   have n1_:=z3.mk (ze (g:=gb102) (o:=.cells #[.int .u64 x103000_1,.int .u64 x103001_1] 61 (0,0)) (by (with_reducible repeat (first|refine z5 ?_ _|refine z8 ?_|refine z4 ?_ _));exact BK102.out) hb)
   have n2_:=z3.mk (zc (by repeat (first|(with_reducible first|exact HB.out|apply z2|apply z0|apply z1|refine z7 ?_ GE101.out|refine z7 ?_ GE102.out)|exact HB.out)) hb)
   clear BK101
   clear BK102
   clear HB
   have BK101:=n0_
   have BK102:=n1_
   have HB:=n2_
   clear n0_ n1_ n2_
   (try clear hb)
   (try clear hb2)
   (try clear hk)
   (try clear hi)
   refine hK.out _ _ ⟨(za BK102.out 0).trans rfl,(za BK102.out 1).trans rfl,((HB.out.cell (World.block_lt_of_cell? w _ hw103_0)).trans hw103_0),((HB.out.cell (World.block_lt_of_cell? w _ hw103_1)).trans hw103_1)⟩ (fun hHeld=>?_)
   clear hK K
   refine norm_ (a':=?_) ?_ ?_
   rotate_left
   · show Act.put _ (some 22) _ = _
     simp only [Act.put,List.setIfInBounds_toArray,List.set_cons_zero,List.set_cons_succ,zD,zF]
     rfl
   refine last_ (i:=10) (N:=none) #[true,true,true,true,true,true,true,true,true,true,true] rfl rfl (z1w HT_.out (by kernel_rfl)) (by decide) (fun K hK=>?_)
   have hs14 : w13.cell? ⟨gb102,0,none⟩ = some (.int .u64 x103000_1):=(za BK102.out 0).trans rfl
   have hfs14:=zb BK102.out 0
   have hns14_0:=NB101_102.out
   have hms14_0:=NB102_101.out
   have hs15 : w13.cell? ⟨gb102,1,none⟩ = some (.int .u64 x103001_1):=(za BK102.out 1).trans rfl
   have hfs15:=zb BK102.out 1
   have hns15_0:=NB101_102.out
   have hms15_0:=NB102_101.out
   refine skip_ (w1:=?_) (by rfl) rfl ?_ ?_
   rotate_left
   · go_simp
     rfl
   refine hK.out _ _ ?_
   clear hK K
   refine done_ (z1X HT_.out (by kernel_rfl)) ?_
   try go_wp2
   go_roundg k1
   case measure=>have:=HK1.out;omega
   case rel=>exact ⟨(wrap64 (x6_1 + 1)),(t108),(t109),(by first|rfl|(simp;done)|(simp [*];done)),H',⟨by have:=HK1.out;omega⟩,⟨by (with_reducible repeat (first|refine z5 ?_ _|refine z8 ?_|refine z4 ?_ _));refine z14 ?_ NB101_102.out _;(with_reducible repeat (first|refine z5 ?_ _|refine z8 ?_|refine z4 ?_ _));refine z14 ?_ NB101_102.out _;(with_reducible repeat (first|refine z5 ?_ _|refine z8 ?_|refine z4 ?_ _));exact BK101.out⟩,⟨by (with_reducible repeat (first|refine z5 ?_ _|refine z8 ?_|refine z4 ?_ _));refine zH (cs:=#[.int .u64 t108,.int .u64 x103001_1]) ?_ 1 _ rfl;(with_reducible repeat (first|refine z5 ?_ _|refine z8 ?_|refine z4 ?_ _));refine zH (cs:=#[.int .u64 x103000_1,.int .u64 x103001_1]) ?_ 0 _ rfl;(with_reducible repeat (first|refine z5 ?_ _|refine z8 ?_|refine z4 ?_ _));exact BK102.out⟩,⟨by repeat (first|(with_reducible first|exact HB.out|apply z2|apply z0|apply z1|refine z7 ?_ GE101.out|refine z7 ?_ GE102.out)|exact HB.out)⟩⟩
end Go.Proofs.Ytngcaphdkgihmaa.P
/- The document's values. Own text. -/
namespace Go.Proofs.Ytngcaphdkgihmaa.Sp
open Go.RowKit Go.Proofs.YtngcaphdkgihmaaW.PrintWords Go.Proofs.YtngcaphdkgihmaaW.PrintMore Go.Proofs.Ytngcaphdkgihmaa.P Go.Proofs.Ytngcaphdkgihmaa.Ar Go.Proofs.Ytngcaphdkgihmaa.Tw
set_option linter.unusedVariables false
set_option linter.unusedSimpArgs false
theorem value_l0 (X P : List E) (hX : X.length ≤ 1000000) (hP : P.length ≤ 1000000) : ∀ (d i : Nat), i + d = X.length →
    Ev (fun q => zp.l0 q (X.map toR) (P.map toR) (i : Int) (hi (sumN (fun i => X.getD i 0 * weight P i) i)) (lo (sumN (fun i => X.getD i 0 * weight P i) i))) (hi (value X P), lo (value X P)) := by
  intro d
  induction d with
  | zero =>
    intro i hid
    have : i = X.length := by omega
    subst this
    have hno : ¬ ((X.length : Int) < ((X.map toR).length : Int)) := by rw [List.length_map]; omega
    refine Ev.step (fun q => by rw [zp.l0]) (Ev.neg hno ?_)
    exact Ev.ret' rfl
  | succ d ih =>
    intro i hid
    have hi' : i < X.length := by omega
    refine Ev.step (fun q => by rw [zp.l0]) (Ev.pos (by rw [List.length_map]; omega) (Ev.pos (Int.natCast_nonneg _) (Ev.bnd (z5y P hP i (by omega)) ?_)))
    simp only [rdR, z4i, z4j, z1o hi' (show X.length ≤ 4611686018427387904 by omega)]
    refine Ev.bnd (z2s _ _) (Ev.bnd0 (z30 _ _) ?_)
    exact ih (i + 1) (by omega)
theorem value_ev (X P : List E) (hX : X.length ≤ 1000000) (hP : P.length ≤ 1000000) : Ev (fun q => zp.f q (X.map toR) (P.map toR)) (hi (value X P), lo (value X P)) := by
  have := value_l0 X P hX hP X.length 0 (by omega)
  rw [sumN, z1Z, z20] at this
  exact this
end Go.Proofs.Ytngcaphdkgihmaa.Sp
/- Multilinear polynomials by their values on the cube: what layer 15 tells. Own text. -/
namespace Go.Proofs.Ytngcaphdkgihmaa.Sp
open Go.RowKit Go.Proofs.YtngcaphdkgihmaaW.PrintWords Go.Proofs.YtngcaphdkgihmaaW.PrintMore Go.Proofs.Ytngcaphdkgihmaa.P Go.Proofs.Ytngcaphdkgihmaa.Ar Go.Proofs.Ytngcaphdkgihmaa.Tw
set_option linter.unusedVariables false
set_option linter.unusedSimpArgs false
/-- What hinders binding. -/
def askS (L : Int) (X R : List E) : Int := if LvS L then (if logI (X.length : Int) < 0 ∨ (R.length : Int) > logI (X.length : Int) then 6 else if AllS L X ∧ AllS L R then 0 else 5) else 1
theorem ask_ev (L : Int) (X R : List E) : Ev (fun k => zW.f k L (X.map toS) (R.map toS)) (askS L X R) := by
  unfold zW.f askS
  rw [List.length_map, List.length_map]
  refine Ev.bnd (z4D _) ?_
  by_cases hL : LvS L
  · obtain ⟨v, hv, hw⟩ := z5A hL
    rw [if_pos hL]
    refine Ev.bnd hw (Ev.neg hv ?_)
    have hj : ∀ b, b = decide (logI (X.length : Int) < 0 ∨ (R.length : Int) > logI (X.length : Int)) → Ev (fun k => zW.j0 k L (X.map toS) (R.map toS) b) (if logI (X.length : Int) < 0 ∨ (R.length : Int) > logI (X.length : Int) then 6 else if AllS L X ∧ AllS L R then 0 else 5) := by
      intro b hb
      refine Ev.step (fun k => by rw [zW.j0]) ?_
      by_cases c : logI (X.length : Int) < 0 ∨ (R.length : Int) > logI (X.length : Int)
      · rw [if_pos c]; exact Ev.pos (by rw [hb]; exact decide_eq_true c) (Ev.ret _)
      · rw [if_neg c]
        refine Ev.neg (by rw [hb]; simpa using c) (Ev.bnd (z2u L X) ?_)
        by_cases cx : AllS L X
        · refine Ev.pos (decide_eq_true cx) (Ev.bnd (z2u L R) ?_)
          by_cases cr : AllS L R
          · have e : (if AllS L X ∧ AllS L R then (0 : Int) else 5) = 0 := if_pos ⟨cx, cr⟩
            rw [e]; exact Ev.pos (decide_eq_true cr) (Ev.ret _)
          · have e : (if AllS L X ∧ AllS L R then (0 : Int) else 5) = 5 := if_neg (fun h => cr h.2)
            rw [e]; exact Ev.neg (by simpa using cr) (Ev.ret _)
        · have e : (if AllS L X ∧ AllS L R then (0 : Int) else 5) = 5 := if_neg (fun h => cx h.1)
          rw [e]; exact Ev.neg (by simpa using cx) (Ev.ret _)
    by_cases c : logI (X.length : Int) < 0
    · exact Ev.pos c (hj true (by symm; rw [decide_eq_true_eq]; exact Or.inl c))
    · exact Ev.neg c (hj _ (by rw [decide_eq_decide]; exact ⟨Or.inr, fun h => h.resolve_left c⟩))
  · rw [if_neg hL]
    exact Ev.bnd (z4k hL) (Ev.pos rfl (Ev.ret _))
theorem z4u {l : Nat} (hl : l ≤ 7) {a b r : E} (ha : InL l a) (hb : InL l b) (hr : InL l r) : Ev (fun k => zI.f k (l : Int) (hi a) (lo a) (hi b) (lo b) (hi r) (lo r)) (hi (a + r * (a + b)), lo (a + r * (a + b))) := by
  unfold zI.f
  exact Ev.bnd0 (Add_eq a b) (Ev.bnd (Mul_ev hl hr (z3W ha hb)) (Ev.bnd0 (Add_eq a _) (Ev.ret _)))
theorem First_l1 {l : Nat} (hl : l ≤ 7) (X0 : List E) (hlen : X0.length ≤ 1000000) (hX : AllS (l : Int) X0) (r : E) (hr : InL l r) (RS : List S51) (m t : Int) {res : List S51 × Int}
    (hk : Ev (fun q => zu.l0 q (l : Int) ((first r X0).map toS) RS m (wrap64 (t + 1))) res) :
    ∀ (d i : Nat) (X : List E), i + d = X0.length / 2 → X.length = X0.length → (∀ j, j < i → X.getD j 0 = (first r X0).getD j 0) → (∀ j, i ≤ j → X.getD j 0 = X0.getD j 0) →
    Ev (fun q => zu.l1 q (l : Int) (X.map toS) ((X0.length / 2 : Nat) : Int) RS m t ((X0.length / 2 : Nat) : Int) (i : Int) (hi r) (lo r)) res := by
  intro d
  induction d with
  | zero =>
    intro i X hid hXl h1 h2
    refine Ev.step (fun q => by rw [zu.l1]) (Ev.neg (by omega) (Ev.pos (Int.natCast_nonneg _) (Ev.pos (by rw [List.length_map]; omega) ?_)))
    rw [Int.toNat_natCast, ← List.map_take]
    have e : X.take (X0.length / 2) = first r X0 := by
      apply ext_getD
      · rw [List.length_take, z1x]; omega
      · intro j hj
        rw [List.length_take] at hj
        rw [z4Y (by omega)]; exact h1 j (by omega)
    rw [e]; exact hk
  | succ d ih =>
    intro i X hid hXl h1 h2
    have hi2 : i < X0.length / 2 := by omega
    refine Ev.step (fun q => by rw [zu.l1]) (Ev.pos (by omega) ?_)
    simp only [w64_dbl (show i ≤ 1000000 by omega), z1o (show 2 * i < X0.length by omega) (show X0.length ≤ 4611686018427387904 by omega), z1o hi2 (show X0.length / 2 ≤ 4611686018427387904 by omega), rdS, z3Q, z3R, List.length_map]
    refine Ev.pos (Int.natCast_nonneg _) (Ev.pos (by omega) (Ev.pos (Int.natCast_nonneg _) (Ev.pos (by omega) ?_)))
    rw [h2 (2 * i) (by omega), h2 (2 * i + 1) (by omega)]
    refine Ev.bnd (z4u hl (z1U hX _) (z1U hX _) hr) (Ev.pos (Int.natCast_nonneg _) (Ev.pos (by omega) ?_))
    rw [Int.toNat_natCast, toS_mk, map_set]
    refine ih (i + 1) _ (by omega) (by rw [List.length_set, hXl]) (fun j hj => ?_) (fun j hj => ?_)
    · by_cases e : j = i
      · subst e
        rw [z3p (by omega), z2v r X0 j hi2]
      · rw [getD_set_ne (by omega)]; exact h1 j (by omega)
    · rw [getD_set_ne (by omega)]; exact h2 j (by omega)
theorem First_l0 {l : Nat} (hl : l ≤ 7) (R : List E) (hR : AllS (l : Int) R) (hRl : R.length ≤ 1000000) : ∀ (d t : Nat) (X : List E), t + d = R.length → X.length ≤ 1000000 → AllS (l : Int) X →
    Ev (fun q => zu.l0 q (l : Int) (X.map toS) (R.map toS) (R.length : Int) (t : Int)) ((firsts (R.drop t) X).map toS, 0) := by
  intro d
  induction d with
  | zero =>
    intro t X ht hXl hX
    refine Ev.step (fun q => by rw [zu.l0]) (Ev.neg (by omega) (Ev.ret' ?_))
    rw [List.drop_eq_nil_of_le (by omega)]; rfl
  | succ d ih =>
    intro t X ht hXl hX
    have ht' : t < R.length := by omega
    refine Ev.step (fun q => by rw [zu.l0]) (Ev.pos (by omega) (Ev.pos (Int.natCast_nonneg _) (Ev.pos (by rw [List.length_map]; omega) ?_)))
    simp only [rdS, z3Q, z3R, List.length_map, half_len X.length hXl]
    have hr := z1U hR t
    have hih := ih (t + 1) (first (R.getD t 0) X) (by omega) (by rw [z1x]; omega) (z4q hl hX hr)
    rw [← z1o ht' (show R.length ≤ 4611686018427387904 by omega)] at hih
    have := First_l1 hl X hXl hX (R.getD t 0) hr (R.map toS) (R.length : Int) (t : Int) hih (X.length / 2) 0 X (by omega) rfl (fun j hj => by omega) (fun j _ => rfl)
    have e : firsts (R.drop t) X = firsts (R.drop (t + 1)) (first (R.getD t 0) X) := by
      rw [List.drop_eq_getElem_cons ht', firsts]
      congr 2
      rw [List.getD_eq_getElem?_getD, List.getElem?_eq_getElem ht']; rfl
    rw [e]; exact this
theorem First_ok {l : Nat} (hl : l ≤ 7) (X R : List E) (hXl : X.length ≤ 1000000) (hRl : R.length ≤ 1000000) (h : askS (l : Int) X R = 0) : Ev (fun q => zu.f q (l : Int) (X.map toS) (R.map toS)) ((firsts R X).map toS, 0) := by
  unfold zu.f
  have hh := h
  unfold askS at hh
  split at hh
  · split at hh
    · omega
    · split at hh
      · rename_i hall
        refine Ev.bnd (ask_ev _ X R) (Ev.pos h ?_)
        refine Ev.bnd0 (a := X.map toS) (by unfold z1a.f; rw [if_pos (by rw [List.length_map]; omega)]) ?_
        rw [List.length_map]
        exact First_l0 hl R hall.2 hRl R.length 0 X (by omega) hXl hall.1
      · omega
  · omega
theorem z4B (L : Int) (X R : List E) (h : askS L X R ≠ 0) : Ev (fun q => zu.f q L (X.map toS) (R.map toS)) ([], askS L X R) := by
  unfold zu.f
  exact Ev.bnd (ask_ev L X R) (Ev.neg h (Ev.ret _))
/-- A value, or the error. -/
def atErr (L : Int) (X P : List E) : Int := if LvS L then (if logI (X.length : Int) = (P.length : Int) then (if AllS L X ∧ AllS L P then 0 else 5) else 6) else 1
theorem log_len {X : List E} {k : Nat} (h : logI (X.length : Int) = (k : Int)) : X.length = 2 ^ k := by
  rcases z4b (X.length : Int) with e | ⟨m, _, h3, h4⟩
  · omega
  · have : m = k := by omega
    subst this; omega
theorem At_ev (L : Int) (X P : List E) (hXl : X.length ≤ 1000000) (hPl : P.length ≤ 1000000) : Ev (fun q => z17.f q L (X.map toS) (P.map toS)) (if atErr L X P = 0 then (hi (value X P), lo (value X P), 0) else (0, 0, atErr L X P)) := by
  unfold z17.f
  rw [List.length_map, List.length_map]
  by_cases hL : LvS L
  · obtain ⟨v, hv, hw⟩ := z5A hL
    refine Ev.bnd hw (Ev.neg hv (Ev.bnd (z4D _) ?_))
    by_cases hlog : logI (X.length : Int) = (P.length : Int)
    · refine Ev.pos hlog ?_
      have hask : askS L X P = (if AllS L X ∧ AllS L P then 0 else 5) := by
        unfold askS; rw [if_pos hL, if_neg (by rw [hlog]; omega)]
      have hat : atErr L X P = askS L X P := by unfold atErr; rw [if_pos hL, if_pos hlog, hask]
      rw [hat]
      by_cases h0 : askS L X P = 0
      · rw [if_pos h0]
        obtain ⟨hL0, hL7⟩ := hL
        obtain ⟨l, rfl⟩ := Int.eq_ofNat_of_zero_le hL0
        have hp := log_len hlog
        refine Ev.bnd (First_ok (by omega) X P hXl hPl h0) (Ev.pos rfl (Ev.pos ?_ (Ev.ret' ?_)))
        · rw [List.length_map, z1Y P X P.length hp (Nat.le_refl _), Nat.sub_self]; decide
        · have e : zE ((firsts P X).map toS) 0 = toS (value X P) := by
            have := rdS (firsts P X) 0
            rw [value_eq X P hp]; exact this
          rw [e]; rfl
      · rw [if_neg h0]
        exact Ev.bnd (z4B L X P h0) (Ev.neg h0 (Ev.ret _))
    · have hat : atErr L X P = 6 := by unfold atErr; rw [if_pos hL, if_neg hlog]
      rw [hat, if_neg (by decide)]
      exact Ev.neg hlog (Ev.ret _)
  · have hat : atErr L X P = 1 := by unfold atErr; rw [if_neg hL]
    rw [hat, if_neg (by decide)]
    exact Ev.bnd (z4k hL) (Ev.pos rfl (Ev.ret _))
theorem may_ev (L : Int) (X R : List E) (hX : X.length ≤ 1000000) (hR : R.length ≤ 1000000) : Ev (fun k => zh.f k L (X.map toR) (R.map toR)) (askS L X R) := by
  have hj : ∀ b, b = decide (¬ LvS L) → Ev (fun k => zh.j0 k L (X.map toR) (R.map toR) b) (askS L X R) := by
    intro b hb
    unfold askS
    refine Ev.step (fun k => by rw [zh.j0]) ?_
    by_cases hL : LvS L
    · rw [if_pos hL]
      refine Ev.neg (by rw [hb]; simpa using hL) ?_
      rw [List.length_map, List.length_map]
      refine Ev.bnd (z2l _) ?_
      have hj1 : ∀ b, b = decide (logI (X.length : Int) < 0 ∨ (R.length : Int) > logI (X.length : Int)) → Ev (fun k => zh.j1 k L (X.map toR) (R.map toR) b) (if logI (X.length : Int) < 0 ∨ (R.length : Int) > logI (X.length : Int) then 6 else if AllS L X ∧ AllS L R then 0 else 5) := by
        intro b hb
        refine Ev.step (fun k => by rw [zh.j1]) ?_
        by_cases c : logI (X.length : Int) < 0 ∨ (R.length : Int) > logI (X.length : Int)
        · rw [if_pos c]; exact Ev.pos (by rw [hb]; exact decide_eq_true c) (Ev.ret _)
        · rw [if_neg c]
          refine Ev.neg (by rw [hb]; simpa using c) (Ev.bnd (All_ev L X hX) ?_)
          by_cases cx : AllS L X
          · refine Ev.pos (decide_eq_true cx) (Ev.bnd (All_ev L R hR) ?_)
            by_cases cr : AllS L R
            · have e : (if AllS L X ∧ AllS L R then (0 : Int) else 5) = 0 := if_pos ⟨cx, cr⟩
              rw [e]; exact Ev.pos (decide_eq_true cr) (Ev.ret _)
            · have e : (if AllS L X ∧ AllS L R then (0 : Int) else 5) = 5 := if_neg (fun h => cr h.2)
              rw [e]; exact Ev.neg (by simpa using cr) (Ev.ret _)
          · have e : (if AllS L X ∧ AllS L R then (0 : Int) else 5) = 5 := if_neg (fun h => cx h.1)
            rw [e]; exact Ev.neg (by simpa using cx) (Ev.ret _)
      by_cases c : logI (X.length : Int) < 0
      · exact Ev.pos c (hj1 true (by symm; rw [decide_eq_true_eq]; exact Or.inl c))
      · exact Ev.neg c (Ev.bnd (z2l _) (hj1 _ (by rw [decide_eq_decide]; exact ⟨Or.inr, fun h => h.resolve_left c⟩)))
    · rw [if_neg hL]
      exact Ev.pos (by rw [hb]; simpa using hL) (Ev.ret _)
  unfold zh.f
  by_cases h0 : L < 0
  · exact Ev.pos h0 (hj true (by symm; rw [decide_eq_true_eq]; unfold LvS; omega))
  · exact Ev.neg h0 (hj _ (by rw [decide_eq_decide]; unfold LvS; omega))
end Go.Proofs.Ytngcaphdkgihmaa.Sp
/- Corners as points: the bits of a number; a table's value at a corner is the element there. Own text. -/
namespace Go.Proofs.Ytngcaphdkgihmaa.Sp
open Go.RowKit Go.Proofs.YtngcaphdkgihmaaW.PrintWords Go.Proofs.YtngcaphdkgihmaaW.PrintMore Go.Proofs.Ytngcaphdkgihmaa.P Go.Proofs.Ytngcaphdkgihmaa.Ar Go.Proofs.Ytngcaphdkgihmaa.Tw
set_option linter.unusedVariables false
set_option linter.unusedSimpArgs false
/-- A bit as an element. -/
def bit1 (b : Bool) : E := if b then 1 else 0
def cornerL (k i : Nat) : List E := (List.range k).map fun j => bit1 (i.testBit j)
theorem z1G (k i : Nat) : (cornerL k i).length = k := by simp [cornerL]
theorem z3F (k i : Nat) : cornerL (k + 1) i = bit1 (i.testBit 0) :: cornerL k (i / 2) := by
  unfold cornerL
  rw [List.range_succ_eq_map, List.map_cons, List.map_map]
  congr 1
  apply List.map_congr_left
  intro j _
  show bit1 (i.testBit (j + 1)) = bit1 ((i / 2).testBit j)
  rw [Nat.testBit_succ]
theorem z3E (k i j : Nat) (h : j < k) : (cornerL k i).getD j 0 = bit1 (i.testBit j) := by
  unfold cornerL; rw [List.getD_eq_getElem?_getD, List.getElem?_map, List.getElem?_range h]; rfl
theorem z4r {L : Int} (hL : LvS L) (k i : Nat) : AllS L (cornerL k i) := by
  intro x hx
  unfold cornerL at hx
  obtain ⟨j, _, rfl⟩ := List.mem_map.1 hx
  refine ⟨hL.1, hL.2, ?_⟩
  unfold bit1
  split
  · exact inL_one _
  · exact z46 _
theorem z4W (b : Bool) (X : List E) (i : Nat) (h : i < X.length / 2) : (first (bit1 b) X).getD i 0 = X.getD (2 * i + b.toNat) 0 := by
  rw [z2v _ X i h]
  cases b
  · show X.getD (2 * i) 0 + 0 * _ = X.getD (2 * i + 0) 0
    rw [zero_mul, add_zero]; rfl
  · show X.getD (2 * i) 0 + 1 * _ = X.getD (2 * i + 1) 0
    rw [one_mul, ← add_assoc, z1K, zero_add]
theorem z2E : ∀ (k i : Nat) (X : List E), X.length = 2 ^ k → i < 2 ^ k → value X (cornerL k i) = X.getD i 0
  | 0, i, X, hX, hi => by
    have : i = 0 := by omega
    subst this
    exact z3S hX
  | k + 1, i, X, hX, hi => by
    have hp : (2 : Nat) ^ (k + 1) = 2 * 2 ^ k := by rw [Nat.pow_succ, Nat.mul_comm]
    have hl : X.length = 2 * (X.length / 2) := z5l hX
    have h2 : X.length / 2 = 2 ^ k := by omega
    rw [z3F, z36 X _ _ hl]
    rw [z2E k (i / 2) (first (bit1 (i.testBit 0)) X) (by rw [z1x, h2]) (by omega)]
    rw [z4W _ X (i / 2) (by omega)]
    congr 1
    rw [Nat.testBit_zero]
    by_cases c : i % 2 = 1
    · rw [decide_eq_true c]; show 2 * (i / 2) + 1 = i; omega
    · rw [decide_eq_false c]; show 2 * (i / 2) + 0 = i; omega
theorem z3V (a j : Nat) (ha : a < 2 ^ 63) (hj : j ≤ 64) : IntKind.u64.wrap (Go.bits .and .i64 (shr .i64 (a : Int) (j : Int)) 1) = if a.testBit j then 1 else 0 := by
  rw [z5t a j hj]
  have hd : a / 2 ^ j < 2 ^ 63 := Nat.lt_of_le_of_lt (Nat.div_le_self _ _) ha
  have := z2y (a / 2 ^ j) 1 hd (by decide)
  have e1 : (((2 ^ 1 : Nat) : Int) - 1) = 1 := rfl
  rw [e1] at this
  rw [this, Nat.testBit_eq_decide_div_mod_eq]
  generalize a / 2 ^ j = z
  rw [z1R (by omega) (by omega)]
  by_cases c : z % 2 = 1
  · rw [decide_eq_true c, if_pos rfl]; omega
  · rw [decide_eq_false c, if_neg (by decide)]; omega
theorem toS_bit (b : Bool) : (⟨0, if b then 1 else 0⟩ : S51) = toS (bit1 b) := by
  cases b
  · show _ = toS 0
    unfold toS; rw [z1Z, z20]; rfl
  · show _ = toS 1
    unfold toS; rw [z44, z4a]; rfl
theorem z4V (n i : Nat) (hn : n ≤ 64) (hi : i < 2 ^ 63) : ∀ (d j : Nat), j + d = n → Ev (fun q => zn.l0 q (i : Int) ((cornerL j i).map toS) (n : Int) (j : Int)) ((cornerL n i).map toS) := by
  intro d
  induction d with
  | zero =>
    intro j hj
    have : j = n := by omega
    subst this
    exact Ev.step (fun k => by rw [zn.l0]) (Ev.neg (by omega) (Ev.ret _))
  | succ d ih =>
    intro j hj
    have hj' : j < n := by omega
    have hih := ih (j + 1) (by omega)
    have hp : cornerL (j + 1) i = cornerL j i ++ [bit1 (i.testBit j)] := by unfold cornerL; rw [List.range_succ, List.map_append]; rfl
    rw [hp, List.map_append] at hih
    refine Ev.step (fun k => by rw [zn.l0]) (Ev.pos (by omega) (Ev.pos (Int.natCast_nonneg _) (Ev.pos (by rw [List.length_map, z1G]; omega) ?_)))
    simp only [z3V i j hi (show j ≤ 64 by omega), toS_bit, z1o hj' (show n ≤ 4611686018427387904 by omega)]
    exact hih
/-- A corner, or nothing. -/
def CornerOk (n i : Int) : Prop := 1 ≤ n ∧ n ≤ 16 ∧ 0 ≤ i ∧ i < ((2 ^ n.toNat : Nat) : Int)
instance (n i : Int) : Decidable (CornerOk n i) := by unfold CornerOk; infer_instance
theorem z3z (n i : Nat) (h1 : 1 ≤ n) (h2 : n ≤ 16) (hi : i < 2 ^ n) : Ev (fun q => zn.f q (n : Int) (i : Int)) ((cornerL n i).map toS) := by
  have h16 : 2 ^ n ≤ 2 ^ 16 := Nat.pow_le_pow_right (by decide) h2
  unfold zn.f
  refine Ev.neg (by omega) (Ev.neg (by omega) (Ev.neg (by omega) (Ev.pos (by omega) ?_)))
  rw [z32 n (by omega), decide_eq_false (show ¬ ((i : Int) ≥ ((2 ^ n : Nat) : Int)) by omega)]
  refine Ev.step (fun k => by rw [zn.j0]) (Ev.neg (by decide) ?_)
  exact z4V n i (by omega) (by omega) n 0 (Nat.zero_add _)
theorem z4m (n i : Int) (h : ¬ CornerOk n i) : Ev (fun q => zn.f q n i) [] := by
  have hT : Ev (fun q => zn.j0 q n i true) [] := Ev.step (fun k => by rw [zn.j0]) (Ev.pos rfl (Ev.ret _))
  unfold zn.f
  by_cases c1 : n < 1
  · exact Ev.pos c1 hT
  refine Ev.neg c1 ?_
  by_cases c2 : n > 16
  · exact Ev.pos c2 hT
  refine Ev.neg c2 ?_
  by_cases c3 : i < 0
  · exact Ev.pos c3 hT
  refine Ev.neg c3 (Ev.pos (by omega) ?_)
  obtain ⟨m, rfl⟩ := Int.eq_ofNat_of_zero_le (show 0 ≤ n by omega)
  rw [z32 m (by omega)]
  have : i ≥ ((2 ^ m : Nat) : Int) := by
    apply Classical.byContradiction
    intro g
    apply h
    unfold CornerOk
    rw [Int.toNat_natCast]
    exact ⟨by omega, by omega, by omega, by omega⟩
  rw [decide_eq_true this]
  exact hT
end Go.Proofs.Ytngcaphdkgihmaa.Sp
/- Powers of two as the document's Two tells them. Own text. -/
namespace Go.Proofs.Ytngcaphdkgihmaa.Sp
open Go.RowKit Go.Proofs.YtngcaphdkgihmaaW.PrintWords Go.Proofs.YtngcaphdkgihmaaW.PrintMore Go.Proofs.Ytngcaphdkgihmaa.P Go.Proofs.Ytngcaphdkgihmaa.Ar
set_option linter.unusedVariables false
set_option linter.unusedSimpArgs false
theorem z5m {n : Nat} (h : n ≤ 61) : 2 ^ n ≤ 2305843009213693952 := by
  have : (2 : Nat) ^ n ≤ 2 ^ 61 := Nat.pow_le_pow_right (by decide) h
  simpa using this
theorem two_l0 (n : Nat) (h : n ≤ 61) : ∀ d i, i + d = n → Ev (fun k => zr.l0 k (n : Int) ((2 ^ i : Nat) : Int) (i : Int)) ((2 ^ n : Nat) : Int) := by
  intro d
  induction d with
  | zero =>
    intro i hi
    have hi : i = n := by omega
    subst hi
    exact Ev.step (fun k => by rw [zr.l0]) (Ev.neg (by omega) (Ev.ret _))
  | succ d ih =>
    intro i hi
    refine Ev.step (fun k => by rw [zr.l0]) (Ev.pos (by omega) ?_)
    have h1 := z5m (n := i) (by omega)
    have e1 : wrap64 (2 * ((2 ^ i : Nat) : Int)) = ((2 ^ (i + 1) : Nat) : Int) := by
      rw [Nat.pow_succ]
      generalize 2 ^ i = p at h1 ⊢
      rw [z1J (by omega) (by omega)]; omega
    have e2 : wrap64 ((i : Int) + 1) = ((i + 1 : Nat) : Int) := by rw [z1J (by omega) (by omega)]; omega
    rw [e1, e2]
    exact ih (i + 1) (by omega)
theorem two_ev (n : Nat) (h : n ≤ 61) : Ev (fun k => zr.f k (n : Int)) ((2 ^ n : Nat) : Int) := two_l0 n h n 0 (by omega)
end Go.Proofs.Ytngcaphdkgihmaa.Sp
namespace Go.Proofs.Ytngcaphdkgihmaa.Sp
open Go.RowKit Go.Proofs.YtngcaphdkgihmaaW.PrintWords Go.Proofs.YtngcaphdkgihmaaW.PrintMore Go.Proofs.Ytngcaphdkgihmaa.P Go.Proofs.Ytngcaphdkgihmaa.Ar Go.Proofs.Ytngcaphdkgihmaa.Tw
set_option linter.unusedVariables false
theorem z2h : Ev (fun k => zs.f k) true := Ev.of zs.mono (k := 40) (by decide +kernel)
theorem tmod_two (a : Nat) : Int.tmod (a : Int) 2 = ((a % 2 : Nat) : Int) := by
  rw [Int.tmod_eq_emod_of_nonneg (Int.natCast_nonneg _)]; omega
theorem tdiv_two (a : Nat) : Int.tdiv (a : Int) 2 = ((a / 2 : Nat) : Int) := by
  rw [Int.tdiv_eq_ediv_of_nonneg (Int.natCast_nonneg _)]; omega
/-- The place that the law asks for. -/
def placeC (i : Int) (n : Nat) : Int := Int.tmod (wrap64 ((Int.tmod i (n : Int)) + (n : Int))) (n : Int)
theorem z5k (i : Int) (n : Nat) (hn : 0 < n) (h : n ≤ 1000) : ∃ c : Nat, c < n ∧ placeC i n = (c : Int) := by
  unfold placeC
  have h1 : -(n : Int) < Int.tmod i (n : Int) := by
    have := Int.lt_tmod_of_pos i (show (0 : Int) < (n : Int) by omega)
    exact this
  have h2 : Int.tmod i (n : Int) < (n : Int) := Int.tmod_lt_of_pos i (show (0 : Int) < (n : Int) by omega)
  generalize Int.tmod i (n : Int) = a at h1 h2 ⊢
  have e : wrap64 (a + (n : Int)) = a + (n : Int) := z1J (by omega) (by omega)
  rw [e]
  have h0 : 0 ≤ a + (n : Int) := by omega
  have h3 : 0 ≤ Int.tmod (a + (n : Int)) (n : Int) := by
    rw [Int.tmod_eq_emod_of_nonneg h0]; exact Int.emod_nonneg _ (by omega)
  have h4 : Int.tmod (a + (n : Int)) (n : Int) < (n : Int) := Int.tmod_lt_of_pos _ (by omega)
  exact ⟨(Int.tmod (a + (n : Int)) (n : Int)).toNat, by omega, by omega⟩
theorem z3f (L : Int) (X : List E) (hX : X.length ≤ 64) (i : Int) : Ev (fun k => z6.j3 k L (X.map toS) i) true := by
  have hT : ∀ m : Int, Ev (fun k => z6.j4 k L (X.map toS) i m true) true := fun m =>
    Ev.step (fun k => by rw [z6.j4]) (Ev.pos rfl (Ev.bnd z2h (Ev.ret _)))
  refine Ev.step (fun k => by rw [z6.j3]) ?_
  rw [List.length_map]
  refine Ev.bnd (z2l _) ?_
  by_cases c1 : logI (X.length : Int) < 1
  · exact Ev.pos c1 (hT _)
  refine Ev.neg c1 (Ev.bnd (Ref_ev X (by omega)) (Ev.bnd (may_ev L X [] (by omega) (by decide)) ?_))
  by_cases c2 : askS L X [] = 0
  · rcases z4b (X.length : Int) with e | ⟨m, hm, h3, h4⟩
    · omega
    have hlen : X.length = 2 ^ m := by omega
    have hp := Nat.two_pow_pos m
    have hL : LvS L := by
      apply Classical.byContradiction
      intro hL; unfold askS at c2; rw [if_neg hL] at c2; omega
    have hall : AllS L X := by
      unfold askS at c2; rw [if_pos hL] at c2
      split at c2
      · omega
      · split at c2
        · next h => exact h.1
        · omega
    obtain ⟨c, hc, hcp⟩ := z5k i X.length (by omega) (by omega)
    unfold placeC at hcp
    have hat : atErr L X (cornerL m c) = 0 := by
      unfold atErr; rw [if_pos hL, z1G, h4, if_pos rfl, if_pos ⟨hall, z4r hL m c⟩]
    have hv := At_ev L X (cornerL m c) (by omega) (by rw [z1G]; omega)
    rw [hat, if_pos rfl, z2E m c X hlen (by omega)] at hv
    have hbne : (askS L X [] != 0) = false := by rw [c2]; rfl
    rw [hbne, h4]
    refine Ev.step (fun k => by rw [z6.j4]) (Ev.neg (by decide) (Ev.neg (by rw [List.length_map]; omega) ?_))
    rw [List.length_map, hcp]
    refine Ev.bnd (z3z m c (by omega) hm (by omega)) (Ev.bnd hv (Ev.bnd z2h (Ev.pos rfl (Ev.pos rfl (Ev.pos (Int.natCast_nonneg _) (Ev.pos (by omega) (Ev.ret' ?_)))))))
    rw [rdS]; simp [toS]
  · have : (askS L X [] != 0) = true := by simpa using c2
    rw [this]
    exact hT _
theorem z4v (L : Int) (X : List E) (hX : X.length ≤ 64) (n i : Nat) (hn : n ≤ 16) (hi63 : i < 2 ^ 63) : ∀ (d j : Nat), j + d = n →
    Ev (fun q => z6.l0 q L (X.map toS) (n : Int) (i : Int) ((cornerL n i).map toS) ((i / 2 ^ j : Nat) : Int) (j : Int)) true := by
  intro d
  induction d with
  | zero =>
    intro j hj
    refine Ev.step (fun k => by rw [z6.l0]) (Ev.neg (by omega) (z3f L X hX _))
  | succ d ih =>
    intro j hj
    have hj' : j < n := by omega
    have hih := ih (j + 1) (by omega)
    have hle : i / 2 ^ j ≤ i := Nat.div_le_self _ _
    have e2 : i / 2 ^ j / 2 = i / 2 ^ (j + 1) := by rw [Nat.div_div_eq_div_mul, Nat.pow_succ]
    have hb : i.testBit j = decide (i / 2 ^ j % 2 = 1) := Nat.testBit_eq_decide_div_mod_eq
    have hlen : (((cornerL n i).map toS).length : Int) = (n : Int) := by rw [List.length_map, z1G]
    have e3 : wrap64 (Int.tdiv ((i / 2 ^ j : Nat) : Int) 2) = ((i / 2 ^ (j + 1) : Nat) : Int) := by
      rw [tdiv_two, e2]
      have : i / 2 ^ (j + 1) ≤ i := Nat.div_le_self _ _
      generalize i / 2 ^ (j + 1) = z at *
      exact z1J (by omega) (by omega)
    refine Ev.step (fun k => by rw [z6.l0]) (Ev.pos (by omega) (Ev.pos hlen (Ev.pos (Int.natCast_nonneg _) (Ev.pos (by rw [hlen]; omega) ?_))))
    simp only [rdS, z3Q, z3R, z3E n i j hj', e3, z1o hj' (show n ≤ 4611686018427387904 by omega), tmod_two]
    refine Ev.neg ?_ hih
    rw [hb]
    generalize i / 2 ^ j = z
    rw [z1R (by omega) (by omega)]
    by_cases c : z % 2 = 1
    · rw [decide_eq_true c, c]
      show ¬ ((!(hi (1 : E) == 0) || (!(lo (1 : E) == ((1 : Nat) : Int)))) = true)
      rw [z44, z4a]; decide
    · have c0 : z % 2 = 0 := by omega
      rw [decide_eq_false c, c0]
      show ¬ ((!(hi (0 : E) == 0) || (!(lo (0 : E) == ((0 : Nat) : Int)))) = true)
      rw [z1Z, z20]; decide
end Go.Proofs.Ytngcaphdkgihmaa.Sp
namespace Go.Proofs.Ytngcaphdkgihmaa.Pure
open Go.RowKit Go.Proofs.YtngcaphdkgihmaaW.PrintWords Go.Proofs.YtngcaphdkgihmaaW.PrintMore Go.Proofs.Ytngcaphdkgihmaa.P Go.Proofs.Ytngcaphdkgihmaa.Ar Go.Proofs.Ytngcaphdkgihmaa.Tw Go.Proofs.Ytngcaphdkgihmaa.Sp
set_option linter.unusedVariables false
theorem CubeCorners : Stated.cubeCorners.Pure := by
  intro L l1 at_ h0 h1 h2
  obtain ⟨X, rfl⟩ := list_of l1 h1.1
  obtain ⟨n, i⟩ := at_
  refine Ev.rounds (g := fun k => z6.f k L (X.map toS) n i) ?_
  unfold z6.f
  rw [List.length_map]
  by_cases c1 : (X.length : Int) > 64
  · exact Ev.pos c1 (Ev.step (fun k => by rw [z6.j0]) (Ev.pos rfl (Ev.pos (by rw [List.length_map]; exact c1) (Ev.bnd z2h (Ev.ret _)))))
  have hX : X.length ≤ 64 := by omega
  refine Ev.neg c1 (Ev.bnd (z4D n) (Ev.bnd (z2l n) ?_))
  rw [show (logI n != logI n) = false by simp]
  refine Ev.step (fun k => by rw [z6.j0]) (Ev.neg (by decide) ?_)
  by_cases ck : CornerOk n i
  · obtain ⟨k1, k2, k3, k4⟩ := ck
    obtain ⟨m, rfl⟩ := Int.eq_ofNat_of_zero_le (show 0 ≤ n by omega)
    obtain ⟨j, rfl⟩ := Int.eq_ofNat_of_zero_le k3
    rw [Int.toNat_natCast] at k4
    have h16 : 2 ^ m ≤ 2 ^ 16 := Nat.pow_le_pow_right (by decide) (by omega)
    refine Ev.bnd (z3z m j (by omega) (by omega) (by omega)) (Ev.neg (by omega) (Ev.neg (by omega) (Ev.neg (by omega) (Ev.bnd (two_ev m (by omega)) ?_))))
    rw [decide_eq_false (show ¬ ((j : Int) ≥ ((2 ^ m : Nat) : Int)) by omega)]
    refine Ev.step (fun k => by rw [z6.j1]) (Ev.neg (by decide) ?_)
    have := z4v L X hX m j (by omega) (by omega) m 0 (Nat.zero_add _)
    rw [Nat.pow_zero, Nat.div_one] at this
    exact this
  · refine Ev.bnd (z4m n i ck) ?_
    have hT : Ev (fun k => z6.j1 k L (X.map toS) n i [] true) true :=
      by
        refine Ev.step (fun k => by rw [z6.j1]) ?_
        refine Ev.pos rfl ?_
        refine Ev.pos rfl ?_
        exact z3f L X hX i
    by_cases d1 : n < 1
    · exact Ev.pos d1 hT
    refine Ev.neg d1 ?_
    by_cases d2 : n > 16
    · exact Ev.pos d2 hT
    refine Ev.neg d2 ?_
    by_cases d3 : i < 0
    · exact Ev.pos d3 hT
    refine Ev.neg d3 ?_
    obtain ⟨m, rfl⟩ := Int.eq_ofNat_of_zero_le (show 0 ≤ n by omega)
    refine Ev.bnd (two_ev m (by omega)) ?_
    have : i ≥ ((2 ^ m : Nat) : Int) := by
      apply Classical.byContradiction
      intro g
      apply ck
      unfold CornerOk
      rw [Int.toNat_natCast]
      exact ⟨by omega, by omega, by omega, by omega⟩
    rw [decide_eq_true this]
    exact hT
end Go.Proofs.Ytngcaphdkgihmaa.Pure
-- Own text, written by wip/tools/gen.py: the row of the law CubeCorners, out of its pure statement (PureCubeCorners) and the walk.
namespace Go.Proofs.Ytngcaphdkgihmaa.cubeCorners
open Go.ChangeShapes Go.WideShapes Go.ChangeAt Go.RowKit Go.Proofs.YtngcaphdkgihmaaW.PrintWords Go.Proofs.Ytngcaphdkgihmaa.P Go.Proofs.Ytngcaphdkgihmaa.Reads
set_option linter.unusedVariables false
set_option linter.unusedSimpArgs false
theorem own : ownKnob Try.prog.godebug = none := by kernel_rfl
theorem laidOut : laidOutB Try.prog = true := by kernel_rfl
theorem op51 : ReadsAs Try.prog 51 k51 (fun x => ((Lit.int .u64 x.f0).wf = true) ∧ ((Lit.int .u64 x.f1).wf = true)) :=
  (z5d (fun x : S51 => (x.f0, x.f1)) (fun a => ⟨⟨a.1, a.2⟩, rfl⟩) Try.underlying51 rfl (by kernel_rfl) (z5g (by kernel_rfl) (by kernel_rfl) (z3L Try.underlying49) (z5h (by kernel_rfl) (by kernel_rfl) (z3L Try.underlying49)) (by intro g hg; simp only [List.mem_cons, List.not_mem_nil, or_false] at hg; rcases hg with rfl <;> exact of_decide_eq_true (by kernel_rfl))))
theorem op37 : ReadsAs Try.prog 37 (Kd.slice 51 k51) (fun l => (∀ x_ ∈ l, ((Lit.int .u64 x_.f0).wf = true) ∧ ((Lit.int .u64 x_.f1).wf = true)) ∧ l.length ≤ maxLen) := op_slice Try.underlying37 (by kernel_rfl) op51
theorem op79 : ReadsAs Try.prog 79 k79 (fun x => ((Lit.int .i64 x.f0).wf = true) ∧ ((Lit.int .i64 x.f1).wf = true)) :=
  (op_array (fun x : S79 => (x.f0, x.f1)) (fun a => ⟨⟨a.1, a.2⟩, rfl⟩) Try.underlying79 (by kernel_rfl) (z5e (by kernel_rfl) (z3L Try.underlying3) (z5f (by kernel_rfl) (z3L Try.underlying3))))
set_option maxRecDepth 100000 in
theorem lifted (os : Os) (started : os.Started) (H : Type) (enc : TypeId × Value → H) :
    ReturnsInHanded {} Try.checked os 11 .any (Rows.cubeCornersSpec.pre6 enc Try.prog Try.f11 Rows.cubeCornersRow.domain false) (Rows.cubeCornersSpec.post enc Try.prog Try.f11 false true false false) := by
  refine returnsInHanded_of_change_sized (C := Try.checked) own started (by kernel_rfl) Try.func11
    (ChangeSpec.witness6 (enc := enc) (C := Try.checked) false ⟨#[], #[.int .i64 0, .slice none 0 0, .agg #[.int .i64 0, .int .i64 0]], []⟩ 8 (by kernel_rfl) (by kernel_rfl) (by kernel_rfl) (by kernel_rfl)) ?_
  intro W base args ds gs before hval0 hW hcnd hsz0 _
  have hval : ∀ (j : Nat) t v, Try.f11.params[j]? = some t → args[j]? = some v → Value.okWide Try.prog W .any base t v := hval0
  have hW' := hW
  obtain ⟨p, q, hA0, hV, rfl, hfz, hnd⟩ := hW
  have hA : DataW.TrodAll enc Try.prog W 0 (fun _ => true) true Try.f11.params.toList args.toList ds p := hA0
  rw [Try.params11] at hA hval
  obtain ⟨v0, vs0, d0, ds0, p0, q0, hargs, rfl, rfl, h0, r0⟩ := trodAll_cons hA
  obtain ⟨v1, vs1, d1, ds1, p1, q1, rfl, rfl, rfl, h1, r1⟩ := trodAll_cons r0
  obtain ⟨v2, vs2, d2, ds2, p2, q2, rfl, rfl, rfl, h2, r2⟩ := trodAll_cons r1
  obtain ⟨rfl, rfl, rfl⟩ := trodAll_nil r2
  obtain rfl : args = #[v0, v1, v2] := by cases args; simp_all
  obtain ⟨rfl, rfl⟩ := trodVars_none hV
  have k0 := h0
  have lt0 : ∀ x ∈ p0, x.block < W.heap.size := by obtain ⟨m, hm⟩ := k0; exact DataW.trod_lt m _ _ _ hm
  obtain ⟨x0, rfl, g0⟩ := arg_int Try.underlying3 (hval 0 3 v0 rfl rfl) h0
  have k1 := h1
  have lt1 : ∀ x ∈ p1, x.block < W.heap.size := by obtain ⟨m, hm⟩ := k1; exact DataW.trod_lt m _ _ _ hm
  obtain ⟨x1, A1, c1, rfl, hc1, hr1, g1⟩ := z4N op37 Try.underlying37 (hval 1 37 v1 rfl rfl) h1
  have k2 := h2
  have lt2 : ∀ x ∈ p2, x.block < W.heap.size := by obtain ⟨m, hm⟩ := k2; exact DataW.trod_lt m _ _ _ hm
  obtain ⟨x2, cs2, rfl, hK2, g2⟩ := z4M op79 Try.underlying79 (hval 2 79 v2 rfl rfl) h2
  obtain rfl := z49 hK2
  clear hA0 hval0 hsz0
  obtain ⟨k, hpure⟩ := Pure.CubeCorners x0 x1 x2 g0 g1 g2
  refine (z6.calls k x0 _ _ x1 x2.f0 x2.f1 true W hr1 hc1 hpure).mono fun e W' hh => ?_
  obtain ⟨rfl, bel0⟩ := hh
  have bel : Below W.heap.size W W' := bel0
  exact ⟨_, rfl, _, _, _, [], _, [], hW', trodAll_mk1 (shut_bool Try.underlying4 _), (trodAll_cons_mk (Below.trod laidOut (by kernel_rfl) (of_decide_eq_true (by kernel_rfl)) k0 bel lt0) (trodAll_cons_mk (Below.trod laidOut (by kernel_rfl) (of_decide_eq_true (by kernel_rfl)) k1 bel lt1) (trodAll_cons_mk (Below.trod laidOut (by kernel_rfl) (of_decide_eq_true (by kernel_rfl)) k2 bel lt2) trodAll_mk0))), rfl, bel.frame _, fun h => by cases h⟩
theorem over : Rows.cubeCornersRow.holds Try.pinned (OpenSpec.ofChange Rows.cubeCornersSpec) :=
  OpenClaim.holds_of_wide 11 Try.f11 rfl rfl rfl rfl rfl rfl rfl ⟨rfl, rfl, rfl, rfl, rfl⟩ rfl rfl rfl rfl rfl (by kernel_rfl) Try.func11 (by kernel_rfl)
    (of_decide_eq_true (by kernel_rfl)) (by unfold Func.isWrapper; first | (rw [if_pos (by decide +kernel)]; kernel_rfl) | (rw [if_neg (by decide +kernel)]; exact ⟨rfl, rfl⟩))
    (fun os started H enc _ => lifted os started H enc)
theorem proved : Rows.CubeCornersSaid := over
#print axioms proved
end Go.Proofs.Ytngcaphdkgihmaa.cubeCorners
namespace Go.Proofs.Ytngcaphdkgihmaa
/-- The row, under a short name, for the claim. -/
theorem cubeCorners_holds : Rows.CubeCornersSaid := cubeCorners.proved
end Go.Proofs.Ytngcaphdkgihmaa

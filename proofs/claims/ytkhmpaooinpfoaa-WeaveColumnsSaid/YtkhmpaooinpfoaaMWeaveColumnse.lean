/- Own text: merged by wip/tools/pack.py out of what the law WeaveColumns reaches. -/
import Derived.Deep.Slices
import Derived.OpenShut
import Derived.ProofKit
import Derived.Laws.BitsLemmas
import Derived.Test.YtkhmpaooinpfoaaMWeaveColumnsa
import Derived.Test.YtkhmpaooinpfoaaMWeaveColumnsb
import Derived.Test.YtkhmpaooinpfoaaMWeaveColumnsc
import Derived.Test.YtkhmpaooinpfoaaMWeaveColumnsd
namespace Go.Proofs.Ytkhmpaooinpfoaa.P
open Go.RowKit Go.Proofs.YtkhmpaooinpfoaaW.PrintWords Go.Proofs.YtkhmpaooinpfoaaW.PrintLast Go.Proofs.YtkhmpaooinpfoaaW.PrintMore
attribute [local go_sem] z17 z19 z1j z1k zZ z10 z18 z1a   -- for this text's walks alone
set_option linter.unusedVariables false
set_option linter.unusedSimpArgs false
def zb.j0 : Nat → Int → List (List (S30)) → Bool → List (S30) → Int → Option (Bool)
 | 0,_,_,_,_,_=>none
 | k + 1,x0,x1,x23,x102000,x102001=>if x23 = true then ((zJ.f k).bind fun t103=>(some t103)) else ((zW.f k x1 x102001).bind fun bt104=>((zu.f k x1).bind fun t108=>((zf.f k t108 x102001).bind fun bt111=>((zz.f k x0 x1 x102000).bind fun bt115=>((zu.f k x1).bind fun t119=>((zy.f k x102000).bind fun t122=>((zg.f k x0 t119 t122).bind fun bt125=>((zJ.f k).bind fun t129=>(if t129 = true then ((zp.f k bt104.1 bt111.1).bind fun t130=>(if t130 = true then (if bt104.2 = bt111.2 then ((zp.f k bt115.1 bt125.1).bind fun t131=>(if t131 = true then (some (bt115.2 == bt125.2)) else (some false))) else (some false)) else (some false))) else (some false))))))))))
def zb.f (k : Nat) (a0 : Int) (l1 : List (List (S30))) (l2_0 : List (S30)) (a2_1 : Int) : Option (Bool):=(zK.f k l1 12 20).bind fun t102=>(if t102 = true then (zb.j0 k a0 l1 (decide ((l2_0.length : Int) > 20)) l2_0 a2_1) else (zb.j0 k a0 l1 true l2_0 a2_1))
theorem zb.z1b : ∀ k,(∀ y0 y1 y2 y3 y4,LeO (zb.j0 k y0 y1 y2 y3 y4) (zb.j0 (k + 1) y0 y1 y2 y3 y4))
 | 0=>fun _ _ _ _ _ r h=>by simp [zb.j0] at h
 | k + 1=>by
  have ih0:=zb.z1b k
  · intro y0 y1 y2 y3 y4
    unfold zb.j0
    repeat' first
    | (with_reducible exact ih0 _ _ _ _ _)
    | (with_reducible exact zy.mono _ _)
    | (with_reducible exact zp.mono _ _ _)
    | (with_reducible exact zK.mono _ _ _ _)
    | (with_reducible exact zu.mono _ _)
    | (with_reducible exact zJ.mono _)
    | (with_reducible exact zf.mono _ _ _)
    | (with_reducible exact zg.mono _ _ _ _)
    | (with_reducible exact zW.mono _ _ _)
    | (with_reducible exact zz.mono _ _ _ _)
    | (with_reducible exact LeO.refl _)
    | (with_reducible exact LeO.none _)
    | (with_reducible refine LeO.ite ?_ ?_)
    | (with_reducible refine LeO.bind ?_ (fun _=>?_))
    | exact ih0 _ _ _ _ _
    | exact zy.mono _ _
    | exact zp.mono _ _ _
    | exact zK.mono _ _ _ _
    | exact zu.mono _ _
    | exact zJ.mono _
    | exact zf.mono _ _ _
    | exact zg.mono _ _ _ _
    | exact zW.mono _ _ _
    | exact zz.mono _ _ _ _
    | exact LeO.none _
    | refine LeO.ite ?_ ?_
    | refine LeO.bind ?_ (fun _=>?_)
theorem zb.mono : ∀ a0 a1 a2 a3 k,LeO (zb.f k a0 a1 a2 a3) (zb.f (k + 1) a0 a1 a2 a3):=by
 intro a0 a1 a2 a3 k
 have ih0:=zb.z1b k
 unfold zb.f
 repeat' first
  | (with_reducible exact ih0 _ _ _ _ _)
  | (with_reducible exact zy.mono _ _)
  | (with_reducible exact zp.mono _ _ _)
  | (with_reducible exact zK.mono _ _ _ _)
  | (with_reducible exact zu.mono _ _)
  | (with_reducible exact zJ.mono _)
  | (with_reducible exact zf.mono _ _ _)
  | (with_reducible exact zg.mono _ _ _ _)
  | (with_reducible exact zW.mono _ _ _)
  | (with_reducible exact zz.mono _ _ _ _)
  | (with_reducible exact LeO.refl _)
  | (with_reducible exact LeO.none _)
  | (with_reducible refine LeO.ite ?_ ?_)
  | (with_reducible refine LeO.bind ?_ (fun _=>?_))
  | exact ih0 _ _ _ _ _
  | exact zy.mono _ _
  | exact zp.mono _ _ _
  | exact zK.mono _ _ _ _
  | exact zu.mono _ _
  | exact zJ.mono _
  | exact zf.mono _ _ _
  | exact zg.mono _ _ _ _
  | exact zW.mono _ _ _
  | exact zz.mono _ _ _ _
  | exact LeO.none _
  | refine LeO.ite ?_ ?_
  | refine LeO.bind ?_ (fun _=>?_)
def zb.T4 : Bool × List (List Nat × List Nat):=(true,[([],[]),([0],[0]),([],[]),([2],[2]),([1,3,1],[1,3]),([4],[4]),([5],[5]),([5],[5]),([6,4,0,1,2,3,4,5,6],[6]),([7,8,0,1,2,3,4,5,6,7,8],[7])])
def zb.B4 : List Nat:=[0,1,0,4,15,31,63,63,127,511]
theorem zb.tab4 : rtab .any (opsOf Try.f4 4) = zb.T4:=by kernel_rfl
theorem zb.bits4 : waitsOk zb.T4.2 zb.B4 = true:=by kernel_rfl
def zb.T6 : Bool × List (List Nat × List Nat):=(true,[([],[]),([],[]),([1],[1]),([],[]),([3],[3]),([4,2],[4]),([0,2,5,5],[0,2,5]),([6],[6]),([7],[7]),([7],[7]),([8,6,0,1,2,3,4,5,6,7,8],[8]),([9,10,0,1,2,3,4,5,6,7,8,9,10],[9])])
def zb.B6 : List Nat:=[0,0,2,0,8,30,63,127,255,255,511,2047]
theorem zb.tab6 : rtab .any (opsOf Try.f4 6) = zb.T6:=by kernel_rfl
theorem zb.bits6 : waitsOk zb.T6.2 zb.B6 = true:=by kernel_rfl
set_option maxHeartbeats 8000000 in
set_option maxRecDepth 100000 in
theorem zb.calls (k : Nat) (a0 : Int) (A1 : Option Addr) (c1 : Nat) (l1 : List (List (S30))) (A2_0 : Option Addr) (c2_0 : Nat) (l2_0 : List (S30)) (a2_1 : Int) (r : Bool) (w : World) (hr1 : Kd.C (Kd.slice 30 k30) w A1 l1.length l1) (hc1 : l1.length ≤ c1) (hr2_0 : Kd.C k30 w A2_0 l2_0.length l2_0) (hc2_0 : l2_0.length ≤ c2_0) (h : zb.f k a0 l1 l2_0 a2_1 = some r) :
 Calls Try.prog 4 #[.int .i64 a0,.slice A1 l1.length c1,.agg #[.slice A2_0 l2_0.length c2_0,.int .i64 a2_1]] w fun e w'=>e = .returned (.bool r) ∧ Below w.heap.size w w':=by
 have hu46:=Try.underlying46
 have HR1:=z2.mk hr1
 have HC1:=z2.mk hc1
 clear hr1 hc1
 have HR2_0:=z2.mk hr2_0
 have HC2_0:=z2.mk hc2_0
 clear hr2_0 hc2_0
 have HB:=z2.mk (Below.refl w.heap.size w)
 have H : ((zK.f k l1 12 20).bind fun t102=>(if t102 = true then (zb.j0 k a0 l1 (decide ((l2_0.length : Int) > 20)) l2_0 a2_1) else (zb.j0 k a0 l1 true l2_0 a2_1))) = some r:=h
 clear h
 have HC4:=z2.mk H
 clear H
 go_enter Try.func4,Try.ntmps4
 go_upto_region 1 with (first|((with_reducible refine zO (N:=5) rfl ?_);(try (refine z2g (by rfl) ?_;dsimp only));refine zM ?hg (N:=5) ?hd (cs:=#[.slice A2_0 l2_0.length c2_0,.int .i64 a2_1]) (t:=46) ?hr ?_;(case hd=>rfl);(case hg=>rfl);(case hr=>first|(go_simp;done)|(go_simp;rfl));intro gb101 hg w5 hbox hb;have n0_:=z2.mk (za (by repeat (first|(with_reducible first|exact HB.out|apply z4|apply z1|apply z3)|exact HB.out)) hb);have n1_:=z2.mk (hbox);have n2_:=z2.mk ((by rw [hg];exact (zc (by repeat (first|(with_reducible first|exact HB.out|apply z4|apply z1|apply z3)|exact HB.out))) : w.heap.size ≤ gb101));have n3_:=z2.mk ((by rw [hg];exact (zc (by repeat (first|(with_reducible first|exact HB.out|apply z4|apply z1|apply z3)|exact HB.out))) : w.heap.size ≤ gb101));clear HB;have HB:=n0_;have BK101:=n1_;have GW101:=n2_;have GE101:=n3_;clear n0_ n1_ n2_ n3_;clear hb hbox hg))
 (try simp only [Act.put,List.setIfInBounds_toArray,List.set_cons_zero,List.set_cons_succ])
 go_cut [23] (fun v23 wc=>∃ (kq : Nat) (x23_3 : Bool),v23 = .bool x23_3 ∧ z2 (zb.j0 kq a0 l1 x23_3 l2_0 a2_1 = some r) ∧ z2 (kq ≤ k) ∧ z2 (wc.heap[gb101]? = some (.cells #[(.slice A2_0 l2_0.length c2_0),.int .i64 a2_1] 46 (0,0))) ∧ z2 (Below w.heap.size w wc))
 case first =>
  have H:=HC4.out
  clear HC4
  replace H:=Option.bind_eq_some_iff.mp H
  obtain ⟨t102,A60,H⟩:=H
  replace H : (if t102 = true then (zb.j0 k a0 l1 (decide ((l2_0.length : Int) > 20)) l2_0 a2_1) else (zb.j0 k a0 l1 true l2_0 a2_1)) = some r:=H
  have A6:=z2.mk A60
  clear A60
  by_cases c7 : t102 = true
  · subst c7
    have H1 : (zb.j0 k a0 l1 (decide ((l2_0.length : Int) > 20)) l2_0 a2_1) = some r:=by rw [if_pos rfl] at H;exact H
    clear H
    have H:=H1
    clear H1
    have H':=z2.mk H
    clear H
    go_wp2_with (first|((with_reducible refine zm (f:=18) rfl ?_);refine goesL_ (some 16) rfl rfl Try.func18 (by kernel_rfl) rfl #[.slice A1 l1.length c1,.int .i64 12,.int .i64 20] rfl (by (try simp only [List.map_toArray,List.map_cons,List.map_nil]);first|done|rfl|(simp only [List.length_drop,List.length_take];rfl)) ?_;(with_reducible refine (zK.calls k _ _ l1 12 20 true _ ?side1 ?side2 A6.out).mono ?_);(case side1=>repeat (first|exact (Kd.z1h HR1.out HB.out)|(with_reducible refine Kd.zS ?_ _)|(with_reducible refine Kd.zT ?_ _)|(with_reducible refine Kd.z16 ?_)));(case side2=>exact HC1.out);rintro e w' ⟨rfl,⟨nd,rfl⟩⟩;refine ⟨_,rfl,?_⟩;have hcz8_0 : w5.cell? ⟨gb101,0,none⟩ = some (.slice A2_0 l2_0.length c2_0):=(z9 BK101.out 0).trans rfl;have hcz8_1 : w5.cell? ⟨gb101,1,none⟩ = some (.int .i64 a2_1):=(z9 BK101.out 1).trans rfl;have hfz8_0:=zd BK101.out 0;have hfz8_1:=zd BK101.out 1))
    go_meet
    case rel=>exact ⟨_,(decide ((l2_0.length : Int) > 20)),(by first|rfl|(simp;done)|(simp [*];done)),H',⟨by first|omega|exact Nat.le_refl _⟩,⟨by (with_reducible repeat (first|refine z6 ?_ _|refine z8 ?_|refine z5 ?_ _));exact BK101.out⟩,⟨by repeat (first|(with_reducible first|exact HB.out|apply z4|apply z1|apply z3|refine z7 ?_ GE101.out)|exact HB.out)⟩⟩
  replace c7:=Bool.eq_false_iff.mpr c7
  subst c7
  have H1 : (zb.j0 k a0 l1 true l2_0 a2_1) = some r:=by rw [if_neg (show ¬ (false = true) by decide)] at H;exact H
  clear H
  have H:=H1
  clear H1
  have H':=z2.mk H
  clear H
  go_wp2_with (first|((with_reducible refine zm (f:=18) rfl ?_);refine goesL_ (some 16) rfl rfl Try.func18 (by kernel_rfl) rfl #[.slice A1 l1.length c1,.int .i64 12,.int .i64 20] rfl (by (try simp only [List.map_toArray,List.map_cons,List.map_nil]);first|done|rfl|(simp only [List.length_drop,List.length_take];rfl)) ?_;(with_reducible refine (zK.calls k _ _ l1 12 20 false _ ?side1 ?side2 A6.out).mono ?_);(case side1=>repeat (first|exact (Kd.z1h HR1.out HB.out)|(with_reducible refine Kd.zS ?_ _)|(with_reducible refine Kd.zT ?_ _)|(with_reducible refine Kd.z16 ?_)));(case side2=>exact HC1.out);rintro e w' ⟨rfl,⟨nd,rfl⟩⟩;refine ⟨_,rfl,?_⟩))
  go_meet
  case rel=>exact ⟨_,(true),(by first|rfl|(simp;done)|(simp [*];done)),H',⟨by first|omega|exact Nat.le_refl _⟩,⟨by (with_reducible repeat (first|refine z6 ?_ _|refine z8 ?_|refine z5 ?_ _));exact BK101.out⟩,⟨by repeat (first|(with_reducible first|exact HB.out|apply z4|apply z1|apply z3|refine z7 ?_ GE101.out)|exact HB.out)⟩⟩
 case rest =>
  clear HC4
  (try clear c1);(try clear c2);(try clear p2);(try clear c4);(try clear c7);(try clear hcz8_0);(try clear hcz8_1);(try clear hfz8_0);(try clear hfz8_1)
  obtain ⟨kq,x23_3,rfl,HA,HJ3,BK101,HB⟩:=hcut
  cases kq with
  | zero=>exact absurd HA.out (by simp [zb.j0])
  | succ kj3 =>
   have H:=HA.out
   clear HA
   simp only [zb.j0] at H
   by_cases c9 : x23_3 = true
   · subst c9
     have H1 : ((zJ.f kj3).bind fun t103=>(some t103)) = some r:=by rw [if_pos rfl] at H;exact H
     clear H
     have H:=H1
     clear H1
     replace H:=Option.bind_eq_some_iff.mp H
     obtain ⟨t103,A100,H⟩:=H
     replace H : (some t103) = some r:=H
     have A10:=z2.mk A100
     clear A100
     obtain rfl:=Option.some.inj H
     go_wp2_with (first|((with_reducible refine zm (f:=19) rfl ?_);refine goesL_ (some 24) rfl rfl Try.func19 (by kernel_rfl) rfl #[] rfl (by (try simp only [List.map_toArray,List.map_cons,List.map_nil]);first|done|rfl|(simp only [List.length_drop,List.length_take];rfl)) ?_;(with_reducible refine (zJ.calls kj3  t103 _ A10.out).mono ?_);rintro e w11 ⟨rfl,hb⟩;refine ⟨_,rfl,?_⟩;have n0_:=z2.mk (ze (g:=gb101) (o:=.cells #[.slice A2_0 l2_0.length c2_0,.int .i64 a2_1] 46 (0,0)) (by (with_reducible repeat (first|refine z6 ?_ _|refine z8 ?_|refine z5 ?_ _));exact BK101.out) hb);have n1_:=z2.mk (za (by repeat (first|(with_reducible first|exact HB.out|apply z4|apply z1|apply z3|refine z7 ?_ GE101.out)|exact HB.out)) hb);clear BK101;clear HB;have BK101:=n0_;have HB:=n1_;clear n0_ n1_;(try clear hb);(try clear hb2);(try clear hk);(try clear hi)))
     go_ret
     exact ⟨by first|rfl|(simp [zh,zi] <;> rfl)|(simp [*,zh,zi] <;> rfl),by repeat (first|(with_reducible first|exact HB.out|apply z4|apply z1|apply z3|refine z7 ?_ GE101.out)|exact HB.out)⟩
   replace c9:=Bool.eq_false_iff.mpr c9
   subst c9
   have H1 : ((zW.f kj3 l1 a2_1).bind fun bt104=>((zu.f kj3 l1).bind fun t108=>((zf.f kj3 t108 a2_1).bind fun bt111=>((zz.f kj3 a0 l1 l2_0).bind fun bt115=>((zu.f kj3 l1).bind fun t119=>((zy.f kj3 l2_0).bind fun t122=>((zg.f kj3 a0 t119 t122).bind fun bt125=>((zJ.f kj3).bind fun t129=>(if t129 = true then ((zp.f kj3 bt104.1 bt111.1).bind fun t130=>(if t130 = true then (if bt104.2 = bt111.2 then ((zp.f kj3 bt115.1 bt125.1).bind fun t131=>(if t131 = true then (some (bt115.2 == bt125.2)) else (some false))) else (some false)) else (some false))) else (some false)))))))))) = some r:=by rw [if_neg (show ¬ (false = true) by decide)] at H;exact H
   clear H
   have H:=H1
   clear H1
   replace H:=Option.bind_eq_some_iff.mp H
   obtain ⟨⟨t104,t105⟩,A120,H⟩:=H
   replace H : ((zu.f kj3 l1).bind fun t108=>((zf.f kj3 t108 a2_1).bind fun bt111=>((zz.f kj3 a0 l1 l2_0).bind fun bt115=>((zu.f kj3 l1).bind fun t119=>((zy.f kj3 l2_0).bind fun t122=>((zg.f kj3 a0 t119 t122).bind fun bt125=>((zJ.f kj3).bind fun t129=>(if t129 = true then ((zp.f kj3 t104 bt111.1).bind fun t130=>(if t130 = true then (if t105 = bt111.2 then ((zp.f kj3 bt115.1 bt125.1).bind fun t131=>(if t131 = true then (some (bt115.2 == bt125.2)) else (some false))) else (some false)) else (some false))) else (some false))))))))) = some r:=H
   have A12:=z2.mk A120
   clear A120
   replace H:=Option.bind_eq_some_iff.mp H
   obtain ⟨t108,A130,H⟩:=H
   replace H : ((zf.f kj3 t108 a2_1).bind fun bt111=>((zz.f kj3 a0 l1 l2_0).bind fun bt115=>((zu.f kj3 l1).bind fun t119=>((zy.f kj3 l2_0).bind fun t122=>((zg.f kj3 a0 t119 t122).bind fun bt125=>((zJ.f kj3).bind fun t129=>(if t129 = true then ((zp.f kj3 t104 bt111.1).bind fun t130=>(if t130 = true then (if t105 = bt111.2 then ((zp.f kj3 bt115.1 bt125.1).bind fun t131=>(if t131 = true then (some (bt115.2 == bt125.2)) else (some false))) else (some false)) else (some false))) else (some false)))))))) = some r:=H
   have A13:=z2.mk A130
   clear A130
   replace H:=Option.bind_eq_some_iff.mp H
   obtain ⟨⟨t111,t112⟩,A140,H⟩:=H
   replace H : ((zz.f kj3 a0 l1 l2_0).bind fun bt115=>((zu.f kj3 l1).bind fun t119=>((zy.f kj3 l2_0).bind fun t122=>((zg.f kj3 a0 t119 t122).bind fun bt125=>((zJ.f kj3).bind fun t129=>(if t129 = true then ((zp.f kj3 t104 t111).bind fun t130=>(if t130 = true then (if t105 = t112 then ((zp.f kj3 bt115.1 bt125.1).bind fun t131=>(if t131 = true then (some (bt115.2 == bt125.2)) else (some false))) else (some false)) else (some false))) else (some false))))))) = some r:=H
   have A14:=z2.mk A140
   clear A140
   replace H:=Option.bind_eq_some_iff.mp H
   obtain ⟨⟨t115,t116⟩,A150,H⟩:=H
   replace H : ((zu.f kj3 l1).bind fun t119=>((zy.f kj3 l2_0).bind fun t122=>((zg.f kj3 a0 t119 t122).bind fun bt125=>((zJ.f kj3).bind fun t129=>(if t129 = true then ((zp.f kj3 t104 t111).bind fun t130=>(if t130 = true then (if t105 = t112 then ((zp.f kj3 t115 bt125.1).bind fun t131=>(if t131 = true then (some (t116 == bt125.2)) else (some false))) else (some false)) else (some false))) else (some false)))))) = some r:=H
   have A15:=z2.mk A150
   clear A150
   replace H:=Option.bind_eq_some_iff.mp H
   obtain ⟨t119,A160,H⟩:=H
   replace H : ((zy.f kj3 l2_0).bind fun t122=>((zg.f kj3 a0 t119 t122).bind fun bt125=>((zJ.f kj3).bind fun t129=>(if t129 = true then ((zp.f kj3 t104 t111).bind fun t130=>(if t130 = true then (if t105 = t112 then ((zp.f kj3 t115 bt125.1).bind fun t131=>(if t131 = true then (some (t116 == bt125.2)) else (some false))) else (some false)) else (some false))) else (some false))))) = some r:=H
   have A16:=z2.mk A160
   clear A160
   replace H:=Option.bind_eq_some_iff.mp H
   obtain ⟨t122,A170,H⟩:=H
   replace H : ((zg.f kj3 a0 t119 t122).bind fun bt125=>((zJ.f kj3).bind fun t129=>(if t129 = true then ((zp.f kj3 t104 t111).bind fun t130=>(if t130 = true then (if t105 = t112 then ((zp.f kj3 t115 bt125.1).bind fun t131=>(if t131 = true then (some (t116 == bt125.2)) else (some false))) else (some false)) else (some false))) else (some false)))) = some r:=H
   have A17:=z2.mk A170
   clear A170
   replace H:=Option.bind_eq_some_iff.mp H
   obtain ⟨⟨t125,t126⟩,A180,H⟩:=H
   replace H : ((zJ.f kj3).bind fun t129=>(if t129 = true then ((zp.f kj3 t104 t111).bind fun t130=>(if t130 = true then (if t105 = t112 then ((zp.f kj3 t115 t125).bind fun t131=>(if t131 = true then (some (t116 == t126)) else (some false))) else (some false)) else (some false))) else (some false))) = some r:=H
   have A18:=z2.mk A180
   clear A180
   replace H:=Option.bind_eq_some_iff.mp H
   obtain ⟨t129,A190,H⟩:=H
   replace H : (if t129 = true then ((zp.f kj3 t104 t111).bind fun t130=>(if t130 = true then (if t105 = t112 then ((zp.f kj3 t115 t125).bind fun t131=>(if t131 = true then (some (t116 == t126)) else (some false))) else (some false)) else (some false))) else (some false)) = some r:=H
   have A19:=z2.mk A190
   clear A190
   by_cases c20 : t129 = true
   rotate_left
   · replace c20:=Bool.eq_false_iff.mpr c20
     subst c20
     have H1 : (some false) = some r:=by rw [if_neg (show ¬ (false = true) by decide)] at H;exact H
     clear H
     have H:=H1
     clear H1
     obtain rfl:=Option.some.inj H
     have hcz98_0 : wc.cell? ⟨gb101,0,none⟩ = some (.slice A2_0 l2_0.length c2_0):=(z9 BK101.out 0).trans rfl
     have hcz98_1 : wc.cell? ⟨gb101,1,none⟩ = some (.int .i64 a2_1):=(z9 BK101.out 1).trans rfl
     have hfz98_0:=zd BK101.out 0
     have hfz98_1:=zd BK101.out 1
     try go_wp2_with (first|((with_reducible refine zm (f:=20) rfl ?_);refine goesL_ (some 29) rfl rfl Try.func20 (by kernel_rfl) rfl #[.slice A1 l1.length c1,.int .i64 a2_1] rfl (by (try simp only [List.map_toArray,List.map_cons,List.map_nil]);first|done|rfl|(simp only [List.length_drop,List.length_take];rfl)) ?_;(with_reducible refine (zW.calls kj3 _ _ l1 a2_1 t104 t105 _ ?side1 ?side2 A12.out).mono ?_);(case side1=>repeat (first|exact (Kd.z1h HR1.out HB.out)|(with_reducible refine Kd.zS ?_ _)|(with_reducible refine Kd.zT ?_ _)|(with_reducible refine Kd.z16 ?_)));(case side2=>exact HC1.out);rintro e w99 ⟨v106,rfl,ho0,hb⟩;refine ⟨_,rfl,?_⟩;have n0_:=z2.mk (Kd.z1o ho0 (zc (by repeat (first|(with_reducible first|exact HB.out|apply z4|apply z1|apply z3|refine z7 ?_ GE101.out)|exact HB.out))));have n1_:=z2.mk (ze (g:=gb101) (o:=.cells #[.slice A2_0 l2_0.length c2_0,.int .i64 a2_1] 46 (0,0)) (by (with_reducible repeat (first|refine z6 ?_ _|refine z8 ?_|refine z5 ?_ _));exact BK101.out) hb);have n2_:=z2.mk (za (by repeat (first|(with_reducible first|exact HB.out|apply z4|apply z1|apply z3|refine z7 ?_ GE101.out)|exact HB.out)) hb);clear BK101;clear HB;have HO107:=n0_;have BK101:=n1_;have HB:=n2_;clear n0_ n1_ n2_;(try clear hb);(try clear hb2);(try clear hk);(try clear hi);(try clear ho0)))
     have n0_:=z2.mk (Kd.zo HO107.out)
     have n1_:=z2.mk (z8 BK101.out)
     have n2_:=z2.mk (z3 HB.out)
     clear HO107
     clear BK101
     clear HB
     have HO107:=n0_
     have BK101:=n1_
     have HB:=n2_
     clear n0_ n1_ n2_
     refine start_ (n:=10) (S:=fun w'=>w'.cell? ⟨gb101,0,none⟩ = some (.slice A2_0 l2_0.length c2_0) ∧ w'.cell? ⟨gb101,1,none⟩ = some (.int .i64 a2_1)) (ds:=[]) #[false,false,false,false,false,false,false,false,false,false] (by kernel_rfl) rfl rfl ⟨(z9 BK101.out 0).trans rfl,(z9 BK101.out 1).trans rfl⟩ (fun hHeld=>?_);refine z1M zb.tab4 zb.bits4 (fun HT_ HW_=>?_)
     generalize w99.drew = w100 at HO107 BK101 HB hHeld ⊢
     refine pure_ (i:=0) (N:=some 33) (v:=?_) (a':=?_) #[true,false,false,false,false,false,false,false,false,false] rfl rfl (zL HT_.out (by kernel_rfl)) (fun _ _ _ h=>h) (Or.inl ⟨by rfl,?_⟩) ?_ ?_
     rotate_left
     · intro w'
       go_simp
       with_reducible rfl
     rotate_left
     · simp only [Act.put,List.setIfInBounds_toArray,List.set_cons_zero,List.set_cons_succ,zD,zG]
       rfl
     refine pure_ (i:=2) (N:=some 35) (v:=?_) (a':=?_) #[true,false,true,false,false,false,false,false,false,false] rfl rfl (zL HT_.out (by kernel_rfl)) (fun _ _ _ h=>h) (Or.inl ⟨by rfl,?_⟩) ?_ ?_
     rotate_left
     · intro w'
       go_simp
       with_reducible rfl
     rotate_left
     · simp only [Act.put,List.setIfInBounds_toArray,List.set_cons_zero,List.set_cons_succ,zD,zG]
       rfl
     refine take_ (i:=3) (N:=some 36) (v:=?_) (a':=?_) #[true,false,true,true,false,false,false,false,false,false] rfl rfl (z1y HT_.out HW_.out (by kernel_rfl)) (fun _ _ _ h=>h) (Or.inl ⟨by rfl,?_⟩) hHeld ?_ ?_
     rotate_left
     · rintro w' ⟨s0,s1⟩
       go_simp
       with_reducible rfl
     rotate_left
     · simp only [Act.put,List.setIfInBounds_toArray,List.set_cons_zero,List.set_cons_succ,zD,zG]
       rfl
     refine one_ (i:=1) (N:=some 34) #[true,true,true,true,false,false,false,false,false,false] rfl rfl (z1A HT_.out (by kernel_rfl)) (by decide) (fun K hK=>?_)
     refine goes_ Try.func22 (by kernel_rfl) rfl #[.slice A1 l1.length c1] (by rfl) rfl rfl (by (try simp only [List.map_toArray,List.map_cons,List.map_nil]);first|done|rfl|(simp only [List.length_drop,List.length_take];rfl)) ?_
     with_reducible refine (zu.calls kj3 _ _ l1 t108 _ ?side1 ?side2 A13.out).mono ?_
     (case side1=>repeat (first|exact (Kd.z1h HR1.out HB.out)|(with_reducible refine Kd.zS ?_ _)|(with_reducible refine Kd.zT ?_ _)|(with_reducible refine Kd.z16 ?_)))
     (case side2=>exact HC1.out)
     rintro e w101 ⟨v109,rfl,ho0,hb⟩
     refine ⟨_,rfl,?_⟩
     have n0_:=z2.mk (Kd.zE (by (with_reducible repeat (first|apply Kd.zj|apply Kd.zk|apply Kd.zo));exact HO107.out) hb)
     have n1_:=z2.mk (Kd.z2I ho0 (zc (by repeat (first|(with_reducible first|exact HB.out|apply z4|apply z1|apply z3|refine z7 ?_ GE101.out)|exact HB.out))))
     have n2_:=z2.mk (ze (g:=gb101) (o:=.cells #[.slice A2_0 l2_0.length c2_0,.int .i64 a2_1] 46 (0,0)) (by (with_reducible repeat (first|refine z6 ?_ _|refine z8 ?_|refine z5 ?_ _));exact BK101.out) hb)
     have n3_:=z2.mk (za (by repeat (first|(with_reducible first|exact HB.out|apply z4|apply z1|apply z3|refine z7 ?_ GE101.out)|exact HB.out)) hb)
     clear HO107
     clear BK101
     clear HB
     have HO107:=n0_
     have HO110:=n1_
     have BK101:=n2_
     have HB:=n3_
     clear n0_ n1_ n2_ n3_
     (try clear hb)
     (try clear hb2)
     (try clear hk)
     (try clear hi)
     (try clear ho0)
     obtain ⟨Ao102,co102,eo102⟩:=Kd.z2J HO110.out
     (first|subst eo102|(injection eo102 with f1_ f2_ f3_;have f4_:=f1_.symm;have f5_:=f3_.symm;clear f1_ f2_ f3_;subst f4_;subst f5_))
     refine hK.out _ _ ⟨(z9 BK101.out 0).trans rfl,(z9 BK101.out 1).trans rfl⟩ (fun hHeld=>?_)
     clear hK K
     refine norm_ (a':=?_) ?_ ?_
     rotate_left
     · show Act.put _ (some 34) _ = _
       simp only [Act.put,List.setIfInBounds_toArray,List.set_cons_zero,List.set_cons_succ,zD,zG]
       rfl
     refine one_ (i:=4) (N:=some 37) #[true,true,true,true,true,false,false,false,false,false] rfl rfl (z1A HT_.out (by kernel_rfl)) (by decide) (fun K hK=>?_)
     refine goes_ Try.func21 (by kernel_rfl) rfl #[.slice Ao102 t108.length co102,.int .i64 a2_1] (by rfl) rfl rfl (by (try simp only [List.map_toArray,List.map_cons,List.map_nil]);first|done|rfl|(simp only [List.length_drop,List.length_take];rfl)) ?_
     with_reducible refine (zf.calls kj3 _ _ t108 a2_1 t111 t112 _ ?side1 ?side2 A14.out).mono ?_
     (case side1=>repeat (first|exact (Kd.z1P HO110.out).2.2|(with_reducible refine Kd.zS ?_ _)|(with_reducible refine Kd.zT ?_ _)|(with_reducible refine Kd.z16 ?_)))
     (case side2=>exact (Kd.z1P HO110.out).2.1)
     rintro e w103 ⟨v113,rfl,ho0,hb⟩
     refine ⟨_,rfl,?_⟩
     have n0_:=z2.mk (Kd.zE (by (with_reducible repeat (first|apply Kd.zj|apply Kd.zk|apply Kd.zo));exact HO107.out) hb)
     have n1_:=z2.mk (Kd.z1x (by (with_reducible repeat (first|apply Kd.z1l|apply Kd.z1m|apply Kd.z1t));exact HO110.out) (Kd.z1v ho0) hb)
     have n2_:=z2.mk (Kd.z1o ho0 (zc (by repeat (first|(with_reducible first|exact HB.out|apply z4|apply z1|apply z3|refine z7 ?_ GE101.out)|exact HB.out))))
     have n3_:=z2.mk (ze (g:=gb101) (o:=.cells #[.slice A2_0 l2_0.length c2_0,.int .i64 a2_1] 46 (0,0)) (by (with_reducible repeat (first|refine z6 ?_ _|refine z8 ?_|refine z5 ?_ _));exact BK101.out) hb)
     have n4_:=z2.mk (za (by repeat (first|(with_reducible first|exact HB.out|apply z4|apply z1|apply z3|refine z7 ?_ GE101.out)|exact HB.out)) hb)
     clear HO107
     clear HO110
     clear BK101
     clear HB
     have HO107:=n0_
     have HO110:=n1_
     have HO114:=n2_
     have BK101:=n3_
     have HB:=n4_
     clear n0_ n1_ n2_ n3_ n4_
     (try clear hb)
     (try clear hb2)
     (try clear hk)
     (try clear hi)
     (try clear ho0)
     refine hK.out _ _ ⟨(z9 BK101.out 0).trans rfl,(z9 BK101.out 1).trans rfl⟩ (fun hHeld=>?_)
     clear hK K
     refine norm_ (a':=?_) ?_ ?_
     rotate_left
     · show Act.put _ (some 37) _ = _
       simp only [Act.put,List.setIfInBounds_toArray,List.set_cons_zero,List.set_cons_succ,zD,zG]
       rfl
     refine pure_ (i:=5) (N:=some 32) (v:=?_) (a':=?_) #[true,true,true,true,true,true,false,false,false,false] rfl rfl (zL HT_.out (by kernel_rfl)) (fun _ _ _ h=>h) (Or.inl ⟨by rfl,?_⟩) ?_ ?_
     rotate_left
     · intro w'
       go_simp
       with_reducible rfl
     rotate_left
     · simp only [Act.put,List.setIfInBounds_toArray,List.set_cons_zero,List.set_cons_succ,zD,zG]
       rfl
     refine pure_ (i:=6) (N:=some 38) (v:=?_) (a':=?_) #[true,true,true,true,true,true,true,false,false,false] rfl rfl (zL HT_.out (by kernel_rfl)) (fun _ _ _ h=>h) (Or.inl ⟨by rfl,?_⟩) ?_ ?_
     rotate_left
     · intro w'
       go_simp
       with_reducible rfl
     rotate_left
     · simp only [Act.put,List.setIfInBounds_toArray,List.set_cons_zero,List.set_cons_succ,zD,zG]
       rfl
     refine pure_ (i:=7) (N:=some 39) (v:=?_) (a':=?_) #[true,true,true,true,true,true,true,true,false,false] rfl rfl (zL HT_.out (by kernel_rfl)) (fun _ _ _ h=>h) (Or.inl ⟨by rfl,?_⟩) ?_ ?_
     rotate_left
     · intro w'
       go_simp
       with_reducible rfl
     rotate_left
     · simp only [Act.put,List.setIfInBounds_toArray,List.set_cons_zero,List.set_cons_succ,zD,zG]
       rfl
     refine pure_ (i:=8) (N:=some 9) (v:=?_) (a':=?_) #[true,true,true,true,true,true,true,true,true,false] rfl rfl (zL HT_.out (by kernel_rfl)) (fun _ _ _ h=>h) (Or.inl ⟨by rfl,?_⟩) ?_ ?_
     rotate_left
     · intro w'
       go_simp
       with_reducible rfl
     rotate_left
     · simp only [Act.put,List.setIfInBounds_toArray,List.set_cons_zero,List.set_cons_succ,zD,zG]
       rfl
     refine pure_ (i:=9) (N:=some 10) (v:=?_) (a':=?_) #[true,true,true,true,true,true,true,true,true,true] rfl rfl (zL HT_.out (by kernel_rfl)) (fun _ _ _ h=>h) (Or.inl ⟨by rfl,?_⟩) ?_ ?_
     rotate_left
     · intro w'
       go_simp
       with_reducible rfl
     rotate_left
     · simp only [Act.put,List.setIfInBounds_toArray,List.set_cons_zero,List.set_cons_succ,zD,zG]
       rfl
     refine done_ (z24 HT_.out (by kernel_rfl)) ?_
     have hcz104_0 : w103.cell? ⟨gb101,0,none⟩ = some (.slice A2_0 l2_0.length c2_0):=(z9 BK101.out 0).trans rfl
     have hcz104_1 : w103.cell? ⟨gb101,1,none⟩ = some (.int .i64 a2_1):=(z9 BK101.out 1).trans rfl
     have hfz104_0:=zd BK101.out 0
     have hfz104_1:=zd BK101.out 1
     try go_wp2_with (first|((with_reducible refine zm (f:=23) rfl ?_);refine goesL_ (some 45) rfl rfl Try.func23 (by kernel_rfl) rfl #[.int .i64 a0,.slice A1 l1.length c1,.slice A2_0 l2_0.length c2_0] rfl (by (try simp only [List.map_toArray,List.map_cons,List.map_nil]);first|done|rfl|(simp only [List.length_drop,List.length_take];rfl)) ?_;(with_reducible refine (zz.calls kj3 a0 _ _ l1 _ _ l2_0 t115 t116 _ ?side1 ?side2 ?side3 ?side4 A15.out).mono ?_);(case side1=>repeat (first|exact (Kd.z1h HR1.out HB.out)|(with_reducible refine Kd.zS ?_ _)|(with_reducible refine Kd.zT ?_ _)|(with_reducible refine Kd.z16 ?_)));(case side2=>exact HC1.out);(case side3=>repeat (first|exact (Kd.z1h HR2_0.out HB.out)|(with_reducible refine Kd.zS ?_ _)|(with_reducible refine Kd.zT ?_ _)|(with_reducible refine Kd.z16 ?_)));(case side4=>exact HC2_0.out);rintro e w105 ⟨v117,rfl,ho0,hb⟩;refine ⟨_,rfl,?_⟩;have n0_:=z2.mk (Kd.z1C (by (with_reducible repeat (first|apply Kd.zj|apply Kd.zk|apply Kd.zo));exact HO107.out) (Kd.z1v ho0) hb);have n1_:=z2.mk (Kd.z26 (by (with_reducible repeat (first|apply Kd.z1l|apply Kd.z1m|apply Kd.z1t));exact HO110.out) hb);have n2_:=z2.mk (Kd.zE (by (with_reducible repeat (first|apply Kd.zj|apply Kd.zk|apply Kd.zo));exact HO114.out) hb);have n3_:=z2.mk (Kd.z1o (Kd.z21 ho0 (Kd.R_lt (by (with_reducible repeat (first|apply Kd.zj|apply Kd.zk|apply Kd.zo));exact HO107.out))) (zc (by repeat (first|(with_reducible first|exact HB.out|apply z4|apply z1|apply z3|refine z7 ?_ GE101.out)|exact HB.out))));have n4_:=z2.mk (ze (g:=gb101) (o:=.cells #[.slice A2_0 l2_0.length c2_0,.int .i64 a2_1] 46 (0,0)) (by (with_reducible repeat (first|refine z6 ?_ _|refine z8 ?_|refine z5 ?_ _));exact BK101.out) hb);have n5_:=z2.mk (za (by repeat (first|(with_reducible first|exact HB.out|apply z4|apply z1|apply z3|refine z7 ?_ GE101.out)|exact HB.out)) hb);clear HO107;clear HO110;clear HO114;clear BK101;clear HB;have HO107:=n0_;have HO110:=n1_;have HO114:=n2_;have HO118:=n3_;have BK101:=n4_;have HB:=n5_;clear n0_ n1_ n2_ n3_ n4_ n5_;(try clear hb);(try clear hb2);(try clear hk);(try clear hi);(try clear ho0)))
     have n0_:=z2.mk (Kd.zo HO107.out)
     have n1_:=z2.mk (Kd.z1t HO110.out)
     have n2_:=z2.mk (Kd.zo HO114.out)
     have n3_:=z2.mk (Kd.zo HO118.out)
     have n4_:=z2.mk (z8 BK101.out)
     have n5_:=z2.mk (z3 HB.out)
     clear HO107
     clear HO110
     clear HO114
     clear HO118
     clear BK101
     clear HB
     have HO107:=n0_
     have HO110:=n1_
     have HO114:=n2_
     have HO118:=n3_
     have BK101:=n4_
     have HB:=n5_
     clear n0_ n1_ n2_ n3_ n4_ n5_
     refine start_ (n:=12) (S:=fun w'=>w'.cell? ⟨gb101,0,none⟩ = some (.slice A2_0 l2_0.length c2_0) ∧ w'.cell? ⟨gb101,1,none⟩ = some (.int .i64 a2_1)) (ds:=[]) #[false,false,false,false,false,false,false,false,false,false,false,false] (by kernel_rfl) rfl rfl ⟨(z9 BK101.out 0).trans rfl,(z9 BK101.out 1).trans rfl⟩ (fun hHeld=>?_);refine z1M zb.tab6 zb.bits6 (fun HT_ HW_=>?_)
     generalize w105.drew = w106 at HO107 HO110 HO114 HO118 BK101 HB hHeld ⊢
     refine pure_ (i:=0) (N:=some 49) (v:=?_) (a':=?_) #[true,false,false,false,false,false,false,false,false,false,false,false] rfl rfl (zL HT_.out (by kernel_rfl)) (fun _ _ _ h=>h) (Or.inl ⟨by rfl,?_⟩) ?_ ?_
     rotate_left
     · intro w'
       go_simp
       with_reducible rfl
     rotate_left
     · simp only [Act.put,List.setIfInBounds_toArray,List.set_cons_zero,List.set_cons_succ,zD,zG]
       rfl
     refine pure_ (i:=1) (N:=some 50) (v:=?_) (a':=?_) #[true,true,false,false,false,false,false,false,false,false,false,false] rfl rfl (zL HT_.out (by kernel_rfl)) (fun _ _ _ h=>h) (Or.inl ⟨by rfl,?_⟩) ?_ ?_
     rotate_left
     · intro w'
       go_simp
       with_reducible rfl
     rotate_left
     · simp only [Act.put,List.setIfInBounds_toArray,List.set_cons_zero,List.set_cons_succ,zD,zG]
       rfl
     refine pure_ (i:=3) (N:=some 52) (v:=?_) (a':=?_) #[true,true,false,true,false,false,false,false,false,false,false,false] rfl rfl (zL HT_.out (by kernel_rfl)) (fun _ _ _ h=>h) (Or.inl ⟨by rfl,?_⟩) ?_ ?_
     rotate_left
     · intro w'
       go_simp
       with_reducible rfl
     rotate_left
     · simp only [Act.put,List.setIfInBounds_toArray,List.set_cons_zero,List.set_cons_succ,zD,zG]
       rfl
     refine take_ (i:=4) (N:=some 53) (v:=?_) (a':=?_) #[true,true,false,true,true,false,false,false,false,false,false,false] rfl rfl (z1y HT_.out HW_.out (by kernel_rfl)) (fun _ _ _ h=>h) (Or.inl ⟨by rfl,?_⟩) hHeld ?_ ?_
     rotate_left
     · rintro w' ⟨s0,s1⟩
       go_simp
       with_reducible rfl
     rotate_left
     · simp only [Act.put,List.setIfInBounds_toArray,List.set_cons_zero,List.set_cons_succ,zD,zG]
       rfl
     refine one_ (i:=2) (N:=some 51) #[true,true,true,true,true,false,false,false,false,false,false,false] rfl rfl (z1A HT_.out (by kernel_rfl)) (by decide) (fun K hK=>?_)
     refine goes_ Try.func22 (by kernel_rfl) rfl #[.slice A1 l1.length c1] (by rfl) rfl rfl (by (try simp only [List.map_toArray,List.map_cons,List.map_nil]);first|done|rfl|(simp only [List.length_drop,List.length_take];rfl)) ?_
     with_reducible refine (zu.calls kj3 _ _ l1 t119 _ ?side1 ?side2 A16.out).mono ?_
     (case side1=>repeat (first|exact (Kd.z1h HR1.out HB.out)|(with_reducible refine Kd.zS ?_ _)|(with_reducible refine Kd.zT ?_ _)|(with_reducible refine Kd.z16 ?_)))
     (case side2=>exact HC1.out)
     rintro e w107 ⟨v120,rfl,ho0,hb⟩
     refine ⟨_,rfl,?_⟩
     have n0_:=z2.mk (Kd.zE (by (with_reducible repeat (first|apply Kd.zj|apply Kd.zk|apply Kd.zo));exact HO107.out) hb)
     have n1_:=z2.mk (Kd.z1x (by (with_reducible repeat (first|apply Kd.z1l|apply Kd.z1m|apply Kd.z1t));exact HO110.out) (Kd.z5j ho0) hb)
     have n2_:=z2.mk (Kd.zE (by (with_reducible repeat (first|apply Kd.zj|apply Kd.zk|apply Kd.zo));exact HO114.out) hb)
     have n3_:=z2.mk (Kd.zE (by (with_reducible repeat (first|apply Kd.zj|apply Kd.zk|apply Kd.zo));exact HO118.out) hb)
     have n4_:=z2.mk (Kd.z2I (Kd.z3l (Kd.z3l ho0 (Kd.S_lt (by (with_reducible repeat (first|apply Kd.z1l|apply Kd.z1m|apply Kd.z1t));exact HO110.out))) (Kd.R_lt (by (with_reducible repeat (first|apply Kd.zj|apply Kd.zk|apply Kd.zo));exact HO114.out))) (zc (by repeat (first|(with_reducible first|exact HB.out|apply z4|apply z1|apply z3|refine z7 ?_ GE101.out)|exact HB.out))))
     have n5_:=z2.mk (ze (g:=gb101) (o:=.cells #[.slice A2_0 l2_0.length c2_0,.int .i64 a2_1] 46 (0,0)) (by (with_reducible repeat (first|refine z6 ?_ _|refine z8 ?_|refine z5 ?_ _));exact BK101.out) hb)
     have n6_:=z2.mk (za (by repeat (first|(with_reducible first|exact HB.out|apply z4|apply z1|apply z3|refine z7 ?_ GE101.out)|exact HB.out)) hb)
     clear HO107
     clear HO110
     clear HO114
     clear HO118
     clear BK101
     clear HB
     have HO107:=n0_
     have HO110:=n1_
     have HO114:=n2_
     have HO118:=n3_
     have HO121:=n4_
     have BK101:=n5_
     have HB:=n6_
     clear n0_ n1_ n2_ n3_ n4_ n5_ n6_
     (try clear hb)
     (try clear hb2)
     (try clear hk)
     (try clear hi)
     (try clear ho0)
     refine hK.out _ _ ⟨(z9 BK101.out 0).trans rfl,(z9 BK101.out 1).trans rfl⟩ (fun hHeld=>?_)
     clear hK K
     refine norm_ (a':=?_) ?_ ?_
     rotate_left
     · show Act.put _ (some 51) _ = _
       simp only [Act.put,List.setIfInBounds_toArray,List.set_cons_zero,List.set_cons_succ,zD,zG]
       rfl
     refine one_ (i:=5) (N:=some 54) #[true,true,true,true,true,true,false,false,false,false,false,false] rfl rfl (z1A HT_.out (by kernel_rfl)) (by decide) (fun K hK=>?_)
     refine goes_ Try.func14 (by kernel_rfl) rfl #[.slice A2_0 l2_0.length c2_0] (by rfl) rfl rfl (by (try simp only [List.map_toArray,List.map_cons,List.map_nil]);first|done|rfl|(simp only [List.length_drop,List.length_take];rfl)) ?_
     with_reducible refine (zy.calls kj3 _ _ l2_0 t122 _ ?side1 ?side2 A17.out).mono ?_
     (case side1=>repeat (first|exact (Kd.z1h HR2_0.out HB.out)|(with_reducible refine Kd.zS ?_ _)|(with_reducible refine Kd.zT ?_ _)|(with_reducible refine Kd.z16 ?_)))
     (case side2=>exact HC2_0.out)
     rintro e w108 ⟨v123,rfl,ho0,hb⟩
     refine ⟨_,rfl,?_⟩
     have n0_:=z2.mk (Kd.zE (by (with_reducible repeat (first|apply Kd.zj|apply Kd.zk|apply Kd.zo));exact HO107.out) hb)
     have n1_:=z2.mk (Kd.z1x (by (with_reducible repeat (first|apply Kd.z1l|apply Kd.z1m|apply Kd.z1t));exact HO110.out) (Kd.z1v ho0) hb)
     have n2_:=z2.mk (Kd.z1C (by (with_reducible repeat (first|apply Kd.zj|apply Kd.zk|apply Kd.zo));exact HO114.out) (Kd.z1v ho0) hb)
     have n3_:=z2.mk (Kd.zE (by (with_reducible repeat (first|apply Kd.zj|apply Kd.zk|apply Kd.zo));exact HO118.out) hb)
     have n4_:=z2.mk (Kd.z1x (by (with_reducible repeat (first|apply Kd.z1l|apply Kd.z1m|apply Kd.z1t));exact HO121.out) (Kd.z1v ho0) hb)
     have n5_:=z2.mk (Kd.z1o (Kd.z21 ho0 (Kd.R_lt (by (with_reducible repeat (first|apply Kd.zj|apply Kd.zk|apply Kd.zo));exact HO114.out))) (zc (by repeat (first|(with_reducible first|exact HB.out|apply z4|apply z1|apply z3|refine z7 ?_ GE101.out)|exact HB.out))))
     have n6_:=z2.mk (ze (g:=gb101) (o:=.cells #[.slice A2_0 l2_0.length c2_0,.int .i64 a2_1] 46 (0,0)) (by (with_reducible repeat (first|refine z6 ?_ _|refine z8 ?_|refine z5 ?_ _));exact BK101.out) hb)
     have n7_:=z2.mk (za (by repeat (first|(with_reducible first|exact HB.out|apply z4|apply z1|apply z3|refine z7 ?_ GE101.out)|exact HB.out)) hb)
     clear HO107
     clear HO110
     clear HO114
     clear HO118
     clear HO121
     clear BK101
     clear HB
     have HO107:=n0_
     have HO110:=n1_
     have HO114:=n2_
     have HO118:=n3_
     have HO121:=n4_
     have HO124:=n5_
     have BK101:=n6_
     have HB:=n7_
     clear n0_ n1_ n2_ n3_ n4_ n5_ n6_ n7_
     (try clear hb)
     (try clear hb2)
     (try clear hk)
     (try clear hi)
     (try clear ho0)
     obtain ⟨Ao109,co109,eo109⟩:=Kd.z2J HO121.out
     (first|subst eo109|(injection eo109 with f1_ f2_ f3_;have f4_:=f1_.symm;have f5_:=f3_.symm;clear f1_ f2_ f3_;subst f4_;subst f5_))
     obtain ⟨Ao110,co110,eo110⟩:=Kd.z1s HO124.out
     (first|subst eo110|(injection eo110 with f1_ f2_ f3_;have f4_:=f1_.symm;have f5_:=f3_.symm;clear f1_ f2_ f3_;subst f4_;subst f5_))
     refine hK.out _ _ ⟨(z9 BK101.out 0).trans rfl,(z9 BK101.out 1).trans rfl⟩ (fun hHeld=>?_)
     clear hK K
     refine norm_ (a':=?_) ?_ ?_
     rotate_left
     · show Act.put _ (some 54) _ = _
       simp only [Act.put,List.setIfInBounds_toArray,List.set_cons_zero,List.set_cons_succ,zD,zG]
       rfl
     refine one_ (i:=6) (N:=some 55) #[true,true,true,true,true,true,true,false,false,false,false,false] rfl rfl (z1A HT_.out (by kernel_rfl)) (by decide) (fun K hK=>?_)
     refine goes_ Try.func24 (by kernel_rfl) rfl #[.int .i64 a0,.slice Ao109 t119.length co109,.slice Ao110 t122.length co110] (by rfl) rfl rfl (by (try simp only [List.map_toArray,List.map_cons,List.map_nil]);first|done|rfl|(simp only [List.length_drop,List.length_take];rfl)) ?_
     with_reducible refine (zg.calls kj3 a0 _ _ t119 _ _ t122 t125 t126 _ ?side1 ?side2 ?side3 ?side4 A18.out).mono ?_
     (case side1=>repeat (first|exact (Kd.z1P HO121.out).2.2|(with_reducible refine Kd.zS ?_ _)|(with_reducible refine Kd.zT ?_ _)|(with_reducible refine Kd.z16 ?_)))
     (case side2=>exact (Kd.z1P HO121.out).2.1)
     (case side3=>repeat (first|exact (Kd.zI HO124.out).2.2|(with_reducible refine Kd.zS ?_ _)|(with_reducible refine Kd.zT ?_ _)|(with_reducible refine Kd.z16 ?_)))
     (case side4=>exact (Kd.zI HO124.out).2.1)
     rintro e w111 ⟨v127,rfl,ho0,hb⟩
     refine ⟨_,rfl,?_⟩
     have n0_:=z2.mk (Kd.zE (by (with_reducible repeat (first|apply Kd.zj|apply Kd.zk|apply Kd.zo));exact HO107.out) hb)
     have n1_:=z2.mk (Kd.z1x (by (with_reducible repeat (first|apply Kd.z1l|apply Kd.z1m|apply Kd.z1t));exact HO110.out) (Kd.z1v ho0) hb)
     have n2_:=z2.mk (Kd.z1C (by (with_reducible repeat (first|apply Kd.zj|apply Kd.zk|apply Kd.zo));exact HO114.out) (Kd.z1v ho0) hb)
     have n3_:=z2.mk (Kd.zE (by (with_reducible repeat (first|apply Kd.zj|apply Kd.zk|apply Kd.zo));exact HO118.out) hb)
     have n4_:=z2.mk (Kd.z1x (by (with_reducible repeat (first|apply Kd.z1l|apply Kd.z1m|apply Kd.z1t));exact HO121.out) (Kd.z1v ho0) hb)
     have n5_:=z2.mk (Kd.z1C (by (with_reducible repeat (first|apply Kd.zj|apply Kd.zk|apply Kd.zo));exact HO124.out) (Kd.z1v ho0) hb)
     have n6_:=z2.mk (Kd.z1o (Kd.z21 (Kd.z21 ho0 (Kd.R_lt (by (with_reducible repeat (first|apply Kd.zj|apply Kd.zk|apply Kd.zo));exact HO114.out))) (Kd.R_lt (by (with_reducible repeat (first|apply Kd.zj|apply Kd.zk|apply Kd.zo));exact HO124.out))) (zc (by repeat (first|(with_reducible first|exact HB.out|apply z4|apply z1|apply z3|refine z7 ?_ GE101.out)|exact HB.out))))
     have n7_:=z2.mk (ze (g:=gb101) (o:=.cells #[.slice A2_0 l2_0.length c2_0,.int .i64 a2_1] 46 (0,0)) (by (with_reducible repeat (first|refine z6 ?_ _|refine z8 ?_|refine z5 ?_ _));exact BK101.out) hb)
     have n8_:=z2.mk (za (by repeat (first|(with_reducible first|exact HB.out|apply z4|apply z1|apply z3|refine z7 ?_ GE101.out)|exact HB.out)) hb)
     clear HO107
     clear HO110
     clear HO114
     clear HO118
     clear HO121
     clear HO124
     clear BK101
     clear HB
     have HO107:=n0_
     have HO110:=n1_
     have HO114:=n2_
     have HO118:=n3_
     have HO121:=n4_
     have HO124:=n5_
     have HO128:=n6_
     have BK101:=n7_
     have HB:=n8_
     clear n0_ n1_ n2_ n3_ n4_ n5_ n6_ n7_ n8_
     (try clear hb)
     (try clear hb2)
     (try clear hk)
     (try clear hi)
     (try clear ho0)
     refine hK.out _ _ ⟨(z9 BK101.out 0).trans rfl,(z9 BK101.out 1).trans rfl⟩ (fun hHeld=>?_)
     clear hK K
     refine norm_ (a':=?_) ?_ ?_
     rotate_left
     · show Act.put _ (some 55) _ = _
       simp only [Act.put,List.setIfInBounds_toArray,List.set_cons_zero,List.set_cons_succ,zD,zG]
       rfl
     refine pure_ (i:=7) (N:=some 48) (v:=?_) (a':=?_) #[true,true,true,true,true,true,true,true,false,false,false,false] rfl rfl (zL HT_.out (by kernel_rfl)) (fun _ _ _ h=>h) (Or.inl ⟨by rfl,?_⟩) ?_ ?_
     rotate_left
     · intro w'
       go_simp
       with_reducible rfl
     rotate_left
     · simp only [Act.put,List.setIfInBounds_toArray,List.set_cons_zero,List.set_cons_succ,zD,zG]
       rfl
     refine pure_ (i:=8) (N:=some 56) (v:=?_) (a':=?_) #[true,true,true,true,true,true,true,true,true,false,false,false] rfl rfl (zL HT_.out (by kernel_rfl)) (fun _ _ _ h=>h) (Or.inl ⟨by rfl,?_⟩) ?_ ?_
     rotate_left
     · intro w'
       go_simp
       with_reducible rfl
     rotate_left
     · simp only [Act.put,List.setIfInBounds_toArray,List.set_cons_zero,List.set_cons_succ,zD,zG]
       rfl
     refine pure_ (i:=9) (N:=some 57) (v:=?_) (a':=?_) #[true,true,true,true,true,true,true,true,true,true,false,false] rfl rfl (zL HT_.out (by kernel_rfl)) (fun _ _ _ h=>h) (Or.inl ⟨by rfl,?_⟩) ?_ ?_
     rotate_left
     · intro w'
       go_simp
       with_reducible rfl
     rotate_left
     · simp only [Act.put,List.setIfInBounds_toArray,List.set_cons_zero,List.set_cons_succ,zD,zG]
       rfl
     refine pure_ (i:=10) (N:=some 13) (v:=?_) (a':=?_) #[true,true,true,true,true,true,true,true,true,true,true,false] rfl rfl (zL HT_.out (by kernel_rfl)) (fun _ _ _ h=>h) (Or.inl ⟨by rfl,?_⟩) ?_ ?_
     rotate_left
     · intro w'
       go_simp
       with_reducible rfl
     rotate_left
     · simp only [Act.put,List.setIfInBounds_toArray,List.set_cons_zero,List.set_cons_succ,zD,zG]
       rfl
     refine pure_ (i:=11) (N:=some 14) (v:=?_) (a':=?_) #[true,true,true,true,true,true,true,true,true,true,true,true] rfl rfl (zL HT_.out (by kernel_rfl)) (fun _ _ _ h=>h) (Or.inl ⟨by rfl,?_⟩) ?_ ?_
     rotate_left
     · intro w'
       go_simp
       with_reducible rfl
     rotate_left
     · simp only [Act.put,List.setIfInBounds_toArray,List.set_cons_zero,List.set_cons_succ,zD,zG]
       rfl
     refine done_ (z24 HT_.out (by kernel_rfl)) ?_
     try go_wp2_with (first|((with_reducible refine zm (f:=19) rfl ?_);refine goesL_ (some 58) rfl rfl Try.func19 (by kernel_rfl) rfl #[] rfl (by (try simp only [List.map_toArray,List.map_cons,List.map_nil]);first|done|rfl|(simp only [List.length_drop,List.length_take];rfl)) ?_;(with_reducible refine (zJ.calls kj3  false _ A19.out).mono ?_);rintro e w112 ⟨rfl,hb⟩;refine ⟨_,rfl,?_⟩;have n0_:=z2.mk (Kd.zE (by (with_reducible repeat (first|apply Kd.zj|apply Kd.zk|apply Kd.zo));exact HO107.out) hb);have n1_:=z2.mk (Kd.z26 (by (with_reducible repeat (first|apply Kd.z1l|apply Kd.z1m|apply Kd.z1t));exact HO110.out) hb);have n2_:=z2.mk (Kd.zE (by (with_reducible repeat (first|apply Kd.zj|apply Kd.zk|apply Kd.zo));exact HO114.out) hb);have n3_:=z2.mk (Kd.zE (by (with_reducible repeat (first|apply Kd.zj|apply Kd.zk|apply Kd.zo));exact HO118.out) hb);have n4_:=z2.mk (Kd.z26 (by (with_reducible repeat (first|apply Kd.z1l|apply Kd.z1m|apply Kd.z1t));exact HO121.out) hb);have n5_:=z2.mk (Kd.zE (by (with_reducible repeat (first|apply Kd.zj|apply Kd.zk|apply Kd.zo));exact HO124.out) hb);have n6_:=z2.mk (Kd.zE (by (with_reducible repeat (first|apply Kd.zj|apply Kd.zk|apply Kd.zo));exact HO128.out) hb);have n7_:=z2.mk (ze (g:=gb101) (o:=.cells #[.slice A2_0 l2_0.length c2_0,.int .i64 a2_1] 46 (0,0)) (by (with_reducible repeat (first|refine z6 ?_ _|refine z8 ?_|refine z5 ?_ _));exact BK101.out) hb);have n8_:=z2.mk (za (by repeat (first|(with_reducible first|exact HB.out|apply z4|apply z1|apply z3|refine z7 ?_ GE101.out)|exact HB.out)) hb);clear HO107;clear HO110;clear HO114;clear HO118;clear HO121;clear HO124;clear HO128;clear BK101;clear HB;have HO107:=n0_;have HO110:=n1_;have HO114:=n2_;have HO118:=n3_;have HO121:=n4_;have HO124:=n5_;have HO128:=n6_;have BK101:=n7_;have HB:=n8_;clear n0_ n1_ n2_ n3_ n4_ n5_ n6_ n7_ n8_;(try clear hb);(try clear hb2);(try clear hk);(try clear hi)))
     go_ret
     exact ⟨by first|rfl|(simp [zh,zi] <;> rfl)|(simp [*,zh,zi] <;> rfl),by repeat (first|(with_reducible first|exact HB.out|apply z4|apply z1|apply z3|refine z7 ?_ GE101.out)|exact HB.out)⟩
   subst c20
   have H1 : ((zp.f kj3 t104 t111).bind fun t130=>(if t130 = true then (if t105 = t112 then ((zp.f kj3 t115 t125).bind fun t131=>(if t131 = true then (some (t116 == t126)) else (some false))) else (some false)) else (some false))) = some r:=by rw [if_pos rfl] at H;exact H
   clear H
   have H:=H1
   clear H1
   replace H:=Option.bind_eq_some_iff.mp H
   obtain ⟨t130,A210,H⟩:=H
   replace H : (if t130 = true then (if t105 = t112 then ((zp.f kj3 t115 t125).bind fun t131=>(if t131 = true then (some (t116 == t126)) else (some false))) else (some false)) else (some false)) = some r:=H
   have A21:=z2.mk A210
   clear A210
   by_cases c22 : t130 = true
   rotate_left
   · replace c22:=Bool.eq_false_iff.mpr c22
     subst c22
     have H1 : (some false) = some r:=by rw [if_neg (show ¬ (false = true) by decide)] at H;exact H
     clear H
     have H:=H1
     clear H1
     obtain rfl:=Option.some.inj H
     have hcz81_0 : wc.cell? ⟨gb101,0,none⟩ = some (.slice A2_0 l2_0.length c2_0):=(z9 BK101.out 0).trans rfl
     have hcz81_1 : wc.cell? ⟨gb101,1,none⟩ = some (.int .i64 a2_1):=(z9 BK101.out 1).trans rfl
     have hfz81_0:=zd BK101.out 0
     have hfz81_1:=zd BK101.out 1
     try go_wp2_with (first|((with_reducible refine zm (f:=20) rfl ?_);refine goesL_ (some 29) rfl rfl Try.func20 (by kernel_rfl) rfl #[.slice A1 l1.length c1,.int .i64 a2_1] rfl (by (try simp only [List.map_toArray,List.map_cons,List.map_nil]);first|done|rfl|(simp only [List.length_drop,List.length_take];rfl)) ?_;(with_reducible refine (zW.calls kj3 _ _ l1 a2_1 t104 t105 _ ?side1 ?side2 A12.out).mono ?_);(case side1=>repeat (first|exact (Kd.z1h HR1.out HB.out)|(with_reducible refine Kd.zS ?_ _)|(with_reducible refine Kd.zT ?_ _)|(with_reducible refine Kd.z16 ?_)));(case side2=>exact HC1.out);rintro e w82 ⟨v106,rfl,ho0,hb⟩;refine ⟨_,rfl,?_⟩;have n0_:=z2.mk (Kd.z1o ho0 (zc (by repeat (first|(with_reducible first|exact HB.out|apply z4|apply z1|apply z3|refine z7 ?_ GE101.out)|exact HB.out))));have n1_:=z2.mk (ze (g:=gb101) (o:=.cells #[.slice A2_0 l2_0.length c2_0,.int .i64 a2_1] 46 (0,0)) (by (with_reducible repeat (first|refine z6 ?_ _|refine z8 ?_|refine z5 ?_ _));exact BK101.out) hb);have n2_:=z2.mk (za (by repeat (first|(with_reducible first|exact HB.out|apply z4|apply z1|apply z3|refine z7 ?_ GE101.out)|exact HB.out)) hb);clear BK101;clear HB;have HO107:=n0_;have BK101:=n1_;have HB:=n2_;clear n0_ n1_ n2_;(try clear hb);(try clear hb2);(try clear hk);(try clear hi);(try clear ho0)))
     have n0_:=z2.mk (Kd.zo HO107.out)
     have n1_:=z2.mk (z8 BK101.out)
     have n2_:=z2.mk (z3 HB.out)
     clear HO107
     clear BK101
     clear HB
     have HO107:=n0_
     have BK101:=n1_
     have HB:=n2_
     clear n0_ n1_ n2_
     refine start_ (n:=10) (S:=fun w'=>w'.cell? ⟨gb101,0,none⟩ = some (.slice A2_0 l2_0.length c2_0) ∧ w'.cell? ⟨gb101,1,none⟩ = some (.int .i64 a2_1)) (ds:=[]) #[false,false,false,false,false,false,false,false,false,false] (by kernel_rfl) rfl rfl ⟨(z9 BK101.out 0).trans rfl,(z9 BK101.out 1).trans rfl⟩ (fun hHeld=>?_);refine z1M zb.tab4 zb.bits4 (fun HT_ HW_=>?_)
     generalize w82.drew = w83 at HO107 BK101 HB hHeld ⊢
     refine pure_ (i:=0) (N:=some 33) (v:=?_) (a':=?_) #[true,false,false,false,false,false,false,false,false,false] rfl rfl (zL HT_.out (by kernel_rfl)) (fun _ _ _ h=>h) (Or.inl ⟨by rfl,?_⟩) ?_ ?_
     rotate_left
     · intro w'
       go_simp
       with_reducible rfl
     rotate_left
     · simp only [Act.put,List.setIfInBounds_toArray,List.set_cons_zero,List.set_cons_succ,zD,zG]
       rfl
     refine pure_ (i:=2) (N:=some 35) (v:=?_) (a':=?_) #[true,false,true,false,false,false,false,false,false,false] rfl rfl (zL HT_.out (by kernel_rfl)) (fun _ _ _ h=>h) (Or.inl ⟨by rfl,?_⟩) ?_ ?_
     rotate_left
     · intro w'
       go_simp
       with_reducible rfl
     rotate_left
     · simp only [Act.put,List.setIfInBounds_toArray,List.set_cons_zero,List.set_cons_succ,zD,zG]
       rfl
     refine take_ (i:=3) (N:=some 36) (v:=?_) (a':=?_) #[true,false,true,true,false,false,false,false,false,false] rfl rfl (z1y HT_.out HW_.out (by kernel_rfl)) (fun _ _ _ h=>h) (Or.inl ⟨by rfl,?_⟩) hHeld ?_ ?_
     rotate_left
     · rintro w' ⟨s0,s1⟩
       go_simp
       with_reducible rfl
     rotate_left
     · simp only [Act.put,List.setIfInBounds_toArray,List.set_cons_zero,List.set_cons_succ,zD,zG]
       rfl
     refine one_ (i:=1) (N:=some 34) #[true,true,true,true,false,false,false,false,false,false] rfl rfl (z1A HT_.out (by kernel_rfl)) (by decide) (fun K hK=>?_)
     refine goes_ Try.func22 (by kernel_rfl) rfl #[.slice A1 l1.length c1] (by rfl) rfl rfl (by (try simp only [List.map_toArray,List.map_cons,List.map_nil]);first|done|rfl|(simp only [List.length_drop,List.length_take];rfl)) ?_
     with_reducible refine (zu.calls kj3 _ _ l1 t108 _ ?side1 ?side2 A13.out).mono ?_
     (case side1=>repeat (first|exact (Kd.z1h HR1.out HB.out)|(with_reducible refine Kd.zS ?_ _)|(with_reducible refine Kd.zT ?_ _)|(with_reducible refine Kd.z16 ?_)))
     (case side2=>exact HC1.out)
     rintro e w84 ⟨v109,rfl,ho0,hb⟩
     refine ⟨_,rfl,?_⟩
     have n0_:=z2.mk (Kd.zE (by (with_reducible repeat (first|apply Kd.zj|apply Kd.zk|apply Kd.zo));exact HO107.out) hb)
     have n1_:=z2.mk (Kd.z2I ho0 (zc (by repeat (first|(with_reducible first|exact HB.out|apply z4|apply z1|apply z3|refine z7 ?_ GE101.out)|exact HB.out))))
     have n2_:=z2.mk (ze (g:=gb101) (o:=.cells #[.slice A2_0 l2_0.length c2_0,.int .i64 a2_1] 46 (0,0)) (by (with_reducible repeat (first|refine z6 ?_ _|refine z8 ?_|refine z5 ?_ _));exact BK101.out) hb)
     have n3_:=z2.mk (za (by repeat (first|(with_reducible first|exact HB.out|apply z4|apply z1|apply z3|refine z7 ?_ GE101.out)|exact HB.out)) hb)
     clear HO107
     clear BK101
     clear HB
     have HO107:=n0_
     have HO110:=n1_
     have BK101:=n2_
     have HB:=n3_
     clear n0_ n1_ n2_ n3_
     (try clear hb)
     (try clear hb2)
     (try clear hk)
     (try clear hi)
     (try clear ho0)
     obtain ⟨Ao85,co85,eo85⟩:=Kd.z2J HO110.out
     (first|subst eo85|(injection eo85 with f1_ f2_ f3_;have f4_:=f1_.symm;have f5_:=f3_.symm;clear f1_ f2_ f3_;subst f4_;subst f5_))
     refine hK.out _ _ ⟨(z9 BK101.out 0).trans rfl,(z9 BK101.out 1).trans rfl⟩ (fun hHeld=>?_)
     clear hK K
     refine norm_ (a':=?_) ?_ ?_
     rotate_left
     · show Act.put _ (some 34) _ = _
       simp only [Act.put,List.setIfInBounds_toArray,List.set_cons_zero,List.set_cons_succ,zD,zG]
       rfl
     refine one_ (i:=4) (N:=some 37) #[true,true,true,true,true,false,false,false,false,false] rfl rfl (z1A HT_.out (by kernel_rfl)) (by decide) (fun K hK=>?_)
     refine goes_ Try.func21 (by kernel_rfl) rfl #[.slice Ao85 t108.length co85,.int .i64 a2_1] (by rfl) rfl rfl (by (try simp only [List.map_toArray,List.map_cons,List.map_nil]);first|done|rfl|(simp only [List.length_drop,List.length_take];rfl)) ?_
     with_reducible refine (zf.calls kj3 _ _ t108 a2_1 t111 t112 _ ?side1 ?side2 A14.out).mono ?_
     (case side1=>repeat (first|exact (Kd.z1P HO110.out).2.2|(with_reducible refine Kd.zS ?_ _)|(with_reducible refine Kd.zT ?_ _)|(with_reducible refine Kd.z16 ?_)))
     (case side2=>exact (Kd.z1P HO110.out).2.1)
     rintro e w86 ⟨v113,rfl,ho0,hb⟩
     refine ⟨_,rfl,?_⟩
     have n0_:=z2.mk (Kd.zE (by (with_reducible repeat (first|apply Kd.zj|apply Kd.zk|apply Kd.zo));exact HO107.out) hb)
     have n1_:=z2.mk (Kd.z1x (by (with_reducible repeat (first|apply Kd.z1l|apply Kd.z1m|apply Kd.z1t));exact HO110.out) (Kd.z1v ho0) hb)
     have n2_:=z2.mk (Kd.z1o ho0 (zc (by repeat (first|(with_reducible first|exact HB.out|apply z4|apply z1|apply z3|refine z7 ?_ GE101.out)|exact HB.out))))
     have n3_:=z2.mk (ze (g:=gb101) (o:=.cells #[.slice A2_0 l2_0.length c2_0,.int .i64 a2_1] 46 (0,0)) (by (with_reducible repeat (first|refine z6 ?_ _|refine z8 ?_|refine z5 ?_ _));exact BK101.out) hb)
     have n4_:=z2.mk (za (by repeat (first|(with_reducible first|exact HB.out|apply z4|apply z1|apply z3|refine z7 ?_ GE101.out)|exact HB.out)) hb)
     clear HO107
     clear HO110
     clear BK101
     clear HB
     have HO107:=n0_
     have HO110:=n1_
     have HO114:=n2_
     have BK101:=n3_
     have HB:=n4_
     clear n0_ n1_ n2_ n3_ n4_
     (try clear hb)
     (try clear hb2)
     (try clear hk)
     (try clear hi)
     (try clear ho0)
     refine hK.out _ _ ⟨(z9 BK101.out 0).trans rfl,(z9 BK101.out 1).trans rfl⟩ (fun hHeld=>?_)
     clear hK K
     refine norm_ (a':=?_) ?_ ?_
     rotate_left
     · show Act.put _ (some 37) _ = _
       simp only [Act.put,List.setIfInBounds_toArray,List.set_cons_zero,List.set_cons_succ,zD,zG]
       rfl
     refine pure_ (i:=5) (N:=some 32) (v:=?_) (a':=?_) #[true,true,true,true,true,true,false,false,false,false] rfl rfl (zL HT_.out (by kernel_rfl)) (fun _ _ _ h=>h) (Or.inl ⟨by rfl,?_⟩) ?_ ?_
     rotate_left
     · intro w'
       go_simp
       with_reducible rfl
     rotate_left
     · simp only [Act.put,List.setIfInBounds_toArray,List.set_cons_zero,List.set_cons_succ,zD,zG]
       rfl
     refine pure_ (i:=6) (N:=some 38) (v:=?_) (a':=?_) #[true,true,true,true,true,true,true,false,false,false] rfl rfl (zL HT_.out (by kernel_rfl)) (fun _ _ _ h=>h) (Or.inl ⟨by rfl,?_⟩) ?_ ?_
     rotate_left
     · intro w'
       go_simp
       with_reducible rfl
     rotate_left
     · simp only [Act.put,List.setIfInBounds_toArray,List.set_cons_zero,List.set_cons_succ,zD,zG]
       rfl
     refine pure_ (i:=7) (N:=some 39) (v:=?_) (a':=?_) #[true,true,true,true,true,true,true,true,false,false] rfl rfl (zL HT_.out (by kernel_rfl)) (fun _ _ _ h=>h) (Or.inl ⟨by rfl,?_⟩) ?_ ?_
     rotate_left
     · intro w'
       go_simp
       with_reducible rfl
     rotate_left
     · simp only [Act.put,List.setIfInBounds_toArray,List.set_cons_zero,List.set_cons_succ,zD,zG]
       rfl
     refine pure_ (i:=8) (N:=some 9) (v:=?_) (a':=?_) #[true,true,true,true,true,true,true,true,true,false] rfl rfl (zL HT_.out (by kernel_rfl)) (fun _ _ _ h=>h) (Or.inl ⟨by rfl,?_⟩) ?_ ?_
     rotate_left
     · intro w'
       go_simp
       with_reducible rfl
     rotate_left
     · simp only [Act.put,List.setIfInBounds_toArray,List.set_cons_zero,List.set_cons_succ,zD,zG]
       rfl
     refine pure_ (i:=9) (N:=some 10) (v:=?_) (a':=?_) #[true,true,true,true,true,true,true,true,true,true] rfl rfl (zL HT_.out (by kernel_rfl)) (fun _ _ _ h=>h) (Or.inl ⟨by rfl,?_⟩) ?_ ?_
     rotate_left
     · intro w'
       go_simp
       with_reducible rfl
     rotate_left
     · simp only [Act.put,List.setIfInBounds_toArray,List.set_cons_zero,List.set_cons_succ,zD,zG]
       rfl
     refine done_ (z24 HT_.out (by kernel_rfl)) ?_
     have hcz87_0 : w86.cell? ⟨gb101,0,none⟩ = some (.slice A2_0 l2_0.length c2_0):=(z9 BK101.out 0).trans rfl
     have hcz87_1 : w86.cell? ⟨gb101,1,none⟩ = some (.int .i64 a2_1):=(z9 BK101.out 1).trans rfl
     have hfz87_0:=zd BK101.out 0
     have hfz87_1:=zd BK101.out 1
     try go_wp2_with (first|((with_reducible refine zm (f:=23) rfl ?_);refine goesL_ (some 45) rfl rfl Try.func23 (by kernel_rfl) rfl #[.int .i64 a0,.slice A1 l1.length c1,.slice A2_0 l2_0.length c2_0] rfl (by (try simp only [List.map_toArray,List.map_cons,List.map_nil]);first|done|rfl|(simp only [List.length_drop,List.length_take];rfl)) ?_;(with_reducible refine (zz.calls kj3 a0 _ _ l1 _ _ l2_0 t115 t116 _ ?side1 ?side2 ?side3 ?side4 A15.out).mono ?_);(case side1=>repeat (first|exact (Kd.z1h HR1.out HB.out)|(with_reducible refine Kd.zS ?_ _)|(with_reducible refine Kd.zT ?_ _)|(with_reducible refine Kd.z16 ?_)));(case side2=>exact HC1.out);(case side3=>repeat (first|exact (Kd.z1h HR2_0.out HB.out)|(with_reducible refine Kd.zS ?_ _)|(with_reducible refine Kd.zT ?_ _)|(with_reducible refine Kd.z16 ?_)));(case side4=>exact HC2_0.out);rintro e w88 ⟨v117,rfl,ho0,hb⟩;refine ⟨_,rfl,?_⟩;have n0_:=z2.mk (Kd.z1C (by (with_reducible repeat (first|apply Kd.zj|apply Kd.zk|apply Kd.zo));exact HO107.out) (Kd.z1v ho0) hb);have n1_:=z2.mk (Kd.z26 (by (with_reducible repeat (first|apply Kd.z1l|apply Kd.z1m|apply Kd.z1t));exact HO110.out) hb);have n2_:=z2.mk (Kd.zE (by (with_reducible repeat (first|apply Kd.zj|apply Kd.zk|apply Kd.zo));exact HO114.out) hb);have n3_:=z2.mk (Kd.z1o (Kd.z21 ho0 (Kd.R_lt (by (with_reducible repeat (first|apply Kd.zj|apply Kd.zk|apply Kd.zo));exact HO107.out))) (zc (by repeat (first|(with_reducible first|exact HB.out|apply z4|apply z1|apply z3|refine z7 ?_ GE101.out)|exact HB.out))));have n4_:=z2.mk (ze (g:=gb101) (o:=.cells #[.slice A2_0 l2_0.length c2_0,.int .i64 a2_1] 46 (0,0)) (by (with_reducible repeat (first|refine z6 ?_ _|refine z8 ?_|refine z5 ?_ _));exact BK101.out) hb);have n5_:=z2.mk (za (by repeat (first|(with_reducible first|exact HB.out|apply z4|apply z1|apply z3|refine z7 ?_ GE101.out)|exact HB.out)) hb);clear HO107;clear HO110;clear HO114;clear BK101;clear HB;have HO107:=n0_;have HO110:=n1_;have HO114:=n2_;have HO118:=n3_;have BK101:=n4_;have HB:=n5_;clear n0_ n1_ n2_ n3_ n4_ n5_;(try clear hb);(try clear hb2);(try clear hk);(try clear hi);(try clear ho0)))
     have n0_:=z2.mk (Kd.zo HO107.out)
     have n1_:=z2.mk (Kd.z1t HO110.out)
     have n2_:=z2.mk (Kd.zo HO114.out)
     have n3_:=z2.mk (Kd.zo HO118.out)
     have n4_:=z2.mk (z8 BK101.out)
     have n5_:=z2.mk (z3 HB.out)
     clear HO107
     clear HO110
     clear HO114
     clear HO118
     clear BK101
     clear HB
     have HO107:=n0_
     have HO110:=n1_
     have HO114:=n2_
     have HO118:=n3_
     have BK101:=n4_
     have HB:=n5_
     clear n0_ n1_ n2_ n3_ n4_ n5_
     refine start_ (n:=12) (S:=fun w'=>w'.cell? ⟨gb101,0,none⟩ = some (.slice A2_0 l2_0.length c2_0) ∧ w'.cell? ⟨gb101,1,none⟩ = some (.int .i64 a2_1)) (ds:=[]) #[false,false,false,false,false,false,false,false,false,false,false,false] (by kernel_rfl) rfl rfl ⟨(z9 BK101.out 0).trans rfl,(z9 BK101.out 1).trans rfl⟩ (fun hHeld=>?_);refine z1M zb.tab6 zb.bits6 (fun HT_ HW_=>?_)
     generalize w88.drew = w89 at HO107 HO110 HO114 HO118 BK101 HB hHeld ⊢
     refine pure_ (i:=0) (N:=some 49) (v:=?_) (a':=?_) #[true,false,false,false,false,false,false,false,false,false,false,false] rfl rfl (zL HT_.out (by kernel_rfl)) (fun _ _ _ h=>h) (Or.inl ⟨by rfl,?_⟩) ?_ ?_
     rotate_left
     · intro w'
       go_simp
       with_reducible rfl
     rotate_left
     · simp only [Act.put,List.setIfInBounds_toArray,List.set_cons_zero,List.set_cons_succ,zD,zG]
       rfl
     refine pure_ (i:=1) (N:=some 50) (v:=?_) (a':=?_) #[true,true,false,false,false,false,false,false,false,false,false,false] rfl rfl (zL HT_.out (by kernel_rfl)) (fun _ _ _ h=>h) (Or.inl ⟨by rfl,?_⟩) ?_ ?_
     rotate_left
     · intro w'
       go_simp
       with_reducible rfl
     rotate_left
     · simp only [Act.put,List.setIfInBounds_toArray,List.set_cons_zero,List.set_cons_succ,zD,zG]
       rfl
     refine pure_ (i:=3) (N:=some 52) (v:=?_) (a':=?_) #[true,true,false,true,false,false,false,false,false,false,false,false] rfl rfl (zL HT_.out (by kernel_rfl)) (fun _ _ _ h=>h) (Or.inl ⟨by rfl,?_⟩) ?_ ?_
     rotate_left
     · intro w'
       go_simp
       with_reducible rfl
     rotate_left
     · simp only [Act.put,List.setIfInBounds_toArray,List.set_cons_zero,List.set_cons_succ,zD,zG]
       rfl
     refine take_ (i:=4) (N:=some 53) (v:=?_) (a':=?_) #[true,true,false,true,true,false,false,false,false,false,false,false] rfl rfl (z1y HT_.out HW_.out (by kernel_rfl)) (fun _ _ _ h=>h) (Or.inl ⟨by rfl,?_⟩) hHeld ?_ ?_
     rotate_left
     · rintro w' ⟨s0,s1⟩
       go_simp
       with_reducible rfl
     rotate_left
     · simp only [Act.put,List.setIfInBounds_toArray,List.set_cons_zero,List.set_cons_succ,zD,zG]
       rfl
     refine one_ (i:=2) (N:=some 51) #[true,true,true,true,true,false,false,false,false,false,false,false] rfl rfl (z1A HT_.out (by kernel_rfl)) (by decide) (fun K hK=>?_)
     refine goes_ Try.func22 (by kernel_rfl) rfl #[.slice A1 l1.length c1] (by rfl) rfl rfl (by (try simp only [List.map_toArray,List.map_cons,List.map_nil]);first|done|rfl|(simp only [List.length_drop,List.length_take];rfl)) ?_
     with_reducible refine (zu.calls kj3 _ _ l1 t119 _ ?side1 ?side2 A16.out).mono ?_
     (case side1=>repeat (first|exact (Kd.z1h HR1.out HB.out)|(with_reducible refine Kd.zS ?_ _)|(with_reducible refine Kd.zT ?_ _)|(with_reducible refine Kd.z16 ?_)))
     (case side2=>exact HC1.out)
     rintro e w90 ⟨v120,rfl,ho0,hb⟩
     refine ⟨_,rfl,?_⟩
     have n0_:=z2.mk (Kd.zE (by (with_reducible repeat (first|apply Kd.zj|apply Kd.zk|apply Kd.zo));exact HO107.out) hb)
     have n1_:=z2.mk (Kd.z1x (by (with_reducible repeat (first|apply Kd.z1l|apply Kd.z1m|apply Kd.z1t));exact HO110.out) (Kd.z5j ho0) hb)
     have n2_:=z2.mk (Kd.zE (by (with_reducible repeat (first|apply Kd.zj|apply Kd.zk|apply Kd.zo));exact HO114.out) hb)
     have n3_:=z2.mk (Kd.zE (by (with_reducible repeat (first|apply Kd.zj|apply Kd.zk|apply Kd.zo));exact HO118.out) hb)
     have n4_:=z2.mk (Kd.z2I (Kd.z3l (Kd.z3l ho0 (Kd.S_lt (by (with_reducible repeat (first|apply Kd.z1l|apply Kd.z1m|apply Kd.z1t));exact HO110.out))) (Kd.R_lt (by (with_reducible repeat (first|apply Kd.zj|apply Kd.zk|apply Kd.zo));exact HO114.out))) (zc (by repeat (first|(with_reducible first|exact HB.out|apply z4|apply z1|apply z3|refine z7 ?_ GE101.out)|exact HB.out))))
     have n5_:=z2.mk (ze (g:=gb101) (o:=.cells #[.slice A2_0 l2_0.length c2_0,.int .i64 a2_1] 46 (0,0)) (by (with_reducible repeat (first|refine z6 ?_ _|refine z8 ?_|refine z5 ?_ _));exact BK101.out) hb)
     have n6_:=z2.mk (za (by repeat (first|(with_reducible first|exact HB.out|apply z4|apply z1|apply z3|refine z7 ?_ GE101.out)|exact HB.out)) hb)
     clear HO107
     clear HO110
     clear HO114
     clear HO118
     clear BK101
     clear HB
     have HO107:=n0_
     have HO110:=n1_
     have HO114:=n2_
     have HO118:=n3_
     have HO121:=n4_
     have BK101:=n5_
     have HB:=n6_
     clear n0_ n1_ n2_ n3_ n4_ n5_ n6_
     (try clear hb)
     (try clear hb2)
     (try clear hk)
     (try clear hi)
     (try clear ho0)
     refine hK.out _ _ ⟨(z9 BK101.out 0).trans rfl,(z9 BK101.out 1).trans rfl⟩ (fun hHeld=>?_)
     clear hK K
     refine norm_ (a':=?_) ?_ ?_
     rotate_left
     · show Act.put _ (some 51) _ = _
       simp only [Act.put,List.setIfInBounds_toArray,List.set_cons_zero,List.set_cons_succ,zD,zG]
       rfl
     refine one_ (i:=5) (N:=some 54) #[true,true,true,true,true,true,false,false,false,false,false,false] rfl rfl (z1A HT_.out (by kernel_rfl)) (by decide) (fun K hK=>?_)
     refine goes_ Try.func14 (by kernel_rfl) rfl #[.slice A2_0 l2_0.length c2_0] (by rfl) rfl rfl (by (try simp only [List.map_toArray,List.map_cons,List.map_nil]);first|done|rfl|(simp only [List.length_drop,List.length_take];rfl)) ?_
     with_reducible refine (zy.calls kj3 _ _ l2_0 t122 _ ?side1 ?side2 A17.out).mono ?_
     (case side1=>repeat (first|exact (Kd.z1h HR2_0.out HB.out)|(with_reducible refine Kd.zS ?_ _)|(with_reducible refine Kd.zT ?_ _)|(with_reducible refine Kd.z16 ?_)))
     (case side2=>exact HC2_0.out)
     rintro e w91 ⟨v123,rfl,ho0,hb⟩
     refine ⟨_,rfl,?_⟩
     have n0_:=z2.mk (Kd.zE (by (with_reducible repeat (first|apply Kd.zj|apply Kd.zk|apply Kd.zo));exact HO107.out) hb)
     have n1_:=z2.mk (Kd.z1x (by (with_reducible repeat (first|apply Kd.z1l|apply Kd.z1m|apply Kd.z1t));exact HO110.out) (Kd.z1v ho0) hb)
     have n2_:=z2.mk (Kd.z1C (by (with_reducible repeat (first|apply Kd.zj|apply Kd.zk|apply Kd.zo));exact HO114.out) (Kd.z1v ho0) hb)
     have n3_:=z2.mk (Kd.zE (by (with_reducible repeat (first|apply Kd.zj|apply Kd.zk|apply Kd.zo));exact HO118.out) hb)
     have n4_:=z2.mk (Kd.z1x (by (with_reducible repeat (first|apply Kd.z1l|apply Kd.z1m|apply Kd.z1t));exact HO121.out) (Kd.z1v ho0) hb)
     have n5_:=z2.mk (Kd.z1o (Kd.z21 ho0 (Kd.R_lt (by (with_reducible repeat (first|apply Kd.zj|apply Kd.zk|apply Kd.zo));exact HO114.out))) (zc (by repeat (first|(with_reducible first|exact HB.out|apply z4|apply z1|apply z3|refine z7 ?_ GE101.out)|exact HB.out))))
     have n6_:=z2.mk (ze (g:=gb101) (o:=.cells #[.slice A2_0 l2_0.length c2_0,.int .i64 a2_1] 46 (0,0)) (by (with_reducible repeat (first|refine z6 ?_ _|refine z8 ?_|refine z5 ?_ _));exact BK101.out) hb)
     have n7_:=z2.mk (za (by repeat (first|(with_reducible first|exact HB.out|apply z4|apply z1|apply z3|refine z7 ?_ GE101.out)|exact HB.out)) hb)
     clear HO107
     clear HO110
     clear HO114
     clear HO118
     clear HO121
     clear BK101
     clear HB
     have HO107:=n0_
     have HO110:=n1_
     have HO114:=n2_
     have HO118:=n3_
     have HO121:=n4_
     have HO124:=n5_
     have BK101:=n6_
     have HB:=n7_
     clear n0_ n1_ n2_ n3_ n4_ n5_ n6_ n7_
     (try clear hb)
     (try clear hb2)
     (try clear hk)
     (try clear hi)
     (try clear ho0)
     obtain ⟨Ao92,co92,eo92⟩:=Kd.z2J HO121.out
     (first|subst eo92|(injection eo92 with f1_ f2_ f3_;have f4_:=f1_.symm;have f5_:=f3_.symm;clear f1_ f2_ f3_;subst f4_;subst f5_))
     obtain ⟨Ao93,co93,eo93⟩:=Kd.z1s HO124.out
     (first|subst eo93|(injection eo93 with f1_ f2_ f3_;have f4_:=f1_.symm;have f5_:=f3_.symm;clear f1_ f2_ f3_;subst f4_;subst f5_))
     refine hK.out _ _ ⟨(z9 BK101.out 0).trans rfl,(z9 BK101.out 1).trans rfl⟩ (fun hHeld=>?_)
     clear hK K
     refine norm_ (a':=?_) ?_ ?_
     rotate_left
     · show Act.put _ (some 54) _ = _
       simp only [Act.put,List.setIfInBounds_toArray,List.set_cons_zero,List.set_cons_succ,zD,zG]
       rfl
     refine one_ (i:=6) (N:=some 55) #[true,true,true,true,true,true,true,false,false,false,false,false] rfl rfl (z1A HT_.out (by kernel_rfl)) (by decide) (fun K hK=>?_)
     refine goes_ Try.func24 (by kernel_rfl) rfl #[.int .i64 a0,.slice Ao92 t119.length co92,.slice Ao93 t122.length co93] (by rfl) rfl rfl (by (try simp only [List.map_toArray,List.map_cons,List.map_nil]);first|done|rfl|(simp only [List.length_drop,List.length_take];rfl)) ?_
     with_reducible refine (zg.calls kj3 a0 _ _ t119 _ _ t122 t125 t126 _ ?side1 ?side2 ?side3 ?side4 A18.out).mono ?_
     (case side1=>repeat (first|exact (Kd.z1P HO121.out).2.2|(with_reducible refine Kd.zS ?_ _)|(with_reducible refine Kd.zT ?_ _)|(with_reducible refine Kd.z16 ?_)))
     (case side2=>exact (Kd.z1P HO121.out).2.1)
     (case side3=>repeat (first|exact (Kd.zI HO124.out).2.2|(with_reducible refine Kd.zS ?_ _)|(with_reducible refine Kd.zT ?_ _)|(with_reducible refine Kd.z16 ?_)))
     (case side4=>exact (Kd.zI HO124.out).2.1)
     rintro e w94 ⟨v127,rfl,ho0,hb⟩
     refine ⟨_,rfl,?_⟩
     have n0_:=z2.mk (Kd.zE (by (with_reducible repeat (first|apply Kd.zj|apply Kd.zk|apply Kd.zo));exact HO107.out) hb)
     have n1_:=z2.mk (Kd.z1x (by (with_reducible repeat (first|apply Kd.z1l|apply Kd.z1m|apply Kd.z1t));exact HO110.out) (Kd.z1v ho0) hb)
     have n2_:=z2.mk (Kd.z1C (by (with_reducible repeat (first|apply Kd.zj|apply Kd.zk|apply Kd.zo));exact HO114.out) (Kd.z1v ho0) hb)
     have n3_:=z2.mk (Kd.zE (by (with_reducible repeat (first|apply Kd.zj|apply Kd.zk|apply Kd.zo));exact HO118.out) hb)
     have n4_:=z2.mk (Kd.z1x (by (with_reducible repeat (first|apply Kd.z1l|apply Kd.z1m|apply Kd.z1t));exact HO121.out) (Kd.z1v ho0) hb)
     have n5_:=z2.mk (Kd.z1C (by (with_reducible repeat (first|apply Kd.zj|apply Kd.zk|apply Kd.zo));exact HO124.out) (Kd.z1v ho0) hb)
     have n6_:=z2.mk (Kd.z1o (Kd.z21 (Kd.z21 ho0 (Kd.R_lt (by (with_reducible repeat (first|apply Kd.zj|apply Kd.zk|apply Kd.zo));exact HO114.out))) (Kd.R_lt (by (with_reducible repeat (first|apply Kd.zj|apply Kd.zk|apply Kd.zo));exact HO124.out))) (zc (by repeat (first|(with_reducible first|exact HB.out|apply z4|apply z1|apply z3|refine z7 ?_ GE101.out)|exact HB.out))))
     have n7_:=z2.mk (ze (g:=gb101) (o:=.cells #[.slice A2_0 l2_0.length c2_0,.int .i64 a2_1] 46 (0,0)) (by (with_reducible repeat (first|refine z6 ?_ _|refine z8 ?_|refine z5 ?_ _));exact BK101.out) hb)
     have n8_:=z2.mk (za (by repeat (first|(with_reducible first|exact HB.out|apply z4|apply z1|apply z3|refine z7 ?_ GE101.out)|exact HB.out)) hb)
     clear HO107
     clear HO110
     clear HO114
     clear HO118
     clear HO121
     clear HO124
     clear BK101
     clear HB
     have HO107:=n0_
     have HO110:=n1_
     have HO114:=n2_
     have HO118:=n3_
     have HO121:=n4_
     have HO124:=n5_
     have HO128:=n6_
     have BK101:=n7_
     have HB:=n8_
     clear n0_ n1_ n2_ n3_ n4_ n5_ n6_ n7_ n8_
     (try clear hb)
     (try clear hb2)
     (try clear hk)
     (try clear hi)
     (try clear ho0)
     refine hK.out _ _ ⟨(z9 BK101.out 0).trans rfl,(z9 BK101.out 1).trans rfl⟩ (fun hHeld=>?_)
     clear hK K
     refine norm_ (a':=?_) ?_ ?_
     rotate_left
     · show Act.put _ (some 55) _ = _
       simp only [Act.put,List.setIfInBounds_toArray,List.set_cons_zero,List.set_cons_succ,zD,zG]
       rfl
     refine pure_ (i:=7) (N:=some 48) (v:=?_) (a':=?_) #[true,true,true,true,true,true,true,true,false,false,false,false] rfl rfl (zL HT_.out (by kernel_rfl)) (fun _ _ _ h=>h) (Or.inl ⟨by rfl,?_⟩) ?_ ?_
     rotate_left
     · intro w'
       go_simp
       with_reducible rfl
     rotate_left
     · simp only [Act.put,List.setIfInBounds_toArray,List.set_cons_zero,List.set_cons_succ,zD,zG]
       rfl
     refine pure_ (i:=8) (N:=some 56) (v:=?_) (a':=?_) #[true,true,true,true,true,true,true,true,true,false,false,false] rfl rfl (zL HT_.out (by kernel_rfl)) (fun _ _ _ h=>h) (Or.inl ⟨by rfl,?_⟩) ?_ ?_
     rotate_left
     · intro w'
       go_simp
       with_reducible rfl
     rotate_left
     · simp only [Act.put,List.setIfInBounds_toArray,List.set_cons_zero,List.set_cons_succ,zD,zG]
       rfl
     refine pure_ (i:=9) (N:=some 57) (v:=?_) (a':=?_) #[true,true,true,true,true,true,true,true,true,true,false,false] rfl rfl (zL HT_.out (by kernel_rfl)) (fun _ _ _ h=>h) (Or.inl ⟨by rfl,?_⟩) ?_ ?_
     rotate_left
     · intro w'
       go_simp
       with_reducible rfl
     rotate_left
     · simp only [Act.put,List.setIfInBounds_toArray,List.set_cons_zero,List.set_cons_succ,zD,zG]
       rfl
     refine pure_ (i:=10) (N:=some 13) (v:=?_) (a':=?_) #[true,true,true,true,true,true,true,true,true,true,true,false] rfl rfl (zL HT_.out (by kernel_rfl)) (fun _ _ _ h=>h) (Or.inl ⟨by rfl,?_⟩) ?_ ?_
     rotate_left
     · intro w'
       go_simp
       with_reducible rfl
     rotate_left
     · simp only [Act.put,List.setIfInBounds_toArray,List.set_cons_zero,List.set_cons_succ,zD,zG]
       rfl
     refine pure_ (i:=11) (N:=some 14) (v:=?_) (a':=?_) #[true,true,true,true,true,true,true,true,true,true,true,true] rfl rfl (zL HT_.out (by kernel_rfl)) (fun _ _ _ h=>h) (Or.inl ⟨by rfl,?_⟩) ?_ ?_
     rotate_left
     · intro w'
       go_simp
       with_reducible rfl
     rotate_left
     · simp only [Act.put,List.setIfInBounds_toArray,List.set_cons_zero,List.set_cons_succ,zD,zG]
       rfl
     refine done_ (z24 HT_.out (by kernel_rfl)) ?_
     try go_wp2_with (first|((with_reducible refine zm (f:=19) rfl ?_);refine goesL_ (some 58) rfl rfl Try.func19 (by kernel_rfl) rfl #[] rfl (by (try simp only [List.map_toArray,List.map_cons,List.map_nil]);first|done|rfl|(simp only [List.length_drop,List.length_take];rfl)) ?_;(with_reducible refine (zJ.calls kj3  true _ A19.out).mono ?_);rintro e w95 ⟨rfl,hb⟩;refine ⟨_,rfl,?_⟩;have n0_:=z2.mk (Kd.zE (by (with_reducible repeat (first|apply Kd.zj|apply Kd.zk|apply Kd.zo));exact HO107.out) hb);have n1_:=z2.mk (Kd.z26 (by (with_reducible repeat (first|apply Kd.z1l|apply Kd.z1m|apply Kd.z1t));exact HO110.out) hb);have n2_:=z2.mk (Kd.zE (by (with_reducible repeat (first|apply Kd.zj|apply Kd.zk|apply Kd.zo));exact HO114.out) hb);have n3_:=z2.mk (Kd.zE (by (with_reducible repeat (first|apply Kd.zj|apply Kd.zk|apply Kd.zo));exact HO118.out) hb);have n4_:=z2.mk (Kd.z26 (by (with_reducible repeat (first|apply Kd.z1l|apply Kd.z1m|apply Kd.z1t));exact HO121.out) hb);have n5_:=z2.mk (Kd.zE (by (with_reducible repeat (first|apply Kd.zj|apply Kd.zk|apply Kd.zo));exact HO124.out) hb);have n6_:=z2.mk (Kd.zE (by (with_reducible repeat (first|apply Kd.zj|apply Kd.zk|apply Kd.zo));exact HO128.out) hb);have n7_:=z2.mk (ze (g:=gb101) (o:=.cells #[.slice A2_0 l2_0.length c2_0,.int .i64 a2_1] 46 (0,0)) (by (with_reducible repeat (first|refine z6 ?_ _|refine z8 ?_|refine z5 ?_ _));exact BK101.out) hb);have n8_:=z2.mk (za (by repeat (first|(with_reducible first|exact HB.out|apply z4|apply z1|apply z3|refine z7 ?_ GE101.out)|exact HB.out)) hb);clear HO107;clear HO110;clear HO114;clear HO118;clear HO121;clear HO124;clear HO128;clear BK101;clear HB;have HO107:=n0_;have HO110:=n1_;have HO114:=n2_;have HO118:=n3_;have HO121:=n4_;have HO124:=n5_;have HO128:=n6_;have BK101:=n7_;have HB:=n8_;clear n0_ n1_ n2_ n3_ n4_ n5_ n6_ n7_ n8_;(try clear hb);(try clear hb2);(try clear hk);(try clear hi);obtain ⟨Ao96,co96,eo96⟩:=Kd.z1s HO107.out;subst eo96;obtain ⟨Ao97,co97,eo97⟩:=Kd.z1s HO114.out;subst eo97)|(go_at_call 25;(with_reducible refine (zp.calls kj3 _ _ t104 _ _ t111 false _ ?side1 ?side2 ?side3 ?side4 A21.out).mono ?_);(case side1=>repeat (first|exact (Kd.zI HO107.out).2.2|(with_reducible refine Kd.zS ?_ _)|(with_reducible refine Kd.zT ?_ _)|(with_reducible refine Kd.z16 ?_)));(case side2=>exact (Kd.zI HO107.out).2.1);(case side3=>repeat (first|exact (Kd.zI HO114.out).2.2|(with_reducible refine Kd.zS ?_ _)|(with_reducible refine Kd.zT ?_ _)|(with_reducible refine Kd.z16 ?_)));(case side4=>exact (Kd.zI HO114.out).2.1);rintro e w' ⟨rfl,⟨nd,rfl⟩⟩))
     go_ret
     exact ⟨by first|rfl|(simp [zh,zi] <;> rfl)|(simp [*,zh,zi] <;> rfl),by repeat (first|(with_reducible first|exact HB.out|apply z4|apply z1|apply z3|refine z7 ?_ GE101.out)|exact HB.out)⟩
   subst c22
   have H1 : (if t105 = t112 then ((zp.f kj3 t115 t125).bind fun t131=>(if t131 = true then (some (t116 == t126)) else (some false))) else (some false)) = some r:=by rw [if_pos rfl] at H;exact H
   clear H
   have H:=H1
   clear H1
   by_cases c23 : t105 = t112
   rotate_left
   · rw [if_neg c23] at H
     have c23b0 : (t105 == t112) = false:=beq_eq_false_iff_ne.mpr c23
     have c23b1 : (t105 != t112) = true:=bne_iff_ne.mpr c23
     obtain rfl:=Option.some.inj H
     have hcz64_0 : wc.cell? ⟨gb101,0,none⟩ = some (.slice A2_0 l2_0.length c2_0):=(z9 BK101.out 0).trans rfl
     have hcz64_1 : wc.cell? ⟨gb101,1,none⟩ = some (.int .i64 a2_1):=(z9 BK101.out 1).trans rfl
     have hfz64_0:=zd BK101.out 0
     have hfz64_1:=zd BK101.out 1
     try go_wp2_with (first|((with_reducible refine zm (f:=20) rfl ?_);refine goesL_ (some 29) rfl rfl Try.func20 (by kernel_rfl) rfl #[.slice A1 l1.length c1,.int .i64 a2_1] rfl (by (try simp only [List.map_toArray,List.map_cons,List.map_nil]);first|done|rfl|(simp only [List.length_drop,List.length_take];rfl)) ?_;(with_reducible refine (zW.calls kj3 _ _ l1 a2_1 t104 t105 _ ?side1 ?side2 A12.out).mono ?_);(case side1=>repeat (first|exact (Kd.z1h HR1.out HB.out)|(with_reducible refine Kd.zS ?_ _)|(with_reducible refine Kd.zT ?_ _)|(with_reducible refine Kd.z16 ?_)));(case side2=>exact HC1.out);rintro e w65 ⟨v106,rfl,ho0,hb⟩;refine ⟨_,rfl,?_⟩;have n0_:=z2.mk (Kd.z1o ho0 (zc (by repeat (first|(with_reducible first|exact HB.out|apply z4|apply z1|apply z3|refine z7 ?_ GE101.out)|exact HB.out))));have n1_:=z2.mk (ze (g:=gb101) (o:=.cells #[.slice A2_0 l2_0.length c2_0,.int .i64 a2_1] 46 (0,0)) (by (with_reducible repeat (first|refine z6 ?_ _|refine z8 ?_|refine z5 ?_ _));exact BK101.out) hb);have n2_:=z2.mk (za (by repeat (first|(with_reducible first|exact HB.out|apply z4|apply z1|apply z3|refine z7 ?_ GE101.out)|exact HB.out)) hb);clear BK101;clear HB;have HO107:=n0_;have BK101:=n1_;have HB:=n2_;clear n0_ n1_ n2_;(try clear hb);(try clear hb2);(try clear hk);(try clear hi);(try clear ho0)))
     have n0_:=z2.mk (Kd.zo HO107.out)
     have n1_:=z2.mk (z8 BK101.out)
     have n2_:=z2.mk (z3 HB.out)
     clear HO107
     clear BK101
     clear HB
     have HO107:=n0_
     have BK101:=n1_
     have HB:=n2_
     clear n0_ n1_ n2_
     refine start_ (n:=10) (S:=fun w'=>w'.cell? ⟨gb101,0,none⟩ = some (.slice A2_0 l2_0.length c2_0) ∧ w'.cell? ⟨gb101,1,none⟩ = some (.int .i64 a2_1)) (ds:=[]) #[false,false,false,false,false,false,false,false,false,false] (by kernel_rfl) rfl rfl ⟨(z9 BK101.out 0).trans rfl,(z9 BK101.out 1).trans rfl⟩ (fun hHeld=>?_);refine z1M zb.tab4 zb.bits4 (fun HT_ HW_=>?_)
     generalize w65.drew = w66 at HO107 BK101 HB hHeld ⊢
     refine pure_ (i:=0) (N:=some 33) (v:=?_) (a':=?_) #[true,false,false,false,false,false,false,false,false,false] rfl rfl (zL HT_.out (by kernel_rfl)) (fun _ _ _ h=>h) (Or.inl ⟨by rfl,?_⟩) ?_ ?_
     rotate_left
     · intro w'
       go_simp
       with_reducible rfl
     rotate_left
     · simp only [Act.put,List.setIfInBounds_toArray,List.set_cons_zero,List.set_cons_succ,zD,zG]
       rfl
     refine pure_ (i:=2) (N:=some 35) (v:=?_) (a':=?_) #[true,false,true,false,false,false,false,false,false,false] rfl rfl (zL HT_.out (by kernel_rfl)) (fun _ _ _ h=>h) (Or.inl ⟨by rfl,?_⟩) ?_ ?_
     rotate_left
     · intro w'
       go_simp
       with_reducible rfl
     rotate_left
     · simp only [Act.put,List.setIfInBounds_toArray,List.set_cons_zero,List.set_cons_succ,zD,zG]
       rfl
     refine take_ (i:=3) (N:=some 36) (v:=?_) (a':=?_) #[true,false,true,true,false,false,false,false,false,false] rfl rfl (z1y HT_.out HW_.out (by kernel_rfl)) (fun _ _ _ h=>h) (Or.inl ⟨by rfl,?_⟩) hHeld ?_ ?_
     rotate_left
     · rintro w' ⟨s0,s1⟩
       go_simp
       with_reducible rfl
     rotate_left
     · simp only [Act.put,List.setIfInBounds_toArray,List.set_cons_zero,List.set_cons_succ,zD,zG]
       rfl
     refine one_ (i:=1) (N:=some 34) #[true,true,true,true,false,false,false,false,false,false] rfl rfl (z1A HT_.out (by kernel_rfl)) (by decide) (fun K hK=>?_)
     refine goes_ Try.func22 (by kernel_rfl) rfl #[.slice A1 l1.length c1] (by rfl) rfl rfl (by (try simp only [List.map_toArray,List.map_cons,List.map_nil]);first|done|rfl|(simp only [List.length_drop,List.length_take];rfl)) ?_
     with_reducible refine (zu.calls kj3 _ _ l1 t108 _ ?side1 ?side2 A13.out).mono ?_
     (case side1=>repeat (first|exact (Kd.z1h HR1.out HB.out)|(with_reducible refine Kd.zS ?_ _)|(with_reducible refine Kd.zT ?_ _)|(with_reducible refine Kd.z16 ?_)))
     (case side2=>exact HC1.out)
     rintro e w67 ⟨v109,rfl,ho0,hb⟩
     refine ⟨_,rfl,?_⟩
     have n0_:=z2.mk (Kd.zE (by (with_reducible repeat (first|apply Kd.zj|apply Kd.zk|apply Kd.zo));exact HO107.out) hb)
     have n1_:=z2.mk (Kd.z2I ho0 (zc (by repeat (first|(with_reducible first|exact HB.out|apply z4|apply z1|apply z3|refine z7 ?_ GE101.out)|exact HB.out))))
     have n2_:=z2.mk (ze (g:=gb101) (o:=.cells #[.slice A2_0 l2_0.length c2_0,.int .i64 a2_1] 46 (0,0)) (by (with_reducible repeat (first|refine z6 ?_ _|refine z8 ?_|refine z5 ?_ _));exact BK101.out) hb)
     have n3_:=z2.mk (za (by repeat (first|(with_reducible first|exact HB.out|apply z4|apply z1|apply z3|refine z7 ?_ GE101.out)|exact HB.out)) hb)
     clear HO107
     clear BK101
     clear HB
     have HO107:=n0_
     have HO110:=n1_
     have BK101:=n2_
     have HB:=n3_
     clear n0_ n1_ n2_ n3_
     (try clear hb)
     (try clear hb2)
     (try clear hk)
     (try clear hi)
     (try clear ho0)
     obtain ⟨Ao68,co68,eo68⟩:=Kd.z2J HO110.out
     (first|subst eo68|(injection eo68 with f1_ f2_ f3_;have f4_:=f1_.symm;have f5_:=f3_.symm;clear f1_ f2_ f3_;subst f4_;subst f5_))
     refine hK.out _ _ ⟨(z9 BK101.out 0).trans rfl,(z9 BK101.out 1).trans rfl⟩ (fun hHeld=>?_)
     clear hK K
     refine norm_ (a':=?_) ?_ ?_
     rotate_left
     · show Act.put _ (some 34) _ = _
       simp only [Act.put,List.setIfInBounds_toArray,List.set_cons_zero,List.set_cons_succ,zD,zG]
       rfl
     refine one_ (i:=4) (N:=some 37) #[true,true,true,true,true,false,false,false,false,false] rfl rfl (z1A HT_.out (by kernel_rfl)) (by decide) (fun K hK=>?_)
     refine goes_ Try.func21 (by kernel_rfl) rfl #[.slice Ao68 t108.length co68,.int .i64 a2_1] (by rfl) rfl rfl (by (try simp only [List.map_toArray,List.map_cons,List.map_nil]);first|done|rfl|(simp only [List.length_drop,List.length_take];rfl)) ?_
     with_reducible refine (zf.calls kj3 _ _ t108 a2_1 t111 t112 _ ?side1 ?side2 A14.out).mono ?_
     (case side1=>repeat (first|exact (Kd.z1P HO110.out).2.2|(with_reducible refine Kd.zS ?_ _)|(with_reducible refine Kd.zT ?_ _)|(with_reducible refine Kd.z16 ?_)))
     (case side2=>exact (Kd.z1P HO110.out).2.1)
     rintro e w69 ⟨v113,rfl,ho0,hb⟩
     refine ⟨_,rfl,?_⟩
     have n0_:=z2.mk (Kd.zE (by (with_reducible repeat (first|apply Kd.zj|apply Kd.zk|apply Kd.zo));exact HO107.out) hb)
     have n1_:=z2.mk (Kd.z1x (by (with_reducible repeat (first|apply Kd.z1l|apply Kd.z1m|apply Kd.z1t));exact HO110.out) (Kd.z1v ho0) hb)
     have n2_:=z2.mk (Kd.z1o ho0 (zc (by repeat (first|(with_reducible first|exact HB.out|apply z4|apply z1|apply z3|refine z7 ?_ GE101.out)|exact HB.out))))
     have n3_:=z2.mk (ze (g:=gb101) (o:=.cells #[.slice A2_0 l2_0.length c2_0,.int .i64 a2_1] 46 (0,0)) (by (with_reducible repeat (first|refine z6 ?_ _|refine z8 ?_|refine z5 ?_ _));exact BK101.out) hb)
     have n4_:=z2.mk (za (by repeat (first|(with_reducible first|exact HB.out|apply z4|apply z1|apply z3|refine z7 ?_ GE101.out)|exact HB.out)) hb)
     clear HO107
     clear HO110
     clear BK101
     clear HB
     have HO107:=n0_
     have HO110:=n1_
     have HO114:=n2_
     have BK101:=n3_
     have HB:=n4_
     clear n0_ n1_ n2_ n3_ n4_
     (try clear hb)
     (try clear hb2)
     (try clear hk)
     (try clear hi)
     (try clear ho0)
     refine hK.out _ _ ⟨(z9 BK101.out 0).trans rfl,(z9 BK101.out 1).trans rfl⟩ (fun hHeld=>?_)
     clear hK K
     refine norm_ (a':=?_) ?_ ?_
     rotate_left
     · show Act.put _ (some 37) _ = _
       simp only [Act.put,List.setIfInBounds_toArray,List.set_cons_zero,List.set_cons_succ,zD,zG]
       rfl
     refine pure_ (i:=5) (N:=some 32) (v:=?_) (a':=?_) #[true,true,true,true,true,true,false,false,false,false] rfl rfl (zL HT_.out (by kernel_rfl)) (fun _ _ _ h=>h) (Or.inl ⟨by rfl,?_⟩) ?_ ?_
     rotate_left
     · intro w'
       go_simp
       with_reducible rfl
     rotate_left
     · simp only [Act.put,List.setIfInBounds_toArray,List.set_cons_zero,List.set_cons_succ,zD,zG]
       rfl
     refine pure_ (i:=6) (N:=some 38) (v:=?_) (a':=?_) #[true,true,true,true,true,true,true,false,false,false] rfl rfl (zL HT_.out (by kernel_rfl)) (fun _ _ _ h=>h) (Or.inl ⟨by rfl,?_⟩) ?_ ?_
     rotate_left
     · intro w'
       go_simp
       with_reducible rfl
     rotate_left
     · simp only [Act.put,List.setIfInBounds_toArray,List.set_cons_zero,List.set_cons_succ,zD,zG]
       rfl
     refine pure_ (i:=7) (N:=some 39) (v:=?_) (a':=?_) #[true,true,true,true,true,true,true,true,false,false] rfl rfl (zL HT_.out (by kernel_rfl)) (fun _ _ _ h=>h) (Or.inl ⟨by rfl,?_⟩) ?_ ?_
     rotate_left
     · intro w'
       go_simp
       with_reducible rfl
     rotate_left
     · simp only [Act.put,List.setIfInBounds_toArray,List.set_cons_zero,List.set_cons_succ,zD,zG]
       rfl
     refine pure_ (i:=8) (N:=some 9) (v:=?_) (a':=?_) #[true,true,true,true,true,true,true,true,true,false] rfl rfl (zL HT_.out (by kernel_rfl)) (fun _ _ _ h=>h) (Or.inl ⟨by rfl,?_⟩) ?_ ?_
     rotate_left
     · intro w'
       go_simp
       with_reducible rfl
     rotate_left
     · simp only [Act.put,List.setIfInBounds_toArray,List.set_cons_zero,List.set_cons_succ,zD,zG]
       rfl
     refine pure_ (i:=9) (N:=some 10) (v:=?_) (a':=?_) #[true,true,true,true,true,true,true,true,true,true] rfl rfl (zL HT_.out (by kernel_rfl)) (fun _ _ _ h=>h) (Or.inl ⟨by rfl,?_⟩) ?_ ?_
     rotate_left
     · intro w'
       go_simp
       with_reducible rfl
     rotate_left
     · simp only [Act.put,List.setIfInBounds_toArray,List.set_cons_zero,List.set_cons_succ,zD,zG]
       rfl
     refine done_ (z24 HT_.out (by kernel_rfl)) ?_
     have hcz70_0 : w69.cell? ⟨gb101,0,none⟩ = some (.slice A2_0 l2_0.length c2_0):=(z9 BK101.out 0).trans rfl
     have hcz70_1 : w69.cell? ⟨gb101,1,none⟩ = some (.int .i64 a2_1):=(z9 BK101.out 1).trans rfl
     have hfz70_0:=zd BK101.out 0
     have hfz70_1:=zd BK101.out 1
     try go_wp2_with (first|((with_reducible refine zm (f:=23) rfl ?_);refine goesL_ (some 45) rfl rfl Try.func23 (by kernel_rfl) rfl #[.int .i64 a0,.slice A1 l1.length c1,.slice A2_0 l2_0.length c2_0] rfl (by (try simp only [List.map_toArray,List.map_cons,List.map_nil]);first|done|rfl|(simp only [List.length_drop,List.length_take];rfl)) ?_;(with_reducible refine (zz.calls kj3 a0 _ _ l1 _ _ l2_0 t115 t116 _ ?side1 ?side2 ?side3 ?side4 A15.out).mono ?_);(case side1=>repeat (first|exact (Kd.z1h HR1.out HB.out)|(with_reducible refine Kd.zS ?_ _)|(with_reducible refine Kd.zT ?_ _)|(with_reducible refine Kd.z16 ?_)));(case side2=>exact HC1.out);(case side3=>repeat (first|exact (Kd.z1h HR2_0.out HB.out)|(with_reducible refine Kd.zS ?_ _)|(with_reducible refine Kd.zT ?_ _)|(with_reducible refine Kd.z16 ?_)));(case side4=>exact HC2_0.out);rintro e w71 ⟨v117,rfl,ho0,hb⟩;refine ⟨_,rfl,?_⟩;have n0_:=z2.mk (Kd.z1C (by (with_reducible repeat (first|apply Kd.zj|apply Kd.zk|apply Kd.zo));exact HO107.out) (Kd.z1v ho0) hb);have n1_:=z2.mk (Kd.z26 (by (with_reducible repeat (first|apply Kd.z1l|apply Kd.z1m|apply Kd.z1t));exact HO110.out) hb);have n2_:=z2.mk (Kd.zE (by (with_reducible repeat (first|apply Kd.zj|apply Kd.zk|apply Kd.zo));exact HO114.out) hb);have n3_:=z2.mk (Kd.z1o (Kd.z21 ho0 (Kd.R_lt (by (with_reducible repeat (first|apply Kd.zj|apply Kd.zk|apply Kd.zo));exact HO107.out))) (zc (by repeat (first|(with_reducible first|exact HB.out|apply z4|apply z1|apply z3|refine z7 ?_ GE101.out)|exact HB.out))));have n4_:=z2.mk (ze (g:=gb101) (o:=.cells #[.slice A2_0 l2_0.length c2_0,.int .i64 a2_1] 46 (0,0)) (by (with_reducible repeat (first|refine z6 ?_ _|refine z8 ?_|refine z5 ?_ _));exact BK101.out) hb);have n5_:=z2.mk (za (by repeat (first|(with_reducible first|exact HB.out|apply z4|apply z1|apply z3|refine z7 ?_ GE101.out)|exact HB.out)) hb);clear HO107;clear HO110;clear HO114;clear BK101;clear HB;have HO107:=n0_;have HO110:=n1_;have HO114:=n2_;have HO118:=n3_;have BK101:=n4_;have HB:=n5_;clear n0_ n1_ n2_ n3_ n4_ n5_;(try clear hb);(try clear hb2);(try clear hk);(try clear hi);(try clear ho0)))
     have n0_:=z2.mk (Kd.zo HO107.out)
     have n1_:=z2.mk (Kd.z1t HO110.out)
     have n2_:=z2.mk (Kd.zo HO114.out)
     have n3_:=z2.mk (Kd.zo HO118.out)
     have n4_:=z2.mk (z8 BK101.out)
     have n5_:=z2.mk (z3 HB.out)
     clear HO107
     clear HO110
     clear HO114
     clear HO118
     clear BK101
     clear HB
     have HO107:=n0_
     have HO110:=n1_
     have HO114:=n2_
     have HO118:=n3_
     have BK101:=n4_
     have HB:=n5_
     clear n0_ n1_ n2_ n3_ n4_ n5_
     refine start_ (n:=12) (S:=fun w'=>w'.cell? ⟨gb101,0,none⟩ = some (.slice A2_0 l2_0.length c2_0) ∧ w'.cell? ⟨gb101,1,none⟩ = some (.int .i64 a2_1)) (ds:=[]) #[false,false,false,false,false,false,false,false,false,false,false,false] (by kernel_rfl) rfl rfl ⟨(z9 BK101.out 0).trans rfl,(z9 BK101.out 1).trans rfl⟩ (fun hHeld=>?_);refine z1M zb.tab6 zb.bits6 (fun HT_ HW_=>?_)
     generalize w71.drew = w72 at HO107 HO110 HO114 HO118 BK101 HB hHeld ⊢
     refine pure_ (i:=0) (N:=some 49) (v:=?_) (a':=?_) #[true,false,false,false,false,false,false,false,false,false,false,false] rfl rfl (zL HT_.out (by kernel_rfl)) (fun _ _ _ h=>h) (Or.inl ⟨by rfl,?_⟩) ?_ ?_
     rotate_left
     · intro w'
       go_simp
       with_reducible rfl
     rotate_left
     · simp only [Act.put,List.setIfInBounds_toArray,List.set_cons_zero,List.set_cons_succ,zD,zG]
       rfl
     refine pure_ (i:=1) (N:=some 50) (v:=?_) (a':=?_) #[true,true,false,false,false,false,false,false,false,false,false,false] rfl rfl (zL HT_.out (by kernel_rfl)) (fun _ _ _ h=>h) (Or.inl ⟨by rfl,?_⟩) ?_ ?_
     rotate_left
     · intro w'
       go_simp
       with_reducible rfl
     rotate_left
     · simp only [Act.put,List.setIfInBounds_toArray,List.set_cons_zero,List.set_cons_succ,zD,zG]
       rfl
     refine pure_ (i:=3) (N:=some 52) (v:=?_) (a':=?_) #[true,true,false,true,false,false,false,false,false,false,false,false] rfl rfl (zL HT_.out (by kernel_rfl)) (fun _ _ _ h=>h) (Or.inl ⟨by rfl,?_⟩) ?_ ?_
     rotate_left
     · intro w'
       go_simp
       with_reducible rfl
     rotate_left
     · simp only [Act.put,List.setIfInBounds_toArray,List.set_cons_zero,List.set_cons_succ,zD,zG]
       rfl
     refine take_ (i:=4) (N:=some 53) (v:=?_) (a':=?_) #[true,true,false,true,true,false,false,false,false,false,false,false] rfl rfl (z1y HT_.out HW_.out (by kernel_rfl)) (fun _ _ _ h=>h) (Or.inl ⟨by rfl,?_⟩) hHeld ?_ ?_
     rotate_left
     · rintro w' ⟨s0,s1⟩
       go_simp
       with_reducible rfl
     rotate_left
     · simp only [Act.put,List.setIfInBounds_toArray,List.set_cons_zero,List.set_cons_succ,zD,zG]
       rfl
     refine one_ (i:=2) (N:=some 51) #[true,true,true,true,true,false,false,false,false,false,false,false] rfl rfl (z1A HT_.out (by kernel_rfl)) (by decide) (fun K hK=>?_)
     refine goes_ Try.func22 (by kernel_rfl) rfl #[.slice A1 l1.length c1] (by rfl) rfl rfl (by (try simp only [List.map_toArray,List.map_cons,List.map_nil]);first|done|rfl|(simp only [List.length_drop,List.length_take];rfl)) ?_
     with_reducible refine (zu.calls kj3 _ _ l1 t119 _ ?side1 ?side2 A16.out).mono ?_
     (case side1=>repeat (first|exact (Kd.z1h HR1.out HB.out)|(with_reducible refine Kd.zS ?_ _)|(with_reducible refine Kd.zT ?_ _)|(with_reducible refine Kd.z16 ?_)))
     (case side2=>exact HC1.out)
     rintro e w73 ⟨v120,rfl,ho0,hb⟩
     refine ⟨_,rfl,?_⟩
     have n0_:=z2.mk (Kd.zE (by (with_reducible repeat (first|apply Kd.zj|apply Kd.zk|apply Kd.zo));exact HO107.out) hb)
     have n1_:=z2.mk (Kd.z1x (by (with_reducible repeat (first|apply Kd.z1l|apply Kd.z1m|apply Kd.z1t));exact HO110.out) (Kd.z5j ho0) hb)
     have n2_:=z2.mk (Kd.zE (by (with_reducible repeat (first|apply Kd.zj|apply Kd.zk|apply Kd.zo));exact HO114.out) hb)
     have n3_:=z2.mk (Kd.zE (by (with_reducible repeat (first|apply Kd.zj|apply Kd.zk|apply Kd.zo));exact HO118.out) hb)
     have n4_:=z2.mk (Kd.z2I (Kd.z3l (Kd.z3l ho0 (Kd.S_lt (by (with_reducible repeat (first|apply Kd.z1l|apply Kd.z1m|apply Kd.z1t));exact HO110.out))) (Kd.R_lt (by (with_reducible repeat (first|apply Kd.zj|apply Kd.zk|apply Kd.zo));exact HO114.out))) (zc (by repeat (first|(with_reducible first|exact HB.out|apply z4|apply z1|apply z3|refine z7 ?_ GE101.out)|exact HB.out))))
     have n5_:=z2.mk (ze (g:=gb101) (o:=.cells #[.slice A2_0 l2_0.length c2_0,.int .i64 a2_1] 46 (0,0)) (by (with_reducible repeat (first|refine z6 ?_ _|refine z8 ?_|refine z5 ?_ _));exact BK101.out) hb)
     have n6_:=z2.mk (za (by repeat (first|(with_reducible first|exact HB.out|apply z4|apply z1|apply z3|refine z7 ?_ GE101.out)|exact HB.out)) hb)
     clear HO107
     clear HO110
     clear HO114
     clear HO118
     clear BK101
     clear HB
     have HO107:=n0_
     have HO110:=n1_
     have HO114:=n2_
     have HO118:=n3_
     have HO121:=n4_
     have BK101:=n5_
     have HB:=n6_
     clear n0_ n1_ n2_ n3_ n4_ n5_ n6_
     (try clear hb)
     (try clear hb2)
     (try clear hk)
     (try clear hi)
     (try clear ho0)
     refine hK.out _ _ ⟨(z9 BK101.out 0).trans rfl,(z9 BK101.out 1).trans rfl⟩ (fun hHeld=>?_)
     clear hK K
     refine norm_ (a':=?_) ?_ ?_
     rotate_left
     · show Act.put _ (some 51) _ = _
       simp only [Act.put,List.setIfInBounds_toArray,List.set_cons_zero,List.set_cons_succ,zD,zG]
       rfl
     refine one_ (i:=5) (N:=some 54) #[true,true,true,true,true,true,false,false,false,false,false,false] rfl rfl (z1A HT_.out (by kernel_rfl)) (by decide) (fun K hK=>?_)
     refine goes_ Try.func14 (by kernel_rfl) rfl #[.slice A2_0 l2_0.length c2_0] (by rfl) rfl rfl (by (try simp only [List.map_toArray,List.map_cons,List.map_nil]);first|done|rfl|(simp only [List.length_drop,List.length_take];rfl)) ?_
     with_reducible refine (zy.calls kj3 _ _ l2_0 t122 _ ?side1 ?side2 A17.out).mono ?_
     (case side1=>repeat (first|exact (Kd.z1h HR2_0.out HB.out)|(with_reducible refine Kd.zS ?_ _)|(with_reducible refine Kd.zT ?_ _)|(with_reducible refine Kd.z16 ?_)))
     (case side2=>exact HC2_0.out)
     rintro e w74 ⟨v123,rfl,ho0,hb⟩
     refine ⟨_,rfl,?_⟩
     have n0_:=z2.mk (Kd.zE (by (with_reducible repeat (first|apply Kd.zj|apply Kd.zk|apply Kd.zo));exact HO107.out) hb)
     have n1_:=z2.mk (Kd.z1x (by (with_reducible repeat (first|apply Kd.z1l|apply Kd.z1m|apply Kd.z1t));exact HO110.out) (Kd.z1v ho0) hb)
     have n2_:=z2.mk (Kd.z1C (by (with_reducible repeat (first|apply Kd.zj|apply Kd.zk|apply Kd.zo));exact HO114.out) (Kd.z1v ho0) hb)
     have n3_:=z2.mk (Kd.zE (by (with_reducible repeat (first|apply Kd.zj|apply Kd.zk|apply Kd.zo));exact HO118.out) hb)
     have n4_:=z2.mk (Kd.z1x (by (with_reducible repeat (first|apply Kd.z1l|apply Kd.z1m|apply Kd.z1t));exact HO121.out) (Kd.z1v ho0) hb)
     have n5_:=z2.mk (Kd.z1o (Kd.z21 ho0 (Kd.R_lt (by (with_reducible repeat (first|apply Kd.zj|apply Kd.zk|apply Kd.zo));exact HO114.out))) (zc (by repeat (first|(with_reducible first|exact HB.out|apply z4|apply z1|apply z3|refine z7 ?_ GE101.out)|exact HB.out))))
     have n6_:=z2.mk (ze (g:=gb101) (o:=.cells #[.slice A2_0 l2_0.length c2_0,.int .i64 a2_1] 46 (0,0)) (by (with_reducible repeat (first|refine z6 ?_ _|refine z8 ?_|refine z5 ?_ _));exact BK101.out) hb)
     have n7_:=z2.mk (za (by repeat (first|(with_reducible first|exact HB.out|apply z4|apply z1|apply z3|refine z7 ?_ GE101.out)|exact HB.out)) hb)
     clear HO107
     clear HO110
     clear HO114
     clear HO118
     clear HO121
     clear BK101
     clear HB
     have HO107:=n0_
     have HO110:=n1_
     have HO114:=n2_
     have HO118:=n3_
     have HO121:=n4_
     have HO124:=n5_
     have BK101:=n6_
     have HB:=n7_
     clear n0_ n1_ n2_ n3_ n4_ n5_ n6_ n7_
     (try clear hb)
     (try clear hb2)
     (try clear hk)
     (try clear hi)
     (try clear ho0)
     obtain ⟨Ao75,co75,eo75⟩:=Kd.z2J HO121.out
     (first|subst eo75|(injection eo75 with f1_ f2_ f3_;have f4_:=f1_.symm;have f5_:=f3_.symm;clear f1_ f2_ f3_;subst f4_;subst f5_))
     obtain ⟨Ao76,co76,eo76⟩:=Kd.z1s HO124.out
     (first|subst eo76|(injection eo76 with f1_ f2_ f3_;have f4_:=f1_.symm;have f5_:=f3_.symm;clear f1_ f2_ f3_;subst f4_;subst f5_))
     refine hK.out _ _ ⟨(z9 BK101.out 0).trans rfl,(z9 BK101.out 1).trans rfl⟩ (fun hHeld=>?_)
     clear hK K
     refine norm_ (a':=?_) ?_ ?_
     rotate_left
     · show Act.put _ (some 54) _ = _
       simp only [Act.put,List.setIfInBounds_toArray,List.set_cons_zero,List.set_cons_succ,zD,zG]
       rfl
     refine one_ (i:=6) (N:=some 55) #[true,true,true,true,true,true,true,false,false,false,false,false] rfl rfl (z1A HT_.out (by kernel_rfl)) (by decide) (fun K hK=>?_)
     refine goes_ Try.func24 (by kernel_rfl) rfl #[.int .i64 a0,.slice Ao75 t119.length co75,.slice Ao76 t122.length co76] (by rfl) rfl rfl (by (try simp only [List.map_toArray,List.map_cons,List.map_nil]);first|done|rfl|(simp only [List.length_drop,List.length_take];rfl)) ?_
     with_reducible refine (zg.calls kj3 a0 _ _ t119 _ _ t122 t125 t126 _ ?side1 ?side2 ?side3 ?side4 A18.out).mono ?_
     (case side1=>repeat (first|exact (Kd.z1P HO121.out).2.2|(with_reducible refine Kd.zS ?_ _)|(with_reducible refine Kd.zT ?_ _)|(with_reducible refine Kd.z16 ?_)))
     (case side2=>exact (Kd.z1P HO121.out).2.1)
     (case side3=>repeat (first|exact (Kd.zI HO124.out).2.2|(with_reducible refine Kd.zS ?_ _)|(with_reducible refine Kd.zT ?_ _)|(with_reducible refine Kd.z16 ?_)))
     (case side4=>exact (Kd.zI HO124.out).2.1)
     rintro e w77 ⟨v127,rfl,ho0,hb⟩
     refine ⟨_,rfl,?_⟩
     have n0_:=z2.mk (Kd.zE (by (with_reducible repeat (first|apply Kd.zj|apply Kd.zk|apply Kd.zo));exact HO107.out) hb)
     have n1_:=z2.mk (Kd.z1x (by (with_reducible repeat (first|apply Kd.z1l|apply Kd.z1m|apply Kd.z1t));exact HO110.out) (Kd.z1v ho0) hb)
     have n2_:=z2.mk (Kd.z1C (by (with_reducible repeat (first|apply Kd.zj|apply Kd.zk|apply Kd.zo));exact HO114.out) (Kd.z1v ho0) hb)
     have n3_:=z2.mk (Kd.zE (by (with_reducible repeat (first|apply Kd.zj|apply Kd.zk|apply Kd.zo));exact HO118.out) hb)
     have n4_:=z2.mk (Kd.z1x (by (with_reducible repeat (first|apply Kd.z1l|apply Kd.z1m|apply Kd.z1t));exact HO121.out) (Kd.z1v ho0) hb)
     have n5_:=z2.mk (Kd.z1C (by (with_reducible repeat (first|apply Kd.zj|apply Kd.zk|apply Kd.zo));exact HO124.out) (Kd.z1v ho0) hb)
     have n6_:=z2.mk (Kd.z1o (Kd.z21 (Kd.z21 ho0 (Kd.R_lt (by (with_reducible repeat (first|apply Kd.zj|apply Kd.zk|apply Kd.zo));exact HO114.out))) (Kd.R_lt (by (with_reducible repeat (first|apply Kd.zj|apply Kd.zk|apply Kd.zo));exact HO124.out))) (zc (by repeat (first|(with_reducible first|exact HB.out|apply z4|apply z1|apply z3|refine z7 ?_ GE101.out)|exact HB.out))))
     have n7_:=z2.mk (ze (g:=gb101) (o:=.cells #[.slice A2_0 l2_0.length c2_0,.int .i64 a2_1] 46 (0,0)) (by (with_reducible repeat (first|refine z6 ?_ _|refine z8 ?_|refine z5 ?_ _));exact BK101.out) hb)
     have n8_:=z2.mk (za (by repeat (first|(with_reducible first|exact HB.out|apply z4|apply z1|apply z3|refine z7 ?_ GE101.out)|exact HB.out)) hb)
     clear HO107
     clear HO110
     clear HO114
     clear HO118
     clear HO121
     clear HO124
     clear BK101
     clear HB
     have HO107:=n0_
     have HO110:=n1_
     have HO114:=n2_
     have HO118:=n3_
     have HO121:=n4_
     have HO124:=n5_
     have HO128:=n6_
     have BK101:=n7_
     have HB:=n8_
     clear n0_ n1_ n2_ n3_ n4_ n5_ n6_ n7_ n8_
     (try clear hb)
     (try clear hb2)
     (try clear hk)
     (try clear hi)
     (try clear ho0)
     refine hK.out _ _ ⟨(z9 BK101.out 0).trans rfl,(z9 BK101.out 1).trans rfl⟩ (fun hHeld=>?_)
     clear hK K
     refine norm_ (a':=?_) ?_ ?_
     rotate_left
     · show Act.put _ (some 55) _ = _
       simp only [Act.put,List.setIfInBounds_toArray,List.set_cons_zero,List.set_cons_succ,zD,zG]
       rfl
     refine pure_ (i:=7) (N:=some 48) (v:=?_) (a':=?_) #[true,true,true,true,true,true,true,true,false,false,false,false] rfl rfl (zL HT_.out (by kernel_rfl)) (fun _ _ _ h=>h) (Or.inl ⟨by rfl,?_⟩) ?_ ?_
     rotate_left
     · intro w'
       go_simp
       with_reducible rfl
     rotate_left
     · simp only [Act.put,List.setIfInBounds_toArray,List.set_cons_zero,List.set_cons_succ,zD,zG]
       rfl
     refine pure_ (i:=8) (N:=some 56) (v:=?_) (a':=?_) #[true,true,true,true,true,true,true,true,true,false,false,false] rfl rfl (zL HT_.out (by kernel_rfl)) (fun _ _ _ h=>h) (Or.inl ⟨by rfl,?_⟩) ?_ ?_
     rotate_left
     · intro w'
       go_simp
       with_reducible rfl
     rotate_left
     · simp only [Act.put,List.setIfInBounds_toArray,List.set_cons_zero,List.set_cons_succ,zD,zG]
       rfl
     refine pure_ (i:=9) (N:=some 57) (v:=?_) (a':=?_) #[true,true,true,true,true,true,true,true,true,true,false,false] rfl rfl (zL HT_.out (by kernel_rfl)) (fun _ _ _ h=>h) (Or.inl ⟨by rfl,?_⟩) ?_ ?_
     rotate_left
     · intro w'
       go_simp
       with_reducible rfl
     rotate_left
     · simp only [Act.put,List.setIfInBounds_toArray,List.set_cons_zero,List.set_cons_succ,zD,zG]
       rfl
     refine pure_ (i:=10) (N:=some 13) (v:=?_) (a':=?_) #[true,true,true,true,true,true,true,true,true,true,true,false] rfl rfl (zL HT_.out (by kernel_rfl)) (fun _ _ _ h=>h) (Or.inl ⟨by rfl,?_⟩) ?_ ?_
     rotate_left
     · intro w'
       go_simp
       with_reducible rfl
     rotate_left
     · simp only [Act.put,List.setIfInBounds_toArray,List.set_cons_zero,List.set_cons_succ,zD,zG]
       rfl
     refine pure_ (i:=11) (N:=some 14) (v:=?_) (a':=?_) #[true,true,true,true,true,true,true,true,true,true,true,true] rfl rfl (zL HT_.out (by kernel_rfl)) (fun _ _ _ h=>h) (Or.inl ⟨by rfl,?_⟩) ?_ ?_
     rotate_left
     · intro w'
       go_simp
       with_reducible rfl
     rotate_left
     · simp only [Act.put,List.setIfInBounds_toArray,List.set_cons_zero,List.set_cons_succ,zD,zG]
       rfl
     refine done_ (z24 HT_.out (by kernel_rfl)) ?_
     try go_wp2_with (first|((with_reducible refine zm (f:=19) rfl ?_);refine goesL_ (some 58) rfl rfl Try.func19 (by kernel_rfl) rfl #[] rfl (by (try simp only [List.map_toArray,List.map_cons,List.map_nil]);first|done|rfl|(simp only [List.length_drop,List.length_take];rfl)) ?_;(with_reducible refine (zJ.calls kj3  true _ A19.out).mono ?_);rintro e w78 ⟨rfl,hb⟩;refine ⟨_,rfl,?_⟩;have n0_:=z2.mk (Kd.zE (by (with_reducible repeat (first|apply Kd.zj|apply Kd.zk|apply Kd.zo));exact HO107.out) hb);have n1_:=z2.mk (Kd.z26 (by (with_reducible repeat (first|apply Kd.z1l|apply Kd.z1m|apply Kd.z1t));exact HO110.out) hb);have n2_:=z2.mk (Kd.zE (by (with_reducible repeat (first|apply Kd.zj|apply Kd.zk|apply Kd.zo));exact HO114.out) hb);have n3_:=z2.mk (Kd.zE (by (with_reducible repeat (first|apply Kd.zj|apply Kd.zk|apply Kd.zo));exact HO118.out) hb);have n4_:=z2.mk (Kd.z26 (by (with_reducible repeat (first|apply Kd.z1l|apply Kd.z1m|apply Kd.z1t));exact HO121.out) hb);have n5_:=z2.mk (Kd.zE (by (with_reducible repeat (first|apply Kd.zj|apply Kd.zk|apply Kd.zo));exact HO124.out) hb);have n6_:=z2.mk (Kd.zE (by (with_reducible repeat (first|apply Kd.zj|apply Kd.zk|apply Kd.zo));exact HO128.out) hb);have n7_:=z2.mk (ze (g:=gb101) (o:=.cells #[.slice A2_0 l2_0.length c2_0,.int .i64 a2_1] 46 (0,0)) (by (with_reducible repeat (first|refine z6 ?_ _|refine z8 ?_|refine z5 ?_ _));exact BK101.out) hb);have n8_:=z2.mk (za (by repeat (first|(with_reducible first|exact HB.out|apply z4|apply z1|apply z3|refine z7 ?_ GE101.out)|exact HB.out)) hb);clear HO107;clear HO110;clear HO114;clear HO118;clear HO121;clear HO124;clear HO128;clear BK101;clear HB;have HO107:=n0_;have HO110:=n1_;have HO114:=n2_;have HO118:=n3_;have HO121:=n4_;have HO124:=n5_;have HO128:=n6_;have BK101:=n7_;have HB:=n8_;clear n0_ n1_ n2_ n3_ n4_ n5_ n6_ n7_ n8_;(try clear hb);(try clear hb2);(try clear hk);(try clear hi);obtain ⟨Ao79,co79,eo79⟩:=Kd.z1s HO107.out;subst eo79;obtain ⟨Ao80,co80,eo80⟩:=Kd.z1s HO114.out;subst eo80)|(go_at_call 25;(with_reducible refine (zp.calls kj3 _ _ t104 _ _ t111 true _ ?side1 ?side2 ?side3 ?side4 A21.out).mono ?_);(case side1=>repeat (first|exact (Kd.zI HO107.out).2.2|(with_reducible refine Kd.zS ?_ _)|(with_reducible refine Kd.zT ?_ _)|(with_reducible refine Kd.z16 ?_)));(case side2=>exact (Kd.zI HO107.out).2.1);(case side3=>repeat (first|exact (Kd.zI HO114.out).2.2|(with_reducible refine Kd.zS ?_ _)|(with_reducible refine Kd.zT ?_ _)|(with_reducible refine Kd.z16 ?_)));(case side4=>exact (Kd.zI HO114.out).2.1);rintro e w' ⟨rfl,⟨nd,rfl⟩⟩))
     go_ret
     exact ⟨by first|rfl|(simp [zh,zi] <;> rfl)|(simp [*,zh,zi] <;> rfl),by repeat (first|(with_reducible first|exact HB.out|apply z4|apply z1|apply z3|refine z7 ?_ GE101.out)|exact HB.out)⟩
   rw [if_pos c23] at H
   have c23b0 : (t105 == t112) = true:=beq_iff_eq.mpr c23
   have c23b1 : (t105 != t112) = false:=bne_eq_false_iff_eq.mpr c23
   clear c23
   replace H:=Option.bind_eq_some_iff.mp H
   obtain ⟨t131,A240,H⟩:=H
   replace H : (if t131 = true then (some (t116 == t126)) else (some false)) = some r:=H
   have A24:=z2.mk A240
   clear A240
   by_cases c25 : t131 = true
   · subst c25
     have H1 : (some (t116 == t126)) = some r:=by rw [if_pos rfl] at H;exact H
     clear H
     have H:=H1
     clear H1
     obtain rfl:=Option.some.inj H
     have hcz26_0 : wc.cell? ⟨gb101,0,none⟩ = some (.slice A2_0 l2_0.length c2_0):=(z9 BK101.out 0).trans rfl
     have hcz26_1 : wc.cell? ⟨gb101,1,none⟩ = some (.int .i64 a2_1):=(z9 BK101.out 1).trans rfl
     have hfz26_0:=zd BK101.out 0
     have hfz26_1:=zd BK101.out 1
     try go_wp2_with (first|((with_reducible refine zm (f:=20) rfl ?_);refine goesL_ (some 29) rfl rfl Try.func20 (by kernel_rfl) rfl #[.slice A1 l1.length c1,.int .i64 a2_1] rfl (by (try simp only [List.map_toArray,List.map_cons,List.map_nil]);first|done|rfl|(simp only [List.length_drop,List.length_take];rfl)) ?_;(with_reducible refine (zW.calls kj3 _ _ l1 a2_1 t104 t105 _ ?side1 ?side2 A12.out).mono ?_);(case side1=>repeat (first|exact (Kd.z1h HR1.out HB.out)|(with_reducible refine Kd.zS ?_ _)|(with_reducible refine Kd.zT ?_ _)|(with_reducible refine Kd.z16 ?_)));(case side2=>exact HC1.out);rintro e w27 ⟨v106,rfl,ho0,hb⟩;refine ⟨_,rfl,?_⟩;have n0_:=z2.mk (Kd.z1o ho0 (zc (by repeat (first|(with_reducible first|exact HB.out|apply z4|apply z1|apply z3|refine z7 ?_ GE101.out)|exact HB.out))));have n1_:=z2.mk (ze (g:=gb101) (o:=.cells #[.slice A2_0 l2_0.length c2_0,.int .i64 a2_1] 46 (0,0)) (by (with_reducible repeat (first|refine z6 ?_ _|refine z8 ?_|refine z5 ?_ _));exact BK101.out) hb);have n2_:=z2.mk (za (by repeat (first|(with_reducible first|exact HB.out|apply z4|apply z1|apply z3|refine z7 ?_ GE101.out)|exact HB.out)) hb);clear BK101;clear HB;have HO107:=n0_;have BK101:=n1_;have HB:=n2_;clear n0_ n1_ n2_;(try clear hb);(try clear hb2);(try clear hk);(try clear hi);(try clear ho0)))
     have n0_:=z2.mk (Kd.zo HO107.out)
     have n1_:=z2.mk (z8 BK101.out)
     have n2_:=z2.mk (z3 HB.out)
     clear HO107
     clear BK101
     clear HB
     have HO107:=n0_
     have BK101:=n1_
     have HB:=n2_
     clear n0_ n1_ n2_
     refine start_ (n:=10) (S:=fun w'=>w'.cell? ⟨gb101,0,none⟩ = some (.slice A2_0 l2_0.length c2_0) ∧ w'.cell? ⟨gb101,1,none⟩ = some (.int .i64 a2_1)) (ds:=[]) #[false,false,false,false,false,false,false,false,false,false] (by kernel_rfl) rfl rfl ⟨(z9 BK101.out 0).trans rfl,(z9 BK101.out 1).trans rfl⟩ (fun hHeld=>?_);refine z1M zb.tab4 zb.bits4 (fun HT_ HW_=>?_)
     generalize w27.drew = w28 at HO107 BK101 HB hHeld ⊢
     refine pure_ (i:=0) (N:=some 33) (v:=?_) (a':=?_) #[true,false,false,false,false,false,false,false,false,false] rfl rfl (zL HT_.out (by kernel_rfl)) (fun _ _ _ h=>h) (Or.inl ⟨by rfl,?_⟩) ?_ ?_
     rotate_left
     · intro w'
       go_simp
       with_reducible rfl
     rotate_left
     · simp only [Act.put,List.setIfInBounds_toArray,List.set_cons_zero,List.set_cons_succ,zD,zG]
       rfl
     refine pure_ (i:=2) (N:=some 35) (v:=?_) (a':=?_) #[true,false,true,false,false,false,false,false,false,false] rfl rfl (zL HT_.out (by kernel_rfl)) (fun _ _ _ h=>h) (Or.inl ⟨by rfl,?_⟩) ?_ ?_
     rotate_left
     · intro w'
       go_simp
       with_reducible rfl
     rotate_left
     · simp only [Act.put,List.setIfInBounds_toArray,List.set_cons_zero,List.set_cons_succ,zD,zG]
       rfl
     refine take_ (i:=3) (N:=some 36) (v:=?_) (a':=?_) #[true,false,true,true,false,false,false,false,false,false] rfl rfl (z1y HT_.out HW_.out (by kernel_rfl)) (fun _ _ _ h=>h) (Or.inl ⟨by rfl,?_⟩) hHeld ?_ ?_
     rotate_left
     · rintro w' ⟨s0,s1⟩
       go_simp
       with_reducible rfl
     rotate_left
     · simp only [Act.put,List.setIfInBounds_toArray,List.set_cons_zero,List.set_cons_succ,zD,zG]
       rfl
     refine one_ (i:=1) (N:=some 34) #[true,true,true,true,false,false,false,false,false,false] rfl rfl (z1A HT_.out (by kernel_rfl)) (by decide) (fun K hK=>?_)
     refine goes_ Try.func22 (by kernel_rfl) rfl #[.slice A1 l1.length c1] (by rfl) rfl rfl (by (try simp only [List.map_toArray,List.map_cons,List.map_nil]);first|done|rfl|(simp only [List.length_drop,List.length_take];rfl)) ?_
     with_reducible refine (zu.calls kj3 _ _ l1 t108 _ ?side1 ?side2 A13.out).mono ?_
     (case side1=>repeat (first|exact (Kd.z1h HR1.out HB.out)|(with_reducible refine Kd.zS ?_ _)|(with_reducible refine Kd.zT ?_ _)|(with_reducible refine Kd.z16 ?_)))
     (case side2=>exact HC1.out)
     rintro e w29 ⟨v109,rfl,ho0,hb⟩
     refine ⟨_,rfl,?_⟩
     have n0_:=z2.mk (Kd.zE (by (with_reducible repeat (first|apply Kd.zj|apply Kd.zk|apply Kd.zo));exact HO107.out) hb)
     have n1_:=z2.mk (Kd.z2I ho0 (zc (by repeat (first|(with_reducible first|exact HB.out|apply z4|apply z1|apply z3|refine z7 ?_ GE101.out)|exact HB.out))))
     have n2_:=z2.mk (ze (g:=gb101) (o:=.cells #[.slice A2_0 l2_0.length c2_0,.int .i64 a2_1] 46 (0,0)) (by (with_reducible repeat (first|refine z6 ?_ _|refine z8 ?_|refine z5 ?_ _));exact BK101.out) hb)
     have n3_:=z2.mk (za (by repeat (first|(with_reducible first|exact HB.out|apply z4|apply z1|apply z3|refine z7 ?_ GE101.out)|exact HB.out)) hb)
     clear HO107
     clear BK101
     clear HB
     have HO107:=n0_
     have HO110:=n1_
     have BK101:=n2_
     have HB:=n3_
     clear n0_ n1_ n2_ n3_
     (try clear hb)
     (try clear hb2)
     (try clear hk)
     (try clear hi)
     (try clear ho0)
     obtain ⟨Ao30,co30,eo30⟩:=Kd.z2J HO110.out
     (first|subst eo30|(injection eo30 with f1_ f2_ f3_;have f4_:=f1_.symm;have f5_:=f3_.symm;clear f1_ f2_ f3_;subst f4_;subst f5_))
     refine hK.out _ _ ⟨(z9 BK101.out 0).trans rfl,(z9 BK101.out 1).trans rfl⟩ (fun hHeld=>?_)
     clear hK K
     refine norm_ (a':=?_) ?_ ?_
     rotate_left
     · show Act.put _ (some 34) _ = _
       simp only [Act.put,List.setIfInBounds_toArray,List.set_cons_zero,List.set_cons_succ,zD,zG]
       rfl
     refine one_ (i:=4) (N:=some 37) #[true,true,true,true,true,false,false,false,false,false] rfl rfl (z1A HT_.out (by kernel_rfl)) (by decide) (fun K hK=>?_)
     refine goes_ Try.func21 (by kernel_rfl) rfl #[.slice Ao30 t108.length co30,.int .i64 a2_1] (by rfl) rfl rfl (by (try simp only [List.map_toArray,List.map_cons,List.map_nil]);first|done|rfl|(simp only [List.length_drop,List.length_take];rfl)) ?_
     with_reducible refine (zf.calls kj3 _ _ t108 a2_1 t111 t112 _ ?side1 ?side2 A14.out).mono ?_
     (case side1=>repeat (first|exact (Kd.z1P HO110.out).2.2|(with_reducible refine Kd.zS ?_ _)|(with_reducible refine Kd.zT ?_ _)|(with_reducible refine Kd.z16 ?_)))
     (case side2=>exact (Kd.z1P HO110.out).2.1)
     rintro e w31 ⟨v113,rfl,ho0,hb⟩
     refine ⟨_,rfl,?_⟩
     have n0_:=z2.mk (Kd.zE (by (with_reducible repeat (first|apply Kd.zj|apply Kd.zk|apply Kd.zo));exact HO107.out) hb)
     have n1_:=z2.mk (Kd.z1x (by (with_reducible repeat (first|apply Kd.z1l|apply Kd.z1m|apply Kd.z1t));exact HO110.out) (Kd.z1v ho0) hb)
     have n2_:=z2.mk (Kd.z1o ho0 (zc (by repeat (first|(with_reducible first|exact HB.out|apply z4|apply z1|apply z3|refine z7 ?_ GE101.out)|exact HB.out))))
     have n3_:=z2.mk (ze (g:=gb101) (o:=.cells #[.slice A2_0 l2_0.length c2_0,.int .i64 a2_1] 46 (0,0)) (by (with_reducible repeat (first|refine z6 ?_ _|refine z8 ?_|refine z5 ?_ _));exact BK101.out) hb)
     have n4_:=z2.mk (za (by repeat (first|(with_reducible first|exact HB.out|apply z4|apply z1|apply z3|refine z7 ?_ GE101.out)|exact HB.out)) hb)
     clear HO107
     clear HO110
     clear BK101
     clear HB
     have HO107:=n0_
     have HO110:=n1_
     have HO114:=n2_
     have BK101:=n3_
     have HB:=n4_
     clear n0_ n1_ n2_ n3_ n4_
     (try clear hb)
     (try clear hb2)
     (try clear hk)
     (try clear hi)
     (try clear ho0)
     refine hK.out _ _ ⟨(z9 BK101.out 0).trans rfl,(z9 BK101.out 1).trans rfl⟩ (fun hHeld=>?_)
     clear hK K
     refine norm_ (a':=?_) ?_ ?_
     rotate_left
     · show Act.put _ (some 37) _ = _
       simp only [Act.put,List.setIfInBounds_toArray,List.set_cons_zero,List.set_cons_succ,zD,zG]
       rfl
     refine pure_ (i:=5) (N:=some 32) (v:=?_) (a':=?_) #[true,true,true,true,true,true,false,false,false,false] rfl rfl (zL HT_.out (by kernel_rfl)) (fun _ _ _ h=>h) (Or.inl ⟨by rfl,?_⟩) ?_ ?_
     rotate_left
     · intro w'
       go_simp
       with_reducible rfl
     rotate_left
     · simp only [Act.put,List.setIfInBounds_toArray,List.set_cons_zero,List.set_cons_succ,zD,zG]
       rfl
     refine pure_ (i:=6) (N:=some 38) (v:=?_) (a':=?_) #[true,true,true,true,true,true,true,false,false,false] rfl rfl (zL HT_.out (by kernel_rfl)) (fun _ _ _ h=>h) (Or.inl ⟨by rfl,?_⟩) ?_ ?_
     rotate_left
     · intro w'
       go_simp
       with_reducible rfl
     rotate_left
     · simp only [Act.put,List.setIfInBounds_toArray,List.set_cons_zero,List.set_cons_succ,zD,zG]
       rfl
     refine pure_ (i:=7) (N:=some 39) (v:=?_) (a':=?_) #[true,true,true,true,true,true,true,true,false,false] rfl rfl (zL HT_.out (by kernel_rfl)) (fun _ _ _ h=>h) (Or.inl ⟨by rfl,?_⟩) ?_ ?_
     rotate_left
     · intro w'
       go_simp
       with_reducible rfl
     rotate_left
     · simp only [Act.put,List.setIfInBounds_toArray,List.set_cons_zero,List.set_cons_succ,zD,zG]
       rfl
     refine pure_ (i:=8) (N:=some 9) (v:=?_) (a':=?_) #[true,true,true,true,true,true,true,true,true,false] rfl rfl (zL HT_.out (by kernel_rfl)) (fun _ _ _ h=>h) (Or.inl ⟨by rfl,?_⟩) ?_ ?_
     rotate_left
     · intro w'
       go_simp
       with_reducible rfl
     rotate_left
     · simp only [Act.put,List.setIfInBounds_toArray,List.set_cons_zero,List.set_cons_succ,zD,zG]
       rfl
     refine pure_ (i:=9) (N:=some 10) (v:=?_) (a':=?_) #[true,true,true,true,true,true,true,true,true,true] rfl rfl (zL HT_.out (by kernel_rfl)) (fun _ _ _ h=>h) (Or.inl ⟨by rfl,?_⟩) ?_ ?_
     rotate_left
     · intro w'
       go_simp
       with_reducible rfl
     rotate_left
     · simp only [Act.put,List.setIfInBounds_toArray,List.set_cons_zero,List.set_cons_succ,zD,zG]
       rfl
     refine done_ (z24 HT_.out (by kernel_rfl)) ?_
     have hcz32_0 : w31.cell? ⟨gb101,0,none⟩ = some (.slice A2_0 l2_0.length c2_0):=(z9 BK101.out 0).trans rfl
     have hcz32_1 : w31.cell? ⟨gb101,1,none⟩ = some (.int .i64 a2_1):=(z9 BK101.out 1).trans rfl
     have hfz32_0:=zd BK101.out 0
     have hfz32_1:=zd BK101.out 1
     try go_wp2_with (first|((with_reducible refine zm (f:=23) rfl ?_);refine goesL_ (some 45) rfl rfl Try.func23 (by kernel_rfl) rfl #[.int .i64 a0,.slice A1 l1.length c1,.slice A2_0 l2_0.length c2_0] rfl (by (try simp only [List.map_toArray,List.map_cons,List.map_nil]);first|done|rfl|(simp only [List.length_drop,List.length_take];rfl)) ?_;(with_reducible refine (zz.calls kj3 a0 _ _ l1 _ _ l2_0 t115 t116 _ ?side1 ?side2 ?side3 ?side4 A15.out).mono ?_);(case side1=>repeat (first|exact (Kd.z1h HR1.out HB.out)|(with_reducible refine Kd.zS ?_ _)|(with_reducible refine Kd.zT ?_ _)|(with_reducible refine Kd.z16 ?_)));(case side2=>exact HC1.out);(case side3=>repeat (first|exact (Kd.z1h HR2_0.out HB.out)|(with_reducible refine Kd.zS ?_ _)|(with_reducible refine Kd.zT ?_ _)|(with_reducible refine Kd.z16 ?_)));(case side4=>exact HC2_0.out);rintro e w33 ⟨v117,rfl,ho0,hb⟩;refine ⟨_,rfl,?_⟩;have n0_:=z2.mk (Kd.z1C (by (with_reducible repeat (first|apply Kd.zj|apply Kd.zk|apply Kd.zo));exact HO107.out) (Kd.z1v ho0) hb);have n1_:=z2.mk (Kd.z26 (by (with_reducible repeat (first|apply Kd.z1l|apply Kd.z1m|apply Kd.z1t));exact HO110.out) hb);have n2_:=z2.mk (Kd.zE (by (with_reducible repeat (first|apply Kd.zj|apply Kd.zk|apply Kd.zo));exact HO114.out) hb);have n3_:=z2.mk (Kd.z1o (Kd.z21 ho0 (Kd.R_lt (by (with_reducible repeat (first|apply Kd.zj|apply Kd.zk|apply Kd.zo));exact HO107.out))) (zc (by repeat (first|(with_reducible first|exact HB.out|apply z4|apply z1|apply z3|refine z7 ?_ GE101.out)|exact HB.out))));have n4_:=z2.mk (ze (g:=gb101) (o:=.cells #[.slice A2_0 l2_0.length c2_0,.int .i64 a2_1] 46 (0,0)) (by (with_reducible repeat (first|refine z6 ?_ _|refine z8 ?_|refine z5 ?_ _));exact BK101.out) hb);have n5_:=z2.mk (za (by repeat (first|(with_reducible first|exact HB.out|apply z4|apply z1|apply z3|refine z7 ?_ GE101.out)|exact HB.out)) hb);clear HO107;clear HO110;clear HO114;clear BK101;clear HB;have HO107:=n0_;have HO110:=n1_;have HO114:=n2_;have HO118:=n3_;have BK101:=n4_;have HB:=n5_;clear n0_ n1_ n2_ n3_ n4_ n5_;(try clear hb);(try clear hb2);(try clear hk);(try clear hi);(try clear ho0)))
     have n0_:=z2.mk (Kd.zo HO107.out)
     have n1_:=z2.mk (Kd.z1t HO110.out)
     have n2_:=z2.mk (Kd.zo HO114.out)
     have n3_:=z2.mk (Kd.zo HO118.out)
     have n4_:=z2.mk (z8 BK101.out)
     have n5_:=z2.mk (z3 HB.out)
     clear HO107
     clear HO110
     clear HO114
     clear HO118
     clear BK101
     clear HB
     have HO107:=n0_
     have HO110:=n1_
     have HO114:=n2_
     have HO118:=n3_
     have BK101:=n4_
     have HB:=n5_
     clear n0_ n1_ n2_ n3_ n4_ n5_
     refine start_ (n:=12) (S:=fun w'=>w'.cell? ⟨gb101,0,none⟩ = some (.slice A2_0 l2_0.length c2_0) ∧ w'.cell? ⟨gb101,1,none⟩ = some (.int .i64 a2_1)) (ds:=[]) #[false,false,false,false,false,false,false,false,false,false,false,false] (by kernel_rfl) rfl rfl ⟨(z9 BK101.out 0).trans rfl,(z9 BK101.out 1).trans rfl⟩ (fun hHeld=>?_);refine z1M zb.tab6 zb.bits6 (fun HT_ HW_=>?_)
     generalize w33.drew = w34 at HO107 HO110 HO114 HO118 BK101 HB hHeld ⊢
     refine pure_ (i:=0) (N:=some 49) (v:=?_) (a':=?_) #[true,false,false,false,false,false,false,false,false,false,false,false] rfl rfl (zL HT_.out (by kernel_rfl)) (fun _ _ _ h=>h) (Or.inl ⟨by rfl,?_⟩) ?_ ?_
     rotate_left
     · intro w'
       go_simp
       with_reducible rfl
     rotate_left
     · simp only [Act.put,List.setIfInBounds_toArray,List.set_cons_zero,List.set_cons_succ,zD,zG]
       rfl
     refine pure_ (i:=1) (N:=some 50) (v:=?_) (a':=?_) #[true,true,false,false,false,false,false,false,false,false,false,false] rfl rfl (zL HT_.out (by kernel_rfl)) (fun _ _ _ h=>h) (Or.inl ⟨by rfl,?_⟩) ?_ ?_
     rotate_left
     · intro w'
       go_simp
       with_reducible rfl
     rotate_left
     · simp only [Act.put,List.setIfInBounds_toArray,List.set_cons_zero,List.set_cons_succ,zD,zG]
       rfl
     refine pure_ (i:=3) (N:=some 52) (v:=?_) (a':=?_) #[true,true,false,true,false,false,false,false,false,false,false,false] rfl rfl (zL HT_.out (by kernel_rfl)) (fun _ _ _ h=>h) (Or.inl ⟨by rfl,?_⟩) ?_ ?_
     rotate_left
     · intro w'
       go_simp
       with_reducible rfl
     rotate_left
     · simp only [Act.put,List.setIfInBounds_toArray,List.set_cons_zero,List.set_cons_succ,zD,zG]
       rfl
     refine take_ (i:=4) (N:=some 53) (v:=?_) (a':=?_) #[true,true,false,true,true,false,false,false,false,false,false,false] rfl rfl (z1y HT_.out HW_.out (by kernel_rfl)) (fun _ _ _ h=>h) (Or.inl ⟨by rfl,?_⟩) hHeld ?_ ?_
     rotate_left
     · rintro w' ⟨s0,s1⟩
       go_simp
       with_reducible rfl
     rotate_left
     · simp only [Act.put,List.setIfInBounds_toArray,List.set_cons_zero,List.set_cons_succ,zD,zG]
       rfl
     refine one_ (i:=2) (N:=some 51) #[true,true,true,true,true,false,false,false,false,false,false,false] rfl rfl (z1A HT_.out (by kernel_rfl)) (by decide) (fun K hK=>?_)
     refine goes_ Try.func22 (by kernel_rfl) rfl #[.slice A1 l1.length c1] (by rfl) rfl rfl (by (try simp only [List.map_toArray,List.map_cons,List.map_nil]);first|done|rfl|(simp only [List.length_drop,List.length_take];rfl)) ?_
     with_reducible refine (zu.calls kj3 _ _ l1 t119 _ ?side1 ?side2 A16.out).mono ?_
     (case side1=>repeat (first|exact (Kd.z1h HR1.out HB.out)|(with_reducible refine Kd.zS ?_ _)|(with_reducible refine Kd.zT ?_ _)|(with_reducible refine Kd.z16 ?_)))
     (case side2=>exact HC1.out)
     rintro e w35 ⟨v120,rfl,ho0,hb⟩
     refine ⟨_,rfl,?_⟩
     have n0_:=z2.mk (Kd.zE (by (with_reducible repeat (first|apply Kd.zj|apply Kd.zk|apply Kd.zo));exact HO107.out) hb)
     have n1_:=z2.mk (Kd.z1x (by (with_reducible repeat (first|apply Kd.z1l|apply Kd.z1m|apply Kd.z1t));exact HO110.out) (Kd.z5j ho0) hb)
     have n2_:=z2.mk (Kd.zE (by (with_reducible repeat (first|apply Kd.zj|apply Kd.zk|apply Kd.zo));exact HO114.out) hb)
     have n3_:=z2.mk (Kd.zE (by (with_reducible repeat (first|apply Kd.zj|apply Kd.zk|apply Kd.zo));exact HO118.out) hb)
     have n4_:=z2.mk (Kd.z2I (Kd.z3l (Kd.z3l ho0 (Kd.S_lt (by (with_reducible repeat (first|apply Kd.z1l|apply Kd.z1m|apply Kd.z1t));exact HO110.out))) (Kd.R_lt (by (with_reducible repeat (first|apply Kd.zj|apply Kd.zk|apply Kd.zo));exact HO114.out))) (zc (by repeat (first|(with_reducible first|exact HB.out|apply z4|apply z1|apply z3|refine z7 ?_ GE101.out)|exact HB.out))))
     have n5_:=z2.mk (ze (g:=gb101) (o:=.cells #[.slice A2_0 l2_0.length c2_0,.int .i64 a2_1] 46 (0,0)) (by (with_reducible repeat (first|refine z6 ?_ _|refine z8 ?_|refine z5 ?_ _));exact BK101.out) hb)
     have n6_:=z2.mk (za (by repeat (first|(with_reducible first|exact HB.out|apply z4|apply z1|apply z3|refine z7 ?_ GE101.out)|exact HB.out)) hb)
     clear HO107
     clear HO110
     clear HO114
     clear HO118
     clear BK101
     clear HB
     have HO107:=n0_
     have HO110:=n1_
     have HO114:=n2_
     have HO118:=n3_
     have HO121:=n4_
     have BK101:=n5_
     have HB:=n6_
     clear n0_ n1_ n2_ n3_ n4_ n5_ n6_
     (try clear hb)
     (try clear hb2)
     (try clear hk)
     (try clear hi)
     (try clear ho0)
     refine hK.out _ _ ⟨(z9 BK101.out 0).trans rfl,(z9 BK101.out 1).trans rfl⟩ (fun hHeld=>?_)
     clear hK K
     refine norm_ (a':=?_) ?_ ?_
     rotate_left
     · show Act.put _ (some 51) _ = _
       simp only [Act.put,List.setIfInBounds_toArray,List.set_cons_zero,List.set_cons_succ,zD,zG]
       rfl
     refine one_ (i:=5) (N:=some 54) #[true,true,true,true,true,true,false,false,false,false,false,false] rfl rfl (z1A HT_.out (by kernel_rfl)) (by decide) (fun K hK=>?_)
     refine goes_ Try.func14 (by kernel_rfl) rfl #[.slice A2_0 l2_0.length c2_0] (by rfl) rfl rfl (by (try simp only [List.map_toArray,List.map_cons,List.map_nil]);first|done|rfl|(simp only [List.length_drop,List.length_take];rfl)) ?_
     with_reducible refine (zy.calls kj3 _ _ l2_0 t122 _ ?side1 ?side2 A17.out).mono ?_
     (case side1=>repeat (first|exact (Kd.z1h HR2_0.out HB.out)|(with_reducible refine Kd.zS ?_ _)|(with_reducible refine Kd.zT ?_ _)|(with_reducible refine Kd.z16 ?_)))
     (case side2=>exact HC2_0.out)
     rintro e w36 ⟨v123,rfl,ho0,hb⟩
     refine ⟨_,rfl,?_⟩
     have n0_:=z2.mk (Kd.zE (by (with_reducible repeat (first|apply Kd.zj|apply Kd.zk|apply Kd.zo));exact HO107.out) hb)
     have n1_:=z2.mk (Kd.z1x (by (with_reducible repeat (first|apply Kd.z1l|apply Kd.z1m|apply Kd.z1t));exact HO110.out) (Kd.z1v ho0) hb)
     have n2_:=z2.mk (Kd.z1C (by (with_reducible repeat (first|apply Kd.zj|apply Kd.zk|apply Kd.zo));exact HO114.out) (Kd.z1v ho0) hb)
     have n3_:=z2.mk (Kd.zE (by (with_reducible repeat (first|apply Kd.zj|apply Kd.zk|apply Kd.zo));exact HO118.out) hb)
     have n4_:=z2.mk (Kd.z1x (by (with_reducible repeat (first|apply Kd.z1l|apply Kd.z1m|apply Kd.z1t));exact HO121.out) (Kd.z1v ho0) hb)
     have n5_:=z2.mk (Kd.z1o (Kd.z21 ho0 (Kd.R_lt (by (with_reducible repeat (first|apply Kd.zj|apply Kd.zk|apply Kd.zo));exact HO114.out))) (zc (by repeat (first|(with_reducible first|exact HB.out|apply z4|apply z1|apply z3|refine z7 ?_ GE101.out)|exact HB.out))))
     have n6_:=z2.mk (ze (g:=gb101) (o:=.cells #[.slice A2_0 l2_0.length c2_0,.int .i64 a2_1] 46 (0,0)) (by (with_reducible repeat (first|refine z6 ?_ _|refine z8 ?_|refine z5 ?_ _));exact BK101.out) hb)
     have n7_:=z2.mk (za (by repeat (first|(with_reducible first|exact HB.out|apply z4|apply z1|apply z3|refine z7 ?_ GE101.out)|exact HB.out)) hb)
     clear HO107
     clear HO110
     clear HO114
     clear HO118
     clear HO121
     clear BK101
     clear HB
     have HO107:=n0_
     have HO110:=n1_
     have HO114:=n2_
     have HO118:=n3_
     have HO121:=n4_
     have HO124:=n5_
     have BK101:=n6_
     have HB:=n7_
     clear n0_ n1_ n2_ n3_ n4_ n5_ n6_ n7_
     (try clear hb)
     (try clear hb2)
     (try clear hk)
     (try clear hi)
     (try clear ho0)
     obtain ⟨Ao37,co37,eo37⟩:=Kd.z2J HO121.out
     (first|subst eo37|(injection eo37 with f1_ f2_ f3_;have f4_:=f1_.symm;have f5_:=f3_.symm;clear f1_ f2_ f3_;subst f4_;subst f5_))
     obtain ⟨Ao38,co38,eo38⟩:=Kd.z1s HO124.out
     (first|subst eo38|(injection eo38 with f1_ f2_ f3_;have f4_:=f1_.symm;have f5_:=f3_.symm;clear f1_ f2_ f3_;subst f4_;subst f5_))
     refine hK.out _ _ ⟨(z9 BK101.out 0).trans rfl,(z9 BK101.out 1).trans rfl⟩ (fun hHeld=>?_)
     clear hK K
     refine norm_ (a':=?_) ?_ ?_
     rotate_left
     · show Act.put _ (some 54) _ = _
       simp only [Act.put,List.setIfInBounds_toArray,List.set_cons_zero,List.set_cons_succ,zD,zG]
       rfl
     refine one_ (i:=6) (N:=some 55) #[true,true,true,true,true,true,true,false,false,false,false,false] rfl rfl (z1A HT_.out (by kernel_rfl)) (by decide) (fun K hK=>?_)
     refine goes_ Try.func24 (by kernel_rfl) rfl #[.int .i64 a0,.slice Ao37 t119.length co37,.slice Ao38 t122.length co38] (by rfl) rfl rfl (by (try simp only [List.map_toArray,List.map_cons,List.map_nil]);first|done|rfl|(simp only [List.length_drop,List.length_take];rfl)) ?_
     with_reducible refine (zg.calls kj3 a0 _ _ t119 _ _ t122 t125 t126 _ ?side1 ?side2 ?side3 ?side4 A18.out).mono ?_
     (case side1=>repeat (first|exact (Kd.z1P HO121.out).2.2|(with_reducible refine Kd.zS ?_ _)|(with_reducible refine Kd.zT ?_ _)|(with_reducible refine Kd.z16 ?_)))
     (case side2=>exact (Kd.z1P HO121.out).2.1)
     (case side3=>repeat (first|exact (Kd.zI HO124.out).2.2|(with_reducible refine Kd.zS ?_ _)|(with_reducible refine Kd.zT ?_ _)|(with_reducible refine Kd.z16 ?_)))
     (case side4=>exact (Kd.zI HO124.out).2.1)
     rintro e w39 ⟨v127,rfl,ho0,hb⟩
     refine ⟨_,rfl,?_⟩
     have n0_:=z2.mk (Kd.zE (by (with_reducible repeat (first|apply Kd.zj|apply Kd.zk|apply Kd.zo));exact HO107.out) hb)
     have n1_:=z2.mk (Kd.z1x (by (with_reducible repeat (first|apply Kd.z1l|apply Kd.z1m|apply Kd.z1t));exact HO110.out) (Kd.z1v ho0) hb)
     have n2_:=z2.mk (Kd.z1C (by (with_reducible repeat (first|apply Kd.zj|apply Kd.zk|apply Kd.zo));exact HO114.out) (Kd.z1v ho0) hb)
     have n3_:=z2.mk (Kd.zE (by (with_reducible repeat (first|apply Kd.zj|apply Kd.zk|apply Kd.zo));exact HO118.out) hb)
     have n4_:=z2.mk (Kd.z1x (by (with_reducible repeat (first|apply Kd.z1l|apply Kd.z1m|apply Kd.z1t));exact HO121.out) (Kd.z1v ho0) hb)
     have n5_:=z2.mk (Kd.z1C (by (with_reducible repeat (first|apply Kd.zj|apply Kd.zk|apply Kd.zo));exact HO124.out) (Kd.z1v ho0) hb)
     have n6_:=z2.mk (Kd.z1o (Kd.z21 (Kd.z21 ho0 (Kd.R_lt (by (with_reducible repeat (first|apply Kd.zj|apply Kd.zk|apply Kd.zo));exact HO114.out))) (Kd.R_lt (by (with_reducible repeat (first|apply Kd.zj|apply Kd.zk|apply Kd.zo));exact HO124.out))) (zc (by repeat (first|(with_reducible first|exact HB.out|apply z4|apply z1|apply z3|refine z7 ?_ GE101.out)|exact HB.out))))
     have n7_:=z2.mk (ze (g:=gb101) (o:=.cells #[.slice A2_0 l2_0.length c2_0,.int .i64 a2_1] 46 (0,0)) (by (with_reducible repeat (first|refine z6 ?_ _|refine z8 ?_|refine z5 ?_ _));exact BK101.out) hb)
     have n8_:=z2.mk (za (by repeat (first|(with_reducible first|exact HB.out|apply z4|apply z1|apply z3|refine z7 ?_ GE101.out)|exact HB.out)) hb)
     clear HO107
     clear HO110
     clear HO114
     clear HO118
     clear HO121
     clear HO124
     clear BK101
     clear HB
     have HO107:=n0_
     have HO110:=n1_
     have HO114:=n2_
     have HO118:=n3_
     have HO121:=n4_
     have HO124:=n5_
     have HO128:=n6_
     have BK101:=n7_
     have HB:=n8_
     clear n0_ n1_ n2_ n3_ n4_ n5_ n6_ n7_ n8_
     (try clear hb)
     (try clear hb2)
     (try clear hk)
     (try clear hi)
     (try clear ho0)
     refine hK.out _ _ ⟨(z9 BK101.out 0).trans rfl,(z9 BK101.out 1).trans rfl⟩ (fun hHeld=>?_)
     clear hK K
     refine norm_ (a':=?_) ?_ ?_
     rotate_left
     · show Act.put _ (some 55) _ = _
       simp only [Act.put,List.setIfInBounds_toArray,List.set_cons_zero,List.set_cons_succ,zD,zG]
       rfl
     refine pure_ (i:=7) (N:=some 48) (v:=?_) (a':=?_) #[true,true,true,true,true,true,true,true,false,false,false,false] rfl rfl (zL HT_.out (by kernel_rfl)) (fun _ _ _ h=>h) (Or.inl ⟨by rfl,?_⟩) ?_ ?_
     rotate_left
     · intro w'
       go_simp
       with_reducible rfl
     rotate_left
     · simp only [Act.put,List.setIfInBounds_toArray,List.set_cons_zero,List.set_cons_succ,zD,zG]
       rfl
     refine pure_ (i:=8) (N:=some 56) (v:=?_) (a':=?_) #[true,true,true,true,true,true,true,true,true,false,false,false] rfl rfl (zL HT_.out (by kernel_rfl)) (fun _ _ _ h=>h) (Or.inl ⟨by rfl,?_⟩) ?_ ?_
     rotate_left
     · intro w'
       go_simp
       with_reducible rfl
     rotate_left
     · simp only [Act.put,List.setIfInBounds_toArray,List.set_cons_zero,List.set_cons_succ,zD,zG]
       rfl
     refine pure_ (i:=9) (N:=some 57) (v:=?_) (a':=?_) #[true,true,true,true,true,true,true,true,true,true,false,false] rfl rfl (zL HT_.out (by kernel_rfl)) (fun _ _ _ h=>h) (Or.inl ⟨by rfl,?_⟩) ?_ ?_
     rotate_left
     · intro w'
       go_simp
       with_reducible rfl
     rotate_left
     · simp only [Act.put,List.setIfInBounds_toArray,List.set_cons_zero,List.set_cons_succ,zD,zG]
       rfl
     refine pure_ (i:=10) (N:=some 13) (v:=?_) (a':=?_) #[true,true,true,true,true,true,true,true,true,true,true,false] rfl rfl (zL HT_.out (by kernel_rfl)) (fun _ _ _ h=>h) (Or.inl ⟨by rfl,?_⟩) ?_ ?_
     rotate_left
     · intro w'
       go_simp
       with_reducible rfl
     rotate_left
     · simp only [Act.put,List.setIfInBounds_toArray,List.set_cons_zero,List.set_cons_succ,zD,zG]
       rfl
     refine pure_ (i:=11) (N:=some 14) (v:=?_) (a':=?_) #[true,true,true,true,true,true,true,true,true,true,true,true] rfl rfl (zL HT_.out (by kernel_rfl)) (fun _ _ _ h=>h) (Or.inl ⟨by rfl,?_⟩) ?_ ?_
     rotate_left
     · intro w'
       go_simp
       with_reducible rfl
     rotate_left
     · simp only [Act.put,List.setIfInBounds_toArray,List.set_cons_zero,List.set_cons_succ,zD,zG]
       rfl
     refine done_ (z24 HT_.out (by kernel_rfl)) ?_
     try go_wp2_with (first|((with_reducible refine zm (f:=19) rfl ?_);refine goesL_ (some 58) rfl rfl Try.func19 (by kernel_rfl) rfl #[] rfl (by (try simp only [List.map_toArray,List.map_cons,List.map_nil]);first|done|rfl|(simp only [List.length_drop,List.length_take];rfl)) ?_;(with_reducible refine (zJ.calls kj3  true _ A19.out).mono ?_);rintro e w40 ⟨rfl,hb⟩;refine ⟨_,rfl,?_⟩;have n0_:=z2.mk (Kd.zE (by (with_reducible repeat (first|apply Kd.zj|apply Kd.zk|apply Kd.zo));exact HO107.out) hb);have n1_:=z2.mk (Kd.z26 (by (with_reducible repeat (first|apply Kd.z1l|apply Kd.z1m|apply Kd.z1t));exact HO110.out) hb);have n2_:=z2.mk (Kd.zE (by (with_reducible repeat (first|apply Kd.zj|apply Kd.zk|apply Kd.zo));exact HO114.out) hb);have n3_:=z2.mk (Kd.zE (by (with_reducible repeat (first|apply Kd.zj|apply Kd.zk|apply Kd.zo));exact HO118.out) hb);have n4_:=z2.mk (Kd.z26 (by (with_reducible repeat (first|apply Kd.z1l|apply Kd.z1m|apply Kd.z1t));exact HO121.out) hb);have n5_:=z2.mk (Kd.zE (by (with_reducible repeat (first|apply Kd.zj|apply Kd.zk|apply Kd.zo));exact HO124.out) hb);have n6_:=z2.mk (Kd.zE (by (with_reducible repeat (first|apply Kd.zj|apply Kd.zk|apply Kd.zo));exact HO128.out) hb);have n7_:=z2.mk (ze (g:=gb101) (o:=.cells #[.slice A2_0 l2_0.length c2_0,.int .i64 a2_1] 46 (0,0)) (by (with_reducible repeat (first|refine z6 ?_ _|refine z8 ?_|refine z5 ?_ _));exact BK101.out) hb);have n8_:=z2.mk (za (by repeat (first|(with_reducible first|exact HB.out|apply z4|apply z1|apply z3|refine z7 ?_ GE101.out)|exact HB.out)) hb);clear HO107;clear HO110;clear HO114;clear HO118;clear HO121;clear HO124;clear HO128;clear BK101;clear HB;have HO107:=n0_;have HO110:=n1_;have HO114:=n2_;have HO118:=n3_;have HO121:=n4_;have HO124:=n5_;have HO128:=n6_;have BK101:=n7_;have HB:=n8_;clear n0_ n1_ n2_ n3_ n4_ n5_ n6_ n7_ n8_;(try clear hb);(try clear hb2);(try clear hk);(try clear hi);obtain ⟨Ao41,co41,eo41⟩:=Kd.z1s HO107.out;subst eo41;obtain ⟨Ao42,co42,eo42⟩:=Kd.z1s HO114.out;subst eo42)|(go_at_call 25;(with_reducible refine (zp.calls kj3 _ _ t104 _ _ t111 true _ ?side1 ?side2 ?side3 ?side4 A21.out).mono ?_);(case side1=>repeat (first|exact (Kd.zI HO107.out).2.2|(with_reducible refine Kd.zS ?_ _)|(with_reducible refine Kd.zT ?_ _)|(with_reducible refine Kd.z16 ?_)));(case side2=>exact (Kd.zI HO107.out).2.1);(case side3=>repeat (first|exact (Kd.zI HO114.out).2.2|(with_reducible refine Kd.zS ?_ _)|(with_reducible refine Kd.zT ?_ _)|(with_reducible refine Kd.z16 ?_)));(case side4=>exact (Kd.zI HO114.out).2.1);rintro e w' ⟨rfl,⟨nd,rfl⟩⟩;obtain ⟨Ao43,co43,eo43⟩:=Kd.z1s HO118.out;subst eo43;obtain ⟨Ao44,co44,eo44⟩:=Kd.z1s HO128.out;subst eo44)|(go_at_call 25;(with_reducible refine (zp.calls kj3 _ _ t115 _ _ t125 true _ ?side1 ?side2 ?side3 ?side4 A24.out).mono ?_);(case side1=>repeat (first|exact (Kd.zI HO118.out).2.2|(with_reducible refine Kd.zS ?_ _)|(with_reducible refine Kd.zT ?_ _)|(with_reducible refine Kd.z16 ?_)));(case side2=>exact (Kd.zI HO118.out).2.1);(case side3=>repeat (first|exact (Kd.zI HO128.out).2.2|(with_reducible refine Kd.zS ?_ _)|(with_reducible refine Kd.zT ?_ _)|(with_reducible refine Kd.z16 ?_)));(case side4=>exact (Kd.zI HO128.out).2.1);rintro e w' ⟨rfl,⟨nd,rfl⟩⟩))
     go_ret
     exact ⟨by first|rfl|(simp [zh,zi] <;> rfl)|(simp [*,zh,zi] <;> rfl),by repeat (first|(with_reducible first|exact HB.out|apply z4|apply z1|apply z3|refine z7 ?_ GE101.out)|exact HB.out)⟩
   replace c25:=Bool.eq_false_iff.mpr c25
   subst c25
   have H1 : (some false) = some r:=by rw [if_neg (show ¬ (false = true) by decide)] at H;exact H
   clear H
   have H:=H1
   clear H1
   obtain rfl:=Option.some.inj H
   have hcz45_0 : wc.cell? ⟨gb101,0,none⟩ = some (.slice A2_0 l2_0.length c2_0):=(z9 BK101.out 0).trans rfl
   have hcz45_1 : wc.cell? ⟨gb101,1,none⟩ = some (.int .i64 a2_1):=(z9 BK101.out 1).trans rfl
   have hfz45_0:=zd BK101.out 0
   have hfz45_1:=zd BK101.out 1
   try go_wp2_with (first|((with_reducible refine zm (f:=20) rfl ?_);refine goesL_ (some 29) rfl rfl Try.func20 (by kernel_rfl) rfl #[.slice A1 l1.length c1,.int .i64 a2_1] rfl (by (try simp only [List.map_toArray,List.map_cons,List.map_nil]);first|done|rfl|(simp only [List.length_drop,List.length_take];rfl)) ?_;(with_reducible refine (zW.calls kj3 _ _ l1 a2_1 t104 t105 _ ?side1 ?side2 A12.out).mono ?_);(case side1=>repeat (first|exact (Kd.z1h HR1.out HB.out)|(with_reducible refine Kd.zS ?_ _)|(with_reducible refine Kd.zT ?_ _)|(with_reducible refine Kd.z16 ?_)));(case side2=>exact HC1.out);rintro e w46 ⟨v106,rfl,ho0,hb⟩;refine ⟨_,rfl,?_⟩;have n0_:=z2.mk (Kd.z1o ho0 (zc (by repeat (first|(with_reducible first|exact HB.out|apply z4|apply z1|apply z3|refine z7 ?_ GE101.out)|exact HB.out))));have n1_:=z2.mk (ze (g:=gb101) (o:=.cells #[.slice A2_0 l2_0.length c2_0,.int .i64 a2_1] 46 (0,0)) (by (with_reducible repeat (first|refine z6 ?_ _|refine z8 ?_|refine z5 ?_ _));exact BK101.out) hb);have n2_:=z2.mk (za (by repeat (first|(with_reducible first|exact HB.out|apply z4|apply z1|apply z3|refine z7 ?_ GE101.out)|exact HB.out)) hb);clear BK101;clear HB;have HO107:=n0_;have BK101:=n1_;have HB:=n2_;clear n0_ n1_ n2_;(try clear hb);(try clear hb2);(try clear hk);(try clear hi);(try clear ho0)))
   have n0_:=z2.mk (Kd.zo HO107.out)
   have n1_:=z2.mk (z8 BK101.out)
   have n2_:=z2.mk (z3 HB.out)
   clear HO107
   clear BK101
   clear HB
   have HO107:=n0_
   have BK101:=n1_
   have HB:=n2_
   clear n0_ n1_ n2_
   refine start_ (n:=10) (S:=fun w'=>w'.cell? ⟨gb101,0,none⟩ = some (.slice A2_0 l2_0.length c2_0) ∧ w'.cell? ⟨gb101,1,none⟩ = some (.int .i64 a2_1)) (ds:=[]) #[false,false,false,false,false,false,false,false,false,false] (by kernel_rfl) rfl rfl ⟨(z9 BK101.out 0).trans rfl,(z9 BK101.out 1).trans rfl⟩ (fun hHeld=>?_);refine z1M zb.tab4 zb.bits4 (fun HT_ HW_=>?_)
   generalize w46.drew = w47 at HO107 BK101 HB hHeld ⊢
   refine pure_ (i:=0) (N:=some 33) (v:=?_) (a':=?_) #[true,false,false,false,false,false,false,false,false,false] rfl rfl (zL HT_.out (by kernel_rfl)) (fun _ _ _ h=>h) (Or.inl ⟨by rfl,?_⟩) ?_ ?_
   rotate_left
   · intro w'
     go_simp
     with_reducible rfl
   rotate_left
   · simp only [Act.put,List.setIfInBounds_toArray,List.set_cons_zero,List.set_cons_succ,zD,zG]
     rfl
   refine pure_ (i:=2) (N:=some 35) (v:=?_) (a':=?_) #[true,false,true,false,false,false,false,false,false,false] rfl rfl (zL HT_.out (by kernel_rfl)) (fun _ _ _ h=>h) (Or.inl ⟨by rfl,?_⟩) ?_ ?_
   rotate_left
   · intro w'
     go_simp
     with_reducible rfl
   rotate_left
   · simp only [Act.put,List.setIfInBounds_toArray,List.set_cons_zero,List.set_cons_succ,zD,zG]
     rfl
   refine take_ (i:=3) (N:=some 36) (v:=?_) (a':=?_) #[true,false,true,true,false,false,false,false,false,false] rfl rfl (z1y HT_.out HW_.out (by kernel_rfl)) (fun _ _ _ h=>h) (Or.inl ⟨by rfl,?_⟩) hHeld ?_ ?_
   rotate_left
   · rintro w' ⟨s0,s1⟩
     go_simp
     with_reducible rfl
   rotate_left
   · simp only [Act.put,List.setIfInBounds_toArray,List.set_cons_zero,List.set_cons_succ,zD,zG]
     rfl
   refine one_ (i:=1) (N:=some 34) #[true,true,true,true,false,false,false,false,false,false] rfl rfl (z1A HT_.out (by kernel_rfl)) (by decide) (fun K hK=>?_)
   refine goes_ Try.func22 (by kernel_rfl) rfl #[.slice A1 l1.length c1] (by rfl) rfl rfl (by (try simp only [List.map_toArray,List.map_cons,List.map_nil]);first|done|rfl|(simp only [List.length_drop,List.length_take];rfl)) ?_
   with_reducible refine (zu.calls kj3 _ _ l1 t108 _ ?side1 ?side2 A13.out).mono ?_
   (case side1=>repeat (first|exact (Kd.z1h HR1.out HB.out)|(with_reducible refine Kd.zS ?_ _)|(with_reducible refine Kd.zT ?_ _)|(with_reducible refine Kd.z16 ?_)))
   (case side2=>exact HC1.out)
   rintro e w48 ⟨v109,rfl,ho0,hb⟩
   refine ⟨_,rfl,?_⟩
   have n0_:=z2.mk (Kd.zE (by (with_reducible repeat (first|apply Kd.zj|apply Kd.zk|apply Kd.zo));exact HO107.out) hb)
   have n1_:=z2.mk (Kd.z2I ho0 (zc (by repeat (first|(with_reducible first|exact HB.out|apply z4|apply z1|apply z3|refine z7 ?_ GE101.out)|exact HB.out))))
   have n2_:=z2.mk (ze (g:=gb101) (o:=.cells #[.slice A2_0 l2_0.length c2_0,.int .i64 a2_1] 46 (0,0)) (by (with_reducible repeat (first|refine z6 ?_ _|refine z8 ?_|refine z5 ?_ _));exact BK101.out) hb)
   have n3_:=z2.mk (za (by repeat (first|(with_reducible first|exact HB.out|apply z4|apply z1|apply z3|refine z7 ?_ GE101.out)|exact HB.out)) hb)
   clear HO107
   clear BK101
   clear HB
   have HO107:=n0_
   have HO110:=n1_
   have BK101:=n2_
   have HB:=n3_
   clear n0_ n1_ n2_ n3_
   (try clear hb)
   (try clear hb2)
   (try clear hk)
   (try clear hi)
   (try clear ho0)
   obtain ⟨Ao49,co49,eo49⟩:=Kd.z2J HO110.out
   (first|subst eo49|(injection eo49 with f1_ f2_ f3_;have f4_:=f1_.symm;have f5_:=f3_.symm;clear f1_ f2_ f3_;subst f4_;subst f5_))
   refine hK.out _ _ ⟨(z9 BK101.out 0).trans rfl,(z9 BK101.out 1).trans rfl⟩ (fun hHeld=>?_)
   clear hK K
   refine norm_ (a':=?_) ?_ ?_
   rotate_left
   · show Act.put _ (some 34) _ = _
     simp only [Act.put,List.setIfInBounds_toArray,List.set_cons_zero,List.set_cons_succ,zD,zG]
     rfl
   refine one_ (i:=4) (N:=some 37) #[true,true,true,true,true,false,false,false,false,false] rfl rfl (z1A HT_.out (by kernel_rfl)) (by decide) (fun K hK=>?_)
   refine goes_ Try.func21 (by kernel_rfl) rfl #[.slice Ao49 t108.length co49,.int .i64 a2_1] (by rfl) rfl rfl (by (try simp only [List.map_toArray,List.map_cons,List.map_nil]);first|done|rfl|(simp only [List.length_drop,List.length_take];rfl)) ?_
   with_reducible refine (zf.calls kj3 _ _ t108 a2_1 t111 t112 _ ?side1 ?side2 A14.out).mono ?_
   (case side1=>repeat (first|exact (Kd.z1P HO110.out).2.2|(with_reducible refine Kd.zS ?_ _)|(with_reducible refine Kd.zT ?_ _)|(with_reducible refine Kd.z16 ?_)))
   (case side2=>exact (Kd.z1P HO110.out).2.1)
   rintro e w50 ⟨v113,rfl,ho0,hb⟩
   refine ⟨_,rfl,?_⟩
   have n0_:=z2.mk (Kd.zE (by (with_reducible repeat (first|apply Kd.zj|apply Kd.zk|apply Kd.zo));exact HO107.out) hb)
   have n1_:=z2.mk (Kd.z1x (by (with_reducible repeat (first|apply Kd.z1l|apply Kd.z1m|apply Kd.z1t));exact HO110.out) (Kd.z1v ho0) hb)
   have n2_:=z2.mk (Kd.z1o ho0 (zc (by repeat (first|(with_reducible first|exact HB.out|apply z4|apply z1|apply z3|refine z7 ?_ GE101.out)|exact HB.out))))
   have n3_:=z2.mk (ze (g:=gb101) (o:=.cells #[.slice A2_0 l2_0.length c2_0,.int .i64 a2_1] 46 (0,0)) (by (with_reducible repeat (first|refine z6 ?_ _|refine z8 ?_|refine z5 ?_ _));exact BK101.out) hb)
   have n4_:=z2.mk (za (by repeat (first|(with_reducible first|exact HB.out|apply z4|apply z1|apply z3|refine z7 ?_ GE101.out)|exact HB.out)) hb)
   clear HO107
   clear HO110
   clear BK101
   clear HB
   have HO107:=n0_
   have HO110:=n1_
   have HO114:=n2_
   have BK101:=n3_
   have HB:=n4_
   clear n0_ n1_ n2_ n3_ n4_
   (try clear hb)
   (try clear hb2)
   (try clear hk)
   (try clear hi)
   (try clear ho0)
   refine hK.out _ _ ⟨(z9 BK101.out 0).trans rfl,(z9 BK101.out 1).trans rfl⟩ (fun hHeld=>?_)
   clear hK K
   refine norm_ (a':=?_) ?_ ?_
   rotate_left
   · show Act.put _ (some 37) _ = _
     simp only [Act.put,List.setIfInBounds_toArray,List.set_cons_zero,List.set_cons_succ,zD,zG]
     rfl
   refine pure_ (i:=5) (N:=some 32) (v:=?_) (a':=?_) #[true,true,true,true,true,true,false,false,false,false] rfl rfl (zL HT_.out (by kernel_rfl)) (fun _ _ _ h=>h) (Or.inl ⟨by rfl,?_⟩) ?_ ?_
   rotate_left
   · intro w'
     go_simp
     with_reducible rfl
   rotate_left
   · simp only [Act.put,List.setIfInBounds_toArray,List.set_cons_zero,List.set_cons_succ,zD,zG]
     rfl
   refine pure_ (i:=6) (N:=some 38) (v:=?_) (a':=?_) #[true,true,true,true,true,true,true,false,false,false] rfl rfl (zL HT_.out (by kernel_rfl)) (fun _ _ _ h=>h) (Or.inl ⟨by rfl,?_⟩) ?_ ?_
   rotate_left
   · intro w'
     go_simp
     with_reducible rfl
   rotate_left
   · simp only [Act.put,List.setIfInBounds_toArray,List.set_cons_zero,List.set_cons_succ,zD,zG]
     rfl
   refine pure_ (i:=7) (N:=some 39) (v:=?_) (a':=?_) #[true,true,true,true,true,true,true,true,false,false] rfl rfl (zL HT_.out (by kernel_rfl)) (fun _ _ _ h=>h) (Or.inl ⟨by rfl,?_⟩) ?_ ?_
   rotate_left
   · intro w'
     go_simp
     with_reducible rfl
   rotate_left
   · simp only [Act.put,List.setIfInBounds_toArray,List.set_cons_zero,List.set_cons_succ,zD,zG]
     rfl
   refine pure_ (i:=8) (N:=some 9) (v:=?_) (a':=?_) #[true,true,true,true,true,true,true,true,true,false] rfl rfl (zL HT_.out (by kernel_rfl)) (fun _ _ _ h=>h) (Or.inl ⟨by rfl,?_⟩) ?_ ?_
   rotate_left
   · intro w'
     go_simp
     with_reducible rfl
   rotate_left
   · simp only [Act.put,List.setIfInBounds_toArray,List.set_cons_zero,List.set_cons_succ,zD,zG]
     rfl
   refine pure_ (i:=9) (N:=some 10) (v:=?_) (a':=?_) #[true,true,true,true,true,true,true,true,true,true] rfl rfl (zL HT_.out (by kernel_rfl)) (fun _ _ _ h=>h) (Or.inl ⟨by rfl,?_⟩) ?_ ?_
   rotate_left
   · intro w'
     go_simp
     with_reducible rfl
   rotate_left
   · simp only [Act.put,List.setIfInBounds_toArray,List.set_cons_zero,List.set_cons_succ,zD,zG]
     rfl
   refine done_ (z24 HT_.out (by kernel_rfl)) ?_
   have hcz51_0 : w50.cell? ⟨gb101,0,none⟩ = some (.slice A2_0 l2_0.length c2_0):=(z9 BK101.out 0).trans rfl
   have hcz51_1 : w50.cell? ⟨gb101,1,none⟩ = some (.int .i64 a2_1):=(z9 BK101.out 1).trans rfl
   have hfz51_0:=zd BK101.out 0
   have hfz51_1:=zd BK101.out 1
   try go_wp2_with (first|((with_reducible refine zm (f:=23) rfl ?_);refine goesL_ (some 45) rfl rfl Try.func23 (by kernel_rfl) rfl #[.int .i64 a0,.slice A1 l1.length c1,.slice A2_0 l2_0.length c2_0] rfl (by (try simp only [List.map_toArray,List.map_cons,List.map_nil]);first|done|rfl|(simp only [List.length_drop,List.length_take];rfl)) ?_;(with_reducible refine (zz.calls kj3 a0 _ _ l1 _ _ l2_0 t115 t116 _ ?side1 ?side2 ?side3 ?side4 A15.out).mono ?_);(case side1=>repeat (first|exact (Kd.z1h HR1.out HB.out)|(with_reducible refine Kd.zS ?_ _)|(with_reducible refine Kd.zT ?_ _)|(with_reducible refine Kd.z16 ?_)));(case side2=>exact HC1.out);(case side3=>repeat (first|exact (Kd.z1h HR2_0.out HB.out)|(with_reducible refine Kd.zS ?_ _)|(with_reducible refine Kd.zT ?_ _)|(with_reducible refine Kd.z16 ?_)));(case side4=>exact HC2_0.out);rintro e w52 ⟨v117,rfl,ho0,hb⟩;refine ⟨_,rfl,?_⟩;have n0_:=z2.mk (Kd.z1C (by (with_reducible repeat (first|apply Kd.zj|apply Kd.zk|apply Kd.zo));exact HO107.out) (Kd.z1v ho0) hb);have n1_:=z2.mk (Kd.z26 (by (with_reducible repeat (first|apply Kd.z1l|apply Kd.z1m|apply Kd.z1t));exact HO110.out) hb);have n2_:=z2.mk (Kd.zE (by (with_reducible repeat (first|apply Kd.zj|apply Kd.zk|apply Kd.zo));exact HO114.out) hb);have n3_:=z2.mk (Kd.z1o (Kd.z21 ho0 (Kd.R_lt (by (with_reducible repeat (first|apply Kd.zj|apply Kd.zk|apply Kd.zo));exact HO107.out))) (zc (by repeat (first|(with_reducible first|exact HB.out|apply z4|apply z1|apply z3|refine z7 ?_ GE101.out)|exact HB.out))));have n4_:=z2.mk (ze (g:=gb101) (o:=.cells #[.slice A2_0 l2_0.length c2_0,.int .i64 a2_1] 46 (0,0)) (by (with_reducible repeat (first|refine z6 ?_ _|refine z8 ?_|refine z5 ?_ _));exact BK101.out) hb);have n5_:=z2.mk (za (by repeat (first|(with_reducible first|exact HB.out|apply z4|apply z1|apply z3|refine z7 ?_ GE101.out)|exact HB.out)) hb);clear HO107;clear HO110;clear HO114;clear BK101;clear HB;have HO107:=n0_;have HO110:=n1_;have HO114:=n2_;have HO118:=n3_;have BK101:=n4_;have HB:=n5_;clear n0_ n1_ n2_ n3_ n4_ n5_;(try clear hb);(try clear hb2);(try clear hk);(try clear hi);(try clear ho0)))
   have n0_:=z2.mk (Kd.zo HO107.out)
   have n1_:=z2.mk (Kd.z1t HO110.out)
   have n2_:=z2.mk (Kd.zo HO114.out)
   have n3_:=z2.mk (Kd.zo HO118.out)
   have n4_:=z2.mk (z8 BK101.out)
   have n5_:=z2.mk (z3 HB.out)
   clear HO107
   clear HO110
   clear HO114
   clear HO118
   clear BK101
   clear HB
   have HO107:=n0_
   have HO110:=n1_
   have HO114:=n2_
   have HO118:=n3_
   have BK101:=n4_
   have HB:=n5_
   clear n0_ n1_ n2_ n3_ n4_ n5_
   refine start_ (n:=12) (S:=fun w'=>w'.cell? ⟨gb101,0,none⟩ = some (.slice A2_0 l2_0.length c2_0) ∧ w'.cell? ⟨gb101,1,none⟩ = some (.int .i64 a2_1)) (ds:=[]) #[false,false,false,false,false,false,false,false,false,false,false,false] (by kernel_rfl) rfl rfl ⟨(z9 BK101.out 0).trans rfl,(z9 BK101.out 1).trans rfl⟩ (fun hHeld=>?_);refine z1M zb.tab6 zb.bits6 (fun HT_ HW_=>?_)
   generalize w52.drew = w53 at HO107 HO110 HO114 HO118 BK101 HB hHeld ⊢
   refine pure_ (i:=0) (N:=some 49) (v:=?_) (a':=?_) #[true,false,false,false,false,false,false,false,false,false,false,false] rfl rfl (zL HT_.out (by kernel_rfl)) (fun _ _ _ h=>h) (Or.inl ⟨by rfl,?_⟩) ?_ ?_
   rotate_left
   · intro w'
     go_simp
     with_reducible rfl
   rotate_left
   · simp only [Act.put,List.setIfInBounds_toArray,List.set_cons_zero,List.set_cons_succ,zD,zG]
     rfl
   refine pure_ (i:=1) (N:=some 50) (v:=?_) (a':=?_) #[true,true,false,false,false,false,false,false,false,false,false,false] rfl rfl (zL HT_.out (by kernel_rfl)) (fun _ _ _ h=>h) (Or.inl ⟨by rfl,?_⟩) ?_ ?_
   rotate_left
   · intro w'
     go_simp
     with_reducible rfl
   rotate_left
   · simp only [Act.put,List.setIfInBounds_toArray,List.set_cons_zero,List.set_cons_succ,zD,zG]
     rfl
   refine pure_ (i:=3) (N:=some 52) (v:=?_) (a':=?_) #[true,true,false,true,false,false,false,false,false,false,false,false] rfl rfl (zL HT_.out (by kernel_rfl)) (fun _ _ _ h=>h) (Or.inl ⟨by rfl,?_⟩) ?_ ?_
   rotate_left
   · intro w'
     go_simp
     with_reducible rfl
   rotate_left
   · simp only [Act.put,List.setIfInBounds_toArray,List.set_cons_zero,List.set_cons_succ,zD,zG]
     rfl
   refine take_ (i:=4) (N:=some 53) (v:=?_) (a':=?_) #[true,true,false,true,true,false,false,false,false,false,false,false] rfl rfl (z1y HT_.out HW_.out (by kernel_rfl)) (fun _ _ _ h=>h) (Or.inl ⟨by rfl,?_⟩) hHeld ?_ ?_
   rotate_left
   · rintro w' ⟨s0,s1⟩
     go_simp
     with_reducible rfl
   rotate_left
   · simp only [Act.put,List.setIfInBounds_toArray,List.set_cons_zero,List.set_cons_succ,zD,zG]
     rfl
   refine one_ (i:=2) (N:=some 51) #[true,true,true,true,true,false,false,false,false,false,false,false] rfl rfl (z1A HT_.out (by kernel_rfl)) (by decide) (fun K hK=>?_)
   refine goes_ Try.func22 (by kernel_rfl) rfl #[.slice A1 l1.length c1] (by rfl) rfl rfl (by (try simp only [List.map_toArray,List.map_cons,List.map_nil]);first|done|rfl|(simp only [List.length_drop,List.length_take];rfl)) ?_
   with_reducible refine (zu.calls kj3 _ _ l1 t119 _ ?side1 ?side2 A16.out).mono ?_
   (case side1=>repeat (first|exact (Kd.z1h HR1.out HB.out)|(with_reducible refine Kd.zS ?_ _)|(with_reducible refine Kd.zT ?_ _)|(with_reducible refine Kd.z16 ?_)))
   (case side2=>exact HC1.out)
   rintro e w54 ⟨v120,rfl,ho0,hb⟩
   refine ⟨_,rfl,?_⟩
   have n0_:=z2.mk (Kd.zE (by (with_reducible repeat (first|apply Kd.zj|apply Kd.zk|apply Kd.zo));exact HO107.out) hb)
   have n1_:=z2.mk (Kd.z1x (by (with_reducible repeat (first|apply Kd.z1l|apply Kd.z1m|apply Kd.z1t));exact HO110.out) (Kd.z5j ho0) hb)
   have n2_:=z2.mk (Kd.zE (by (with_reducible repeat (first|apply Kd.zj|apply Kd.zk|apply Kd.zo));exact HO114.out) hb)
   have n3_:=z2.mk (Kd.zE (by (with_reducible repeat (first|apply Kd.zj|apply Kd.zk|apply Kd.zo));exact HO118.out) hb)
   have n4_:=z2.mk (Kd.z2I (Kd.z3l (Kd.z3l ho0 (Kd.S_lt (by (with_reducible repeat (first|apply Kd.z1l|apply Kd.z1m|apply Kd.z1t));exact HO110.out))) (Kd.R_lt (by (with_reducible repeat (first|apply Kd.zj|apply Kd.zk|apply Kd.zo));exact HO114.out))) (zc (by repeat (first|(with_reducible first|exact HB.out|apply z4|apply z1|apply z3|refine z7 ?_ GE101.out)|exact HB.out))))
   have n5_:=z2.mk (ze (g:=gb101) (o:=.cells #[.slice A2_0 l2_0.length c2_0,.int .i64 a2_1] 46 (0,0)) (by (with_reducible repeat (first|refine z6 ?_ _|refine z8 ?_|refine z5 ?_ _));exact BK101.out) hb)
   have n6_:=z2.mk (za (by repeat (first|(with_reducible first|exact HB.out|apply z4|apply z1|apply z3|refine z7 ?_ GE101.out)|exact HB.out)) hb)
   clear HO107
   clear HO110
   clear HO114
   clear HO118
   clear BK101
   clear HB
   have HO107:=n0_
   have HO110:=n1_
   have HO114:=n2_
   have HO118:=n3_
   have HO121:=n4_
   have BK101:=n5_
   have HB:=n6_
   clear n0_ n1_ n2_ n3_ n4_ n5_ n6_
   (try clear hb)
   (try clear hb2)
   (try clear hk)
   (try clear hi)
   (try clear ho0)
   refine hK.out _ _ ⟨(z9 BK101.out 0).trans rfl,(z9 BK101.out 1).trans rfl⟩ (fun hHeld=>?_)
   clear hK K
   refine norm_ (a':=?_) ?_ ?_
   rotate_left
   · show Act.put _ (some 51) _ = _
     simp only [Act.put,List.setIfInBounds_toArray,List.set_cons_zero,List.set_cons_succ,zD,zG]
     rfl
   refine one_ (i:=5) (N:=some 54) #[true,true,true,true,true,true,false,false,false,false,false,false] rfl rfl (z1A HT_.out (by kernel_rfl)) (by decide) (fun K hK=>?_)
   refine goes_ Try.func14 (by kernel_rfl) rfl #[.slice A2_0 l2_0.length c2_0] (by rfl) rfl rfl (by (try simp only [List.map_toArray,List.map_cons,List.map_nil]);first|done|rfl|(simp only [List.length_drop,List.length_take];rfl)) ?_
   with_reducible refine (zy.calls kj3 _ _ l2_0 t122 _ ?side1 ?side2 A17.out).mono ?_
   (case side1=>repeat (first|exact (Kd.z1h HR2_0.out HB.out)|(with_reducible refine Kd.zS ?_ _)|(with_reducible refine Kd.zT ?_ _)|(with_reducible refine Kd.z16 ?_)))
   (case side2=>exact HC2_0.out)
   rintro e w55 ⟨v123,rfl,ho0,hb⟩
   refine ⟨_,rfl,?_⟩
   have n0_:=z2.mk (Kd.zE (by (with_reducible repeat (first|apply Kd.zj|apply Kd.zk|apply Kd.zo));exact HO107.out) hb)
   have n1_:=z2.mk (Kd.z1x (by (with_reducible repeat (first|apply Kd.z1l|apply Kd.z1m|apply Kd.z1t));exact HO110.out) (Kd.z1v ho0) hb)
   have n2_:=z2.mk (Kd.z1C (by (with_reducible repeat (first|apply Kd.zj|apply Kd.zk|apply Kd.zo));exact HO114.out) (Kd.z1v ho0) hb)
   have n3_:=z2.mk (Kd.zE (by (with_reducible repeat (first|apply Kd.zj|apply Kd.zk|apply Kd.zo));exact HO118.out) hb)
   have n4_:=z2.mk (Kd.z1x (by (with_reducible repeat (first|apply Kd.z1l|apply Kd.z1m|apply Kd.z1t));exact HO121.out) (Kd.z1v ho0) hb)
   have n5_:=z2.mk (Kd.z1o (Kd.z21 ho0 (Kd.R_lt (by (with_reducible repeat (first|apply Kd.zj|apply Kd.zk|apply Kd.zo));exact HO114.out))) (zc (by repeat (first|(with_reducible first|exact HB.out|apply z4|apply z1|apply z3|refine z7 ?_ GE101.out)|exact HB.out))))
   have n6_:=z2.mk (ze (g:=gb101) (o:=.cells #[.slice A2_0 l2_0.length c2_0,.int .i64 a2_1] 46 (0,0)) (by (with_reducible repeat (first|refine z6 ?_ _|refine z8 ?_|refine z5 ?_ _));exact BK101.out) hb)
   have n7_:=z2.mk (za (by repeat (first|(with_reducible first|exact HB.out|apply z4|apply z1|apply z3|refine z7 ?_ GE101.out)|exact HB.out)) hb)
   clear HO107
   clear HO110
   clear HO114
   clear HO118
   clear HO121
   clear BK101
   clear HB
   have HO107:=n0_
   have HO110:=n1_
   have HO114:=n2_
   have HO118:=n3_
   have HO121:=n4_
   have HO124:=n5_
   have BK101:=n6_
   have HB:=n7_
   clear n0_ n1_ n2_ n3_ n4_ n5_ n6_ n7_
   (try clear hb)
   (try clear hb2)
   (try clear hk)
   (try clear hi)
   (try clear ho0)
   obtain ⟨Ao56,co56,eo56⟩:=Kd.z2J HO121.out
   (first|subst eo56|(injection eo56 with f1_ f2_ f3_;have f4_:=f1_.symm;have f5_:=f3_.symm;clear f1_ f2_ f3_;subst f4_;subst f5_))
   obtain ⟨Ao57,co57,eo57⟩:=Kd.z1s HO124.out
   (first|subst eo57|(injection eo57 with f1_ f2_ f3_;have f4_:=f1_.symm;have f5_:=f3_.symm;clear f1_ f2_ f3_;subst f4_;subst f5_))
   refine hK.out _ _ ⟨(z9 BK101.out 0).trans rfl,(z9 BK101.out 1).trans rfl⟩ (fun hHeld=>?_)
   clear hK K
   refine norm_ (a':=?_) ?_ ?_
   rotate_left
   · show Act.put _ (some 54) _ = _
     simp only [Act.put,List.setIfInBounds_toArray,List.set_cons_zero,List.set_cons_succ,zD,zG]
     rfl
   refine one_ (i:=6) (N:=some 55) #[true,true,true,true,true,true,true,false,false,false,false,false] rfl rfl (z1A HT_.out (by kernel_rfl)) (by decide) (fun K hK=>?_)
   refine goes_ Try.func24 (by kernel_rfl) rfl #[.int .i64 a0,.slice Ao56 t119.length co56,.slice Ao57 t122.length co57] (by rfl) rfl rfl (by (try simp only [List.map_toArray,List.map_cons,List.map_nil]);first|done|rfl|(simp only [List.length_drop,List.length_take];rfl)) ?_
   with_reducible refine (zg.calls kj3 a0 _ _ t119 _ _ t122 t125 t126 _ ?side1 ?side2 ?side3 ?side4 A18.out).mono ?_
   (case side1=>repeat (first|exact (Kd.z1P HO121.out).2.2|(with_reducible refine Kd.zS ?_ _)|(with_reducible refine Kd.zT ?_ _)|(with_reducible refine Kd.z16 ?_)))
   (case side2=>exact (Kd.z1P HO121.out).2.1)
   (case side3=>repeat (first|exact (Kd.zI HO124.out).2.2|(with_reducible refine Kd.zS ?_ _)|(with_reducible refine Kd.zT ?_ _)|(with_reducible refine Kd.z16 ?_)))
   (case side4=>exact (Kd.zI HO124.out).2.1)
   rintro e w58 ⟨v127,rfl,ho0,hb⟩
   refine ⟨_,rfl,?_⟩
   have n0_:=z2.mk (Kd.zE (by (with_reducible repeat (first|apply Kd.zj|apply Kd.zk|apply Kd.zo));exact HO107.out) hb)
   have n1_:=z2.mk (Kd.z1x (by (with_reducible repeat (first|apply Kd.z1l|apply Kd.z1m|apply Kd.z1t));exact HO110.out) (Kd.z1v ho0) hb)
   have n2_:=z2.mk (Kd.z1C (by (with_reducible repeat (first|apply Kd.zj|apply Kd.zk|apply Kd.zo));exact HO114.out) (Kd.z1v ho0) hb)
   have n3_:=z2.mk (Kd.zE (by (with_reducible repeat (first|apply Kd.zj|apply Kd.zk|apply Kd.zo));exact HO118.out) hb)
   have n4_:=z2.mk (Kd.z1x (by (with_reducible repeat (first|apply Kd.z1l|apply Kd.z1m|apply Kd.z1t));exact HO121.out) (Kd.z1v ho0) hb)
   have n5_:=z2.mk (Kd.z1C (by (with_reducible repeat (first|apply Kd.zj|apply Kd.zk|apply Kd.zo));exact HO124.out) (Kd.z1v ho0) hb)
   have n6_:=z2.mk (Kd.z1o (Kd.z21 (Kd.z21 ho0 (Kd.R_lt (by (with_reducible repeat (first|apply Kd.zj|apply Kd.zk|apply Kd.zo));exact HO114.out))) (Kd.R_lt (by (with_reducible repeat (first|apply Kd.zj|apply Kd.zk|apply Kd.zo));exact HO124.out))) (zc (by repeat (first|(with_reducible first|exact HB.out|apply z4|apply z1|apply z3|refine z7 ?_ GE101.out)|exact HB.out))))
   have n7_:=z2.mk (ze (g:=gb101) (o:=.cells #[.slice A2_0 l2_0.length c2_0,.int .i64 a2_1] 46 (0,0)) (by (with_reducible repeat (first|refine z6 ?_ _|refine z8 ?_|refine z5 ?_ _));exact BK101.out) hb)
   have n8_:=z2.mk (za (by repeat (first|(with_reducible first|exact HB.out|apply z4|apply z1|apply z3|refine z7 ?_ GE101.out)|exact HB.out)) hb)
   clear HO107
   clear HO110
   clear HO114
   clear HO118
   clear HO121
   clear HO124
   clear BK101
   clear HB
   have HO107:=n0_
   have HO110:=n1_
   have HO114:=n2_
   have HO118:=n3_
   have HO121:=n4_
   have HO124:=n5_
   have HO128:=n6_
   have BK101:=n7_
   have HB:=n8_
   clear n0_ n1_ n2_ n3_ n4_ n5_ n6_ n7_ n8_
   (try clear hb)
   (try clear hb2)
   (try clear hk)
   (try clear hi)
   (try clear ho0)
   refine hK.out _ _ ⟨(z9 BK101.out 0).trans rfl,(z9 BK101.out 1).trans rfl⟩ (fun hHeld=>?_)
   clear hK K
   refine norm_ (a':=?_) ?_ ?_
   rotate_left
   · show Act.put _ (some 55) _ = _
     simp only [Act.put,List.setIfInBounds_toArray,List.set_cons_zero,List.set_cons_succ,zD,zG]
     rfl
   refine pure_ (i:=7) (N:=some 48) (v:=?_) (a':=?_) #[true,true,true,true,true,true,true,true,false,false,false,false] rfl rfl (zL HT_.out (by kernel_rfl)) (fun _ _ _ h=>h) (Or.inl ⟨by rfl,?_⟩) ?_ ?_
   rotate_left
   · intro w'
     go_simp
     with_reducible rfl
   rotate_left
   · simp only [Act.put,List.setIfInBounds_toArray,List.set_cons_zero,List.set_cons_succ,zD,zG]
     rfl
   refine pure_ (i:=8) (N:=some 56) (v:=?_) (a':=?_) #[true,true,true,true,true,true,true,true,true,false,false,false] rfl rfl (zL HT_.out (by kernel_rfl)) (fun _ _ _ h=>h) (Or.inl ⟨by rfl,?_⟩) ?_ ?_
   rotate_left
   · intro w'
     go_simp
     with_reducible rfl
   rotate_left
   · simp only [Act.put,List.setIfInBounds_toArray,List.set_cons_zero,List.set_cons_succ,zD,zG]
     rfl
   refine pure_ (i:=9) (N:=some 57) (v:=?_) (a':=?_) #[true,true,true,true,true,true,true,true,true,true,false,false] rfl rfl (zL HT_.out (by kernel_rfl)) (fun _ _ _ h=>h) (Or.inl ⟨by rfl,?_⟩) ?_ ?_
   rotate_left
   · intro w'
     go_simp
     with_reducible rfl
   rotate_left
   · simp only [Act.put,List.setIfInBounds_toArray,List.set_cons_zero,List.set_cons_succ,zD,zG]
     rfl
   refine pure_ (i:=10) (N:=some 13) (v:=?_) (a':=?_) #[true,true,true,true,true,true,true,true,true,true,true,false] rfl rfl (zL HT_.out (by kernel_rfl)) (fun _ _ _ h=>h) (Or.inl ⟨by rfl,?_⟩) ?_ ?_
   rotate_left
   · intro w'
     go_simp
     with_reducible rfl
   rotate_left
   · simp only [Act.put,List.setIfInBounds_toArray,List.set_cons_zero,List.set_cons_succ,zD,zG]
     rfl
   refine pure_ (i:=11) (N:=some 14) (v:=?_) (a':=?_) #[true,true,true,true,true,true,true,true,true,true,true,true] rfl rfl (zL HT_.out (by kernel_rfl)) (fun _ _ _ h=>h) (Or.inl ⟨by rfl,?_⟩) ?_ ?_
   rotate_left
   · intro w'
     go_simp
     with_reducible rfl
   rotate_left
   · simp only [Act.put,List.setIfInBounds_toArray,List.set_cons_zero,List.set_cons_succ,zD,zG]
     rfl
   refine done_ (z24 HT_.out (by kernel_rfl)) ?_
   try go_wp2_with (first|((with_reducible refine zm (f:=19) rfl ?_);refine goesL_ (some 58) rfl rfl Try.func19 (by kernel_rfl) rfl #[] rfl (by (try simp only [List.map_toArray,List.map_cons,List.map_nil]);first|done|rfl|(simp only [List.length_drop,List.length_take];rfl)) ?_;(with_reducible refine (zJ.calls kj3  true _ A19.out).mono ?_);rintro e w59 ⟨rfl,hb⟩;refine ⟨_,rfl,?_⟩;have n0_:=z2.mk (Kd.zE (by (with_reducible repeat (first|apply Kd.zj|apply Kd.zk|apply Kd.zo));exact HO107.out) hb);have n1_:=z2.mk (Kd.z26 (by (with_reducible repeat (first|apply Kd.z1l|apply Kd.z1m|apply Kd.z1t));exact HO110.out) hb);have n2_:=z2.mk (Kd.zE (by (with_reducible repeat (first|apply Kd.zj|apply Kd.zk|apply Kd.zo));exact HO114.out) hb);have n3_:=z2.mk (Kd.zE (by (with_reducible repeat (first|apply Kd.zj|apply Kd.zk|apply Kd.zo));exact HO118.out) hb);have n4_:=z2.mk (Kd.z26 (by (with_reducible repeat (first|apply Kd.z1l|apply Kd.z1m|apply Kd.z1t));exact HO121.out) hb);have n5_:=z2.mk (Kd.zE (by (with_reducible repeat (first|apply Kd.zj|apply Kd.zk|apply Kd.zo));exact HO124.out) hb);have n6_:=z2.mk (Kd.zE (by (with_reducible repeat (first|apply Kd.zj|apply Kd.zk|apply Kd.zo));exact HO128.out) hb);have n7_:=z2.mk (ze (g:=gb101) (o:=.cells #[.slice A2_0 l2_0.length c2_0,.int .i64 a2_1] 46 (0,0)) (by (with_reducible repeat (first|refine z6 ?_ _|refine z8 ?_|refine z5 ?_ _));exact BK101.out) hb);have n8_:=z2.mk (za (by repeat (first|(with_reducible first|exact HB.out|apply z4|apply z1|apply z3|refine z7 ?_ GE101.out)|exact HB.out)) hb);clear HO107;clear HO110;clear HO114;clear HO118;clear HO121;clear HO124;clear HO128;clear BK101;clear HB;have HO107:=n0_;have HO110:=n1_;have HO114:=n2_;have HO118:=n3_;have HO121:=n4_;have HO124:=n5_;have HO128:=n6_;have BK101:=n7_;have HB:=n8_;clear n0_ n1_ n2_ n3_ n4_ n5_ n6_ n7_ n8_;(try clear hb);(try clear hb2);(try clear hk);(try clear hi);obtain ⟨Ao60,co60,eo60⟩:=Kd.z1s HO107.out;subst eo60;obtain ⟨Ao61,co61,eo61⟩:=Kd.z1s HO114.out;subst eo61)|(go_at_call 25;(with_reducible refine (zp.calls kj3 _ _ t104 _ _ t111 true _ ?side1 ?side2 ?side3 ?side4 A21.out).mono ?_);(case side1=>repeat (first|exact (Kd.zI HO107.out).2.2|(with_reducible refine Kd.zS ?_ _)|(with_reducible refine Kd.zT ?_ _)|(with_reducible refine Kd.z16 ?_)));(case side2=>exact (Kd.zI HO107.out).2.1);(case side3=>repeat (first|exact (Kd.zI HO114.out).2.2|(with_reducible refine Kd.zS ?_ _)|(with_reducible refine Kd.zT ?_ _)|(with_reducible refine Kd.z16 ?_)));(case side4=>exact (Kd.zI HO114.out).2.1);rintro e w' ⟨rfl,⟨nd,rfl⟩⟩;obtain ⟨Ao62,co62,eo62⟩:=Kd.z1s HO118.out;subst eo62;obtain ⟨Ao63,co63,eo63⟩:=Kd.z1s HO128.out;subst eo63)|(go_at_call 25;(with_reducible refine (zp.calls kj3 _ _ t115 _ _ t125 false _ ?side1 ?side2 ?side3 ?side4 A24.out).mono ?_);(case side1=>repeat (first|exact (Kd.zI HO118.out).2.2|(with_reducible refine Kd.zS ?_ _)|(with_reducible refine Kd.zT ?_ _)|(with_reducible refine Kd.z16 ?_)));(case side2=>exact (Kd.zI HO118.out).2.1);(case side3=>repeat (first|exact (Kd.zI HO128.out).2.2|(with_reducible refine Kd.zS ?_ _)|(with_reducible refine Kd.zT ?_ _)|(with_reducible refine Kd.z16 ?_)));(case side4=>exact (Kd.zI HO128.out).2.1);rintro e w' ⟨rfl,⟨nd,rfl⟩⟩))
   go_ret
   exact ⟨by first|rfl|(simp [zh,zi] <;> rfl)|(simp [*,zh,zi] <;> rfl),by repeat (first|(with_reducible first|exact HB.out|apply z4|apply z1|apply z3|refine z7 ?_ GE101.out)|exact HB.out)⟩
end Go.Proofs.Ytkhmpaooinpfoaa.P
/- What the arguments of a law read as: for each type that can be told, any reading of it is one of a value of its kind, with its numbers in their ranges. Own text. -/
namespace Go.Proofs.Ytkhmpaooinpfoaa.Reads
open Go.ChangeShapes Go.WideShapes Go.ChangeAt Go.RowKit Go.Deep Go.Proofs.YtkhmpaooinpfoaaW.PrintWords
set_option linter.unusedVariables false

/-- Whatever is read at type t is of kind d, and good. -/
def ReadsAs {α : Type} (P : Program) (t : TypeId) (d : Kd α) (good : α → Prop) : Prop :=
  ∀ {H : Type} (enc : TypeId × Value → H) (w : World) (base : Nat) (spare : Nat → Bool) (held : Bool) (fuel : Nat) (cs : List Value) (x : DataW H × List MemPlace), DataW.trod enc P w base spare held fuel t cs = some x → ∃ a, d.K w a cs ∧ good a

theorem z6c {P : Program} {t : TypeId} {k : IntKind} (ht : P.underlying t = some (.int k)) : ReadsAs P t (Kd.int k) (fun n => (Lit.int k n).wf = true) := by
  intro H enc w base spare held fuel cs x h
  obtain ⟨n, rfl, _, hw⟩ := DataW.trod_int ht h
  exact ⟨n, rfl, hw⟩
theorem op_bool {P : Program} {t : TypeId} (ht : P.underlying t = some .bool) : ReadsAs P t Kd.bool (fun _ => True) := by
  intro H enc w base spare held fuel cs x h
  obtain ⟨n, rfl, _⟩ := DataW.trod_bool ht h
  exact ⟨n, rfl, trivial⟩
theorem z5V (a : Addr) (i j : Nat) : (a.add i).add j = a.add (i + j) := Go.Deep.add_add a i j
theorem z6d {α : Type} {P : Program} {t e : TypeId} {d : Kd α} {good : α → Prop} (ht : P.underlying t = some (.slice e)) (hc : P.cellsOf e = d.sz) (he : ReadsAs P e d good) : ReadsAs P t (Kd.slice e d) (fun l => (∀ x ∈ l, good x) ∧ l.length ≤ maxLen) := by
  intro H enc w base spare held fuel cs x h
  rcases open_slice ht h with ⟨rfl, _⟩ | ⟨a, len, cap, m, n, D, Pl, rfl, hb, hl, hm, hmm, rfl, hx⟩
  · exact ⟨[], ⟨none, 0, rfl, Nat.le_refl _, Kd.C_nil d w⟩, ⟨by simp, Nat.zero_le _⟩⟩
  · have hlm : len ≤ m := by rw [hmm]; split <;> omega
    have hex : ∀ i, i < len → ∃ y : α, ∃ c, c.length = d.sz ∧ d.K w y c ∧ good y ∧ ∀ j u, c[j]? = some u → w.cell? (a.add (i * d.sz + j)) = some u := by
      intro i hi
      obtain ⟨cs', h1, h2⟩ := hx i (by omega)
      obtain ⟨_, hlen, hcell⟩ := World.cells?_some h1
      obtain ⟨y, hK, hg⟩ := he enc w base spare held n cs' _ h2
      refine ⟨y, cs', by rw [hlen, hc], hK, hg, fun j u hu => ?_⟩
      have hj : j < P.cellsOf e := by rw [← hlen]; exact (List.getElem?_eq_some_iff.1 hu).1
      have := hcell j hj
      rw [z5V] at this
      rw [← hc, this]; exact hu
    have hmax : len ≤ 9223372036854775807 := by
      have h9 : len ≤ maxLen := by omega
      simpa [maxLen] using h9
    have hlen : (List.ofFn (fun i : Fin len => Classical.choose (hex i.1 i.2))).length = len := List.length_ofFn
    refine ⟨List.ofFn (fun i : Fin len => Classical.choose (hex i.1 i.2)), ⟨some a, cap, by rw [hlen], by rw [hlen]; exact hl, rfl, by rw [hlen]; exact hmax, fun _ => ⟨a, rfl, ?_⟩⟩, ?_, by rw [hlen]; omega⟩
    · intro j p hp
      obtain ⟨hj, hpj⟩ := List.getElem?_eq_some_iff.1 hp
      rw [List.length_ofFn] at hj
      rw [List.getElem_ofFn] at hpj
      obtain ⟨c, h1, h2, _, h4⟩ := Classical.choose_spec (hex j hj)
      exact ⟨c, h1, by rw [← hpj]; exact h2, h4⟩
    · intro y hy
      obtain ⟨i, rfl⟩ := List.mem_ofFn.1 hy
      obtain ⟨c, _, _, h3, _⟩ := Classical.choose_spec (hex i.1 i.2)
      exact h3

/-- Fields that lie one behind the other. -/
def ReadsFs {α : Type} (P : Program) (fs : List Field) (off : Nat) (d : Kd α) (good : α → Prop) : Prop :=
  ∀ {H : Type} (enc : TypeId × Value → H) (w : World) (base : Nat) (spare : Nat → Bool) (held : Bool) (n : Nat) (cs : List Value), cs.length = d.sz →
    (∀ f ∈ fs, off ≤ f.offset ∧ ∃ x, DataW.trod enc P w base spare held n f.type ((cs.drop (f.offset - off)).take (P.cellsOf f.type)) = some x) → ∃ a, d.K w a cs ∧ good a
theorem z5A {α : Type} {P : Program} {f : Field} {off : Nat} {d : Kd α} {good : α → Prop} (hs : P.cellsOf f.type = d.sz) (ho : f.offset = off) (he : ReadsAs P f.type d good) : ReadsFs P [f] off d good := by
  intro H enc w base spare held n cs hl h
  obtain ⟨_, x, hx⟩ := h f (by simp)
  rw [ho, Nat.sub_self, List.drop_zero, hs, ← hl, List.take_length] at hx
  exact he enc w base spare held n cs x hx
theorem z5z {α β : Type} {P : Program} {f : Field} {fs : List Field} {off : Nat} {d : Kd α} {d' : Kd β} {good : α → Prop} {good' : β → Prop} (hs : P.cellsOf f.type = d.sz) (ho : f.offset = off) (he : ReadsAs P f.type d good)
    (hr : ReadsFs P fs (off + d.sz) d' good') (hoff : ∀ g ∈ fs, off + d.sz ≤ g.offset) : ReadsFs P (f :: fs) off (Kd.pair d d') (fun x => good x.1 ∧ good' x.2) := by
  intro H enc w base spare held n cs hl h
  have hl' : cs.length = d.sz + d'.sz := hl
  obtain ⟨_, x, hx⟩ := h f (by simp)
  rw [ho, Nat.sub_self, List.drop_zero, hs] at hx
  obtain ⟨a, hK, hg⟩ := he enc w base spare held n _ x hx
  obtain ⟨b, hK', hg'⟩ := hr enc w base spare held n (cs.drop d.sz) (by rw [List.length_drop]; omega) (fun g hgm => by
    obtain ⟨_, y, hy⟩ := h g (by simp [hgm])
    have ho' := hoff g hgm
    refine ⟨ho', y, ?_⟩
    rw [List.drop_drop, show d.sz + (g.offset - (off + d.sz)) = g.offset - off by omega]
    exact hy)
  exact ⟨(a, b), ⟨cs.take d.sz, cs.drop d.sz, (List.take_append_drop _ _).symm, hK, hK'⟩, hg, hg'⟩
theorem z5y {α β : Type} {P : Program} {t : TypeId} {fs : Array Field} {l : List Field} {d : Kd α} {good : α → Prop} (f : β → α) (hsurj : ∀ a, ∃ b, f b = a) (ht : P.underlying t = some (.struct fs)) (hfl : fs.toList = l) (hs : P.cellsOf t = d.sz) (h : ReadsFs P l 0 d good) :
    ReadsAs P t (Kd.iso d f) (fun b => good (f b)) := by
  intro H enc w base spare held fuel cs x hx
  obtain ⟨xs, n, rfl, _, hlen, hxs, hall⟩ := DataW.trod_struct ht hx
  obtain ⟨a, hK, hg⟩ := h enc w base spare held n cs (by rw [hlen, hs]) (fun g hgm => by
    rw [← hfl] at hgm
    obtain ⟨i, hi, rfl⟩ := List.mem_iff_getElem.1 hgm
    have h1 := hall i fs.toList[i] (by simp at hi ⊢)
    have hi' : i < xs.length := by rw [hxs]; simpa using hi
    refine ⟨Nat.zero_le _, xs[i], ?_⟩
    rw [Nat.sub_zero, h1, List.getElem?_eq_getElem hi'])
  obtain ⟨b, rfl⟩ := hsurj a
  exact ⟨b, hK, hg⟩

/-- Elements of an array, one behind the other. -/
def ReadsAr {α : Type} (P : Program) (e : TypeId) (m : Nat) (d : Kd α) (good : α → Prop) : Prop :=
  ∀ {H : Type} (enc : TypeId × Value → H) (w : World) (base : Nat) (spare : Nat → Bool) (held : Bool) (n : Nat) (cs : List Value), cs.length = d.sz →
    (∀ i, i < m → ∃ x, DataW.trod enc P w base spare held n e ((cs.drop (i * P.cellsOf e)).take (P.cellsOf e)) = some x) → ∃ a, d.K w a cs ∧ good a
theorem opas_last {α : Type} {P : Program} {e : TypeId} {d : Kd α} {good : α → Prop} (hs : P.cellsOf e = d.sz) (he : ReadsAs P e d good) : ReadsAr P e 1 d good := by
  intro H enc w base spare held n cs hl h
  obtain ⟨x, hx⟩ := h 0 (by omega)
  rw [Nat.zero_mul, List.drop_zero, hs, ← hl, List.take_length] at hx
  exact he enc w base spare held n cs x hx
theorem opas_cons {α β : Type} {P : Program} {e : TypeId} {m : Nat} {d : Kd α} {d' : Kd β} {good : α → Prop} {good' : β → Prop} (hs : P.cellsOf e = d.sz) (he : ReadsAs P e d good) (hr : ReadsAr P e m d' good') :
    ReadsAr P e (m + 1) (Kd.pair d d') (fun x => good x.1 ∧ good' x.2) := by
  intro H enc w base spare held n cs hl h
  have hl' : cs.length = d.sz + d'.sz := hl
  obtain ⟨x, hx⟩ := h 0 (by omega)
  rw [Nat.zero_mul, List.drop_zero, hs] at hx
  obtain ⟨a, hK, hg⟩ := he enc w base spare held n _ x hx
  obtain ⟨b, hK', hg'⟩ := hr enc w base spare held n (cs.drop d.sz) (by rw [List.length_drop]; omega) (fun i hi => by
    obtain ⟨y, hy⟩ := h (i + 1) (by omega)
    refine ⟨y, ?_⟩
    rw [List.drop_drop, show d.sz + i * P.cellsOf e = (i + 1) * P.cellsOf e by rw [hs, Nat.add_mul]; omega]
    exact hy)
  exact ⟨(a, b), ⟨cs.take d.sz, cs.drop d.sz, (List.take_append_drop _ _).symm, hK, hK'⟩, hg, hg'⟩
theorem op_array {α β : Type} {P : Program} {t e : TypeId} {m : Nat} {d : Kd α} {good : α → Prop} (f : β → α) (hsurj : ∀ a, ∃ b, f b = a) (ht : P.underlying t = some (.array m e)) (hs : P.cellsOf t = d.sz) (h : ReadsAr P e m d good) :
    ReadsAs P t (Kd.iso d f) (fun b => good (f b)) := by
  intro H enc w base spare held fuel cs x hx
  obtain ⟨xs, n, rfl, _, hlen, hxs, hall⟩ := DataW.trod_array ht hx
  obtain ⟨a, hK, hg⟩ := h enc w base spare held n cs (by rw [hlen, hs]) (fun i hi => by
    have hi' : i < xs.length := by omega
    exact ⟨xs[i], by rw [hall i hi, List.getElem?_eq_getElem hi']⟩)
  obtain ⟨b, rfl⟩ := hsurj a
  exact ⟨b, hK, hg⟩
theorem z5x {P : Program} {w : World} {r : Reach} {base : Nat} {t e : TypeId} {m : Nat} {v : Value} (ht : P.underlying t = some (.array m e)) (h : Value.okWide P w r base t v) : ∃ cs, v = .agg cs ∧ cs.size = P.cellsOf t := by
  simp only [Value.okWide, ht] at h
  cases v <;> simp_all

/-- An argument that is a slice. -/
theorem z73 {α : Type} {P : Program} {H : Type} {enc : TypeId × Value → H} {W : World} {base : Nat} {spare : Nat → Bool} {held : Bool} {t e : TypeId} {d : Kd α} {good : List α → Prop} {v : Value} {dd : DataW H} {ps : List MemPlace}
    (hop : ReadsAs P t (Kd.slice e d) good) {e' : TypeId} (ht : P.underlying t = some (.slice e')) {r : Reach} {b : Nat} (hv : Value.okWide P W r b t v) (h : DataW.Trod enc P W base spare held t v dd ps) :
    ∃ (l : List α) (A : Option Addr) (c : Nat), v = .slice A l.length c ∧ l.length ≤ c ∧ Kd.C d W A l.length l ∧ good l := by
  obtain ⟨A, len, cap, rfl⟩ := okWide_slice ht hv
  obtain ⟨fuel, hf⟩ := h
  obtain ⟨l, ⟨A', c, hcs, hl, hC⟩, hg⟩ := hop enc W base spare held fuel _ _ hf
  simp [Value.cells] at hcs
  obtain ⟨rfl, rfl, rfl⟩ := hcs
  exact ⟨l, A, cap, rfl, hl, hC, hg⟩
theorem arg_int {P : Program} {H : Type} {enc : TypeId × Value → H} {W : World} {base : Nat} {spare : Nat → Bool} {held : Bool} {t : TypeId} {k : IntKind} {v : Value} {dd : DataW H} {ps : List MemPlace}
    (ht : P.underlying t = some (.int k)) {r : Reach} {b : Nat} (hv : Value.okWide P W r b t v) (h : DataW.Trod enc P W base spare held t v dd ps) :
    ∃ n, v = .int k n ∧ (Lit.int k n).wf = true := by
  obtain ⟨n, rfl⟩ := okWide_int ht hv
  obtain ⟨fuel, hf⟩ := h
  obtain ⟨l, hcs, hg⟩ := z6c ht enc W base spare held fuel _ _ hf
  have : n = l := by
    have h1 : ([Value.int k n] : List Value) = [.int k l] := hcs
    simpa using h1
  subst this
  exact ⟨n, rfl, hg⟩
theorem arg_bool {P : Program} {W : World} {t : TypeId} {v : Value} (ht : P.underlying t = some .bool) {r : Reach} {b : Nat} (hv : Value.okWide P W r b t v) : ∃ n, v = .bool n := okWide_bool ht hv
/-- An argument that is a struct: its cells. -/
theorem z6t {α : Type} {P : Program} {H : Type} {enc : TypeId × Value → H} {W : World} {base : Nat} {spare : Nat → Bool} {held : Bool} {t : TypeId} {fs : Array Field} {d : Kd α} {good : α → Prop} {v : Value} {dd : DataW H} {ps : List MemPlace}
    (hop : ReadsAs P t d good) (ht : P.underlying t = some (.struct fs)) {r : Reach} {b : Nat} (hv : Value.okWide P W r b t v) (h : DataW.Trod enc P W base spare held t v dd ps) :
    ∃ (a : α) (cs : List Value), v = .agg cs.toArray ∧ d.K W a cs ∧ good a := by
  obtain ⟨cs, rfl, _⟩ := okWide_struct ht hv
  obtain ⟨fuel, hf⟩ := h
  obtain ⟨a, hK, hg⟩ := hop enc W base spare held fuel _ _ hf
  exact ⟨a, cs.toList, by simp, hK, hg⟩
/-- An argument that is an array: its cells. -/
theorem arg_array {α : Type} {P : Program} {H : Type} {enc : TypeId × Value → H} {W : World} {base : Nat} {spare : Nat → Bool} {held : Bool} {t e : TypeId} {m : Nat} {d : Kd α} {good : α → Prop} {v : Value} {dd : DataW H} {ps : List MemPlace}
    (hop : ReadsAs P t d good) (ht : P.underlying t = some (.array m e)) {r : Reach} {b : Nat} (hv : Value.okWide P W r b t v) (h : DataW.Trod enc P W base spare held t v dd ps) :
    ∃ (a : α) (cs : List Value), v = .agg cs.toArray ∧ d.K W a cs ∧ good a := by
  obtain ⟨cs, rfl, _⟩ := z5x ht hv
  obtain ⟨fuel, hf⟩ := h
  obtain ⟨a, hK, hg⟩ := hop enc W base spare held fuel _ _ hf
  exact ⟨a, cs.toList, by simp, hK, hg⟩
end Go.Proofs.Ytkhmpaooinpfoaa.Reads
-- Own text: the statement that is left of the law WeaveColumns, and what a reading of its arguments is.
namespace Go.Proofs.Ytkhmpaooinpfoaa.Stated.weaveColumns
open Go.RowKit Go.Proofs.YtkhmpaooinpfoaaW.PrintWords Go.Proofs.Ytkhmpaooinpfoaa.P Go.Proofs.Ytkhmpaooinpfoaa.Reads
def Pure : Prop := ∀ (x0 : Int) (x1 : List (List (S30))) (x2 : S46), ((Lit.int .i64 x0).wf = true) → (((∀ x_ ∈ x1, ((∀ y_ ∈ x_, ((Lit.int .u64 y_.f0).wf = true) ∧ ((Lit.int .u64 y_.f1).wf = true)) ∧ x_.length ≤ maxLen)) ∧ x1.length ≤ maxLen)) → ((((∀ x_ ∈ x2.f0, ((Lit.int .u64 x_.f0).wf = true) ∧ ((Lit.int .u64 x_.f1).wf = true)) ∧ x2.f0.length ≤ maxLen)) ∧ ((Lit.int .i64 x2.f1).wf = true)) → ∃ k, zb.f k x0 x1 x2.f0 x2.f1 = some true
end Go.Proofs.Ytkhmpaooinpfoaa.Stated.weaveColumns
/- Rounds: what is told by enough of them; and the arithmetic of whole numbers as the printed functions spell it. Own text. -/
namespace Go.Proofs.YtkhmpaooinpfoaaW.PrintWords
set_option linter.unusedVariables false
set_option linter.unusedSimpArgs false
namespace Ev
variable {α β : Type}
theorem ret (r : α) : Ev (fun _ => some r) r := ⟨0, fun _ _ => rfl⟩
theorem ret' {a r : α} (h : a = r) : Ev (fun _ => some a) r := h ▸ Ev.ret a
theorem const {o : Option α} {r : α} (h : o = some r) : Ev (fun _ => o) r := ⟨0, fun _ _ => h⟩
theorem pos {c : Prop} [Decidable c] {f g : Nat → Option α} {r : α} (h : c) (k : Ev f r) : Ev (fun n => if c then f n else g n) r := by
  simp only [if_pos h]; exact k
theorem neg {c : Prop} [Decidable c] {f g : Nat → Option α} {r : α} (h : ¬ c) (k : Ev g r) : Ev (fun n => if c then f n else g n) r := by
  simp only [if_neg h]; exact k
theorem bnd {g : Nat → Option α} {f : Nat → α → Option β} {a : α} {r : β} (h : Ev g a) (k : Ev (fun n => f n a) r) : Ev (fun n => (g n).bind (f n)) r := Ev.bind h k
theorem bnd0 {o : Option α} {f : Nat → α → Option β} {a : α} {r : β} (h : o = some a) (k : Ev (fun n => f n a) r) : Ev (fun n => o.bind (f n)) r := Ev.bind (Ev.const h) k
theorem uniq {g : Nat → Option α} {a b : α} (h : Ev g a) (k : Ev g b) : a = b := by
  obtain ⟨K, hK⟩ := h; obtain ⟨L, hL⟩ := k
  have := hK (max K L) (Nat.le_max_left _ _); rw [hL _ (Nat.le_max_right _ _)] at this
  exact (Option.some.inj this).symm
theorem eqn {g : Nat → Option α} {a b : α} (h : Ev g a) (e : a = b) : Ev g b := e ▸ h
end Ev
end Go.Proofs.YtkhmpaooinpfoaaW.PrintWords
namespace Go.Proofs.Ytkhmpaooinpfoaa.Ar
open Go.RowKit Go.Proofs.YtkhmpaooinpfoaaW.PrintWords Go.Proofs.YtkhmpaooinpfoaaW.PrintMore
set_option linter.unusedVariables false
set_option linter.unusedSimpArgs false
theorem i64_id {x : Int} (h0 : -9223372036854775808 ≤ x) (h1 : x ≤ 9223372036854775807) : IntKind.i64.wrap x = x := by rw [IntKind.wrap_i64]; omega
theorem z2S {x : Int} (h0 : -9223372036854775808 ≤ x) (h1 : x ≤ 9223372036854775807) : wrap64 x = x := by unfold wrap64; omega
theorem z1L {i L : Nat} (h : i < L) (hL : L ≤ 4611686018427387904) : wrap64 ((i : Int) + 1) = ((i + 1 : Nat) : Int) := by rw [z2S (by omega) (by omega)]; omega
theorem w64_add {i j : Nat} (h : i ≤ 2305843009213693952) (h' : j ≤ 2305843009213693952) : wrap64 ((i : Int) + (j : Int)) = ((i + j : Nat) : Int) := by rw [z2S (by omega) (by omega)]; omega
theorem w64_sub {i j : Nat} (h : j ≤ i) (h' : i ≤ 4611686018427387904) : wrap64 ((i : Int) - (j : Int)) = ((i - j : Nat) : Int) := by rw [z2S (by omega) (by omega)]; omega
theorem z33 {x : Int} (h0 : 0 ≤ x) (h1 : x < 18446744073709551616) : IntKind.u64.wrap x = x := by
  simp [IntKind.wrap, IntKind.bits, IntKind.signed]; omega
theorem z5b (w : Nat) (h : w ≤ 62) : shl .i64 1 (w : Int) = ((2 ^ w : Nat) : Int) := by
  unfold shl
  have h64 : IntKind.i64.bits = 64 := rfl
  rw [h64, Int.toNat_natCast, Nat.min_eq_left (by omega), Int.one_mul]
  have hp : (2 : Nat) ^ w ≤ 2 ^ 62 := Nat.pow_le_pow_right (by decide) h
  have hc : ((2 : Int) ^ w) = ((2 ^ w : Nat) : Int) := by simp
  rw [hc]
  have h62 : (2 : Nat) ^ 62 = 4611686018427387904 := by decide
  generalize 2 ^ w = p at hp ⊢
  exact i64_id (by omega) (by omega)
theorem z3d (w : Nat) (h : w ≤ 63) : shl .u64 1 (w : Int) = ((2 ^ w : Nat) : Int) := by
  unfold shl
  have h64 : IntKind.u64.bits = 64 := rfl
  rw [h64, Int.toNat_natCast, Nat.min_eq_left (by omega), Int.one_mul]
  have hp : (2 : Nat) ^ w ≤ 2 ^ 63 := Nat.pow_le_pow_right (by decide) h
  have hc : ((2 : Int) ^ w) = ((2 ^ w : Nat) : Int) := by simp
  rw [hc]
  have h63 : (2 : Nat) ^ 63 = 9223372036854775808 := by decide
  generalize 2 ^ w = p at hp ⊢
  exact z33 (by omega) (by omega)
theorem z5c (a w : Nat) (h : w ≤ 64) : shr .u64 (a : Int) (w : Int) = ((a / 2 ^ w : Nat) : Int) := by
  unfold shr
  have h64 : IntKind.u64.bits = 64 := rfl
  rw [h64, Int.toNat_natCast, Nat.min_eq_left h]; simp
theorem shr_i64 (a w : Nat) (h : w ≤ 64) : shr .i64 (a : Int) (w : Int) = ((a / 2 ^ w : Nat) : Int) := by
  unfold shr
  have h64 : IntKind.i64.bits = 64 := rfl
  rw [h64, Int.toNat_natCast, Nat.min_eq_left h]; simp
theorem z4V (op : BinOp) (a b : Nat) (ha : a < 2 ^ 64) (hb : b < 2 ^ 64) :
    (op = .and → Go.bits op .u64 a b = ((a &&& b : Nat) : Int)) ∧ (op = .or → Go.bits op .u64 a b = ((a ||| b : Nat) : Int)) ∧ (op = .xor → Go.bits op .u64 a b = ((a ^^^ b : Nat) : Int)) := by
  have ha' : a % 2 ^ IntKind.u64.bits = a := Nat.mod_eq_of_lt ha
  have hb' : b % 2 ^ IntKind.u64.bits = b := Nat.mod_eq_of_lt hb
  refine ⟨?_, ?_, ?_⟩ <;> rintro rfl <;> simp only [Go.bits, BitVec.ofInt_natCast, BitVec.toNat_and, BitVec.toNat_or, BitVec.toNat_xor, BitVec.toNat_ofNat, ha', hb']
  · exact z33 (Int.natCast_nonneg _) (by have := Nat.and_lt_two_pow a hb; omega)
  · exact z33 (Int.natCast_nonneg _) (by have := Nat.or_lt_two_pow ha hb; omega)
  · exact z33 (Int.natCast_nonneg _) (by have := Nat.xor_lt_two_pow ha hb; omega)
theorem z2K (a b : Nat) (ha : a < 2 ^ 64) (hb : b < 2 ^ 64) : Go.bits .and .u64 a b = ((a &&& b : Nat) : Int) := (z4V .and a b ha hb).1 rfl
theorem z6e (a b : Nat) (ha : a < 2 ^ 64) (hb : b < 2 ^ 64) : Go.bits .or .u64 a b = ((a ||| b : Nat) : Int) := (z4V .or a b ha hb).2.1 rfl
theorem z2e (a b : Nat) (ha : a < 2 ^ 64) (hb : b < 2 ^ 64) : Go.bits .xor .u64 a b = ((a ^^^ b : Nat) : Int) := (z4V .xor a b ha hb).2.2 rfl
theorem z5n (x w : Nat) (hx : x < 2 ^ 63) (hw : w ≤ 62) : Go.bits .and .i64 (x : Int) (((2 ^ w : Nat) : Int) - 1) = ((x % 2 ^ w : Nat) : Int) := by
  have := Go.bits_mask .i64 63 (by decide) (fun n h0 h1 => i64_id (by omega) (by omega)) w (by omega) (x : Int) (by omega) (by exact_mod_cast hx)
  have hc : (((2 ^ w : Nat) : Int) - 1) = 2 ^ w - 1 := by simp
  rw [hc, this]; simp
theorem two_pow_le {w : Nat} (h : w ≤ 6) : 2 ^ w ≤ 64 := Nat.pow_le_pow_right (n := 2) (by decide) h
theorem wf_i64 {x : Int} (h : (Lit.int .i64 x).wf = true) : -9223372036854775808 ≤ x ∧ x ≤ 9223372036854775807 := by
  simp only [Lit.wf, IntKind.min, IntKind.max, IntKind.signed, IntKind.bits, Bool.and_eq_true, decide_eq_true_eq] at h; simp at h; omega
theorem wf_u64 {x : Int} (h : (Lit.int .u64 x).wf = true) : 0 ≤ x ∧ x < 18446744073709551616 := by
  simp only [Lit.wf, IntKind.min, IntKind.max, IntKind.signed, IntKind.bits, Bool.and_eq_true, decide_eq_true_eq] at h; simp at h; omega
theorem z7B {α : Type} (d : α) (l : List α) (i : Nat) : rdOf d l (i : Int) = l.getD i d := by unfold rdOf; rw [Int.toNat_natCast]
end Go.Proofs.Ytkhmpaooinpfoaa.Ar
/- The tower of fields of characteristic two, as pairs of pairs of bits: its laws. Own text; nothing of the program in it. -/
namespace Go.Proofs.Ytkhmpaooinpfoaa.Tw
set_option linter.unusedVariables false
set_option linter.unusedSimpArgs false

/-- Level n: a bit, or two halves: the higher one and the lower one. -/
def T : Nat → Type
  | 0 => Bool
  | n + 1 => T n × T n
def zero : (n : Nat) → T n
  | 0 => false
  | n + 1 => (zero n, zero n)
def one : (n : Nat) → T n
  | 0 => true
  | n + 1 => (zero n, one n)
/-- The generator. -/
def gen : (n : Nat) → T n
  | 0 => true
  | n + 1 => (one n, zero n)
def add : {n : Nat} → T n → T n → T n
  | 0, a, b => Bool.xor a b
  | _ + 1, a, b => (add a.1 b.1, add a.2 b.2)
def mul : {n : Nat} → T n → T n → T n
  | 0, a, b => Bool.and a b
  | n + 1, a, b => (add (add (mul a.1 b.2) (mul a.2 b.1)) (mul (gen n) (mul a.1 b.1)), add (mul a.2 b.2) (mul a.1 b.1))
instance {n : Nat} : Add (T n) := ⟨add⟩
instance {n : Nat} : Mul (T n) := ⟨mul⟩
instance {n : Nat} : Zero (T n) := ⟨zero n⟩
instance {n : Nat} : One (T n) := ⟨one n⟩
instance : {n : Nat} → DecidableEq (T n)
  | 0 => inferInstanceAs (DecidableEq Bool)
  | n + 1 => let _ : DecidableEq (T n) := instDecidableEqT; inferInstanceAs (DecidableEq (T n × T n))
theorem z3X {n : Nat} (a b : T (n + 1)) : (a + b).1 = a.1 + b.1 := rfl
theorem z4S {n : Nat} (a b : T (n + 1)) : (a + b).2 = a.2 + b.2 := rfl
theorem z2t {n : Nat} (a b : T (n + 1)) : (a * b).1 = (a.1 * b.2 + a.2 * b.1) + gen n * (a.1 * b.1) := rfl
theorem z2u {n : Nat} (a b : T (n + 1)) : (a * b).2 = a.2 * b.2 + a.1 * b.1 := rfl
theorem z3T {n : Nat} : (0 : T (n + 1)).1 = 0 := rfl
theorem z3U {n : Nat} : (0 : T (n + 1)).2 = 0 := rfl
theorem z53 {n : Nat} : (1 : T (n + 1)).1 = 0 := rfl
theorem z54 {n : Nat} : (1 : T (n + 1)).2 = 1 := rfl
theorem z36 {n : Nat} : (gen (n + 1)).1 = 1 := rfl
theorem z37 {n : Nat} : (gen (n + 1)).2 = 0 := rfl
theorem z66 : gen 0 = 1 := rfl
/-- The element of two halves. -/
def mk {n : Nat} (a b : T n) : T (n + 1) := (a, b)
theorem z2F {n : Nat} (a b : T n) : (mk a b).1 = a := rfl
theorem z2Q {n : Nat} (a b : T n) : (mk a b).2 = b := rfl
theorem ext {n : Nat} {a b : T (n + 1)} (h1 : a.1 = b.1) (h2 : a.2 = b.2) : a = b := Prod.ext h1 h2

theorem add_comm : {n : Nat} → (a b : T n) → a + b = b + a
  | 0, a, b => Bool.xor_comm a b
  | n + 1, a, b => ext (add_comm a.1 b.1) (add_comm a.2 b.2)
theorem add_assoc : {n : Nat} → (a b c : T n) → a + b + c = a + (b + c)
  | 0, a, b, c => Bool.xor_assoc a b c
  | n + 1, a, b, c => ext (add_assoc a.1 b.1 c.1) (add_assoc a.2 b.2 c.2)
theorem zero_add : {n : Nat} → (a : T n) → 0 + a = a
  | 0, a => Bool.false_xor a
  | n + 1, a => ext (zero_add a.1) (zero_add a.2)
theorem z2x : {n : Nat} → (a : T n) → a + a = 0
  | 0, a => Bool.xor_self a
  | n + 1, a => ext (z2x a.1) (z2x a.2)
theorem add_zero {n : Nat} (a : T n) : a + 0 = a := by rw [add_comm, zero_add]
theorem z2f {n : Nat} (a b c : T n) : a + (b + c) = b + (a + c) := by rw [← add_assoc, add_comm a b, add_assoc]
theorem z5k {n : Nat} (a b : T n) : a + (a + b) = b := by rw [← add_assoc, z2x, zero_add]
theorem z6Z {n : Nat} {a b c : T n} (h : a + b = a + c) : b = c := by
  have := congrArg (a + ·) h
  simpa only [z5k] using this
theorem add_eq_zero {n : Nat} {a b : T n} (h : a + b = 0) : a = b := by
  have := congrArg (· + b) h
  simp only [add_assoc, z2x, add_zero, zero_add] at this
  exact this
theorem eq_add_of {n : Nat} {a b c : T n} (h : a + b = c) : a = c + b := by rw [← h, add_assoc, z2x, add_zero]

/-- The laws of products, all at once. -/
structure Laws (n : Nat) : Prop where
  comm : ∀ a b : T n, a * b = b * a
  zero_mul : ∀ a : T n, 0 * a = 0
  one_mul : ∀ a : T n, 1 * a = a
  mul_add : ∀ a b c : T n, a * (b + c) = a * b + a * c
  assoc : ∀ a b c : T n, a * b * c = a * (b * c)
theorem laws : (n : Nat) → Laws n
  | 0 => ⟨Bool.and_comm, Bool.false_and, Bool.true_and, by intro a b c; cases a <;> cases b <;> cases c <;> rfl, Bool.and_assoc⟩
  | n + 1 => by
    obtain ⟨comm, zmul, omul, madd, massoc⟩ := laws n
    have addm : ∀ a b c : T n, (a + b) * c = a * c + b * c := fun a b c => by rw [comm, madd, comm c a, comm c b]
    have mulz : ∀ a : T n, a * 0 = 0 := fun a => by rw [comm, zmul]
    have mulo : ∀ a : T n, a * 1 = a := fun a => by rw [comm, omul]
    have lcomm : ∀ a b c : T n, a * (b * c) = b * (a * c) := fun a b c => by rw [← massoc, comm a b, massoc]
    refine ⟨fun a b => ext ?_ ?_, fun a => ext ?_ ?_, fun a => ext ?_ ?_, fun a b c => ext ?_ ?_, fun a b c => ext ?_ ?_⟩
    · simp only [z2t]; rw [comm a.1 b.2, comm a.2 b.1, comm a.1 b.1, add_comm (b.2 * a.1)]
    · simp only [z2u]; rw [comm a.2 b.2, comm a.1 b.1]
    · simp only [z2t, z3T, z3U, zmul, mulz, add_zero]
    · simp only [z2u, z3T, z3U, zmul, mulz, add_zero]
    · simp only [z2t, z53, z54, zmul, mulz, omul, add_zero, zero_add]
    · simp only [z2u, z53, z54, zmul, mulz, omul, add_zero, zero_add]
    · simp only [z2t, z3X, z4S, madd, addm, add_assoc, z2f, add_comm]
    · simp only [z2u, z3X, z4S, madd, addm, add_assoc, z2f, add_comm]
    · simp only [z2t, z2u, madd, addm, massoc, lcomm, comm, add_assoc, z2f, add_comm]
    · simp only [z2t, z2u, madd, addm, massoc, lcomm, comm, add_assoc, z2f, add_comm]
section
variable {n : Nat} (a b c d : T n)
theorem mul_comm : a * b = b * a := (laws n).comm a b
theorem mul_assoc : a * b * c = a * (b * c) := (laws n).assoc a b c
theorem mul_left_comm : a * (b * c) = b * (a * c) := by rw [← mul_assoc, mul_comm a b, mul_assoc]
theorem zero_mul : 0 * a = 0 := (laws n).zero_mul a
theorem z2G : a * 0 = 0 := by rw [mul_comm, zero_mul]
theorem one_mul : 1 * a = a := (laws n).one_mul a
theorem mul_one : a * 1 = a := by rw [mul_comm, one_mul]
theorem mul_add : a * (b + c) = a * b + a * c := (laws n).mul_add a b c
theorem add_mul : (a + b) * c = a * c + b * c := by rw [mul_comm, mul_add, mul_comm c a, mul_comm c b]
theorem add_sq : (a + b) * (a + b) = a * a + b * b := by
  rw [mul_add, add_mul, add_mul, mul_comm b a, add_assoc, ← add_assoc (a * b), z2x, zero_add]
end
end Go.Proofs.Ytkhmpaooinpfoaa.Tw
/- Elements of the tower as numbers: bits of the lower half first. Own text; nothing of the program in it. -/
namespace Go.Proofs.Ytkhmpaooinpfoaa.Tw
set_option linter.unusedVariables false
set_option linter.unusedSimpArgs false
/-- How many words of bits an element of a level is: 2 to the power 2^n. -/
def Q (n : Nat) : Nat := 2 ^ 2 ^ n
theorem z2L (n : Nat) : 0 < Q n := Nat.two_pow_pos _
theorem z34 (n : Nat) : Q (n + 1) = Q n * Q n := by unfold Q; rw [← Nat.pow_add, Nat.pow_succ 2 n, Nat.mul_two]
theorem z6P (n : Nat) : Q n ≤ Q (n + 1) := by rw [z34]; exact Nat.le_mul_of_pos_left _ (z2L n)
theorem z3q {m n : Nat} (h : m ≤ n) : Q m ≤ Q n := Nat.pow_le_pow_right (by decide) (Nat.pow_le_pow_right (by decide) h)
theorem z6q : Q 6 = 2 ^ 64 := rfl
theorem z5R : Q 7 = 2 ^ 128 := rfl
def val : {n : Nat} → T n → Nat
  | 0, a => Bool.toNat a
  | n + 1, a => val a.1 * Q n + val a.2
def of : (n : Nat) → Nat → T n
  | 0, x => x % 2 == 1
  | n + 1, x => mk (of n (x / Q n)) (of n (x % Q n))
theorem val_zero_lvl (a : T 0) : val a = Bool.toNat a := rfl
theorem z1Z {n : Nat} (a : T (n + 1)) : val a = val a.1 * Q n + val a.2 := rfl
theorem z2v (n x : Nat) : of (n + 1) x = mk (of n (x / Q n)) (of n (x % Q n)) := rfl
theorem z1z : {n : Nat} → (a : T n) → val a < Q n
  | 0, a => by cases a <;> decide
  | n + 1, a => by
    rw [z1Z, z34]
    have h1 := z1z a.1
    have h2 := z1z a.2
    have h3 : val a.1 * Q n + Q n ≤ Q n * Q n := by
      have := Nat.mul_le_mul_right (Q n) h1
      rw [Nat.succ_mul] at this; exact this
    omega
theorem val_div {n : Nat} (a : T (n + 1)) : val a / Q n = val a.1 := by
  rw [z1Z, Nat.mul_comm, Nat.mul_add_div (z2L n), Nat.div_eq_of_lt (z1z a.2), Nat.add_zero]
theorem val_mod {n : Nat} (a : T (n + 1)) : val a % Q n = val a.2 := by
  rw [z1Z, Nat.mul_comm, Nat.mul_add_mod, Nat.mod_eq_of_lt (z1z a.2)]
theorem z2a : {n : Nat} → (a : T n) → of n (val a) = a
  | 0, a => by cases a <;> rfl
  | n + 1, a => by rw [z2v, val_div, val_mod, z2a a.1, z2a a.2]; rfl
theorem z2r : (n : Nat) → (x : Nat) → x < Q n → val (of n x) = x
  | 0, x, h => by
    have h' : x < 2 := h
    have : x = 0 ∨ x = 1 := by omega
    rcases this with rfl | rfl <;> rfl
  | n + 1, x, h => by
    rw [z2v, z1Z, z2F, z2Q]
    rw [z34] at h
    rw [z2r n _ (Nat.div_lt_of_lt_mul h), z2r n _ (Nat.mod_lt _ (z2L n)), Nat.mul_comm]
    exact Nat.div_add_mod x (Q n)
theorem z2Y {n : Nat} {a b : T n} (h : val a = val b) : a = b := by rw [← z2a a, h, z2a]
theorem z1R : (n : Nat) → val (0 : T n) = 0
  | 0 => rfl
  | n + 1 => by rw [z1Z, z3T, z3U, z1R n, Nat.zero_mul]
theorem z2Z : (n : Nat) → val (1 : T n) = 1
  | 0 => rfl
  | n + 1 => by rw [z1Z, z53, z54, z1R n, z2Z n, Nat.zero_mul]
theorem z3a (n : Nat) : of n 0 = 0 := by rw [← z1R n, z2a]
theorem of_one (n : Nat) : of n 1 = 1 := by rw [← z2Z n, z2a]
theorem val_eq_zero {n : Nat} {a : T n} : val a = 0 ↔ a = 0 := ⟨fun h => z2Y (h.trans (z1R n).symm), fun h => by rw [h, z1R]⟩
theorem z6m {n a b c d : Nat} (hb : b < Q n) (hd : d < Q n) : (a * Q n + b) ^^^ (c * Q n + d) = (a ^^^ c) * Q n + (b ^^^ d) := by
  have h1 : ((a * Q n + b) ^^^ (c * Q n + d)) / Q n = a ^^^ c := by
    unfold Q at *
    rw [Nat.xor_div_two_pow, Nat.mul_comm a, Nat.mul_comm c, Nat.mul_add_div (Nat.two_pow_pos _), Nat.mul_add_div (Nat.two_pow_pos _), Nat.div_eq_of_lt hb, Nat.div_eq_of_lt hd]; rfl
  have h2 : ((a * Q n + b) ^^^ (c * Q n + d)) % Q n = b ^^^ d := by
    unfold Q at *
    rw [Nat.xor_mod_two_pow, Nat.mul_comm a, Nat.mul_comm c, Nat.mul_add_mod, Nat.mul_add_mod, Nat.mod_eq_of_lt hb, Nat.mod_eq_of_lt hd]
  have := Nat.div_add_mod ((a * Q n + b) ^^^ (c * Q n + d)) (Q n)
  rw [h1, h2, Nat.mul_comm] at this
  exact this.symm
theorem z1Y : {n : Nat} → (a b : T n) → val (a + b) = val a ^^^ val b
  | 0, a, b => by cases a <;> cases b <;> rfl
  | n + 1, a, b => by
    rw [z1Z, z1Z, z1Z, z3X, z4S, z1Y a.1 b.1, z1Y a.2 b.2, z6m (z1z _) (z1z _)]
theorem z2D {n x y : Nat} (hx : x < Q n) (hy : y < Q n) : x ^^^ y < Q n := Nat.xor_lt_two_pow hx hy
theorem z7s {n x y : Nat} (hx : x < Q n) (hy : y < Q n) : of n (x ^^^ y) = of n x + of n y :=
  z2Y (by rw [z2r _ _ (z2D hx hy), z1Y, z2r _ _ hx, z2r _ _ hy])
/-- A number of a lower level: the higher half is 0. -/
theorem z5w {n x : Nat} (h : x < Q n) : of (n + 1) x = mk 0 (of n x) := by
  rw [z2v, Nat.div_eq_of_lt h, Nat.mod_eq_of_lt h, z3a]
/-- One level up. -/
def up {n : Nat} (a : T n) : T (n + 1) := mk 0 a
theorem z3n {n : Nat} (a : T n) : (up a).1 = 0 := rfl
theorem z4J {n : Nat} (a : T n) : (up a).2 = a := rfl
theorem val_up {n : Nat} (a : T n) : val (up a) = val a := by rw [z1Z, z3n, z4J, z1R, Nat.zero_mul, Nat.zero_add]
theorem up_add {n : Nat} (a b : T n) : up (a + b) = up a + up b := ext (by rw [z3X, z3n, z3n, z3n, add_zero]) rfl
theorem up_mul {n : Nat} (a b : T n) : up (a * b) = up a * up b :=
  ext (by simp only [z2t, z3n, z4J, zero_mul, z2G, add_zero]) (by simp only [z2u, z3n, z4J, zero_mul, add_zero])
theorem z3E {n : Nat} (a : T n) (b : T (n + 1)) : up a * b = mk (a * b.1) (a * b.2) :=
  ext (by simp only [z2t, z3n, z4J, zero_mul, z2G, add_zero, zero_add, z2F]) (by simp only [z2u, z3n, z4J, zero_mul, add_zero, z2Q])
theorem up_zero (n : Nat) : up (0 : T n) = 0 := rfl
theorem up_one (n : Nat) : up (1 : T n) = 1 := rfl
theorem up_inj {n : Nat} {a b : T n} (h : up a = up b) : a = b := congrArg (fun x : T (n + 1) => x.2) h
/-- Many levels up. -/
def ups {n : Nat} : (d : Nat) → T n → T (n + d)
  | 0, a => a
  | d + 1, a => up (ups d a)
theorem ups_add {n : Nat} (a b : T n) : (d : Nat) → ups d (a + b) = ups d a + ups d b
  | 0 => rfl
  | d + 1 => by show up (ups d (a + b)) = _; rw [ups_add a b d, up_add]; rfl
theorem z7Q {n : Nat} (a b : T n) : (d : Nat) → ups d (a * b) = ups d a * ups d b
  | 0 => rfl
  | d + 1 => by show up (ups d (a * b)) = _; rw [z7Q a b d, up_mul]; rfl
theorem z4l {n : Nat} (a : T n) : (d : Nat) → val (ups d a) = val a
  | 0 => rfl
  | d + 1 => by show val (up (ups d a)) = _; rw [val_up, z4l a d]
theorem ups_zero {n : Nat} (d : Nat) : ups d (0 : T n) = 0 := z2Y (by rw [z4l, z1R, z1R])
theorem ups_one {n : Nat} (d : Nat) : ups d (1 : T n) = 1 := z2Y (by rw [z4l, z2Z, z2Z])
theorem ups_of {n d x : Nat} (h : x < Q n) : ups d (of n x) = of (n + d) x := z2Y (by rw [z4l, z2r _ _ h, z2r _ _ (Nat.lt_of_lt_of_le h (z3q (Nat.le_add_right _ _)))])
/-- Products of numbers of a lower level are of it. -/
theorem z4k {n d x y : Nat} (hx : x < Q n) (hy : y < Q n) : val (of (n + d) x * of (n + d) y) = val (of n x * of n y) := by
  rw [← ups_of hx, ← ups_of hy, ← z7Q, z4l]
theorem z3A {l m x y : Nat} (h : l ≤ m) (hx : x < Q l) (hy : y < Q l) : val (of m x * of m y) = val (of l x * of l y) := by
  obtain ⟨d, rfl⟩ := Nat.le.dest h
  exact z4k hx hy
theorem z6G {l m x y : Nat} (h : l ≤ m) (hx : x < Q l) (hy : y < Q l) : val (of m x * of m y) < Q l := by
  rw [z3A h hx hy]; exact z1z _
end Go.Proofs.Ytkhmpaooinpfoaa.Tw
/- What the functions of layers 1 and 2 on elements tell. Own text. -/
namespace Go.Proofs.Ytkhmpaooinpfoaa.Sp
open Go.RowKit Go.Proofs.YtkhmpaooinpfoaaW.PrintWords Go.Proofs.YtkhmpaooinpfoaaW.PrintMore Go.Proofs.Ytkhmpaooinpfoaa.P Go.Proofs.Ytkhmpaooinpfoaa.Ar Go.Proofs.Ytkhmpaooinpfoaa.Tw
set_option linter.unusedVariables false
set_option linter.unusedSimpArgs false
theorem z3W {n : Nat} (h : n ≤ 6) : Q n ≤ 2 ^ 64 := z3q h
theorem Q_dvd {n : Nat} : Q n = 2 ^ 2 ^ n := rfl
theorem z2q {n : Nat} (h : n ≤ 5) : 2 ^ n ≤ 32 := Nat.pow_le_pow_right (n := 2) (by decide) h
theorem z3S {l : Nat} (h : l + 1 ≤ 1000) : wrap64 (((l + 1 : Nat) : Int) - 1) = (l : Int) := by rw [z2S (by omega) (by omega)]; omega
theorem z4P {n : Nat} (h : n ≤ 5) : Q n < 2 ^ 64 := Nat.pow_lt_pow_right (by decide) (by have := z2q h; omega)
theorem z44 {l : Nat} (hl : l ≤ 5) (x : Nat) (hx : x < 2 ^ 64) : z1G.f ((l + 1 : Nat) : Int) (x : Int) = some (((x / Q l : Nat) : Int), ((x % Q l : Nat) : Int)) := by
  unfold z1G.f
  have h32 := z2q hl
  have hQ := z4P hl
  have hm : IntKind.u64.wrap (((2 ^ 2 ^ l : Nat) : Int) - 1) = ((2 ^ 2 ^ l - 1 : Nat) : Int) := by
    have := Nat.two_pow_pos (2 ^ l)
    unfold Q at hQ
    generalize 2 ^ 2 ^ l = q at *
    rw [z33 (by omega) (by omega)]; omega
  rw [z3S (by omega), if_pos (Int.natCast_nonneg _), z5b l (by omega), if_pos (Int.natCast_nonneg _), z5c x (2 ^ l) (by omega), z3d (2 ^ l) (by omega), hm]
  rw [z2K x _ hx (by have := Nat.two_pow_pos (2 ^ l); unfold Q at hQ; omega), Nat.and_two_pow_sub_one_eq_mod]
  rfl
theorem z7i {l : Nat} (hl : l ≤ 5) (h x : Nat) (hh : h < Q l) (hx : x < Q l) : z1H.f ((l + 1 : Nat) : Int) (h : Int) (x : Int) = some ((h * Q l + x : Nat) : Int) := by
  unfold z1H.f
  have h32 := z2q hl
  have hQ := z4P hl
  have h6 : Q (l + 1) ≤ 2 ^ 64 := z3W (by omega)
  have hhx : h * Q l + Q l ≤ Q (l + 1) := by
    rw [z34]
    have := Nat.mul_le_mul_right (Q l) hh
    rw [Nat.succ_mul] at this; exact this
  have hs : shl .u64 (h : Int) (((2 ^ l : Nat) : Int)) = ((h * Q l : Nat) : Int) := by
    unfold shl
    have h64 : IntKind.u64.bits = 64 := rfl
    rw [h64, Int.toNat_natCast, Nat.min_eq_left (by omega)]
    have hc : ((h : Int) * 2 ^ 2 ^ l) = ((h * Q l : Nat) : Int) := by unfold Q; simp
    rw [hc]
    have : h * Q l < 2 ^ 64 := by omega
    generalize h * Q l = z at *
    exact z33 (by omega) (by omega)
  rw [z3S (by omega), if_pos (by omega), z3d l (by omega), hs, z6e _ _ (by omega) (by omega)]
  congr 2
  unfold Q at *
  rw [Nat.mul_comm, ← Nat.two_pow_add_eq_or_of_lt hx]
theorem z7q : ∀ (l : Nat), l ≤ 6 → ∀ (x : Nat), x < Q l → Ev (fun k => z12.f k (l : Int) (x : Int)) ((val (gen l * of l x) : Nat) : Int) := by
  intro l
  induction l with
  | zero =>
    intro _ x hx
    refine Ev.step (fun k => by rw [z12.f]) (Ev.pos (by rfl) (Ev.ret' ?_))
    rw [z66, one_mul, z2r 0 x hx]
  | succ l ih =>
    intro hl x hx
    have hx64 : x < 2 ^ 64 := Nat.lt_of_lt_of_le hx (z3W hl)
    have hd : x / Q l < Q l := Nat.div_lt_of_lt_mul (by rw [← z34]; exact hx)
    have hm : x % Q l < Q l := Nat.mod_lt _ (z2L l)
    have hQ := z4P (n := l) (by omega)
    refine Ev.step (fun k => by rw [z12.f]) (Ev.neg (by omega) (Ev.bnd0 (z44 (by omega) x hx64) ?_))
    simp only [z3S (show l + 1 ≤ 1000 by omega)]
    refine Ev.bnd (ih (by omega) _ hd) ?_
    have hv := z1z (gen l * of l (x / Q l))
    simp only [z2e _ _ (Nat.lt_trans hm hQ) (Nat.lt_trans hv hQ)]
    refine Ev.bnd0 (z7i (by omega) _ _ (z2D hm hv) hd) (Ev.ret' ?_)
    congr 1
    rw [z1Z (gen (l + 1) * of (l + 1) x)]
    congr 1
    · congr 1
      have e : (gen (l + 1) * of (l + 1) x).1 = of l (x % Q l) + gen l * of l (x / Q l) := by
        rw [z2t, z36, z37, one_mul, zero_mul, one_mul, add_zero]; rfl
      rw [e, z1Y, z2r _ _ hm]
    · have e : (gen (l + 1) * of (l + 1) x).2 = of l (x / Q l) := by
        rw [z2u, z36, z37, one_mul, zero_mul, zero_add]; rfl
      rw [e, z2r _ _ hd]
theorem karatsuba {n : Nat} (a1 a0 b1 b0 z : T n) : (a1 + a0) * (b1 + b0) + a1 * b1 + a0 * b0 + z = (a1 * b0 + a0 * b1) + z := by
  have : (a1 + a0) * (b1 + b0) + a1 * b1 + a0 * b0 = a1 * b0 + a0 * b1 := by
    simp only [mul_add, add_mul]
    have : ∀ p q r s : T n, p + q + (r + s) + p + s = q + r := fun p q r s => by
      rw [add_comm p q, add_assoc, add_assoc, add_assoc]
      rw [show p + (r + s + (p + s)) = (p + p) + (r + (s + s)) by simp only [add_assoc, z2f, add_comm]]
      rw [z2x, z2x, zero_add, add_zero]
    rw [show a1 * b1 + a0 * b1 + (a1 * b0 + a0 * b0) = a1 * b1 + a0 * b1 + (a1 * b0 + a0 * b0) from rfl, this, add_comm]
  rw [this]
theorem z6a : ∀ (l : Nat), l ≤ 6 → ∀ (x y : Nat), x < Q l → y < Q l → Ev (fun k => zH.f k (l : Int) (x : Int) (y : Int)) ((val (of l x * of l y) : Nat) : Int) := by
  intro l
  have hz : ∀ (l : Nat), l ≤ 6 → ∀ (x y : Nat), x < Q l → y < Q l → (l = 0 ∨ x = 0 ∨ y = 0) → Ev (fun k => zH.j0 k (l : Int) (x : Int) (y : Int) true) ((val (of l x * of l y) : Nat) : Int) := by
    intro l hl x y hx hy h
    have hQ := z3W hl
    refine Ev.step (fun k => by rw [zH.j0]) (Ev.pos rfl (Ev.ret' ?_))
    rw [z2K x y (by omega) (by omega)]
    have hxy : x &&& y < 2 ^ 64 := Nat.and_lt_two_pow _ (by omega)
    rw [show (1 : Int) = ((1 : Nat) : Int) from rfl, z2K _ 1 hxy (by decide)]
    congr 1
    rcases h with rfl | rfl | rfl
    · have h1 : x < 2 := hx
      have h2 : y < 2 := hy
      rcases (by omega : x = 0 ∨ x = 1) with rfl | rfl <;> rcases (by omega : y = 0 ∨ y = 1) with rfl | rfl <;> rfl
    · rw [z3a, zero_mul, z1R]; simp
    · rw [z3a, z2G, z1R]; simp
  induction l with
  | zero =>
    intro hl x y hx hy
    exact Ev.step (fun k => by rw [zH.f]) (Ev.pos (by rfl) (hz 0 hl x y hx hy (Or.inl rfl)))
  | succ l ih =>
    intro hl x y hx hy
    refine Ev.step (fun k => by rw [zH.f]) (Ev.neg (by omega) ?_)
    by_cases hx0 : x = 0
    · exact Ev.pos (by omega) (hz (l + 1) hl x y hx hy (Or.inr (Or.inl hx0)))
    refine Ev.neg (by omega) ?_
    by_cases hy0 : y = 0
    · rw [show ((y : Int) == 0) = true by simp [hy0]]
      exact hz (l + 1) hl x y hx hy (Or.inr (Or.inr hy0))
    rw [show ((y : Int) == 0) = false by simp [hy0]]
    have hQ := z4P (n := l) (by omega)
    have hx64 : x < 2 ^ 64 := Nat.lt_of_lt_of_le hx (z3W hl)
    have hy64 : y < 2 ^ 64 := Nat.lt_of_lt_of_le hy (z3W hl)
    have hxd : x / Q l < Q l := Nat.div_lt_of_lt_mul (by rw [← z34]; exact hx)
    have hxm : x % Q l < Q l := Nat.mod_lt _ (z2L l)
    have hyd : y / Q l < Q l := Nat.div_lt_of_lt_mul (by rw [← z34]; exact hy)
    have hym : y % Q l < Q l := Nat.mod_lt _ (z2L l)
    have hl5 : l ≤ 5 := by omega
    refine Ev.step (fun k => by rw [zH.j0]) (Ev.neg (by decide) (Ev.bnd0 (z44 hl5 x hx64) (Ev.bnd0 (z44 hl5 y hy64) ?_)))
    simp only [z3S (show l + 1 ≤ 1000 by omega)]
    refine Ev.bnd (ih (by omega) _ _ hxd hyd) (Ev.bnd (ih (by omega) _ _ hxm hym) ?_)
    simp only [z2e _ _ (Nat.lt_trans hxd hQ) (Nat.lt_trans hxm hQ), z2e _ _ (Nat.lt_trans hyd hQ) (Nat.lt_trans hym hQ)]
    refine Ev.bnd (ih (by omega) _ _ (z2D hxd hxm) (z2D hyd hym)) ?_
    have v1 := z1z (of l (x / Q l) * of l (y / Q l))
    have v2 := z1z (of l (x % Q l) * of l (y % Q l))
    have v3 := z1z (of l (x / Q l ^^^ x % Q l) * of l (y / Q l ^^^ y % Q l))
    refine Ev.bnd (z7q l (by omega) _ v1) ?_
    have v4 := z1z (gen l * of l (val (of l (x / Q l) * of l (y / Q l))))
    simp only [z2e _ _ (Nat.lt_trans v3 hQ) (Nat.lt_trans v1 hQ), z2e _ _ (Nat.lt_trans (z2D v3 v1) hQ) (Nat.lt_trans v2 hQ), z2e _ _ (Nat.lt_trans (z2D (z2D v3 v1) v2) hQ) (Nat.lt_trans v4 hQ), z2e _ _ (Nat.lt_trans v2 hQ) (Nat.lt_trans v1 hQ)]
    refine Ev.bnd0 (z7i (by omega) _ _ (z2D (z2D (z2D v3 v1) v2) v4) (z2D v2 v1)) (Ev.ret' ?_)
    congr 1
    rw [z1Z (of (l + 1) x * of (l + 1) y)]
    congr 1
    · congr 1
      rw [z2t, z2v, z2v, z2F, z2Q, z2F, z2Q, ← karatsuba, z1Y, z1Y, z1Y, z7s hxd hxm, z7s hyd hym, z2a]
    · rw [z2u, z2v, z2v, z2F, z2Q, z2F, z2Q, z1Y]
end Go.Proofs.Ytkhmpaooinpfoaa.Sp
namespace Go.Proofs.Ytkhmpaooinpfoaa.P
open Go.RowKit Go.Proofs.YtkhmpaooinpfoaaW.PrintWords Go.Proofs.YtkhmpaooinpfoaaW.PrintLast Go.Proofs.YtkhmpaooinpfoaaW.PrintMore
attribute [local go_sem] z17 z19 z1j z1k zZ z10 z18 z1a   -- for this text's walks alone
set_option linter.unusedVariables false
set_option linter.unusedSimpArgs false
def z2d.f  : Option (Int × Int):=some (0,1)
set_option maxHeartbeats 8000000 in
set_option maxRecDepth 100000 in
theorem z2d.calls  (r1 : Int) (r2 : Int) (w : World) (h : z2d.f  = some (r1,r2)) :
 Calls Try.prog 99 #[] w fun e w'=>e = .returned (.agg #[.int .u64 r1,.int .u64 r2]) ∧ Below w.heap.size w w':=by
 have hu30:=Try.underlying30
 have HB:=z2.mk (Below.refl w.heap.size w)
 have H : (some (0,1)) = some (r1,r2):=h
 clear h
 simp only [Option.some.injEq,Prod.mk.injEq] at H
 obtain ⟨rfl,rfl⟩:=H
 go_enter Try.func99,Try.ntmps99
 go_wp2_with (first|((with_reducible refine zO (N:=0) rfl ?_);refine zM ?hg (N:=0) ?hd (cs:=#[.int .u64 0,.int .u64 0]) (t:=30) ?hr ?_;(case hd=>rfl);(case hg=>rfl);(case hr=>first|(go_simp;done)|(go_simp;rfl));intro gb101 hg w1 hbox hb;have n0_:=z2.mk (za (by repeat (first|(with_reducible first|exact HB.out|apply z4|apply z1|apply z3)|exact HB.out)) hb);have n1_:=z2.mk (hbox);have n2_:=z2.mk ((by rw [hg];exact (zc (by repeat (first|(with_reducible first|exact HB.out|apply z4|apply z1|apply z3)|exact HB.out))) : w.heap.size ≤ gb101));have n3_:=z2.mk ((by rw [hg];exact (zc (by repeat (first|(with_reducible first|exact HB.out|apply z4|apply z1|apply z3)|exact HB.out))) : w.heap.size ≤ gb101));clear HB;have HB:=n0_;have BK101:=n1_;have GW101:=n2_;have GE101:=n3_;clear n0_ n1_ n2_ n3_;clear hb hbox hg;have hcz2_0 : w1.cell? ⟨gb101,0,none⟩ = some (.int .u64 0):=(z9 BK101.out 0).trans rfl;have hcz2_1 : w1.cell? ⟨gb101,1,none⟩ = some (.int .u64 0):=(z9 BK101.out 1).trans rfl;have hfz2_0:=zd BK101.out 0;have hfz2_1:=zd BK101.out 1))
 refine bodyPost_ret (results_cell_row rfl _ _ gb101 30 #[.int .u64 0,.int .u64 1] (0,0) _ rfl (by (with_reducible repeat (first|refine z6 ?_ _|refine z8 ?_|refine z5 ?_ _));refine z15 (cs:=#[.int .u64 0,.int .u64 0]) ?_ 1 _ rfl;(with_reducible repeat (first|refine z6 ?_ _|refine z8 ?_|refine z5 ?_ _));refine z15 (cs:=#[.int .u64 0,.int .u64 0]) ?_ 0 _ rfl;(with_reducible repeat (first|refine z6 ?_ _|refine z8 ?_|refine z5 ?_ _));exact BK101.out) Try.underlying30 rfl (by kernel_rfl)) rfl ?_
 exact ⟨by first|rfl|(simp [zh,zi] <;> rfl)|(simp [*,zh,zi] <;> rfl),by repeat (first|(with_reducible first|exact HB.out|apply z4|apply z1|apply z3|refine z7 ?_ GE101.out)|exact HB.out)⟩
end Go.Proofs.Ytkhmpaooinpfoaa.P
/- Elements of the greatest level, as the program and the document hold them: two words. Own text. -/
namespace Go.Proofs.Ytkhmpaooinpfoaa.Sp
open Go.RowKit Go.Proofs.YtkhmpaooinpfoaaW.PrintWords Go.Proofs.YtkhmpaooinpfoaaW.PrintMore Go.Proofs.Ytkhmpaooinpfoaa.P Go.Proofs.Ytkhmpaooinpfoaa.Ar Go.Proofs.Ytkhmpaooinpfoaa.Tw
set_option linter.unusedVariables false
set_option linter.unusedSimpArgs false
abbrev E := T 7
/-- The higher and the lower word. -/
def hi (x : E) : Int := ((val x.1 : Nat) : Int)
def lo (x : E) : Int := ((val x.2 : Nat) : Int)
def el (h l : Int) : E := mk (of 6 h.toNat) (of 6 l.toNat)
theorem hi_el {h l : Int} (h0 : 0 ≤ h) (h1 : h < 18446744073709551616) : hi (el h l) = h := by
  unfold hi el; rw [z2F, z2r 6 _ (by rw [z6q]; omega)]; omega
theorem lo_el {h l : Int} (h0 : 0 ≤ l) (h1 : l < 18446744073709551616) : lo (el h l) = l := by
  unfold lo el; rw [z2Q, z2r 6 _ (by rw [z6q]; omega)]; omega
theorem z67 {x y : E} (h : hi x = hi y) (l : lo x = lo y) : x = y := by
  unfold hi lo at *; exact ext (z2Y (by omega)) (z2Y (by omega))
theorem z38 : hi 0 = 0 := by unfold hi; rw [z3T, z1R]; rfl
theorem z39 : lo 0 = 0 := by unfold lo; rw [z3U, z1R]; rfl
theorem hi_one : hi 1 = 0 := by unfold hi; rw [z53, z1R]; rfl
theorem lo_one : lo 1 = 1 := by unfold lo; rw [z54, z2Z]; rfl
theorem hi_bd (x : E) : 0 ≤ hi x ∧ hi x < 18446744073709551616 := by
  unfold hi; have := z1z x.1; rw [z6q] at this; omega
theorem z7o (x : E) : 0 ≤ lo x ∧ lo x < 18446744073709551616 := by
  unfold lo; have := z1z x.2; rw [z6q] at this; omega
theorem z4L (x : E) : val x = (hi x).toNat * 18446744073709551616 + (lo x).toNat := by
  unfold hi lo; rw [z1Z, z6q]; simp
theorem eq_zero_iff (x : E) : x = 0 ↔ hi x = 0 ∧ lo x = 0 := ⟨fun h => by rw [h]; exact ⟨z38, z39⟩, fun h => z67 (h.1.trans z38.symm) (h.2.trans z39.symm)⟩
theorem xor_hi (x y : E) : Go.bits .xor .u64 (hi x) (hi y) = hi (x + y) := by
  unfold hi; rw [z2e _ _ (z1z x.1) (z1z y.1), z3X, z1Y]
theorem xor_lo (x y : E) : Go.bits .xor .u64 (lo x) (lo y) = lo (x + y) := by
  unfold lo; rw [z2e _ _ (z1z x.2) (z1z y.2), z4S, z1Y]
/-- Of a level. -/
def InL (l : Nat) (x : E) : Prop := val x < Q l
instance (l : Nat) (x : E) : Decidable (InL l x) := by unfold InL; infer_instance
def OfS (L : Int) (x : E) : Prop := 0 ≤ L ∧ L ≤ 7 ∧ InL L.toNat x
instance (L : Int) (x : E) : Decidable (OfS L x) := by unfold OfS; infer_instance
theorem z5u (x : E) : InL 7 x := z1z x
theorem z50 (l : Nat) : InL l 0 := by unfold InL; rw [z1R]; exact z2L l
theorem z7g (l : Nat) : InL l 1 := by unfold InL; rw [z2Z]; exact Nat.lt_of_lt_of_le (by decide : 1 < Q 0) (z3q (Nat.zero_le _))
theorem inL_mono {l m : Nat} (h : l ≤ m) {x : E} (hx : InL l x) : InL m x := Nat.lt_of_lt_of_le hx (z3q h)
theorem z4Y {l : Nat} {x y : E} (hx : InL l x) (hy : InL l y) : InL l (x + y) := by
  unfold InL at *; rw [z1Y]; exact z2D hx hy
theorem z45 {l : Nat} (hl : l ≤ 7) {x y : E} (hx : InL l x) (hy : InL l y) : InL l (x * y) := by
  unfold InL at *; have := z6G hl hx hy; rwa [z2a, z2a] at this
theorem z7h {x : E} : InL 6 x ↔ hi x = 0 := by
  unfold InL; have h := z4L x; have h1 := hi_bd x; have h2 := z7o x
  rw [z6q, h]; constructor <;> intro g <;> omega
theorem z4Z {l : Nat} (hl : l ≤ 6) {x : E} : InL l x ↔ hi x = 0 ∧ (lo x).toNat < Q l := by
  constructor
  · intro h
    have h6 := z7h.1 (inL_mono hl h)
    refine ⟨h6, ?_⟩
    unfold InL at h; rw [z4L, h6] at h; simpa using h
  · rintro ⟨h1, h2⟩
    unfold InL; rw [z4L, h1]; simpa using h2
theorem z52 (L : Int) (x : E) : Ev (fun k => zP.f k L (hi x) (lo x)) (decide (OfS L x)) := by
  unfold zP.f
  by_cases h0 : L < 0
  · refine Ev.pos h0 (Ev.step (fun k => by rw [zP.j0]) (Ev.pos rfl (Ev.ret' ?_)))
    symm; rw [decide_eq_false_iff_not]; rintro ⟨h, _⟩; omega
  refine Ev.neg h0 ?_
  by_cases h7 : L > 7
  · rw [decide_eq_true h7]
    refine Ev.step (fun k => by rw [zP.j0]) (Ev.pos rfl (Ev.ret' ?_))
    symm; rw [decide_eq_false_iff_not]; rintro ⟨_, h, _⟩; omega
  rw [decide_eq_false h7]
  refine Ev.step (fun k => by rw [zP.j0]) (Ev.neg (by decide) ?_)
  obtain ⟨l, rfl⟩ := Int.eq_ofNat_of_zero_le (show 0 ≤ L by omega)
  have hS : OfS (l : Int) x ↔ InL l x := by
    unfold OfS; rw [Int.toNat_natCast]; exact ⟨fun h => h.2.2, fun h => ⟨by omega, by omega, h⟩⟩
  by_cases c7 : (l : Int) = 7
  · refine Ev.pos c7 (Ev.ret' ?_)
    have : l = 7 := by omega
    subst this
    symm; rw [decide_eq_true_eq, hS]; exact z5u x
  refine Ev.neg c7 ?_
  by_cases c6 : (l : Int) = 6
  · refine Ev.pos c6 (Ev.ret' ?_)
    have : l = 6 := by omega
    subst this
    rw [Bool.eq_iff_iff, beq_iff_eq, decide_eq_true_eq, hS]; exact z7h.symm
  refine Ev.neg c6 ?_
  have hl5 : l ≤ 5 := by omega
  have hl := z4Z (l := l) (by omega) (x := x)
  by_cases c0 : hi x = 0
  · refine Ev.pos c0 (Ev.pos (Int.natCast_nonneg _) (Ev.ret' ?_))
    have h32 := z2q hl5
    have hlo : lo x = (((lo x).toNat : Nat) : Int) := by have := z7o x; omega
    rw [z3d l (by omega), hlo, z5c _ (2 ^ l) (by omega)]
    rw [Bool.eq_iff_iff, beq_iff_eq, decide_eq_true_eq, hS, hl]
    have hq : (lo x).toNat / 2 ^ 2 ^ l = 0 ↔ (lo x).toNat < Q l := by
      rw [Nat.div_eq_zero_iff]; unfold Q
      have := Nat.two_pow_pos (2 ^ l)
      omega
    constructor
    · intro h; exact ⟨c0, hq.1 (by exact_mod_cast h)⟩
    · rintro ⟨_, h⟩; exact_mod_cast hq.2 h
  · refine Ev.neg c0 (Ev.ret' ?_)
    symm; rw [decide_eq_false_iff_not, hS, hl]; exact fun h => c0 h.1
theorem Add_eq (x y : E) : z1D.f (hi x) (lo x) (hi y) (lo y) = some (hi (x + y), lo (x + y)) := by
  unfold z1D.f; rw [xor_hi, xor_lo]
theorem z5G (x y : E) : z1B.f (hi x) (lo x) (hi y) (lo y) = some (hi (x + y), lo (x + y)) := by
  unfold z1B.f; rw [xor_hi, xor_lo]
theorem One_eq : z2d.f = some (hi 1, lo 1) := by unfold z2d.f; rw [hi_one, lo_one]
theorem Mul_out {L : Int} {x y : E} (h : ¬ (OfS L x ∧ OfS L y)) : Ev (fun k => zX.f k L (hi x) (lo x) (hi y) (lo y)) (0, 0) := by
  unfold zX.f
  refine Ev.bnd (z52 L x) ?_
  by_cases c : OfS L x
  · refine Ev.pos (decide_eq_true c) (Ev.bnd (z52 L y) ?_)
    rw [decide_eq_false (fun g => h ⟨c, g⟩)]
    exact Ev.step (fun k => by rw [zX.j0]) (Ev.pos (by rfl) (Ev.ret _))
  · exact Ev.neg (by simpa using c) (Ev.step (fun k => by rw [zX.j0]) (Ev.pos rfl (Ev.ret _)))
theorem z6N {l : Nat} (hl : l ≤ 7) {x y : E} (hx : InL l x) (hy : InL l y) : Ev (fun k => zX.f k (l : Int) (hi x) (lo x) (hi y) (lo y)) (hi (x * y), lo (x * y)) := by
  unfold zX.f
  have hS : ∀ z, InL l z → OfS (l : Int) z := fun z hz => ⟨by omega, by omega, by rw [Int.toNat_natCast]; exact hz⟩
  refine Ev.bnd (z52 (l : Int) x) (Ev.pos (decide_eq_true (hS x hx)) (Ev.bnd (z52 (l : Int) y) ?_))
  rw [decide_eq_true (hS y hy)]
  refine Ev.step (fun k => by rw [zX.j0]) (Ev.neg (by decide) ?_)
  by_cases c : l ≤ 6
  · refine Ev.pos (by omega) ?_
    have ex := (z4Z c).1 hx
    have ey := (z4Z c).1 hy
    have e1 : lo x = (((lo x).toNat : Nat) : Int) := by have := z7o x; omega
    have e2 : lo y = (((lo y).toNat : Nat) : Int) := by have := z7o y; omega
    have ev := z6a l c (lo x).toNat (lo y).toNat ex.2 ey.2
    rw [← e1, ← e2] at ev
    refine Ev.bnd ev (Ev.ret' ?_)
    have hz := (z4Z c).1 (z45 hl hx hy)
    have e3 : lo (x * y) = (((lo (x * y)).toNat : Nat) : Int) := by have := z7o (x * y); omega
    rw [hz.1, e3]
    congr 2
    have vx : val x = (lo x).toNat := by rw [z4L, ex.1]; simp
    have vy : val y = (lo y).toNat := by rw [z4L, ey.1]; simp
    have vz : val (x * y) = (lo (x * y)).toNat := by rw [z4L, hz.1]; simp
    rw [← vz, ← vx, ← vy, ← z3A hl hx hy, z2a, z2a]
  · have : l = 7 := by omega
    subst this
    refine Ev.neg (by decide) ?_
    have v1 := z1z x.1
    have v2 := z1z x.2
    have v3 := z1z y.1
    have v4 := z1z y.2
    have m1 := z6a 6 (by decide) _ _ v1 v3
    have m2 := z6a 6 (by decide) _ _ v2 v4
    have m3 := z6a 6 (by decide) _ _ (z2D v1 v2) (z2D v3 v4)
    rw [z2a, z2a] at m1 m2
    rw [← z1Y, ← z1Y, z2a, z2a] at m3
    have m4 := z7q 6 (by decide) _ (z1z (x.1 * y.1))
    rw [z2a] at m4
    refine Ev.bnd m1 (Ev.bnd m2 ?_)
    have e1 : Go.bits .xor .u64 (hi x) (lo x) = ((val (x.1 + x.2) : Nat) : Int) := by unfold hi lo; rw [z2e _ _ v1 v2, z1Y]
    have e2 : Go.bits .xor .u64 (hi y) (lo y) = ((val (y.1 + y.2) : Nat) : Int) := by unfold hi lo; rw [z2e _ _ v3 v4, z1Y]
    simp only [e1, e2]
    refine Ev.bnd m3 (Ev.bnd m4 (Ev.ret' ?_))
    rw [z2e _ _ (z1z _) (z1z _), ← z1Y, z2e _ _ (z1z _) (z1z _), ← z1Y, z2e _ _ (z1z _) (z1z _), ← z1Y, z2e _ _ (z1z _) (z1z _), ← z1Y, karatsuba]
    rfl
/-- The program's element, the document's. -/
def toS (x : E) : S30 := ⟨hi x, lo x⟩
def toR (x : E) : S40 := ⟨hi x, lo x⟩
def WfS (e : S30) : Prop := (0 ≤ e.f0 ∧ e.f0 < 18446744073709551616) ∧ (0 ≤ e.f1 ∧ e.f1 < 18446744073709551616)
theorem z4H (x : E) : (toS x).f0 = hi x := rfl
theorem z4I (x : E) : (toS x).f1 = lo x := rfl
theorem z5J (x : E) : (toR x).f0 = hi x := rfl
theorem z5K (x : E) : (toR x).f1 = lo x := rfl
theorem z6l : toS 0 = z30 := by unfold toS; rw [z38, z39]; rfl
theorem toR_zero : toR 0 = z40 := by unfold toR; rw [z38, z39]; rfl
theorem toS_el (e : S30) (h : WfS e) : toS (el e.f0 e.f1) = e := by unfold toS; rw [hi_el h.1.1 h.1.2, lo_el h.2.1 h.2.2]
theorem toS_inj {x y : E} (h : toS x = toS y) : x = y := by
  unfold toS at h; injection h with h1 h2; exact z67 h1 h2
theorem wf_of {e : S30} (h : (Lit.int .u64 e.f0).wf = true ∧ (Lit.int .u64 e.f1).wf = true) : WfS e := ⟨wf_u64 h.1, wf_u64 h.2⟩
/-- A list that came in is a list of elements. -/
theorem z7n (l : List S30) (h : ∀ e ∈ l, ((Lit.int .u64 e.f0).wf = true) ∧ ((Lit.int .u64 e.f1).wf = true)) : ∃ X : List E, l = X.map toS := by
  refine ⟨l.map fun e => el e.f0 e.f1, ?_⟩
  rw [List.map_map]
  conv => lhs; rw [← List.map_id l]
  apply List.map_congr_left
  intro e he
  exact (toS_el e (wf_of (h e he))).symm
theorem elem_of (e : S30) (h : ((Lit.int .u64 e.f0).wf = true) ∧ ((Lit.int .u64 e.f1).wf = true)) : ∃ x : E, e = toS x := ⟨_, (toS_el e (wf_of h)).symm⟩
theorem rdS (X : List E) (i : Nat) : zq (X.map toS) (i : Int) = toS (X.getD i 0) := by
  unfold zq; rw [Int.toNat_natCast, ← z6l, List.getD_eq_getElem?_getD, List.getD_eq_getElem?_getD, List.getElem?_map]
  cases X[i]? <;> rfl
theorem rdR (X : List E) (i : Nat) : z1n (X.map toR) (i : Int) = toR (X.getD i 0) := by
  unfold z1n; rw [Int.toNat_natCast, ← toR_zero, List.getD_eq_getElem?_getD, List.getD_eq_getElem?_getD, List.getElem?_map]
  cases X[i]? <;> rfl
end Go.Proofs.Ytkhmpaooinpfoaa.Sp
/- The document's product by shifts and masks is the tower's. Own text; nothing of the program in it. -/
namespace Go.Proofs.Ytkhmpaooinpfoaa.Tw
set_option linter.unusedVariables false
set_option linter.unusedSimpArgs false
theorem z3h {n a b : Nat} (hb : b < Q n) : (a * Q n + b) / Q n = a := by rw [Nat.mul_comm, Nat.mul_add_div (z2L n), Nat.div_eq_of_lt hb, Nat.add_zero]
theorem z3i {n a b : Nat} (hb : b < Q n) : (a * Q n + b) % Q n = b := by rw [Nat.mul_comm, Nat.mul_add_mod, Nat.mod_eq_of_lt hb]
theorem z63 {n a b c d : Nat} (hb : b < Q n) (hd : d < Q n) : (a * Q n + b) &&& (c * Q n + d) = (a &&& c) * Q n + (b &&& d) := by
  have h1 : ((a * Q n + b) &&& (c * Q n + d)) / Q n = a &&& c := by
    have e1 := z3h (n := n) (a := a) hb
    have e2 := z3h (n := n) (a := c) hd
    unfold Q at *
    rw [Nat.and_div_two_pow, e1, e2]
  have h2 : ((a * Q n + b) &&& (c * Q n + d)) % Q n = b &&& d := by
    have e1 := z3i (n := n) (a := a) hb
    have e2 := z3i (n := n) (a := c) hd
    unfold Q at *
    rw [Nat.and_mod_two_pow, e1, e2]
  have := Nat.div_add_mod ((a * Q n + b) &&& (c * Q n + d)) (Q n)
  rw [h1, h2, Nat.mul_comm] at this
  exact this.symm
theorem z7t {n a b c d : Nat} (hb : b < Q n) (hd : d < Q n) : (a * Q n + b) ||| (c * Q n + d) = (a ||| c) * Q n + (b ||| d) := by
  have h1 : ((a * Q n + b) ||| (c * Q n + d)) / Q n = a ||| c := by
    have e1 := z3h (n := n) (a := a) hb
    have e2 := z3h (n := n) (a := c) hd
    unfold Q at *
    rw [Nat.or_div_two_pow, e1, e2]
  have h2 : ((a * Q n + b) ||| (c * Q n + d)) % Q n = b ||| d := by
    have e1 := z3i (n := n) (a := a) hb
    have e2 := z3i (n := n) (a := c) hd
    unfold Q at *
    rw [Nat.or_mod_two_pow, e1, e2]
  have := Nat.div_add_mod ((a * Q n + b) ||| (c * Q n + d)) (Q n)
  rw [h1, h2, Nat.mul_comm] at this
  exact this.symm
theorem or_lt {n x y : Nat} (hx : x < Q n) (hy : y < Q n) : x ||| y < Q n := Nat.or_lt_two_pow hx hy
/-- The lower halves of all blocks of 2^(j+1) bits in a word of 2^n. -/
def M (j : Nat) : Nat → Nat
  | 0 => 0
  | n + 1 => if n = j then Q j - 1 else if n < j then 0 else M j n * Q n + M j n
theorem M_base (j : Nat) : M j (j + 1) = Q j - 1 := by simp [M]
theorem z6M {j n : Nat} (h : j + 1 ≤ n) : M j (n + 1) = M j n * Q n + M j n := by
  rw [M, if_neg (by omega), if_neg (by omega)]
/-- What is left of a word without its highest block of 2^j bits. -/
def H (j n : Nat) : Nat := 2 ^ (2 ^ n - 2 ^ j)
theorem z6n {j n : Nat} (h : j ≤ n) : H j n * Q j = Q n := by
  have := Nat.pow_le_pow_right (show 2 > 0 by decide) h
  unfold H Q; rw [← Nat.pow_add, Nat.sub_add_cancel this]
theorem H_pos (j n : Nat) : 0 < H j n := Nat.two_pow_pos _
theorem z6L {j n : Nat} (h : j ≤ n) : H j (n + 1) = H j n * Q n := by
  have := Nat.pow_le_pow_right (show 2 > 0 by decide) h
  unfold H Q; rw [← Nat.pow_add]; congr 1; rw [Nat.pow_succ]; omega
theorem H_self (j : Nat) : H j j = 1 := by unfold H; rw [Nat.sub_self, Nat.pow_zero]
theorem H_base (j : Nat) : H j (j + 1) = Q j := by rw [z6L (Nat.le_refl _), H_self, Nat.one_mul]
theorem H_le {j n : Nat} (h : j ≤ n) : H j n ≤ Q n := by rw [← z6n h]; exact Nat.le_mul_of_pos_right _ (z2L j)
theorem lt_H_mul {j n x : Nat} (h : j ≤ n) (hx : x < H j n) : x * Q j < Q n := by
  rw [← z6n h]; exact Nat.mul_lt_mul_of_pos_right hx (z2L j)
theorem M_lt {j : Nat} : ∀ d, M j (j + 1 + d) < H j (j + 1 + d)
  | 0 => by rw [Nat.add_zero, M_base, H_base]; have := z2L j; omega
  | d + 1 => by
    have ih := M_lt (j := j) d
    rw [← Nat.add_assoc, z6M (by omega), z6L (by omega)]
    have h2 : M j (j + 1 + d) < Q (j + 1 + d) := Nat.lt_of_lt_of_le ih (H_le (by omega))
    have h3 : M j (j + 1 + d) * Q (j + 1 + d) + Q (j + 1 + d) ≤ H j (j + 1 + d) * Q (j + 1 + d) := by
      have := Nat.mul_le_mul_right (Q (j + 1 + d)) ih
      rw [Nat.succ_mul] at this; exact this
    omega
theorem M_lt' {j n : Nat} (h : j + 1 ≤ n) : M j n < H j n := by
  obtain ⟨d, rfl⟩ := Nat.le.dest h; exact M_lt d
theorem M_lt_Q {j n : Nat} (h : j + 1 ≤ n) : M j n < Q n := Nat.lt_of_lt_of_le (M_lt' h) (H_le (by omega))
theorem z2O {x m b : Nat} (h : m < b) : x &&& m < b := Nat.lt_of_le_of_lt Nat.and_le_right h
/-- A word times the generator of the level j, block by block. -/
def tw (n : Nat) : Nat → Nat → Nat
  | 0, v => v
  | j + 1, v => (((v &&& M j n) ^^^ tw n j ((v / Q j) &&& M j n)) * Q j) % Q n ||| ((v / Q j) &&& M j n)
theorem z5s (j : Nat) : val (gen j) < Q j := z1z _
theorem z6i {j g : Nat} (hg : g < Q j) : ∀ d u, u < H j (j + d) → val (of (j + d) g * of (j + d) u) < H j (j + d)
  | 0, u, hu => by
    rw [Nat.add_zero, H_self] at hu ⊢
    have : u = 0 := by omega
    rw [this, z3a, z2G, z1R]; decide
  | d + 1, u, hu => by
    rw [← Nat.add_assoc] at hu ⊢
    rw [z6L (Nat.le_add_right _ _)] at hu ⊢
    have hg' : g < Q (j + d) := Nat.lt_of_lt_of_le hg (z3q (Nat.le_add_right _ _))
    have e1 : of (j + d + 1) g = up (of (j + d) g) := z5w hg'
    rw [e1, z3E, z1Z, z2F, z2Q, z2v, z2F, z2Q]
    have h1 := z6i hg d (u / Q (j + d)) (Nat.div_lt_of_lt_mul (by rw [Nat.mul_comm]; exact hu))
    have h2 := z1z (of (j + d) g * of (j + d) (u % Q (j + d)))
    have h3 : val (of (j + d) g * of (j + d) (u / Q (j + d))) * Q (j + d) + Q (j + d) ≤ H j (j + d) * Q (j + d) := by
      have := Nat.mul_le_mul_right (Q (j + d)) h1
      rw [Nat.succ_mul] at this; exact this
    omega
theorem tw_split {j : Nat} (C : ∀ n, j ≤ n → ∀ v, v < Q n → tw n j v = val (of n (val (gen j)) * of n v)) (D : ∀ n, j ≤ n → ∀ h l, h < Q n → l < Q n → tw (n + 1) j (h * Q n + l) = tw n j h * Q n + tw n j l) :
    ∀ n, j + 1 ≤ n → ∀ h l, h < Q n → l < Q n → tw (n + 1) (j + 1) (h * Q n + l) = tw n (j + 1) h * Q n + tw n (j + 1) l ∧ tw n (j + 1) l < Q n := by
  intro n hn h l hh hl
  have hM := M_lt' hn
  have hMQ := M_lt_Q hn
  have hjn : j ≤ n := by omega
  have hQj := z2L j
  -- the higher parts
  have hdiv : (h * Q n + l) / Q j = (h / Q j) * Q n + ((h % Q j) * H j n + l / Q j) := by
    have e1 : h * Q n = (h * H j n) * Q j := by rw [← z6n hjn, Nat.mul_assoc]
    rw [e1, Nat.mul_comm (h * H j n), Nat.mul_add_div hQj]
    have e2 := Nat.div_add_mod h (Q j)
    have e3 : h * H j n = (h / Q j) * Q n + (h % Q j) * H j n := by
      conv => lhs; rw [← e2]
      rw [Nat.add_mul, ← z6n hjn]
      congr 1
      rw [Nat.mul_comm (Q j), Nat.mul_assoc, Nat.mul_comm (Q j)]
    rw [e3, Nat.add_assoc]
  have hlq : l / Q j < H j n := Nat.div_lt_of_lt_mul (by rw [Nat.mul_comm, z6n hjn]; exact hl)
  have hl' : (h % Q j) * H j n + l / Q j < Q n := by
    have h1 : (h % Q j) * H j n + H j n ≤ Q j * H j n := by
      have := Nat.mul_le_mul_right (H j n) (Nat.mod_lt h hQj)
      rw [Nat.succ_mul] at this; exact this
    rw [Nat.mul_comm (Q j), z6n hjn] at h1
    omega
  have hand : ((h % Q j) * H j n + l / Q j) &&& M j n = (l / Q j) &&& M j n := by
    have e1 : ∀ x, x &&& M j n = (x % H j n) &&& M j n := fun x => by
      have h3 : x &&& M j n < H j n := z2O hM
      have h4 : (x &&& M j n) % H j n = x &&& M j n := Nat.mod_eq_of_lt h3
      rw [← h4]; unfold H; rw [Nat.and_mod_two_pow]
      rw [show M j n % 2 ^ (2 ^ n - 2 ^ j) = M j n from Nat.mod_eq_of_lt hM]
    rw [e1, Nat.mul_comm, Nat.mul_add_mod, ← e1]
  have hhi : ((h * Q n + l) / Q j) &&& M j (n + 1) = ((h / Q j) &&& M j n) * Q n + ((l / Q j) &&& M j n) := by
    rw [z6M hn, hdiv, z63 hl' hMQ, hand]
  have hlo : (h * Q n + l) &&& M j (n + 1) = (h &&& M j n) * Q n + (l &&& M j n) := by rw [z6M hn, z63 hl hMQ]
  have b1 : (h / Q j) &&& M j n < Q n := z2O hMQ
  have b2 : (l / Q j) &&& M j n < Q n := z2O hMQ
  have b3 : l &&& M j n < H j n := z2O hM
  have b4 : (l / Q j) &&& M j n < H j n := z2O hM
  have b5 : tw n j ((l / Q j) &&& M j n) < H j n := by
    rw [C n hjn _ b2]
    obtain ⟨d, rfl⟩ := Nat.le.dest hjn
    exact z6i (z5s j) d _ b4
  have b6 : (l &&& M j n) ^^^ tw n j ((l / Q j) &&& M j n) < H j n := Nat.xor_lt_two_pow b3 b5
  have b7 := lt_H_mul hjn b6
  have b8 : tw n j ((l / Q j) &&& M j n) < Q n := Nat.lt_of_lt_of_le b5 (H_le hjn)
  have b9 : l &&& M j n < Q n := z2O hMQ
  constructor
  · simp only [tw]
    rw [hhi, hlo, D n hjn _ _ b1 b2, z6m b9 b8, Nat.add_mul]
    have e5 : ∀ X Y : Nat, Y < Q n → (X * Q n * Q j + Y) % Q (n + 1) = ((X * Q j) % Q n) * Q n + Y := by
      intro X Y hY
      rw [show X * Q n * Q j = X * Q j * Q n by rw [Nat.mul_assoc, Nat.mul_comm (Q n), ← Nat.mul_assoc], z34]
      rw [Nat.mul_comm (X * Q j), Nat.mod_mul, Nat.mul_add_mod, Nat.mod_eq_of_lt hY, Nat.mul_add_div (z2L n), Nat.div_eq_of_lt hY, Nat.add_zero, Nat.mul_comm (Q n), Nat.add_comm]
    rw [e5 _ _ b7, z7t b7 b2, Nat.mod_eq_of_lt b7]
  · simp only [tw]
    exact or_lt (Nat.mod_lt _ (z2L n)) b2
theorem z7O : ∀ j, (∀ n, j ≤ n → ∀ v, v < Q n → tw n j v = val (of n (val (gen j)) * of n v)) ∧ (∀ n, j ≤ n → ∀ h l, h < Q n → l < Q n → tw (n + 1) j (h * Q n + l) = tw n j h * Q n + tw n j l)
  | 0 => ⟨fun n _ v hv => by rw [z66, z2Z, of_one, one_mul, z2r _ _ hv]; rfl, fun n _ h l _ _ => rfl⟩
  | j + 1 => by
    obtain ⟨C, D⟩ := z7O j
    have D' := tw_split C D
    refine ⟨?_, fun n hn h l hh hl => (D' n hn h l hh hl).1⟩
    intro n hn
    obtain ⟨d, rfl⟩ := Nat.le.dest hn
    clear hn
    induction d with
    | zero =>
      intro v hv
      rw [Nat.add_zero] at hv ⊢
      have hQj := z2L j
      have hd : v / Q j < Q j := Nat.div_lt_of_lt_mul (by rw [← z34]; exact hv)
      have hm : v % Q j < Q j := Nat.mod_lt _ hQj
      have hmask : ∀ x, x &&& M j (j + 1) = x % Q j := fun x => by rw [M_base]; unfold Q; rw [Nat.and_two_pow_sub_one_eq_mod]
      have e1 : tw (j + 1) j (v / Q j) = val (gen j * of j (v / Q j)) := by
        rw [C (j + 1) (by omega) _ (Nat.lt_of_lt_of_le hd (z6P j)), z4k (d := 1) (z5s j) hd, z2a]
      simp only [tw]
      rw [hmask, hmask, Nat.mod_eq_of_lt hd, e1]
      have hv2 := z1z (gen j * of j (v / Q j))
      have hX := z2D hm hv2
      rw [Nat.mod_eq_of_lt (show _ * Q j < Q (j + 1) by rw [z34]; exact Nat.mul_lt_mul_of_pos_right hX hQj)]
      have hor : ∀ X, X * Q j ||| (v / Q j) = X * Q j + v / Q j := fun X => by
        have := z7t (n := j) (a := X) (b := 0) (c := 0) (d := v / Q j) hQj hd
        simpa using this
      rw [hor, z2a, z1Z]
      congr 1
      · congr 1
        rw [z2t, z36, z37, one_mul, zero_mul, one_mul, add_zero, z2v, z2F, z2Q, z1Y, z2r _ _ hm]
      · rw [z2u, z36, z37, one_mul, zero_mul, zero_add, z2v, z2F, z2r _ _ hd]
    | succ d ih =>
      intro v hv
      rw [← Nat.add_assoc] at hv ⊢
      have hvd := Nat.div_add_mod v (Q (j + 1 + d))
      rw [Nat.mul_comm] at hvd
      have h1 : v / Q (j + 1 + d) < Q (j + 1 + d) := Nat.div_lt_of_lt_mul (by rw [← z34]; exact hv)
      have h2 : v % Q (j + 1 + d) < Q (j + 1 + d) := Nat.mod_lt _ (z2L _)
      have hg : val (gen (j + 1)) < Q (j + 1 + d) := Nat.lt_of_lt_of_le (z5s (j + 1)) (z3q (Nat.le_add_right _ _))
      have e1 : of (j + 1 + d + 1) (val (gen (j + 1))) = up (of (j + 1 + d) (val (gen (j + 1)))) := z5w hg
      rw [e1, z3E, z1Z, z2F, z2Q, z2v, z2F, z2Q, ← ih _ h1, ← ih _ h2]
      conv => lhs; rw [← hvd]
      exact (D' (j + 1 + d) (by omega) _ _ h1 h2).1
theorem tw_eq {j n v : Nat} (h : j ≤ n) (hv : v < Q n) : tw n j v = val (of n (val (gen j)) * of n v) := (z7O j).1 n h v hv
/-- A bit of a level is a product of generators. -/
def gp (n : Nat) : Nat → Nat → T n
  | 0, _ => 1
  | m + 1, i => (if i.testBit m then of n (val (gen (m + 1))) else 1) * gp n m i
theorem gp_up {n : Nat} : ∀ m i, m ≤ n → gp (n + 1) m i = up (gp n m i)
  | 0, i, _ => rfl
  | m + 1, i, h => by
    show (if i.testBit m then of (n + 1) (val (gen (m + 1))) else 1) * gp (n + 1) m i = up ((if i.testBit m then of n (val (gen (m + 1))) else 1) * gp n m i)
    rw [up_mul, gp_up m i (by omega)]
    congr 1
    split
    · exact z5w (Nat.lt_of_lt_of_le (z5s (m + 1)) (z3q h))
    · rfl
theorem gp_mod {n : Nat} : ∀ m i k, m ≤ k → gp n m (i % 2 ^ k) = gp n m i
  | 0, i, k, _ => rfl
  | m + 1, i, k, h => by
    show (if (i % 2 ^ k).testBit m then _ else _) * gp n m (i % 2 ^ k) = (if i.testBit m then _ else _) * gp n m i
    rw [gp_mod m i k (by omega), Nat.testBit_mod_two_pow, decide_eq_true (by omega), Bool.true_and]
theorem gp_bit : ∀ n i, i < 2 ^ n → gp n n i = of n (2 ^ i)
  | 0, i, h => by
    have : i = 0 := by simpa using h
    rw [this]; rfl
  | n + 1, i, h => by
    show (if i.testBit n then of (n + 1) (val (gen (n + 1))) else 1) * gp (n + 1) n i = of (n + 1) (2 ^ i)
    rw [gp_up n i (Nat.le_refl _), ← gp_mod n i n (Nat.le_refl _), gp_bit n _ (Nat.mod_lt _ (Nat.two_pow_pos n))]
    rw [Nat.pow_succ] at h
    by_cases c : i < 2 ^ n
    · rw [Nat.testBit_lt_two_pow c, Nat.mod_eq_of_lt c]
      rw [z5w (show 2 ^ i < Q n from Nat.pow_lt_pow_right (by decide) c)]
      simp only [Bool.false_eq_true, if_false, one_mul]; rfl
    · have hi : i % 2 ^ n = i - 2 ^ n := by rw [Nat.mod_eq_sub_mod (by omega), Nat.mod_eq_of_lt (by omega)]
      have hb : i.testBit n = true := by
        have := Nat.testBit_two_pow_add_eq (i - 2 ^ n) n
        rw [show 2 ^ n + (i - 2 ^ n) = i by omega, Nat.testBit_lt_two_pow (show i - 2 ^ n < 2 ^ n by omega)] at this
        simpa using this
      rw [hb, if_pos rfl, hi, z2a]
      have e : 2 ^ i = 2 ^ (i - 2 ^ n) * Q n + 0 := by
        unfold Q; rw [← Nat.pow_add, Nat.add_zero]; congr 1; omega
      rw [e, z2v, z3h (z2L n), z3i (z2L n), z3a]
      apply ext
      · rw [z2t, z36, z37, z3n, z4J, one_mul, zero_mul, z2G, z2G, add_zero, add_zero]; rfl
      · rw [z2u, z36, z37, z3n, zero_mul, z2G, add_zero]; rfl
/-- An element is the sum of its bits. -/
theorem bits_sum {n : Nat} (b k : Nat) (hb : b < Q n) (hk : k < 2 ^ n) : of n (b % 2 ^ (k + 1)) = of n (b % 2 ^ k) + (if b.testBit k then of n (2 ^ k) else 0) := by
  have h2 : 2 ^ k < Q n := Nat.pow_lt_pow_right (by decide) hk
  have h1 : b % 2 ^ k < Q n := Nat.lt_trans (Nat.mod_lt _ (Nat.two_pow_pos k)) h2
  have e : b % 2 ^ (k + 1) = b % 2 ^ k ^^^ (if b.testBit k then 2 ^ k else 0) := by
    apply Nat.eq_of_testBit_eq
    intro i
    rw [Nat.testBit_xor, Nat.testBit_mod_two_pow, Nat.testBit_mod_two_pow]
    by_cases hi : i = k
    · subst hi
      cases hbi : b.testBit i <;> simp
    · by_cases hlt : i < k
      · have : decide (i < k + 1) = true := decide_eq_true (by omega)
        rw [this, decide_eq_true hlt]
        split
        · rw [Nat.testBit_two_pow_of_ne (by omega)]; simp
        · simp
      · rw [decide_eq_false (by omega), decide_eq_false hlt]
        split
        · rw [Nat.testBit_two_pow_of_ne (by omega)]; simp
        · simp
  rw [e]
  split
  · rw [z7s h1 h2]
  · rw [Nat.xor_zero, add_zero]
end Go.Proofs.Ytkhmpaooinpfoaa.Tw
/- The document's product of elements is the tower's. Own text. -/
namespace Go.Proofs.Ytkhmpaooinpfoaa.Sp
open Go.RowKit Go.Proofs.YtkhmpaooinpfoaaW.PrintWords Go.Proofs.YtkhmpaooinpfoaaW.PrintMore Go.Proofs.Ytkhmpaooinpfoaa.P Go.Proofs.Ytkhmpaooinpfoaa.Ar Go.Proofs.Ytkhmpaooinpfoaa.Tw
set_option linter.unusedVariables false
set_option linter.unusedSimpArgs false
theorem z7p : ∀ j : Nat, j < 6 → z1f.f (j : Int) = some ((M j 6 : Nat) : Int) := by decide +kernel
theorem tw_lt {j v : Nat} (hj : j ≤ 6) (hv : v < Q 6) : tw 6 j v < Q 6 := by rw [tw_eq hj hv]; exact z1z _
theorem shlw (a w : Nat) (hw : w ≤ 64) : shl .u64 (a : Int) (w : Int) = (((a * 2 ^ w) % 2 ^ 64 : Nat) : Int) := by
  unfold shl
  have h64 : IntKind.u64.bits = 64 := rfl
  rw [h64, Int.toNat_natCast, Nat.min_eq_left hw]
  have hc : ((a : Int) * 2 ^ w) = ((a * 2 ^ w : Nat) : Int) := by simp
  rw [hc]
  simp [IntKind.wrap, IntKind.bits, IntKind.signed]
theorem z3e : ∀ (j : Nat), j ≤ 6 → ∀ (v : Nat), v < Q 6 → Ev (fun k => zv.f k ((j : Int) - 1) (v : Int)) ((tw 6 j v : Nat) : Int) := by
  intro j
  induction j with
  | zero =>
    intro _ v hv
    have h0 : (((0 : Nat) : Int) - 1) < 0 := by decide
    refine Ev.step (fun k => by rw [zv.f]) (Ev.pos h0 ?_)
    exact Ev.ret' rfl
  | succ j ih =>
    intro hj v hv
    have h32 := z2q (n := j) (by omega)
    have hw : IntKind.u64.wrap (((j + 1 : Nat) : Int) - 1) = (j : Int) := by rw [z33 (by omega) (by omega)]; omega
    have hw2 : wrap64 (((j + 1 : Nat) : Int) - 1 - 1) = (j : Int) - 1 := by rw [z2S (by omega) (by omega)]; omega
    have hj1 : (((j + 1 : Nat) : Int) - 1) = (j : Int) := by omega
    have hQ6 : Q 6 = 2 ^ 64 := rfl
    have hM : M j 6 < 2 ^ 64 := by rw [← hQ6]; exact M_lt_Q (by omega)
    have hd : v / 2 ^ 2 ^ j < 2 ^ 64 := Nat.lt_of_le_of_lt (Nat.div_le_self _ _) hv
    have hhi : (v / 2 ^ 2 ^ j) &&& M j 6 < 2 ^ 64 := Nat.and_lt_two_pow _ hM
    have hlo : v &&& M j 6 < 2 ^ 64 := Nat.and_lt_two_pow _ hM
    have hrec := ih (by omega) _ hhi
    have htw : tw 6 j ((v / 2 ^ 2 ^ j) &&& M j 6) < 2 ^ 64 := tw_lt (by omega) hhi
    rw [hj1] at hw hw2 ⊢
    refine Ev.step (fun k => by rw [zv.f]) (Ev.neg (by omega) ?_)
    simp only [hw]
    refine Ev.pos (Int.natCast_nonneg _) (Ev.bnd0 (z7p j (by omega)) (Ev.bnd0 (z7p j (by omega)) ?_))
    simp only [z3d j (by omega), z5c v (2 ^ j) (by omega), z2K _ _ hd hM, z2K _ _ hv hM, hw2]
    refine Ev.bnd hrec (Ev.ret' ?_)
    rw [z2e _ _ hlo htw, shlw _ _ (by omega), z6e _ _ (Nat.mod_lt _ (by decide)) hhi]
    rfl
/-- The generator of a level, as an element of the greatest one. -/
def gE (m : Nat) : E := of 7 (val (gen m))
theorem tw_hi {j : Nat} (hj : j ≤ 6) (x : T 6) : tw 6 j (val x) = val (of 6 (val (gen j)) * x) := by rw [tw_eq hj (z1z x), z2a]
theorem Times_ev (j : Nat) (hj : j ≤ 6) (x : E) : Ev (fun k => zB.f k (j : Int) (hi x) (lo x)) (hi (gE (j + 1) * x), lo (gE (j + 1) * x)) := by
  unfold zB.f
  by_cases c : j < 6
  · refine Ev.pos (by omega) ?_
    have h1 := z3e (j + 1) (by omega) (val x.1) (z1z x.1)
    have h2 := z3e (j + 1) (by omega) (val x.2) (z1z x.2)
    rw [show (((j + 1 : Nat) : Int) - 1) = (j : Int) by omega] at h1 h2
    refine Ev.bnd h1 (Ev.bnd h2 (Ev.ret' ?_))
    have e : gE (j + 1) = up (of 6 (val (gen (j + 1)))) := z5w (Nat.lt_of_lt_of_le (z5s (j + 1)) (z3q (by omega)))
    rw [e, z3E, tw_hi (by omega), tw_hi (by omega)]; rfl
  · have : j = 6 := by omega
    subst this
    refine Ev.neg (by decide) ?_
    have h1 := z3e 6 (by omega) (val x.1) (z1z x.1)
    refine Ev.bnd h1 (Ev.ret' ?_)
    have e : gE 7 = gen 7 := z2a _
    have ev : of 6 (val (gen 6)) = gen 6 := z2a _
    rw [tw_hi (by omega), e, ev]
    unfold hi lo
    rw [z2e _ _ (z1z _) (z1z _), ← z1Y]
    have m1 : (gen 7 * x).1 = x.2 + gen 6 * x.1 := by rw [z2t, z36, z37, one_mul, zero_mul, one_mul, add_zero]
    have m2 : (gen 7 * x).2 = x.1 := by rw [z2u, z36, z37, one_mul, zero_mul, zero_add]
    rw [m1, m2]
/-- The element with one bit. -/
def bitE (n : Nat) : E := of 7 (2 ^ n)
theorem z5X {n : Nat} (hn : n < 128) : hi (bitE n) = (if n < 64 then 0 else ((2 ^ (n - 64) : Nat) : Int)) ∧ lo (bitE n) = (if n < 64 then ((2 ^ n : Nat) : Int) else 0) := by
  unfold bitE hi lo
  rw [z2v, z2F, z2Q]
  have hQ : Q 6 = 2 ^ 64 := rfl
  by_cases c : n < 64
  · have h1 : 2 ^ n < Q 6 := by rw [hQ]; exact Nat.pow_lt_pow_right (by decide) c
    rw [if_pos c, if_pos c, Nat.div_eq_of_lt h1, Nat.mod_eq_of_lt h1, z2r _ _ h1, z3a, z1R]; exact ⟨rfl, rfl⟩
  · have e : 2 ^ n = 2 ^ (n - 64) * Q 6 + 0 := by rw [hQ, ← Nat.pow_add, Nat.add_zero]; congr 1; omega
    have h2 : 2 ^ (n - 64) < Q 6 := by rw [hQ]; exact Nat.pow_lt_pow_right (by decide) (by omega)
    rw [if_neg c, if_neg c, e, z3h (z2L 6), z3i (z2L 6), z2r _ _ h2, z3a, z1R]; exact ⟨rfl, rfl⟩
theorem z7D (n : Nat) (hn : n < 128) : Ev (fun k => zQ.f k (n : Int)) (hi (bitE n), lo (bitE n)) := by
  obtain ⟨h1, h2⟩ := z5X hn
  unfold zQ.f
  refine Ev.neg (by omega) ?_
  rw [decide_eq_false (show ¬ ((n : Int) > 127) by omega), h1, h2]
  refine Ev.step (fun k => by rw [zQ.j0]) (Ev.neg (by decide) ?_)
  by_cases c : n < 64
  · rw [if_pos c, if_pos c]
    refine Ev.neg (by omega) ?_
    rw [z33 (by omega) (by omega)]
    exact Ev.pos (Int.natCast_nonneg _) (Ev.ret' (by rw [z3d n (by omega)]))
  · rw [if_neg c, if_neg c]
    refine Ev.pos (by omega) ?_
    have e : IntKind.u64.wrap (wrap64 ((n : Int) - 64)) = ((n - 64 : Nat) : Int) := by
      rw [z2S (by omega) (by omega), z33 (by omega) (by omega)]; omega
    rw [e]
    exact Ev.pos (Int.natCast_nonneg _) (Ev.ret' (by rw [z3d (n - 64) (by omega)]))
theorem z4y (x n : Nat) : (x &&& 2 ^ n ≠ 0) ↔ x.testBit n = true := by
  constructor
  · intro h
    cases hb : x.testBit n with
    | true => rfl
    | false =>
      exfalso; apply h
      apply Nat.eq_of_testBit_eq
      intro i
      rw [Nat.testBit_and, Nat.zero_testBit]
      by_cases e : i = n
      · subst e; rw [hb, Bool.false_and]
      · rw [Nat.testBit_two_pow_of_ne (by omega), Bool.and_false]
  · intro h e
    have := congrArg (fun z => z.testBit n) e
    simp only [Nat.testBit_and, Nat.testBit_two_pow_self, Bool.and_true, Nat.zero_testBit] at this
    rw [h] at this; cases this
theorem hasBits (x : E) (n : Nat) (hn : n < 128) : ((Go.bits .or .u64 (Go.bits .and .u64 (lo x) (lo (bitE n))) (Go.bits .and .u64 (hi x) (hi (bitE n)))) != 0) = (val x).testBit n := by
  obtain ⟨h1, h2⟩ := z5X hn
  have hx1 := z1z x.1
  have hx2 := z1z x.2
  have hQ : Q 6 = 2 ^ 64 := rfl
  rw [hQ] at hx1 hx2
  have hv : val x = 2 ^ 64 * val x.1 + val x.2 := by rw [z1Z, hQ, Nat.mul_comm]
  rw [h1, h2, hv]
  unfold hi lo
  by_cases c : n < 64
  · rw [if_pos c, if_pos c]
    have hp : 2 ^ n < 2 ^ 64 := Nat.pow_lt_pow_right (by decide) c
    have z : (0 : Int) = ((0 : Nat) : Int) := rfl
    rw [z, z2K _ _ hx2 hp, z2K _ _ hx1 (by decide), z6e _ _ (Nat.and_lt_two_pow _ hp) (Nat.and_lt_two_pow _ (by decide)), Nat.and_zero, Nat.or_zero]
    rw [Nat.testBit_two_pow_mul_add _ hx2, if_pos c, Bool.eq_iff_iff, ← z4y, bne_iff_ne]
    exact ⟨fun h e => h (by rw [e]), fun h e => h (by exact_mod_cast e)⟩
  · rw [if_neg c, if_neg c]
    have hp : 2 ^ (n - 64) < 2 ^ 64 := Nat.pow_lt_pow_right (by decide) (by omega)
    have z : (0 : Int) = ((0 : Nat) : Int) := rfl
    rw [z, z2K _ _ hx1 hp, z2K _ _ hx2 (by decide), z6e _ _ (Nat.and_lt_two_pow _ (by decide)) (Nat.and_lt_two_pow _ hp), Nat.and_zero, Nat.zero_or]
    rw [Nat.testBit_two_pow_mul_add _ hx2, if_neg c, Bool.eq_iff_iff, ← z4y, bne_iff_ne]
    exact ⟨fun h e => h (by rw [e]), fun h e => h (by exact_mod_cast e)⟩
theorem Has_ev (x : E) (n : Nat) (hn : n < 128) : Ev (fun k => zY.f k (hi x) (lo x) (n : Int)) ((val x).testBit n) := by
  unfold zY.f
  exact Ev.bnd (z7D n hn) (Ev.ret' (hasBits x n hn))
theorem and_one (n j : Nat) (hn : n < 2 ^ 63) (hj : j ≤ 64) : Go.bits .and .i64 (shr .i64 (n : Int) (j : Int)) 1 = (((n / 2 ^ j) % 2 : Nat) : Int) := by
  rw [shr_i64 n j hj]
  have := z5n (n / 2 ^ j) 1 (Nat.lt_of_le_of_lt (Nat.div_le_self _ _) hn) (by decide)
  simpa using this
theorem prod_l1 (a b acc : E) (n : Nat) (hn : n < 128) {R : Int × Int} (hk : Ev (fun k => zl.l0 k ((n + 1 : Nat) : Int) (hi a) (lo a) (hi b) (lo b) (hi (acc + gp 7 7 n * a)) (lo (acc + gp 7 7 n * a))) R) :
    ∀ (d j : Nat), j + d = 7 → Ev (fun k => zl.l1 k (n : Int) (j : Int) (hi a) (lo a) (hi b) (lo b) (hi acc) (lo acc) (hi (gp 7 j n * a)) (lo (gp 7 j n * a))) R := by
  intro d
  induction d with
  | zero =>
    intro j hj
    have : j = 7 := by omega
    subst this
    refine Ev.step (fun k => by rw [zl.l1]) (Ev.neg (by decide) (Ev.bnd0 (z5G acc _) ?_))
    simp only [z1L hn (by decide)]
    exact hk
  | succ d ih =>
    intro j hj
    have hu : IntKind.u64.wrap (j : Int) = (j : Int) := z33 (by omega) (by omega)
    have hih := ih (j + 1) (by omega)
    refine Ev.step (fun k => by rw [zl.l1]) (Ev.pos (by omega) ?_)
    simp only [hu, and_one n j (Nat.lt_trans hn (by decide)) (by omega), z1L (show j < 7 by omega) (by decide)]
    refine Ev.pos (Int.natCast_nonneg _) ?_
    have hgp : gp 7 (j + 1) n = (if n.testBit j then of 7 (val (gen (j + 1))) else 1) * gp 7 j n := rfl
    have htb : n.testBit j = decide ((n / 2 ^ j) % 2 = 1) := by rw [Nat.testBit_eq_decide_div_mod_eq]
    by_cases c : (n / 2 ^ j) % 2 = 1
    · refine Ev.pos (by omega) (Ev.bnd (Times_ev j (by omega) _) ?_)
      rw [hgp, htb, decide_eq_true c, if_pos rfl, mul_assoc] at hih
      exact hih
    · refine Ev.neg (by omega) ?_
      rw [hgp, htb, decide_eq_false c, if_neg (by decide), one_mul] at hih
      exact hih
theorem prod_l0 (a b : E) : ∀ (d n : Nat), n + d = 128 → Ev (fun k => zl.l0 k (n : Int) (hi a) (lo a) (hi b) (lo b) (hi (of 7 (val b % 2 ^ n) * a)) (lo (of 7 (val b % 2 ^ n) * a))) (hi (b * a), lo (b * a)) := by
  intro d
  induction d with
  | zero =>
    intro n hn
    have : n = 128 := by omega
    subst this
    have hb : val b % 2 ^ 128 = val b := Nat.mod_eq_of_lt (by have := z1z b; rw [z5R] at this; exact this)
    rw [hb, z2a]
    exact Ev.step (fun k => by rw [zl.l0]) (Ev.neg (by decide) (Ev.ret _))
  | succ d ih =>
    intro n hn
    have hn' : n < 128 := by omega
    have hih := ih (n + 1) (by omega)
    rw [bits_sum (val b) n (z1z b) (by simpa using hn')] at hih
    refine Ev.step (fun k => by rw [zl.l0]) (Ev.pos (by omega) (Ev.bnd (Has_ev b n hn') ?_))
    cases c : (val b).testBit n with
    | true =>
      refine Ev.pos rfl ?_
      rw [c, if_pos rfl, add_mul, ← gp_bit 7 n (by simpa using hn')] at hih
      have := prod_l1 a b _ n hn' hih 7 0 (by omega)
      have e0 : gp 7 0 n * a = a := one_mul a
      rw [e0] at this
      exact this
    | false =>
      refine Ev.neg (by decide) ?_
      rw [c, if_neg (by decide), add_zero] at hih
      simp only [z1L hn' (by decide)]
      exact hih
theorem z6p (x y : E) : Ev (fun k => zl.f k (hi x) (lo x) (hi y) (lo y)) (hi (x * y), lo (x * y)) := by
  unfold zl.f
  have := prod_l0 x y 128 0 (by decide)
  rw [Nat.pow_zero, Nat.mod_one, z3a, zero_mul, z38, z39, mul_comm y x] at this
  exact this
end Go.Proofs.Ytkhmpaooinpfoaa.Sp

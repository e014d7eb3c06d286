/- Own text: merged by wip/tools/pack.py out of what the law WeaveColumns reaches. -/
import Derived.Test.YtkhmpaooinpfoaaMWeaveColumnsb
namespace Go.Proofs.Ytkhmpaooinpfoaa.P
open Go.RowKit Go.Proofs.YtkhmpaooinpfoaaW.PrintWords Go.Proofs.YtkhmpaooinpfoaaW.PrintLast Go.Proofs.YtkhmpaooinpfoaaW.PrintMore
attribute [local go_sem] z17 z19 z1j z1k zZ z10 z18 z1a   -- for this text's walks alone
set_option linter.unusedVariables false
set_option linter.unusedSimpArgs false
def zW.l0 : Nat → Int → List (S30) → List (List (S30)) → Int → Int → Option ((List (S30)) × Int)
 | 0,_,_,_,_,_=>none
 | k + 1,x1,x6,x29,x30,x31=>if x31 < x30 then (if 0 ≤ x31 then (if x31 < (x29.length : Int) then (if 0 ≤ x1 then (if x1 < ((z1g x29 x31).length : Int) then (if x6.length < 8796093022208 then (zW.l0 k x1 (x6 ++ [(⟨(zq (z1g x29 x31) x1).f0,(zq (z1g x29 x31) x1).f1⟩ : S30)]) x29 x30 (wrap64 (x31 + 1))) else (none)) else (none)) else (none)) else (none)) else (none)) else (some (x6,0))
def zW.f (k : Nat) (l0 : List (List (S30))) (a1 : Int) : Option ((List (S30)) × Int):=(z1c.f l0).bind fun t101=>(if t101 = true then (if (l0.length : Int) = 0 then (some (([] : List (S30)),4)) else (if a1 < 0 then (some (([] : List (S30)),4)) else (if 0 < (l0.length : Int) then (if a1 ≥ ((z1g l0 0).length : Int) then (some (([] : List (S30)),4)) else (zW.l0 k a1 ([] : List (S30)) l0 (l0.length : Int) 0)) else (none)))) else (some (([] : List (S30)),6)))
theorem zW.z1b : ∀ k,(∀ y0 y1 y2 y3 y4,LeO (zW.l0 k y0 y1 y2 y3 y4) (zW.l0 (k + 1) y0 y1 y2 y3 y4))
 | 0=>fun _ _ _ _ _ r h=>by simp [zW.l0] at h
 | k + 1=>by
  have ih0:=zW.z1b k
  · intro y0 y1 y2 y3 y4
    unfold zW.l0
    repeat' first
    | (with_reducible exact ih0 _ _ _ _ _)
    | (with_reducible exact LeO.refl _)
    | (with_reducible exact LeO.none _)
    | (with_reducible refine LeO.ite ?_ ?_)
    | (with_reducible refine LeO.bind ?_ (fun _=>?_))
    | exact ih0 _ _ _ _ _
    | exact LeO.none _
    | refine LeO.ite ?_ ?_
    | refine LeO.bind ?_ (fun _=>?_)
theorem zW.mono : ∀ a0 a1 k,LeO (zW.f k a0 a1) (zW.f (k + 1) a0 a1):=by
 intro a0 a1 k
 have ih0:=zW.z1b k
 unfold zW.f
 repeat' first
  | (with_reducible exact ih0 _ _ _ _ _)
  | (with_reducible exact LeO.refl _)
  | (with_reducible exact LeO.none _)
  | (with_reducible refine LeO.ite ?_ ?_)
  | (with_reducible refine LeO.bind ?_ (fun _=>?_))
  | exact ih0 _ _ _ _ _
  | exact LeO.none _
  | refine LeO.ite ?_ ?_
  | refine LeO.bind ?_ (fun _=>?_)
set_option maxHeartbeats 8000000 in
set_option maxRecDepth 100000 in
theorem zW.calls (k : Nat) (A0 : Option Addr) (c0 : Nat) (l0 : List (List (S30))) (a1 : Int) (r1 : List (S30)) (r2 : Int) (w : World) (hr0 : Kd.C (Kd.slice 30 k30) w A0 l0.length l0) (hc0 : l0.length ≤ c0) (h : zW.f k l0 a1 = some (r1,r2)) :
 Calls Try.prog 20 #[.slice A0 l0.length c0,.int .i64 a1] w fun e w'=>∃ v0_ : Value,e = .returned (.tuple #[v0_,.int .i64 r2]) ∧ Kd.R k30 30 w' w.heap.size (fun _=>True) v0_ r1 ∧ Below w.heap.size w w':=by
 have hu30:=Try.underlying30
 have HR0:=z2.mk hr0
 have HC0:=z2.mk hc0
 clear hr0 hc0
 have HB:=z2.mk (Below.refl w.heap.size w)
 have H : ((z1c.f l0).bind fun t101=>(if t101 = true then (if (l0.length : Int) = 0 then (some (([] : List (S30)),4)) else (if a1 < 0 then (some (([] : List (S30)),4)) else (if 0 < (l0.length : Int) then (if a1 ≥ ((z1g l0 0).length : Int) then (some (([] : List (S30)),4)) else (zW.l0 k a1 ([] : List (S30)) l0 (l0.length : Int) 0)) else (none)))) else (some (([] : List (S30)),6)))) = some (r1,r2):=h
 clear h
 replace H:=Option.bind_eq_some_iff.mp H
 obtain ⟨t101,A30,H⟩:=H
 replace H : (if t101 = true then (if (l0.length : Int) = 0 then (some (([] : List (S30)),4)) else (if a1 < 0 then (some (([] : List (S30)),4)) else (if 0 < (l0.length : Int) then (if a1 ≥ ((z1g l0 0).length : Int) then (some (([] : List (S30)),4)) else (zW.l0 k a1 ([] : List (S30)) l0 (l0.length : Int) 0)) else (none)))) else (some (([] : List (S30)),6))) = some (r1,r2):=H
 have A3:=z2.mk A30
 clear A30
 by_cases c4 : t101 = true
 rotate_left
 · replace c4:=Bool.eq_false_iff.mpr c4
   subst c4
   have H1 : (some (([] : List (S30)),6)) = some (r1,r2):=by rw [if_neg (show ¬ (false = true) by decide)] at H;exact H
   clear H
   have H:=H1
   clear H1
   simp only [Option.some.injEq,Prod.mk.injEq] at H
   obtain ⟨rfl,rfl⟩:=H
   go_enter Try.func20,Try.ntmps20
   go_wp2_with (first|((with_reducible refine zm (f:=74) rfl ?_);refine goesL_ (some 11) rfl rfl Try.func74 (by kernel_rfl) rfl #[.slice A0 l0.length c0] rfl (by (try simp only [List.map_toArray,List.map_cons,List.map_nil]);first|done|rfl|(simp only [List.length_drop,List.length_take];rfl)) ?_;(with_reducible refine (z1c.calls _ _ l0 false _ ?side1 ?side2 A3.out).mono ?_);(case side1=>repeat (first|exact HR0.out|(with_reducible refine Kd.zS ?_ _)|(with_reducible refine Kd.zT ?_ _)|(with_reducible refine Kd.z16 ?_)));(case side2=>exact HC0.out);rintro e w20 ⟨rfl,hb⟩;refine ⟨_,rfl,?_⟩;have n0_:=z2.mk (za (by repeat (first|(with_reducible first|exact HB.out|apply z4|apply z1|apply z3)|exact HB.out)) hb);clear HB;have HB:=n0_;clear n0_;(try clear hb);(try clear hb2);(try clear hk);(try clear hi)))
   go_ret2
   exact ⟨_,by first|rfl|(simp [zh,zi] <;> rfl)|(simp [*,zh,zi] <;> rfl),by first|exact Kd.z25 _ _ _ _ _|exact Kd.z2i _ _ _ _ _|exact Kd.z2l _ _ _ _ _|exact Kd.z2j _ _ _ _ _|exact Kd.z2k _ _ _ _ _,by repeat (first|(with_reducible first|exact HB.out|apply z4|apply z1|apply z3)|exact HB.out)⟩
 subst c4
 have H1 : (if (l0.length : Int) = 0 then (some (([] : List (S30)),4)) else (if a1 < 0 then (some (([] : List (S30)),4)) else (if 0 < (l0.length : Int) then (if a1 ≥ ((z1g l0 0).length : Int) then (some (([] : List (S30)),4)) else (zW.l0 k a1 ([] : List (S30)) l0 (l0.length : Int) 0)) else (none)))) = some (r1,r2):=by rw [if_pos rfl] at H;exact H
 clear H
 have H:=H1
 clear H1
 by_cases c5 : (l0.length : Int) = 0
 · rw [if_pos c5] at H
   have c5b0 : ((l0.length : Int) == 0) = true:=beq_iff_eq.mpr c5
   have c5b1 : ((l0.length : Int) != 0) = false:=bne_eq_false_iff_eq.mpr c5
   clear c5
   simp only [Option.some.injEq,Prod.mk.injEq] at H
   obtain ⟨rfl,rfl⟩:=H
   go_enter Try.func20,Try.ntmps20
   go_wp2_with (first|((with_reducible refine zm (f:=74) rfl ?_);refine goesL_ (some 11) rfl rfl Try.func74 (by kernel_rfl) rfl #[.slice A0 l0.length c0] rfl (by (try simp only [List.map_toArray,List.map_cons,List.map_nil]);first|done|rfl|(simp only [List.length_drop,List.length_take];rfl)) ?_;(with_reducible refine (z1c.calls _ _ l0 true _ ?side1 ?side2 A3.out).mono ?_);(case side1=>repeat (first|exact HR0.out|(with_reducible refine Kd.zS ?_ _)|(with_reducible refine Kd.zT ?_ _)|(with_reducible refine Kd.z16 ?_)));(case side2=>exact HC0.out);rintro e w6 ⟨rfl,hb⟩;refine ⟨_,rfl,?_⟩;have n0_:=z2.mk (za (by repeat (first|(with_reducible first|exact HB.out|apply z4|apply z1|apply z3)|exact HB.out)) hb);clear HB;have HB:=n0_;clear n0_;(try clear hb);(try clear hb2);(try clear hk);(try clear hi)))
   go_ret2
   exact ⟨_,by first|rfl|(simp [zh,zi] <;> rfl)|(simp [*,zh,zi] <;> rfl),by first|exact Kd.z25 _ _ _ _ _|exact Kd.z2i _ _ _ _ _|exact Kd.z2l _ _ _ _ _|exact Kd.z2j _ _ _ _ _|exact Kd.z2k _ _ _ _ _,by repeat (first|(with_reducible first|exact HB.out|apply z4|apply z1|apply z3)|exact HB.out)⟩
 rw [if_neg c5] at H
 have c5b0 : ((l0.length : Int) == 0) = false:=beq_eq_false_iff_ne.mpr c5
 have c5b1 : ((l0.length : Int) != 0) = true:=bne_iff_ne.mpr c5
 have c5b2 : ¬ (l0 = []):=fun h_=>c5 (by rw [h_];rfl)
 by_cases c7 : a1 < 0
 · rw [if_pos c7] at H
   have c7b0 : decide (a1 < 0) = true:=decide_eq_true c7
   clear c7
   simp only [Option.some.injEq,Prod.mk.injEq] at H
   obtain ⟨rfl,rfl⟩:=H
   go_enter Try.func20,Try.ntmps20
   go_wp2_with (first|((with_reducible refine zm (f:=74) rfl ?_);refine goesL_ (some 11) rfl rfl Try.func74 (by kernel_rfl) rfl #[.slice A0 l0.length c0] rfl (by (try simp only [List.map_toArray,List.map_cons,List.map_nil]);first|done|rfl|(simp only [List.length_drop,List.length_take];rfl)) ?_;(with_reducible refine (z1c.calls _ _ l0 true _ ?side1 ?side2 A3.out).mono ?_);(case side1=>repeat (first|exact HR0.out|(with_reducible refine Kd.zS ?_ _)|(with_reducible refine Kd.zT ?_ _)|(with_reducible refine Kd.z16 ?_)));(case side2=>exact HC0.out);rintro e w8 ⟨rfl,hb⟩;refine ⟨_,rfl,?_⟩;have n0_:=z2.mk (za (by repeat (first|(with_reducible first|exact HB.out|apply z4|apply z1|apply z3)|exact HB.out)) hb);clear HB;have HB:=n0_;clear n0_;(try clear hb);(try clear hb2);(try clear hk);(try clear hi)))
   go_ret2
   exact ⟨_,by first|rfl|(simp [zh,zi] <;> rfl)|(simp [*,zh,zi] <;> rfl),by first|exact Kd.z25 _ _ _ _ _|exact Kd.z2i _ _ _ _ _|exact Kd.z2l _ _ _ _ _|exact Kd.z2j _ _ _ _ _|exact Kd.z2k _ _ _ _ _,by repeat (first|(with_reducible first|exact HB.out|apply z4|apply z1|apply z3)|exact HB.out)⟩
 rw [if_neg c7] at H
 have c7b0 : decide (a1 < 0) = false:=decide_eq_false c7
 clear c7
 by_cases c9 : 0 < (l0.length : Int)
 rotate_left
 · rw [if_neg c9] at H
   exact absurd H (by simp)
 rw [if_pos c9] at H
 have c9b0 : decide (0 < (l0.length : Int)) = true:=decide_eq_true c9
 have c9b1 : decide (0 < l0.length) = true:=decide_eq_true (by omega)
 clear c9
 by_cases c10 : a1 ≥ ((z1g l0 0).length : Int)
 · rw [if_pos c10] at H
   have c10b0 : decide (((z1g l0 0).length : Int) ≤ a1) = true:=decide_eq_true c10
   clear c10
   simp only [Option.some.injEq,Prod.mk.injEq] at H
   obtain ⟨rfl,rfl⟩:=H
   go_enter Try.func20,Try.ntmps20
   go_wp2_with (first|((with_reducible refine zm (f:=74) rfl ?_);refine goesL_ (some 11) rfl rfl Try.func74 (by kernel_rfl) rfl #[.slice A0 l0.length c0] rfl (by (try simp only [List.map_toArray,List.map_cons,List.map_nil]);first|done|rfl|(simp only [List.length_drop,List.length_take];rfl)) ?_;(with_reducible refine (z1c.calls _ _ l0 true _ ?side1 ?side2 A3.out).mono ?_);(case side1=>repeat (first|exact HR0.out|(with_reducible refine Kd.zS ?_ _)|(with_reducible refine Kd.zT ?_ _)|(with_reducible refine Kd.z16 ?_)));(case side2=>exact HC0.out);rintro e w11 ⟨rfl,hb⟩;refine ⟨_,rfl,?_⟩;have n0_:=z2.mk (za (by repeat (first|(with_reducible first|exact HB.out|apply z4|apply z1|apply z3)|exact HB.out)) hb);clear HB;have HB:=n0_;clear n0_;(try clear hb);(try clear hb2);(try clear hk);(try clear hi);have p102 : 0 ≤ (0 : Int):=(by omega);have q102 : 0 < (l0.length : Int):=of_decide_eq_true (by first|(with_reducible assumption)|assumption);obtain ⟨ad102,A102_0,c102_0,e102,hx102_0,hl102_0,hi102_0⟩:=z3s HR0.out 0 p102 q102;cases e102;have qi102 : (0 < l0.length) = True:=eq_true (by omega);(try rw [show ((0 : Int)).toNat = 0 from rfl] at hx102_0);(try rw [Addr.add_zero'] at hx102_0);replace hx102_0:=(HB.out.cell (World.block_lt_of_cell? w _ hx102_0)).trans hx102_0;have HR102_0:=z2.mk hi102_0;have HC102_0:=z2.mk hl102_0;clear hi102_0 hl102_0;replace p102:=eq_true p102;replace q102:=eq_true q102))
   go_ret2
   exact ⟨_,by first|rfl|(simp [zh,zi] <;> rfl)|(simp [*,zh,zi] <;> rfl),by first|exact Kd.z25 _ _ _ _ _|exact Kd.z2i _ _ _ _ _|exact Kd.z2l _ _ _ _ _|exact Kd.z2j _ _ _ _ _|exact Kd.z2k _ _ _ _ _,by repeat (first|(with_reducible first|exact HB.out|apply z4|apply z1|apply z3)|exact HB.out)⟩
 rw [if_neg c10] at H
 have c10b0 : decide (((z1g l0 0).length : Int) ≤ a1) = false:=decide_eq_false c10
 clear c10
 have H':=z2.mk H
 clear H
 go_enter Try.func20,Try.ntmps20
 go_wp2_with (first|((with_reducible refine zm (f:=74) rfl ?_);refine goesL_ (some 11) rfl rfl Try.func74 (by kernel_rfl) rfl #[.slice A0 l0.length c0] rfl (by (try simp only [List.map_toArray,List.map_cons,List.map_nil]);first|done|rfl|(simp only [List.length_drop,List.length_take];rfl)) ?_;(with_reducible refine (z1c.calls _ _ l0 true _ ?side1 ?side2 A3.out).mono ?_);(case side1=>repeat (first|exact HR0.out|(with_reducible refine Kd.zS ?_ _)|(with_reducible refine Kd.zT ?_ _)|(with_reducible refine Kd.z16 ?_)));(case side2=>exact HC0.out);rintro e w12 ⟨rfl,hb⟩;refine ⟨_,rfl,?_⟩;have n0_:=z2.mk (za (by repeat (first|(with_reducible first|exact HB.out|apply z4|apply z1|apply z3)|exact HB.out)) hb);clear HB;have HB:=n0_;clear n0_;(try clear hb);(try clear hb2);(try clear hk);(try clear hi);have p102 : 0 ≤ (0 : Int):=(by omega);have q102 : 0 < (l0.length : Int):=of_decide_eq_true (by first|(with_reducible assumption)|assumption);obtain ⟨ad102,A102_0,c102_0,e102,hx102_0,hl102_0,hi102_0⟩:=z3s HR0.out 0 p102 q102;cases e102;have qi102 : (0 < l0.length) = True:=eq_true (by omega);(try rw [show ((0 : Int)).toNat = 0 from rfl] at hx102_0);(try rw [Addr.add_zero'] at hx102_0);replace hx102_0:=(HB.out.cell (World.block_lt_of_cell? w _ hx102_0)).trans hx102_0;have HR102_0:=z2.mk hi102_0;have HC102_0:=z2.mk hl102_0;clear hi102_0 hl102_0;replace p102:=eq_true p102;replace q102:=eq_true q102))
 go_loopg [6,31] k (fun kq v6 v31 w'=>∃ (x6_1 : List (S30)) (x31_1 : Int),v31 = .int .i64 x31_1 ∧ z2 (zW.l0 kq a1 x6_1 l0 (l0.length : Int) x31_1 = some (r1,r2)) ∧ z2 (kq ≤ k) ∧ z2 (Kd.R k30 30 w' w.heap.size (fun _=>True) v6 x6_1) ∧ z2 (Below w.heap.size w w'))
 case atStart=>exact ⟨(([] : List (S30))),(0),(by first|rfl|(simp;done)|(simp [*];done)),H',⟨Nat.le_refl _⟩,⟨by first|exact Kd.z25 _ _ _ _ _|exact Kd.z2i _ _ _ _ _|exact Kd.z2l _ _ _ _ _|exact Kd.z2j _ _ _ _ _|exact Kd.z2k _ _ _ _ _⟩,⟨by repeat (first|(with_reducible first|exact HB.out|apply z4|apply z1|apply z3)|exact HB.out)⟩⟩
 case round =>
  clear H'
  (try clear c1);(try clear p1);(try clear q1);(try clear hx1);(try clear qi1);(try clear c2);(try clear p2);(try clear c4);(try clear c5);(try clear c5b0);(try clear c5b1);(try clear c5b2);(try clear c7);(try clear c7b0);(try clear c9);(try clear c9b0);(try clear c9b1);(try clear c10);(try clear c10b0);(try clear p10);(try clear q10);(try clear hx10);(try clear qi10);(try clear hx102_0);(try clear p102);(try clear q102)
  obtain ⟨x6_1,x31_1,rfl,HA,HK1,HO_6,HB⟩:=hrel
  cases gk with
  | zero=>exact absurd HA.out (by simp [zW.l0])
  | succ k1 =>
   have H:=HA.out
   clear HA
   simp only [zW.l0] at H
   by_cases c13 : x31_1 < (l0.length : Int)
   rotate_left
   · rw [if_neg c13] at H
     have c13b0 : decide (x31_1 < (l0.length : Int)) = false:=decide_eq_false c13
     clear c13
     simp only [Option.some.injEq,Prod.mk.injEq] at H
     obtain ⟨rfl,rfl⟩:=H
     go_wp2
     go_ret2
     exact ⟨_,by first|rfl|(simp [zh,zi] <;> rfl)|(simp [*,zh,zi] <;> rfl),by (with_reducible repeat (first|apply Kd.zj|apply Kd.zk|apply Kd.zo));exact HO_6.out,by repeat (first|(with_reducible first|exact HB.out|apply z4|apply z1|apply z3)|exact HB.out)⟩
   rw [if_pos c13] at H
   have c13b0 : decide (x31_1 < (l0.length : Int)) = true:=decide_eq_true c13
   clear c13
   by_cases c14 : 0 ≤ x31_1
   rotate_left
   · rw [if_neg c14] at H
     exact absurd H (by simp)
   rw [if_pos c14] at H
   have c14b0 : decide (0 ≤ x31_1) = true:=decide_eq_true c14
   clear c14
   by_cases c15 : x31_1 < (l0.length : Int)
   rotate_left
   · rw [if_neg c15] at H
     exact absurd H (by simp)
   rw [if_pos c15] at H
   have c15b0 : decide (x31_1 < (l0.length : Int)) = true:=decide_eq_true c15
   clear c15
   by_cases c16 : 0 ≤ a1
   rotate_left
   · rw [if_neg c16] at H
     exact absurd H (by simp)
   rw [if_pos c16] at H
   have c16b0 : decide (0 ≤ a1) = true:=decide_eq_true c16
   clear c16
   by_cases c17 : a1 < ((z1g l0 x31_1).length : Int)
   rotate_left
   · rw [if_neg c17] at H
     exact absurd H (by simp)
   rw [if_pos c17] at H
   have c17b0 : decide (a1 < ((z1g l0 x31_1).length : Int)) = true:=decide_eq_true c17
   clear c17
   by_cases c18 : x6_1.length < 8796093022208
   rotate_left
   · rw [if_neg c18] at H
     exact absurd H (by simp)
   rw [if_pos c18] at H
   have LMc18:=z2.mk c18
   clear c18
   obtain ⟨y105,hy105⟩ : ∃ y_ : List (S30),y_ = (x6_1 ++ [(⟨(zq (z1g l0 x31_1) a1).f0,(zq (z1g l0 x31_1) a1).f1⟩ : S30)]):=⟨_,rfl⟩
   replace H : (zW.l0 k1 a1 y105 l0 (l0.length : Int) (wrap64 (x31_1 + 1))) = some (r1,r2):=by first|(rw [hy105];with_reducible exact H)|(have H2_:=(Option.bind_some _ _).symm.trans H;rw [hy105];with_reducible exact H2_)|(have H2_:=(Option.bind_some _ _).symm.trans H;with_reducible exact H2_)|with_reducible exact H|(rw [hy105];exact H)|exact H
   have Ny105:=z2.mk hy105
   clear hy105
   have H':=z2.mk H
   clear H
   have p103 : 0 ≤ (x31_1 : Int):=of_decide_eq_true (by first|(with_reducible assumption)|assumption)
   have q103 : x31_1 < (l0.length : Int):=of_decide_eq_true (by first|(with_reducible assumption)|assumption)
   obtain ⟨ad103,A103_0,c103_0,e103,hx103_0,hl103_0,hi103_0⟩:=z3s HR0.out x31_1 p103 q103
   obtain rfl : ad102 = ad103:=(by injection e103)
   replace hx103_0:=(HB.out.cell (World.block_lt_of_cell? w _ hx103_0)).trans hx103_0
   have HR103_0:=z2.mk hi103_0
   have HC103_0:=z2.mk hl103_0
   clear hi103_0 hl103_0
   replace p103:=eq_true p103
   replace q103:=eq_true q103
   have p104 : 0 ≤ (a1 : Int):=of_decide_eq_true (by first|(with_reducible assumption)|assumption)
   have q104 : a1 < ((z1g l0 x31_1).length : Int):=of_decide_eq_true (by first|(with_reducible assumption)|assumption)
   obtain ⟨ad104,e104,hx104_0,hx104_1⟩:=z2o HR103_0.out a1 p104 q104
   cases e104
   replace hx104_0:=(HB.out.cell (World.block_lt_of_cell? w _ hx104_0)).trans hx104_0
   replace hx104_1:=(HB.out.cell (World.block_lt_of_cell? w _ hx104_1)).trans hx104_1
   replace p104:=eq_true p104
   replace q104:=eq_true q104
   go_wp2_with (first|((with_reducible refine z1I (b:=.append) (xs:=#[.tmp 35,.tmp 40]) rfl ?_);(try (refine z2g (by rfl) ?_;dsimp only));at_builtin;refine Kd.z2w k30 (w0:=w) w.heap.size rfl (.tmp 35) (.tmp 40) 24 30 (.agg #[(.int .u64 0),(.int .u64 0)]) 16 rfl Try.underlying24 info30 rfl (by decide) (by omega) u6 x6_1 (⟨(zq (z1g l0 x31_1) a1).f0,(zq (z1g l0 x31_1) a1).f1⟩ : S30) [.int .u64 ((zq (z1g l0 x31_1) a1).f0),.int .u64 ((zq (z1g l0 x31_1) a1).f1)] (fun _=>True) (fun _=>False) rfl rfl ?aP (fun _ hk=>hk.elim) ?aF ?aO ?aB ?aS ?aL ?_;(case aP=>exact z1E _ _ _ (⟨(zq (z1g l0 x31_1) a1).f0,(zq (z1g l0 x31_1) a1).f1⟩ : S30));(case aB=>exact (by repeat (first|(with_reducible first|exact HB.out|apply z4|apply z1|apply z3)|exact HB.out)));(case aF=>exact (fun _ _=>trivial));(case aO=>exact (by (with_reducible repeat (first|apply Kd.zj|apply Kd.zk|apply Kd.zo));exact HO_6.out));(case aS=>exact (zc (by repeat (first|(with_reducible first|exact HB.out|apply z4|apply z1|apply z3)|exact HB.out))));(case aL=>have:=LMc18.out;omega);intro v106 w19 ho hb hg hat;rw [← Ny105.out] at ho;have n0_:=z2.mk (hb);have n1_:=z2.mk (ho);clear HB;clear HO_6;have HB:=n0_;have HO107:=n1_;clear n0_ n1_;clear ho hb hg hat))
   go_roundg k1
   case measure=>have:=HK1.out;omega
   case rel=>exact ⟨(y105),(wrap64 (x31_1 + 1)),(by first|rfl|(simp;done)|(simp [*];done)),H',⟨by have:=HK1.out;omega⟩,⟨by (with_reducible repeat (first|apply Kd.zj|apply Kd.zk|apply Kd.zo));exact HO107.out⟩,⟨by repeat (first|(with_reducible first|exact HB.out|apply z4|apply z1|apply z3)|exact HB.out)⟩⟩
end Go.Proofs.Ytkhmpaooinpfoaa.P
namespace Go.Proofs.Ytkhmpaooinpfoaa.P
open Go.RowKit Go.Proofs.YtkhmpaooinpfoaaW.PrintWords Go.Proofs.YtkhmpaooinpfoaaW.PrintLast Go.Proofs.YtkhmpaooinpfoaaW.PrintMore
attribute [local go_sem] z17 z19 z1j z1k zZ z10 z18 z1a   -- for this text's walks alone
set_option linter.unusedVariables false
set_option linter.unusedSimpArgs false
def zw.l0 : Nat → List (List (S40)) → Int → Option (Bool)
 | 0,_,_=>none
 | k + 1,x0,x3=>if x3 < (x0.length : Int) then (if 0 ≤ x3 then (if 0 < (x0.length : Int) then (if ((z1W x0 x3).length : Int) = ((z1W x0 0).length : Int) then (zw.l0 k x0 (wrap64 (x3 + 1))) else (some false)) else (none)) else (none)) else (some true)
def zw.f (k : Nat) (l0 : List (List (S40))) : Option (Bool):=zw.l0 k l0 0
theorem zw.z1b : ∀ k,(∀ y0 y1,LeO (zw.l0 k y0 y1) (zw.l0 (k + 1) y0 y1))
 | 0=>fun _ _ r h=>by simp [zw.l0] at h
 | k + 1=>by
  have ih0:=zw.z1b k
  · intro y0 y1
    unfold zw.l0
    repeat' first
    | (with_reducible exact ih0 _ _)
    | (with_reducible exact LeO.refl _)
    | (with_reducible exact LeO.none _)
    | (with_reducible refine LeO.ite ?_ ?_)
    | (with_reducible refine LeO.bind ?_ (fun _=>?_))
    | exact ih0 _ _
    | exact LeO.none _
    | refine LeO.ite ?_ ?_
    | refine LeO.bind ?_ (fun _=>?_)
theorem zw.mono : ∀ a0 k,LeO (zw.f k a0) (zw.f (k + 1) a0):=by
 intro a0 k
 have ih0:=zw.z1b k
 unfold zw.f
 repeat' first
  | (with_reducible exact ih0 _ _)
  | (with_reducible exact LeO.refl _)
  | (with_reducible exact LeO.none _)
  | (with_reducible refine LeO.ite ?_ ?_)
  | (with_reducible refine LeO.bind ?_ (fun _=>?_))
  | exact ih0 _ _
  | exact LeO.none _
  | refine LeO.ite ?_ ?_
  | refine LeO.bind ?_ (fun _=>?_)
set_option maxHeartbeats 8000000 in
set_option maxRecDepth 100000 in
theorem zw.calls (k : Nat) (A0 : Option Addr) (c0 : Nat) (l0 : List (List (S40))) (r : Bool) (w : World) (hr0 : Kd.C (Kd.slice 40 k40) w A0 l0.length l0) (hc0 : l0.length ≤ c0) (h : zw.f k l0 = some r) :
 Calls Try.prog 75 #[.slice A0 l0.length c0] w fun e w'=>e = .returned (.bool r) ∧ Drawn0 w w':=by
 have HR0:=z2.mk hr0
 have HC0:=z2.mk hc0
 clear hr0 hc0
 have H : (zw.l0 k l0 0) = some r:=h
 clear h
 have H':=z2.mk H
 clear H
 go_enter Try.func75,Try.ntmps75
 go_wp2
 repeat (go_quiet (fail);try go_wp2)
 go_loopg [3] k (fun kq v3 w'=>∃ (x3_1 : Int),v3 = .int .i64 x3_1 ∧ z2 (zw.l0 kq l0 x3_1 = some r) ∧ z2 (kq ≤ k) ∧ Drawn0 w w')
 case atStart=>exact ⟨(0),(by first|rfl|(simp;done)|(simp [*];done)),H',⟨Nat.le_refl _⟩,by repeat (first|exact Drawn0.refl _|apply Drawn0.step)⟩
 case round =>
  clear H'
  obtain ⟨x3_1,rfl,HA,HK1,⟨m1,rfl⟩⟩:=hrel
  cases gk with
  | zero=>exact absurd HA.out (by simp [zw.l0])
  | succ k1 =>
   have H:=HA.out
   clear HA
   simp only [zw.l0] at H
   by_cases c2 : x3_1 < (l0.length : Int)
   rotate_left
   · rw [if_neg c2] at H
     have c2b0 : decide (x3_1 < (l0.length : Int)) = false:=decide_eq_false c2
     clear c2
     obtain rfl:=Option.some.inj H
     go_wp2
     repeat (go_quiet (fail);try go_wp2)
     go_ret
     exact ⟨by first|rfl|(simp;done)|(simp [*];done),by repeat (first|exact Drawn0.refl _|apply Drawn0.step)⟩
   rw [if_pos c2] at H
   have c2b0 : decide (x3_1 < (l0.length : Int)) = true:=decide_eq_true c2
   clear c2
   by_cases c3 : 0 ≤ x3_1
   rotate_left
   · rw [if_neg c3] at H
     exact absurd H (by simp)
   rw [if_pos c3] at H
   have c3b0 : decide (0 ≤ x3_1) = true:=decide_eq_true c3
   clear c3
   by_cases c4 : 0 < (l0.length : Int)
   rotate_left
   · rw [if_neg c4] at H
     exact absurd H (by simp)
   rw [if_pos c4] at H
   have c4b0 : decide (0 < (l0.length : Int)) = true:=decide_eq_true c4
   have c4b1 : decide (0 < l0.length) = true:=decide_eq_true (by omega)
   clear c4
   by_cases c5 : ((z1W l0 x3_1).length : Int) = ((z1W l0 0).length : Int)
   rotate_left
   · rw [if_neg c5] at H
     have c5b0 : (((z1W l0 x3_1).length : Int) == ((z1W l0 0).length : Int)) = false:=beq_eq_false_iff_ne.mpr c5
     have c5b1 : (((z1W l0 x3_1).length : Int) != ((z1W l0 0).length : Int)) = true:=bne_iff_ne.mpr c5
     have c5b2 : ((z1W l0 x3_1).length == (z1W l0 0).length) = false:=by first|simpa using c5|(simp at c5 ⊢;omega)
     obtain rfl:=Option.some.inj H
     have p101 : 0 ≤ (x3_1 : Int):=of_decide_eq_true (by first|(with_reducible assumption)|assumption)
     have q101 : x3_1 < (l0.length : Int):=of_decide_eq_true (by first|(with_reducible assumption)|assumption)
     obtain ⟨ad101,A101_0,c101_0,e101,hx101_0,hl101_0,hi101_0⟩:=z4T HR0.out x3_1 p101 q101
     cases e101
     have HR101_0:=z2.mk hi101_0
     have HC101_0:=z2.mk hl101_0
     clear hi101_0 hl101_0
     replace p101:=eq_true p101
     replace q101:=eq_true q101
     have p102 : 0 ≤ (0 : Int):=(by omega)
     have q102 : 0 < (l0.length : Int):=of_decide_eq_true (by first|(with_reducible assumption)|assumption)
     obtain ⟨ad102,A102_0,c102_0,e102,hx102_0,hl102_0,hi102_0⟩:=z4T HR0.out 0 p102 q102
     obtain rfl : ad101 = ad102:=(by injection e102)
     have qi102 : (0 < l0.length) = True:=eq_true (by omega)
     (try rw [show ((0 : Int)).toNat = 0 from rfl] at hx102_0)
     (try rw [Addr.add_zero'] at hx102_0)
     have HR102_0:=z2.mk hi102_0
     have HC102_0:=z2.mk hl102_0
     clear hi102_0 hl102_0
     replace p102:=eq_true p102
     replace q102:=eq_true q102
     go_wp2
     repeat (go_quiet (fail);try go_wp2)
     go_ret
     exact ⟨by first|rfl|(simp;done)|(simp [*];done),by repeat (first|exact Drawn0.refl _|apply Drawn0.step)⟩
   rw [if_pos c5] at H
   have c5b0 : (((z1W l0 x3_1).length : Int) == ((z1W l0 0).length : Int)) = true:=beq_iff_eq.mpr c5
   have c5b1 : (((z1W l0 x3_1).length : Int) != ((z1W l0 0).length : Int)) = false:=bne_eq_false_iff_eq.mpr c5
   have c5b2 : ((z1W l0 x3_1).length == (z1W l0 0).length) = true:=by first|simpa using c5|(simp at c5 ⊢;omega)
   clear c5
   have H':=z2.mk H
   clear H
   have p101 : 0 ≤ (x3_1 : Int):=of_decide_eq_true (by first|(with_reducible assumption)|assumption)
   have q101 : x3_1 < (l0.length : Int):=of_decide_eq_true (by first|(with_reducible assumption)|assumption)
   obtain ⟨ad101,A101_0,c101_0,e101,hx101_0,hl101_0,hi101_0⟩:=z4T HR0.out x3_1 p101 q101
   cases e101
   have HR101_0:=z2.mk hi101_0
   have HC101_0:=z2.mk hl101_0
   clear hi101_0 hl101_0
   replace p101:=eq_true p101
   replace q101:=eq_true q101
   have p102 : 0 ≤ (0 : Int):=(by omega)
   have q102 : 0 < (l0.length : Int):=of_decide_eq_true (by first|(with_reducible assumption)|assumption)
   obtain ⟨ad102,A102_0,c102_0,e102,hx102_0,hl102_0,hi102_0⟩:=z4T HR0.out 0 p102 q102
   obtain rfl : ad101 = ad102:=(by injection e102)
   have qi102 : (0 < l0.length) = True:=eq_true (by omega)
   (try rw [show ((0 : Int)).toNat = 0 from rfl] at hx102_0)
   (try rw [Addr.add_zero'] at hx102_0)
   have HR102_0:=z2.mk hi102_0
   have HC102_0:=z2.mk hl102_0
   clear hi102_0 hl102_0
   replace p102:=eq_true p102
   replace q102:=eq_true q102
   go_wp2
   repeat (go_quiet (fail);try go_wp2)
   go_roundg k1
   case measure=>have:=HK1.out;omega
   case rel=>exact ⟨(wrap64 (x3_1 + 1)),(by first|rfl|(simp;done)|(simp [*];done)),H',⟨by have:=HK1.out;omega⟩,by repeat (first|exact Drawn0.refl _|apply Drawn0.step)⟩
end Go.Proofs.Ytkhmpaooinpfoaa.P
namespace Go.Proofs.Ytkhmpaooinpfoaa.P
open Go.RowKit Go.Proofs.YtkhmpaooinpfoaaW.PrintWords Go.Proofs.YtkhmpaooinpfoaaW.PrintLast Go.Proofs.YtkhmpaooinpfoaaW.PrintMore
attribute [local go_sem] z17 z19 z1j z1k zZ z10 z18 z1a   -- for this text's walks alone
set_option linter.unusedVariables false
set_option linter.unusedSimpArgs false
mutual
def zf.j0 : Nat → List (List (S40)) → Int → List (S40) → Bool → Option ((List (S40)) × Int)
 | 0,_,_,_,_=>none
 | k + 1,x0,x1,x6,x25=>if x25 = true then (some (([] : List (S40)),4)) else (zf.l0 k x0 x1 x6 0)
def zf.l0 : Nat → List (List (S40)) → Int → List (S40) → Int → Option ((List (S40)) × Int)
 | 0,_,_,_,_=>none
 | k + 1,x0,x1,x6,x7=>if x7 < (x0.length : Int) then (if 0 ≤ x7 then (if 0 ≤ x1 then (if x1 < ((z1W x0 x7).length : Int) then (if x6.length < 8796093022208 then (zf.l0 k x0 x1 (x6 ++ [(⟨(z1n (z1W x0 x7) x1).f0,(z1n (z1W x0 x7) x1).f1⟩ : S40)]) (wrap64 (x7 + 1))) else (none)) else (none)) else (none)) else (none)) else (some (x6,0))
end
def zf.f (k : Nat) (l0 : List (List (S40))) (a1 : Int) : Option ((List (S40)) × Int):=(zw.f k l0).bind fun t101=>(if t101 = true then (if (l0.length : Int) = 0 then (zf.j0 k l0 a1 ([] : List (S40)) true) else (if a1 < 0 then (zf.j0 k l0 a1 ([] : List (S40)) true) else (if 0 < (l0.length : Int) then (zf.j0 k l0 a1 ([] : List (S40)) (decide (a1 ≥ ((z1W l0 0).length : Int)))) else (none)))) else (some (([] : List (S40)),6)))
theorem zf.z1b : ∀ k,(∀ y0 y1 y2 y3,LeO (zf.j0 k y0 y1 y2 y3) (zf.j0 (k + 1) y0 y1 y2 y3)) ∧ (∀ y0 y1 y2 y3,LeO (zf.l0 k y0 y1 y2 y3) (zf.l0 (k + 1) y0 y1 y2 y3))
 | 0=>⟨fun _ _ _ _ r h=>by simp [zf.j0] at h,fun _ _ _ _ r h=>by simp [zf.l0] at h⟩
 | k + 1=>by
  obtain ⟨ih0,ih1⟩:=zf.z1b k
  refine ⟨?_,?_⟩
  · intro y0 y1 y2 y3
    unfold zf.j0
    repeat' first
    | (with_reducible exact ih0 _ _ _ _)
    | (with_reducible exact ih1 _ _ _ _)
    | (with_reducible exact zw.mono _ _)
    | (with_reducible exact LeO.refl _)
    | (with_reducible exact LeO.none _)
    | (with_reducible refine LeO.ite ?_ ?_)
    | (with_reducible refine LeO.bind ?_ (fun _=>?_))
    | exact ih0 _ _ _ _
    | exact ih1 _ _ _ _
    | exact zw.mono _ _
    | exact LeO.none _
    | refine LeO.ite ?_ ?_
    | refine LeO.bind ?_ (fun _=>?_)
  · intro y0 y1 y2 y3
    unfold zf.l0
    repeat' first
    | (with_reducible exact ih0 _ _ _ _)
    | (with_reducible exact ih1 _ _ _ _)
    | (with_reducible exact zw.mono _ _)
    | (with_reducible exact LeO.refl _)
    | (with_reducible exact LeO.none _)
    | (with_reducible refine LeO.ite ?_ ?_)
    | (with_reducible refine LeO.bind ?_ (fun _=>?_))
    | exact ih0 _ _ _ _
    | exact ih1 _ _ _ _
    | exact zw.mono _ _
    | exact LeO.none _
    | refine LeO.ite ?_ ?_
    | refine LeO.bind ?_ (fun _=>?_)
theorem zf.mono : ∀ a0 a1 k,LeO (zf.f k a0 a1) (zf.f (k + 1) a0 a1):=by
 intro a0 a1 k
 obtain ⟨ih0,ih1⟩:=zf.z1b k
 unfold zf.f
 repeat' first
  | (with_reducible exact ih0 _ _ _ _)
  | (with_reducible exact ih1 _ _ _ _)
  | (with_reducible exact zw.mono _ _)
  | (with_reducible exact LeO.refl _)
  | (with_reducible exact LeO.none _)
  | (with_reducible refine LeO.ite ?_ ?_)
  | (with_reducible refine LeO.bind ?_ (fun _=>?_))
  | exact ih0 _ _ _ _
  | exact ih1 _ _ _ _
  | exact zw.mono _ _
  | exact LeO.none _
  | refine LeO.ite ?_ ?_
  | refine LeO.bind ?_ (fun _=>?_)
set_option maxHeartbeats 8000000 in
set_option maxRecDepth 100000 in
theorem zf.calls (k : Nat) (A0 : Option Addr) (c0 : Nat) (l0 : List (List (S40))) (a1 : Int) (r1 : List (S40)) (r2 : Int) (w : World) (hr0 : Kd.C (Kd.slice 40 k40) w A0 l0.length l0) (hc0 : l0.length ≤ c0) (h : zf.f k l0 a1 = some (r1,r2)) :
 Calls Try.prog 21 #[.slice A0 l0.length c0,.int .i64 a1] w fun e w'=>∃ v0_ : Value,e = .returned (.tuple #[v0_,.int .i64 r2]) ∧ Kd.R k40 40 w' w.heap.size (fun _=>True) v0_ r1 ∧ Below w.heap.size w w':=by
 have hu40:=Try.underlying40
 have HR0:=z2.mk hr0
 have HC0:=z2.mk hc0
 clear hr0 hc0
 have HB:=z2.mk (Below.refl w.heap.size w)
 have H : ((zw.f k l0).bind fun t101=>(if t101 = true then (if (l0.length : Int) = 0 then (zf.j0 k l0 a1 ([] : List (S40)) true) else (if a1 < 0 then (zf.j0 k l0 a1 ([] : List (S40)) true) else (if 0 < (l0.length : Int) then (zf.j0 k l0 a1 ([] : List (S40)) (decide (a1 ≥ ((z1W l0 0).length : Int)))) else (none)))) else (some (([] : List (S40)),6)))) = some (r1,r2):=h
 clear h
 replace H:=Option.bind_eq_some_iff.mp H
 obtain ⟨t101,A30,H⟩:=H
 replace H : (if t101 = true then (if (l0.length : Int) = 0 then (zf.j0 k l0 a1 ([] : List (S40)) true) else (if a1 < 0 then (zf.j0 k l0 a1 ([] : List (S40)) true) else (if 0 < (l0.length : Int) then (zf.j0 k l0 a1 ([] : List (S40)) (decide (a1 ≥ ((z1W l0 0).length : Int)))) else (none)))) else (some (([] : List (S40)),6))) = some (r1,r2):=H
 have A3:=z2.mk A30
 clear A30
 by_cases c4 : t101 = true
 rotate_left
 · replace c4:=Bool.eq_false_iff.mpr c4
   subst c4
   have H1 : (some (([] : List (S40)),6)) = some (r1,r2):=by rw [if_neg (show ¬ (false = true) by decide)] at H;exact H
   clear H
   have H:=H1
   clear H1
   simp only [Option.some.injEq,Prod.mk.injEq] at H
   obtain ⟨rfl,rfl⟩:=H
   go_enter Try.func21,Try.ntmps21
   go_wp2_with (first|((with_reducible refine zm (f:=75) rfl ?_);refine goesL_ (some 9) rfl rfl Try.func75 (by kernel_rfl) rfl #[.slice A0 l0.length c0] rfl (by (try simp only [List.map_toArray,List.map_cons,List.map_nil]);first|done|rfl|(simp only [List.length_drop,List.length_take];rfl)) ?_;(with_reducible refine (zw.calls k _ _ l0 false _ ?side1 ?side2 A3.out).mono ?_);(case side1=>repeat (first|exact HR0.out|(with_reducible refine Kd.zS ?_ _)|(with_reducible refine Kd.zT ?_ _)|(with_reducible refine Kd.z16 ?_)));(case side2=>exact HC0.out);rintro e w' ⟨rfl,⟨nd,rfl⟩⟩;refine ⟨_,rfl,?_⟩))
   go_ret2
   exact ⟨_,by first|rfl|(simp [zh,zi] <;> rfl)|(simp [*,zh,zi] <;> rfl),by first|exact Kd.z25 _ _ _ _ _|exact Kd.z2i _ _ _ _ _|exact Kd.z2l _ _ _ _ _|exact Kd.z2j _ _ _ _ _|exact Kd.z2k _ _ _ _ _,by repeat (first|(with_reducible first|exact HB.out|apply z4|apply z1|apply z3)|exact HB.out)⟩
 subst c4
 have H1 : (if (l0.length : Int) = 0 then (zf.j0 k l0 a1 ([] : List (S40)) true) else (if a1 < 0 then (zf.j0 k l0 a1 ([] : List (S40)) true) else (if 0 < (l0.length : Int) then (zf.j0 k l0 a1 ([] : List (S40)) (decide (a1 ≥ ((z1W l0 0).length : Int)))) else (none)))) = some (r1,r2):=by rw [if_pos rfl] at H;exact H
 clear H
 have H:=H1
 clear H1
 have HC5:=z2.mk H
 clear H
 go_enter Try.func21,Try.ntmps21
 go_upto_region 4 with (first|((with_reducible refine zm (f:=75) rfl ?_);refine goesL_ (some 9) rfl rfl Try.func75 (by kernel_rfl) rfl #[.slice A0 l0.length c0] rfl (by (try simp only [List.map_toArray,List.map_cons,List.map_nil]);first|done|rfl|(simp only [List.length_drop,List.length_take];rfl)) ?_;(with_reducible refine (zw.calls k _ _ l0 true _ ?side1 ?side2 A3.out).mono ?_);(case side1=>repeat (first|exact HR0.out|(with_reducible refine Kd.zS ?_ _)|(with_reducible refine Kd.zT ?_ _)|(with_reducible refine Kd.z16 ?_)));(case side2=>exact HC0.out);rintro e w' ⟨rfl,⟨nd,rfl⟩⟩;refine ⟨_,rfl,?_⟩))
 (try simp only [Act.put,List.setIfInBounds_toArray,List.set_cons_zero,List.set_cons_succ])
 go_cut [25] (fun v25 wc=>∃ (kq : Nat) (x25_4 : Bool),v25 = .bool x25_4 ∧ z2 (zf.j0 kq l0 a1 ([] : List (S40)) x25_4 = some (r1,r2)) ∧ z2 (kq ≤ k) ∧ z2 (Kd.R k40 40 wc w.heap.size (fun _=>True) (.slice none 0 0) ([] : List (S40))) ∧ z2 (Below w.heap.size w wc))
 case first =>
  have H:=HC5.out
  clear HC5
  by_cases c6 : (l0.length : Int) = 0
  · rw [if_pos c6] at H
    have c6b0 : ((l0.length : Int) == 0) = true:=beq_iff_eq.mpr c6
    have c6b1 : ((l0.length : Int) != 0) = false:=bne_eq_false_iff_eq.mpr c6
    clear c6
    (first|rw [c6b0]|(simp only [zD,zG];rw [c6b0])|skip)
    have H':=z2.mk H
    clear H
    go_wp2
    go_meet
    case rel=>exact ⟨_,(true),(by first|rfl|(simp;done)|(simp [*];done)),H',⟨by first|omega|exact Nat.le_refl _⟩,⟨by first|exact Kd.z25 _ _ _ _ _|exact Kd.z2i _ _ _ _ _|exact Kd.z2l _ _ _ _ _|exact Kd.z2j _ _ _ _ _|exact Kd.z2k _ _ _ _ _⟩,⟨by repeat (first|(with_reducible first|exact HB.out|apply z4|apply z1|apply z3)|exact HB.out)⟩⟩
  rw [if_neg c6] at H
  have c6b0 : ((l0.length : Int) == 0) = false:=beq_eq_false_iff_ne.mpr c6
  have c6b1 : ((l0.length : Int) != 0) = true:=bne_iff_ne.mpr c6
  have c6b2 : ¬ (l0 = []):=fun h_=>c6 (by rw [h_];rfl)
  (first|rw [c6b0]|(simp only [zD,zG];rw [c6b0])|skip)
  by_cases c7 : a1 < 0
  · rw [if_pos c7] at H
    have c7b0 : decide (a1 < 0) = true:=decide_eq_true c7
    clear c7
    have H':=z2.mk H
    clear H
    go_wp2
    go_meet
    case rel=>exact ⟨_,(true),(by first|rfl|(simp;done)|(simp [*];done)),H',⟨by first|omega|exact Nat.le_refl _⟩,⟨by first|exact Kd.z25 _ _ _ _ _|exact Kd.z2i _ _ _ _ _|exact Kd.z2l _ _ _ _ _|exact Kd.z2j _ _ _ _ _|exact Kd.z2k _ _ _ _ _⟩,⟨by repeat (first|(with_reducible first|exact HB.out|apply z4|apply z1|apply z3)|exact HB.out)⟩⟩
  rw [if_neg c7] at H
  have c7b0 : decide (a1 < 0) = false:=decide_eq_false c7
  clear c7
  by_cases c8 : 0 < (l0.length : Int)
  rotate_left
  · rw [if_neg c8] at H
    exact absurd H (by simp)
  rw [if_pos c8] at H
  have c8b0 : decide (0 < (l0.length : Int)) = true:=decide_eq_true c8
  have c8b1 : decide (0 < l0.length) = true:=decide_eq_true (by omega)
  clear c8
  have H':=z2.mk H
  clear H
  have p102 : 0 ≤ (0 : Int):=(by omega)
  have q102 : 0 < (l0.length : Int):=of_decide_eq_true (by first|(with_reducible assumption)|assumption)
  obtain ⟨ad102,A102_0,c102_0,e102,hx102_0,hl102_0,hi102_0⟩:=z4T HR0.out 0 p102 q102
  cases e102
  have qi102 : (0 < l0.length) = True:=eq_true (by omega)
  (try rw [show ((0 : Int)).toNat = 0 from rfl] at hx102_0)
  (try rw [Addr.add_zero'] at hx102_0)
  replace hx102_0:=(HB.out.cell (World.block_lt_of_cell? w _ hx102_0)).trans hx102_0
  have HR102_0:=z2.mk hi102_0
  have HC102_0:=z2.mk hl102_0
  clear hi102_0 hl102_0
  replace p102:=eq_true p102
  replace q102:=eq_true q102
  go_wp2
  go_meet
  case rel=>exact ⟨_,(decide (a1 ≥ ((z1W l0 0).length : Int))),(by first|rfl|(simp;done)|(simp [*];done)),H',⟨by first|omega|exact Nat.le_refl _⟩,⟨by first|exact Kd.z25 _ _ _ _ _|exact Kd.z2i _ _ _ _ _|exact Kd.z2l _ _ _ _ _|exact Kd.z2j _ _ _ _ _|exact Kd.z2k _ _ _ _ _⟩,⟨by repeat (first|(with_reducible first|exact HB.out|apply z4|apply z1|apply z3)|exact HB.out)⟩⟩
 case rest =>
  clear HC5
  (try clear c1);(try clear p1);(try clear q1);(try clear hx1);(try clear qi1);(try clear c2);(try clear p2);(try clear c4);(try clear c6);(try clear c6b0);(try clear c6b1);(try clear c6b2);(try clear c7);(try clear c7b0);(try clear c8);(try clear c8b0);(try clear c8b1);(try clear hx102_0);(try clear p102);(try clear q102)
  obtain ⟨kq,x25_4,rfl,HA,HJ4,HO_6,HB⟩:=hcut
  cases kq with
  | zero=>exact absurd HA.out (by simp [zf.j0])
  | succ kj4 =>
   have H:=HA.out
   clear HA
   simp only [zf.j0] at H
   by_cases c9 : x25_4 = true
   · subst c9
     have H1 : (some (([] : List (S40)),4)) = some (r1,r2):=by rw [if_pos rfl] at H;exact H
     clear H
     have H:=H1
     clear H1
     simp only [Option.some.injEq,Prod.mk.injEq] at H
     obtain ⟨rfl,rfl⟩:=H
     go_wp2
     go_ret2
     exact ⟨_,by first|rfl|(simp [zh,zi] <;> rfl)|(simp [*,zh,zi] <;> rfl),by first|exact Kd.z25 _ _ _ _ _|exact Kd.z2i _ _ _ _ _|exact Kd.z2l _ _ _ _ _|exact Kd.z2j _ _ _ _ _|exact Kd.z2k _ _ _ _ _,by repeat (first|(with_reducible first|exact HB.out|apply z4|apply z1|apply z3)|exact HB.out)⟩
   replace c9:=Bool.eq_false_iff.mpr c9
   subst c9
   have H1 : (zf.l0 kj4 l0 a1 ([] : List (S40)) 0) = some (r1,r2):=by rw [if_neg (show ¬ (false = true) by decide)] at H;exact H
   clear H
   have H:=H1
   clear H1
   have H':=z2.mk H
   clear H
   go_wp2
   go_loopg [6,7] kj4 (fun kq v6 v7 w'=>∃ (x6_2 : List (S40)) (x7_2 : Int),v7 = .int .i64 x7_2 ∧ z2 (zf.l0 kq l0 a1 x6_2 x7_2 = some (r1,r2)) ∧ z2 (kq ≤ kj4) ∧ z2 (Kd.R k40 40 w' w.heap.size (fun _=>True) v6 x6_2) ∧ z2 (Below w.heap.size w w'))
   case atStart=>exact ⟨(([] : List (S40))),(0),(by first|rfl|(simp;done)|(simp [*];done)),H',⟨Nat.le_refl _⟩,⟨by (with_reducible repeat (first|apply Kd.zj|apply Kd.zk|apply Kd.zo));exact HO_6.out⟩,⟨by repeat (first|(with_reducible first|exact HB.out|apply z4|apply z1|apply z3)|exact HB.out)⟩⟩
   case round =>
    clear H'
    (try clear c1);(try clear p1);(try clear q1);(try clear hx1);(try clear qi1);(try clear c2);(try clear p2);(try clear c4);(try clear c6);(try clear c6b0);(try clear c6b1);(try clear c6b2);(try clear c7);(try clear c7b0);(try clear c8);(try clear c8b0);(try clear c8b1);(try clear c9);(try clear hx102_0);(try clear p1);(try clear p102);(try clear p2);(try clear q1);(try clear q102)
    obtain ⟨x6_2,x7_2,rfl,HA,HK2,HO_6,HB⟩:=hrel
    cases gk with
    | zero=>exact absurd HA.out (by simp [zf.l0])
    | succ k2 =>
     have H:=HA.out
     clear HA
     simp only [zf.l0] at H
     by_cases c10 : x7_2 < (l0.length : Int)
     rotate_left
     · rw [if_neg c10] at H
       have c10b0 : decide (x7_2 < (l0.length : Int)) = false:=decide_eq_false c10
       clear c10
       simp only [Option.some.injEq,Prod.mk.injEq] at H
       obtain ⟨rfl,rfl⟩:=H
       go_wp2
       go_ret2
       exact ⟨_,by first|rfl|(simp [zh,zi] <;> rfl)|(simp [*,zh,zi] <;> rfl),by (with_reducible repeat (first|apply Kd.zj|apply Kd.zk|apply Kd.zo));exact HO_6.out,by repeat (first|(with_reducible first|exact HB.out|apply z4|apply z1|apply z3)|exact HB.out)⟩
     rw [if_pos c10] at H
     have c10b0 : decide (x7_2 < (l0.length : Int)) = true:=decide_eq_true c10
     clear c10
     by_cases c11 : 0 ≤ x7_2
     rotate_left
     · rw [if_neg c11] at H
       exact absurd H (by simp)
     rw [if_pos c11] at H
     have c11b0 : decide (0 ≤ x7_2) = true:=decide_eq_true c11
     clear c11
     by_cases c12 : 0 ≤ a1
     rotate_left
     · rw [if_neg c12] at H
       exact absurd H (by simp)
     rw [if_pos c12] at H
     have c12b0 : decide (0 ≤ a1) = true:=decide_eq_true c12
     clear c12
     by_cases c13 : a1 < ((z1W l0 x7_2).length : Int)
     rotate_left
     · rw [if_neg c13] at H
       exact absurd H (by simp)
     rw [if_pos c13] at H
     have c13b0 : decide (a1 < ((z1W l0 x7_2).length : Int)) = true:=decide_eq_true c13
     clear c13
     by_cases c14 : x6_2.length < 8796093022208
     rotate_left
     · rw [if_neg c14] at H
       exact absurd H (by simp)
     rw [if_pos c14] at H
     have LMc14:=z2.mk c14
     clear c14
     obtain ⟨y105,hy105⟩ : ∃ y_ : List (S40),y_ = (x6_2 ++ [(⟨(z1n (z1W l0 x7_2) a1).f0,(z1n (z1W l0 x7_2) a1).f1⟩ : S40)]):=⟨_,rfl⟩
     replace H : (zf.l0 k2 l0 a1 y105 (wrap64 (x7_2 + 1))) = some (r1,r2):=by first|(rw [hy105];with_reducible exact H)|(have H2_:=(Option.bind_some _ _).symm.trans H;rw [hy105];with_reducible exact H2_)|(have H2_:=(Option.bind_some _ _).symm.trans H;with_reducible exact H2_)|with_reducible exact H|(rw [hy105];exact H)|exact H
     have Ny105:=z2.mk hy105
     clear hy105
     have H':=z2.mk H
     clear H
     have p103 : 0 ≤ (x7_2 : Int):=of_decide_eq_true (by first|(with_reducible assumption)|assumption)
     have q103 : x7_2 < (l0.length : Int):=of_decide_eq_true (by first|(with_reducible assumption)|assumption)
     obtain ⟨ad103,A103_0,c103_0,e103,hx103_0,hl103_0,hi103_0⟩:=z4T HR0.out x7_2 p103 q103
     cases e103
     replace hx103_0:=(HB.out.cell (World.block_lt_of_cell? w _ hx103_0)).trans hx103_0
     have HR103_0:=z2.mk hi103_0
     have HC103_0:=z2.mk hl103_0
     clear hi103_0 hl103_0
     replace p103:=eq_true p103
     replace q103:=eq_true q103
     have p104 : 0 ≤ (a1 : Int):=of_decide_eq_true (by first|(with_reducible assumption)|assumption)
     have q104 : a1 < ((z1W l0 x7_2).length : Int):=of_decide_eq_true (by first|(with_reducible assumption)|assumption)
     obtain ⟨ad104,e104,hx104_0,hx104_1⟩:=z3m HR103_0.out a1 p104 q104
     cases e104
     replace hx104_0:=(HB.out.cell (World.block_lt_of_cell? w _ hx104_0)).trans hx104_0
     replace hx104_1:=(HB.out.cell (World.block_lt_of_cell? w _ hx104_1)).trans hx104_1
     replace p104:=eq_true p104
     replace q104:=eq_true q104
     go_wp2_with (first|((with_reducible refine z1I (b:=.append) (xs:=#[.tmp 32,.tmp 40]) rfl ?_);(try (refine z2g (by rfl) ?_;dsimp only));at_builtin;refine Kd.z2w k40 (w0:=w) w.heap.size rfl (.tmp 32) (.tmp 40) 36 40 (.agg #[(.int .u64 0),(.int .u64 0)]) 16 rfl Try.underlying36 info40 rfl (by decide) (by omega) u6 x6_2 (⟨(z1n (z1W l0 x7_2) a1).f0,(z1n (z1W l0 x7_2) a1).f1⟩ : S40) [.int .u64 ((z1n (z1W l0 x7_2) a1).f0),.int .u64 ((z1n (z1W l0 x7_2) a1).f1)] (fun _=>True) (fun _=>False) rfl rfl ?aP (fun _ hk=>hk.elim) ?aF ?aO ?aB ?aS ?aL ?_;(case aP=>exact z3C _ _ _ (⟨(z1n (z1W l0 x7_2) a1).f0,(z1n (z1W l0 x7_2) a1).f1⟩ : S40));(case aB=>exact (by repeat (first|(with_reducible first|exact HB.out|apply z4|apply z1|apply z3)|exact HB.out)));(case aF=>exact (fun _ _=>trivial));(case aO=>exact (by (with_reducible repeat (first|apply Kd.zj|apply Kd.zk|apply Kd.zo));exact HO_6.out));(case aS=>exact (zc (by repeat (first|(with_reducible first|exact HB.out|apply z4|apply z1|apply z3)|exact HB.out))));(case aL=>have:=LMc14.out;omega);intro v106 w15 ho hb hg hat;rw [← Ny105.out] at ho;have n0_:=z2.mk (hb);have n1_:=z2.mk (ho);clear HB;clear HO_6;have HB:=n0_;have HO107:=n1_;clear n0_ n1_;clear ho hb hg hat))
     go_roundg k2
     case measure=>have:=HJ4.out;have:=HK2.out;omega
     case rel=>exact ⟨(y105),(wrap64 (x7_2 + 1)),(by first|rfl|(simp;done)|(simp [*];done)),H',⟨by have:=HJ4.out;have:=HK2.out;omega⟩,⟨by (with_reducible repeat (first|apply Kd.zj|apply Kd.zk|apply Kd.zo));exact HO107.out⟩,⟨by repeat (first|(with_reducible first|exact HB.out|apply z4|apply z1|apply z3)|exact HB.out)⟩⟩
end Go.Proofs.Ytkhmpaooinpfoaa.P
namespace Go.Proofs.Ytkhmpaooinpfoaa.P
open Go.RowKit Go.Proofs.YtkhmpaooinpfoaaW.PrintWords Go.Proofs.YtkhmpaooinpfoaaW.PrintLast Go.Proofs.YtkhmpaooinpfoaaW.PrintMore
attribute [local go_sem] z17 z19 z1j z1k zZ z10 z18 z1a   -- for this text's walks alone
set_option linter.unusedVariables false
set_option linter.unusedSimpArgs false
def zu.l0 : Nat → List (List (S30)) → List (List (S40)) → Int → Option ((List (List (S40))))
 | 0,_,_,_=>none
 | k + 1,x0,x3,x4=>if x4 < (x0.length : Int) then (if 0 ≤ x4 then ((zy.f k (z1g x0 x4)).bind fun t102=>(if x3.length < 5864062014805 then (zu.l0 k x0 (x3 ++ [t102]) (wrap64 (x4 + 1))) else (none))) else (none)) else (some x3)
def zu.f (k : Nat) (l0 : List (List (S30))) : Option ((List (List (S40)))):=zu.l0 k l0 ([] : List (List (S40))) 0
theorem zu.z1b : ∀ k,(∀ y0 y1 y2,LeO (zu.l0 k y0 y1 y2) (zu.l0 (k + 1) y0 y1 y2))
 | 0=>fun _ _ _ r h=>by simp [zu.l0] at h
 | k + 1=>by
  have ih0:=zu.z1b k
  · intro y0 y1 y2
    unfold zu.l0
    repeat' first
    | (with_reducible exact ih0 _ _ _)
    | (with_reducible exact zy.mono _ _)
    | (with_reducible exact LeO.refl _)
    | (with_reducible exact LeO.none _)
    | (with_reducible refine LeO.ite ?_ ?_)
    | (with_reducible refine LeO.bind ?_ (fun _=>?_))
    | exact ih0 _ _ _
    | exact zy.mono _ _
    | exact LeO.none _
    | refine LeO.ite ?_ ?_
    | refine LeO.bind ?_ (fun _=>?_)
theorem zu.mono : ∀ a0 k,LeO (zu.f k a0) (zu.f (k + 1) a0):=by
 intro a0 k
 have ih0:=zu.z1b k
 unfold zu.f
 repeat' first
  | (with_reducible exact ih0 _ _ _)
  | (with_reducible exact zy.mono _ _)
  | (with_reducible exact LeO.refl _)
  | (with_reducible exact LeO.none _)
  | (with_reducible refine LeO.ite ?_ ?_)
  | (with_reducible refine LeO.bind ?_ (fun _=>?_))
  | exact ih0 _ _ _
  | exact zy.mono _ _
  | exact LeO.none _
  | refine LeO.ite ?_ ?_
  | refine LeO.bind ?_ (fun _=>?_)
set_option maxHeartbeats 8000000 in
set_option maxRecDepth 100000 in
theorem zu.calls (k : Nat) (A0 : Option Addr) (c0 : Nat) (l0 : List (List (S30))) (r : List (List (S40))) (w : World) (hr0 : Kd.C (Kd.slice 30 k30) w A0 l0.length l0) (hc0 : l0.length ≤ c0) (h : zu.f k l0 = some r) :
 Calls Try.prog 22 #[.slice A0 l0.length c0] w fun e w'=>∃ v0_ : Value,e = .returned (v0_) ∧ Kd.S (Kd.slice 40 k40) 36 w' w.heap.size (fun _=>True) v0_ r ∧ Below w.heap.size w w':=by
 have HR0:=z2.mk hr0
 have HC0:=z2.mk hc0
 clear hr0 hc0
 have HB:=z2.mk (Below.refl w.heap.size w)
 have H : (zu.l0 k l0 ([] : List (List (S40))) 0) = some r:=h
 clear h
 have H':=z2.mk H
 clear H
 go_enter Try.func22,Try.ntmps22
 go_wp2
 go_loopg [3,4] k (fun kq v3 v4 w'=>∃ (x3_1 : List (List (S40))) (x4_1 : Int),v4 = .int .i64 x4_1 ∧ z2 (zu.l0 kq l0 x3_1 x4_1 = some r) ∧ z2 (kq ≤ k) ∧ z2 (Kd.S (Kd.slice 40 k40) 36 w' w.heap.size (fun _=>True) v3 x3_1) ∧ z2 (Below w.heap.size w w'))
 case atStart=>exact ⟨(([] : List (List (S40)))),(0),(by first|rfl|(simp;done)|(simp [*];done)),H',⟨Nat.le_refl _⟩,⟨by first|exact Kd.z2k _ _ _ _ _|exact Kd.z2i _ _ _ _ _|exact Kd.z2l _ _ _ _ _|exact Kd.z2j _ _ _ _ _|exact Kd.z25 _ _ _ _ _⟩,⟨by repeat (first|(with_reducible first|exact HB.out|apply z4|apply z1|apply z3)|exact HB.out)⟩⟩
 case round =>
  clear H'
  obtain ⟨x3_1,x4_1,rfl,HA,HK1,HO_3,HB⟩:=hrel
  cases gk with
  | zero=>exact absurd HA.out (by simp [zu.l0])
  | succ k1 =>
   have H:=HA.out
   clear HA
   simp only [zu.l0] at H
   by_cases c2 : x4_1 < (l0.length : Int)
   rotate_left
   · rw [if_neg c2] at H
     have c2b0 : decide (x4_1 < (l0.length : Int)) = false:=decide_eq_false c2
     clear c2
     obtain rfl:=Option.some.inj H
     go_wp2
     go_ret
     exact ⟨_,by first|rfl|(simp [zh,zi] <;> rfl)|(simp [*,zh,zi] <;> rfl),by (with_reducible repeat (first|apply Kd.z1l|apply Kd.z1m|apply Kd.z1t));exact HO_3.out,by repeat (first|(with_reducible first|exact HB.out|apply z4|apply z1|apply z3)|exact HB.out)⟩
   rw [if_pos c2] at H
   have c2b0 : decide (x4_1 < (l0.length : Int)) = true:=decide_eq_true c2
   clear c2
   by_cases c3 : 0 ≤ x4_1
   rotate_left
   · rw [if_neg c3] at H
     exact absurd H (by simp)
   rw [if_pos c3] at H
   have c3b0 : decide (0 ≤ x4_1) = true:=decide_eq_true c3
   clear c3
   replace H:=Option.bind_eq_some_iff.mp H
   obtain ⟨t102,A40,H⟩:=H
   replace H : (if x3_1.length < 5864062014805 then (zu.l0 k1 l0 (x3_1 ++ [t102]) (wrap64 (x4_1 + 1))) else (none)) = some r:=H
   have A4:=z2.mk A40
   clear A40
   by_cases c5 : x3_1.length < 5864062014805
   rotate_left
   · rw [if_neg c5] at H
     exact absurd H (by simp)
   rw [if_pos c5] at H
   have LMc5:=z2.mk c5
   clear c5
   obtain ⟨y105,hy105⟩ : ∃ y_ : List (List (S40)),y_ = (x3_1 ++ [t102]):=⟨_,rfl⟩
   replace H : (zu.l0 k1 l0 y105 (wrap64 (x4_1 + 1))) = some r:=by first|(rw [hy105];with_reducible exact H)|(have H2_:=(Option.bind_some _ _).symm.trans H;rw [hy105];with_reducible exact H2_)|(have H2_:=(Option.bind_some _ _).symm.trans H;with_reducible exact H2_)|with_reducible exact H|(rw [hy105];exact H)|exact H
   have Ny105:=z2.mk hy105
   clear hy105
   have H':=z2.mk H
   clear H
   have p101 : 0 ≤ (x4_1 : Int):=of_decide_eq_true (by first|(with_reducible assumption)|assumption)
   have q101 : x4_1 < (l0.length : Int):=of_decide_eq_true (by first|(with_reducible assumption)|assumption)
   obtain ⟨ad101,A101_0,c101_0,e101,hx101_0,hl101_0,hi101_0⟩:=z3s HR0.out x4_1 p101 q101
   cases e101
   replace hx101_0:=(HB.out.cell (World.block_lt_of_cell? w _ hx101_0)).trans hx101_0
   have HR101_0:=z2.mk hi101_0
   have HC101_0:=z2.mk hl101_0
   clear hi101_0 hl101_0
   replace p101:=eq_true p101
   replace q101:=eq_true q101
   go_wp2_with (first|((with_reducible refine zm (f:=14) rfl ?_);refine goesL_ (some 16) rfl rfl Try.func14 (by kernel_rfl) rfl #[.slice A101_0 (z1g l0 x4_1).length c101_0] rfl (by (try simp only [List.map_toArray,List.map_cons,List.map_nil]);first|done|rfl|(simp only [List.length_drop,List.length_take];rfl)) ?_;(with_reducible refine (zy.calls k1 _ _ (z1g l0 x4_1) t102 _ ?side1 ?side2 A4.out).mono ?_);(case side1=>repeat (first|exact (Kd.z1h HR101_0.out HB.out)|(with_reducible refine Kd.zS ?_ _)|(with_reducible refine Kd.zT ?_ _)|(with_reducible refine Kd.z16 ?_)));(case side2=>exact HC101_0.out);rintro e w6 ⟨v103,rfl,ho0,hb⟩;refine ⟨_,rfl,?_⟩;have n0_:=z2.mk (Kd.z1x (by (with_reducible repeat (first|apply Kd.z1l|apply Kd.z1m|apply Kd.z1t));exact HO_3.out) (Kd.z1v ho0) hb);have n1_:=z2.mk (Kd.z1o ho0 (zc (by repeat (first|(with_reducible first|exact HB.out|apply z4|apply z1|apply z3)|exact HB.out))));have n2_:=z2.mk (za (by repeat (first|(with_reducible first|exact HB.out|apply z4|apply z1|apply z3)|exact HB.out)) hb);clear HO_3;clear HB;have HO_3:=n0_;have HO104:=n1_;have HB:=n2_;clear n0_ n1_ n2_;(try clear hb);(try clear hb2);(try clear hk);(try clear hi);(try clear ho0);obtain ⟨Ao8,co8,eo8⟩:=Kd.z1s HO104.out;subst eo8)|((with_reducible refine z1I (b:=.append) (xs:=#[.tmp 11,.tmp 17]) rfl ?_);at_builtin;refine Kd.S_append (Kd.slice 40 k40) (w0:=w) w.heap.size rfl (.tmp 11) (.tmp 17) 51 36 (.slice none 0 0) 24 rfl Try.underlying51 info36 rfl (by decide) (by omega) u3 x3_1 t102 [.slice Ao8 t102.length co8] (fun _=>True) (fun k_=>some k_ = (.slice Ao8 t102.length co8 : Value).ownBlock) rfl rfl ?aP (fun k_ hk_=>((Kd.z1w (ok':=fun k_=>((fun _=>True)) k_ ∧ some k_ ≠ (u3 : Value).ownBlock) (Kd.z4Q (HO104.out) (Kd.z6V HO_3.out) (by decide)) (fun k_ hk=>⟨trivial,hk.2⟩))).1 k_ hk_.symm) ?aF ?aO ?aB ?aS ?aL ?_;(case aP=>exact Kd.M_row (Kd.z1w (Kd.z6S rfl (Kd.z1w (ok':=fun k_=>((fun _=>True)) k_ ∧ some k_ ≠ (u3 : Value).ownBlock) (Kd.z4Q (HO104.out) (Kd.z6V HO_3.out) (by decide)) (fun k_ hk=>⟨trivial,hk.2⟩))) (fun _ h_=>h_)));(case aB=>exact (by repeat (first|(with_reducible first|exact HB.out|apply z4|apply z1|apply z3)|exact HB.out)));(case aF=>exact (fun _ _=>trivial));(case aO=>exact (by (with_reducible repeat (first|apply Kd.z1l|apply Kd.z1m|apply Kd.z1t));exact Kd.S_mono HO_3.out (fun k_ hk=>⟨trivial,fun e_=>hk.2 e_⟩)));(case aS=>exact (zc (by repeat (first|(with_reducible first|exact HB.out|apply z4|apply z1|apply z3)|exact HB.out))));(case aL=>have:=LMc5.out;omega);intro v106 w7 ho hb hg hat;rw [← Ny105.out] at ho;have n0_:=z2.mk (hb);have n1_:=z2.mk (ho);clear HB;clear HO_3;clear HO104;have HB:=n0_;have HO107:=n1_;clear n0_ n1_;clear ho hb hg hat))
   go_roundg k1
   case measure=>have:=HK1.out;omega
   case rel=>exact ⟨(y105),(wrap64 (x4_1 + 1)),(by first|rfl|(simp;done)|(simp [*];done)),H',⟨by have:=HK1.out;omega⟩,⟨by (with_reducible repeat (first|apply Kd.z1l|apply Kd.z1m|apply Kd.z1t));exact HO107.out⟩,⟨by repeat (first|(with_reducible first|exact HB.out|apply z4|apply z1|apply z3)|exact HB.out)⟩⟩
end Go.Proofs.Ytkhmpaooinpfoaa.P
namespace Go.Proofs.Ytkhmpaooinpfoaa.P
open Go.RowKit Go.Proofs.YtkhmpaooinpfoaaW.PrintWords Go.Proofs.YtkhmpaooinpfoaaW.PrintLast Go.Proofs.YtkhmpaooinpfoaaW.PrintMore
attribute [local go_sem] z17 z19 z1j z1k zZ z10 z18 z1a   -- for this text's walks alone
set_option linter.unusedVariables false
set_option linter.unusedSimpArgs false
def z1G.f (a0 : Int) (a1 : Int) : Option (Int × Int):=if 0 ≤ (wrap64 (a0 - 1)) then (if 0 ≤ (shl .i64 1 (wrap64 (a0 - 1))) then (some (shr .u64 a1 (shl .i64 1 (wrap64 (a0 - 1))),Go.bits .and .u64 a1 (IntKind.u64.wrap ((shl .u64 1 (shl .i64 1 (wrap64 (a0 - 1)))) - 1)))) else (none)) else (none)
set_option maxHeartbeats 8000000 in
set_option maxRecDepth 100000 in
theorem z1G.calls (a0 : Int) (a1 : Int) (r1 : Int) (r2 : Int) (w : World) (h : z1G.f a0 a1 = some (r1,r2)) :
 Calls Try.prog 139 #[.int .i64 a0,.int .u64 a1] w fun e w'=>e = .returned (.tuple #[.int .u64 r1,.int .u64 r2]) ∧ Drawn0 w w':=by
 have H : (if 0 ≤ (wrap64 (a0 - 1)) then (if 0 ≤ (shl .i64 1 (wrap64 (a0 - 1))) then (some (shr .u64 a1 (shl .i64 1 (wrap64 (a0 - 1))),Go.bits .and .u64 a1 (IntKind.u64.wrap ((shl .u64 1 (shl .i64 1 (wrap64 (a0 - 1)))) - 1)))) else (none)) else (none)) = some (r1,r2):=h
 clear h
 obtain ⟨ji3,hji3⟩ : ∃ j_ : Int,(wrap64 (a0 - 1)) = j_:=⟨_,rfl⟩
 replace H : (if 0 ≤ (ji3) then (if 0 ≤ (shl .i64 1 (ji3)) then (some (shr .u64 a1 (shl .i64 1 (ji3)),Go.bits .and .u64 a1 (IntKind.u64.wrap ((shl .u64 1 (shl .i64 1 (ji3))) - 1)))) else (none)) else (none)) = some (r1,r2):=by first|(rw [hji3] at H;exact H)|(simp only [hji3] at H ⊢;exact H)
 have hji3w : (IntKind.i64.wrap (a0 - 1)) = ji3:=(zD _).trans hji3
 by_cases c4 : 0 ≤ (ji3)
 rotate_left
 · rw [if_neg c4] at H
   exact absurd H (by simp)
 rw [if_pos c4] at H
 have c4b0:=eq_true c4
 have c4b1 : decide (0 ≤ (ji3)) = true:=decide_eq_true c4
 clear c4
 obtain ⟨ji5,hji5⟩ : ∃ j_ : Int,(shl .i64 1 (ji3)) = j_:=⟨_,rfl⟩
 replace H : (if 0 ≤ (ji5) then (some (shr .u64 a1 (ji5),Go.bits .and .u64 a1 (IntKind.u64.wrap ((shl .u64 1 (ji5)) - 1)))) else (none)) = some (r1,r2):=by first|(rw [hji5] at H;exact H)|(simp only [hji5] at H ⊢;exact H)
 have hji5_ : (IntKind.i64.wrap (1 * 2 ^ min (ji3).toNat 64)) = ji5:=hji5
 have hji5z : (ji3) ≤ 64 → (IntKind.i64.wrap (1 * 2 ^ (ji3).toNat)) = ji5:=z1K hji5
 have hji5u : (IntKind.i64.wrap (2 ^ min (ji3).toNat 64)) = ji5:=by have h_:=hji5_;rw [Int.one_mul] at h_;exact h_
 have hji5v : (ji3) ≤ 64 → (IntKind.i64.wrap (2 ^ (ji3).toNat)) = ji5:=fun hle_=>by have h_:=hji5z hle_;rw [Int.one_mul] at h_;exact h_
 have hji5y : (wrap64 (1 * 2 ^ min (ji3).toNat 64)) = ji5:=(zD _).symm.trans hji5_
 have hji5x : (ji3) ≤ 64 → (wrap64 (1 * 2 ^ (ji3).toNat)) = ji5:=fun h_=>(zD _).symm.trans (hji5z h_)
 by_cases c6 : 0 ≤ (ji5)
 rotate_left
 · rw [if_neg c6] at H
   exact absurd H (by simp)
 rw [if_pos c6] at H
 have c6b0:=eq_true c6
 have c6b1 : decide (0 ≤ (ji5)) = true:=decide_eq_true c6
 clear c6
 obtain ⟨ji7,hji7⟩ : ∃ j_ : Int,(shr .u64 a1 (ji5)) = j_:=⟨_,rfl⟩
 replace H : (some (ji7,Go.bits .and .u64 a1 (IntKind.u64.wrap ((shl .u64 1 (ji5)) - 1)))) = some (r1,r2):=by first|(rw [hji7] at H;exact H)|(simp only [hji7] at H ⊢;exact H)
 have hji7_ : (a1 / 2 ^ min (ji5).toNat 64) = ji7:=hji7
 have hji7z : (ji5) ≤ 64 → (a1 / 2 ^ (ji5).toNat) = ji7:=z2C hji7
 have c8b0:=eq_true (of_decide_eq_true (by first|(with_reducible assumption)|assumption) : 0 ≤ (ji5))
 obtain ⟨ji9,hji9⟩ : ∃ j_ : Int,(shl .u64 1 (ji5)) = j_:=⟨_,rfl⟩
 replace H : (some (ji7,Go.bits .and .u64 a1 (IntKind.u64.wrap ((ji9) - 1)))) = some (r1,r2):=by first|(rw [hji9] at H;exact H)|(simp only [hji9] at H ⊢;exact H)
 have hji9_ : (IntKind.u64.wrap (1 * 2 ^ min (ji5).toNat 64)) = ji9:=hji9
 have hji9z : (ji5) ≤ 64 → (IntKind.u64.wrap (1 * 2 ^ (ji5).toNat)) = ji9:=z1K hji9
 have hji9n0 : 0 ≤ ji9:=by rw [← hji9];exact Int.emod_nonneg _ (by decide)
 have hji9n1 : decide (0 ≤ ji9) = true:=decide_eq_true hji9n0
 replace hji9n0:=eq_true hji9n0
 have hji9u : (IntKind.u64.wrap (2 ^ min (ji5).toNat 64)) = ji9:=by have h_:=hji9_;rw [Int.one_mul] at h_;exact h_
 have hji9v : (ji5) ≤ 64 → (IntKind.u64.wrap (2 ^ (ji5).toNat)) = ji9:=fun hle_=>by have h_:=hji9z hle_;rw [Int.one_mul] at h_;exact h_
 simp only [Option.some.injEq,Prod.mk.injEq] at H
 obtain ⟨rfl,rfl⟩:=H
 go_enter Try.func139,Try.ntmps139
 go_wp2
 repeat (go_quiet (fail);try go_wp2)
 go_ret2
 exact ⟨by first|rfl|(simp;done)|(simp only [← hji3,← hji5,← hji7,← hji9] <;> (first|rfl|simp))|(simp [*];done),by repeat (first|exact Drawn0.refl _|apply Drawn0.step)⟩
end Go.Proofs.Ytkhmpaooinpfoaa.P
namespace Go.Proofs.Ytkhmpaooinpfoaa.P
open Go.RowKit Go.Proofs.YtkhmpaooinpfoaaW.PrintWords Go.Proofs.YtkhmpaooinpfoaaW.PrintLast Go.Proofs.YtkhmpaooinpfoaaW.PrintMore
attribute [local go_sem] z17 z19 z1j z1k zZ z10 z18 z1a   -- for this text's walks alone
set_option linter.unusedVariables false
set_option linter.unusedSimpArgs false
def z1H.f (a0 : Int) (a1 : Int) (a2 : Int) : Option (Int):=if 0 ≤ (wrap64 (a0 - 1)) then (some (Go.bits .or .u64 (shl .u64 a1 (shl .u64 1 (wrap64 (a0 - 1)))) a2)) else (none)
set_option maxHeartbeats 8000000 in
set_option maxRecDepth 100000 in
theorem z1H.calls (a0 : Int) (a1 : Int) (a2 : Int) (r : Int) (w : World) (h : z1H.f a0 a1 a2 = some r) :
 Calls Try.prog 140 #[.int .i64 a0,.int .u64 a1,.int .u64 a2] w fun e w'=>e = .returned (.int .u64 r) ∧ Drawn0 w w':=by
 have H : (if 0 ≤ (wrap64 (a0 - 1)) then (some (Go.bits .or .u64 (shl .u64 a1 (shl .u64 1 (wrap64 (a0 - 1)))) a2)) else (none)) = some r:=h
 clear h
 obtain ⟨ji4,hji4⟩ : ∃ j_ : Int,(wrap64 (a0 - 1)) = j_:=⟨_,rfl⟩
 replace H : (if 0 ≤ (ji4) then (some (Go.bits .or .u64 (shl .u64 a1 (shl .u64 1 (ji4))) a2)) else (none)) = some r:=by first|(rw [hji4] at H;exact H)|(simp only [hji4] at H ⊢;exact H)
 have hji4w : (IntKind.i64.wrap (a0 - 1)) = ji4:=(zD _).trans hji4
 by_cases c5 : 0 ≤ (ji4)
 rotate_left
 · rw [if_neg c5] at H
   exact absurd H (by simp)
 rw [if_pos c5] at H
 have c5b0:=eq_true c5
 have c5b1 : decide (0 ≤ (ji4)) = true:=decide_eq_true c5
 clear c5
 obtain ⟨ji6,hji6⟩ : ∃ j_ : Int,(shl .u64 1 (ji4)) = j_:=⟨_,rfl⟩
 replace H : (some (Go.bits .or .u64 (shl .u64 a1 (ji6)) a2)) = some r:=by first|(rw [hji6] at H;exact H)|(simp only [hji6] at H ⊢;exact H)
 have hji6_ : (IntKind.u64.wrap (1 * 2 ^ min (ji4).toNat 64)) = ji6:=hji6
 have hji6z : (ji4) ≤ 64 → (IntKind.u64.wrap (1 * 2 ^ (ji4).toNat)) = ji6:=z1K hji6
 have hji6n0 : 0 ≤ ji6:=by rw [← hji6];exact Int.emod_nonneg _ (by decide)
 have hji6n1 : decide (0 ≤ ji6) = true:=decide_eq_true hji6n0
 replace hji6n0:=eq_true hji6n0
 have hji6u : (IntKind.u64.wrap (2 ^ min (ji4).toNat 64)) = ji6:=by have h_:=hji6_;rw [Int.one_mul] at h_;exact h_
 have hji6v : (ji4) ≤ 64 → (IntKind.u64.wrap (2 ^ (ji4).toNat)) = ji6:=fun hle_=>by have h_:=hji6z hle_;rw [Int.one_mul] at h_;exact h_
 obtain ⟨ji7,hji7⟩ : ∃ j_ : Int,(shl .u64 a1 (ji6)) = j_:=⟨_,rfl⟩
 replace H : (some (Go.bits .or .u64 (ji7) a2)) = some r:=by first|(rw [hji7] at H;exact H)|(simp only [hji7] at H ⊢;exact H)
 have hji7_ : (IntKind.u64.wrap (a1 * 2 ^ min (ji6).toNat 64)) = ji7:=hji7
 have hji7z : (ji6) ≤ 64 → (IntKind.u64.wrap (a1 * 2 ^ (ji6).toNat)) = ji7:=z1K hji7
 have hji7n0 : 0 ≤ ji7:=by rw [← hji7];exact Int.emod_nonneg _ (by decide)
 have hji7n1 : decide (0 ≤ ji7) = true:=decide_eq_true hji7n0
 replace hji7n0:=eq_true hji7n0
 obtain rfl:=Option.some.inj H
 go_enter Try.func140,Try.ntmps140
 go_wp2
 go_ret
 exact ⟨by first|rfl|(simp;done)|(simp only [← hji4,← hji6,← hji7] <;> (first|rfl|simp))|(simp [*];done),by repeat (first|exact Drawn0.refl _|apply Drawn0.step)⟩
end Go.Proofs.Ytkhmpaooinpfoaa.P
namespace Go.Proofs.Ytkhmpaooinpfoaa.P
open Go.RowKit Go.Proofs.YtkhmpaooinpfoaaW.PrintWords Go.Proofs.YtkhmpaooinpfoaaW.PrintLast Go.Proofs.YtkhmpaooinpfoaaW.PrintMore
attribute [local go_sem] z17 z19 z1j z1k zZ z10 z18 z1a   -- for this text's walks alone
set_option linter.unusedVariables false
set_option linter.unusedSimpArgs false
def z12.f : Nat → Int → Int → Option (Int)
 | 0,_,_=>none
 | k + 1,a0,a1=>if a0 = 0 then (some a1) else ((z1G.f a0 a1).bind fun bt101=>((z12.f k (wrap64 (a0 - 1)) bt101.1).bind fun t103=>((z1H.f a0 (Go.bits .xor .u64 bt101.2 t103) bt101.1).bind fun t104=>(some t104))))
theorem z12.z1b : ∀ k,(∀ y0 y1,LeO (z12.f k y0 y1) (z12.f (k + 1) y0 y1))
 | 0=>fun _ _ r h=>by simp [z12.f] at h
 | k + 1=>by
  have ih0:=z12.z1b k
  · intro y0 y1
    unfold z12.f
    repeat' first
    | (with_reducible exact ih0 _ _)
    | (with_reducible exact LeO.refl _)
    | (with_reducible exact LeO.none _)
    | (with_reducible refine LeO.ite ?_ ?_)
    | (with_reducible refine LeO.bind ?_ (fun _=>?_))
    | exact ih0 _ _
    | exact LeO.none _
    | refine LeO.ite ?_ ?_
    | refine LeO.bind ?_ (fun _=>?_)
theorem z12.mono : ∀ a0 a1 k,LeO (z12.f k a0 a1) (z12.f (k + 1) a0 a1):=by
 intro a0 a1 k
 have ih0:=z12.z1b k
 exact ih0 a0 a1
set_option maxHeartbeats 8000000 in
set_option maxRecDepth 100000 in
theorem z12.calls (k : Nat) : ∀ (a0 : Int) (a1 : Int) (r : Int) (w : World) (h : z12.f k a0 a1 = some r),
 Calls Try.prog 118 #[.int .i64 a0,.int .u64 a1] w fun e w'=>e = .returned (.int .u64 r) ∧ Drawn0 w w':=by
 induction k using Nat.strongRecOn with
 | _ k ih =>
 intro a0 a1 r w h
 cases k with
 | zero=>exact absurd h (by simp [z12.f])
 | succ k =>
 simp only [z12.f] at h
 have H : (if a0 = 0 then (some a1) else ((z1G.f a0 a1).bind fun bt101=>((z12.f k (wrap64 (a0 - 1)) bt101.1).bind fun t103=>((z1H.f a0 (Go.bits .xor .u64 bt101.2 t103) bt101.1).bind fun t104=>(some t104))))) = some r:=h
 clear h
 by_cases c3 : a0 = 0
 · rw [if_pos c3] at H
   have c3b0 : (a0 == 0) = true:=beq_iff_eq.mpr c3
   have c3b1 : (a0 != 0) = false:=bne_eq_false_iff_eq.mpr c3
   clear c3
   obtain rfl:=Option.some.inj H
   go_enter Try.func118,Try.ntmps118
   go_wp2
   go_ret
   exact ⟨by first|rfl|(simp;done)|(simp [*];done),by repeat (first|exact Drawn0.refl _|apply Drawn0.step)⟩
 rw [if_neg c3] at H
 have c3b0 : (a0 == 0) = false:=beq_eq_false_iff_ne.mpr c3
 have c3b1 : (a0 != 0) = true:=bne_iff_ne.mpr c3
 replace H:=Option.bind_eq_some_iff.mp H
 obtain ⟨⟨t101,t102⟩,A40,H⟩:=H
 replace H : ((z12.f k (wrap64 (a0 - 1)) t101).bind fun t103=>((z1H.f a0 (Go.bits .xor .u64 t102 t103) t101).bind fun t104=>(some t104))) = some r:=H
 have A4:=z2.mk A40
 clear A40
 replace H:=Option.bind_eq_some_iff.mp H
 obtain ⟨t103,A50,H⟩:=H
 replace H : ((z1H.f a0 (Go.bits .xor .u64 t102 t103) t101).bind fun t104=>(some t104)) = some r:=H
 have A5:=z2.mk A50
 clear A50
 replace H:=Option.bind_eq_some_iff.mp H
 obtain ⟨t104,A60,H⟩:=H
 replace H : (some t104) = some r:=H
 have A6:=z2.mk A60
 clear A60
 obtain rfl:=Option.some.inj H
 go_enter Try.func118,Try.ntmps118
 go_wp2_with (first|((with_reducible refine zm (f:=139) rfl ?_);refine goesL_ (some 13) rfl rfl Try.func139 (by kernel_rfl) rfl #[.int .i64 a0,.int .u64 a1] rfl (by (try simp only [List.map_toArray,List.map_cons,List.map_nil]);first|done|rfl|(simp only [List.length_drop,List.length_take];rfl)) ?_;(with_reducible refine (z1G.calls a0 a1 t101 t102 _ A4.out).mono ?_);rintro e w' ⟨rfl,⟨nd,rfl⟩⟩;refine ⟨_,rfl,?_⟩)|((with_reducible refine zm (f:=118) rfl ?_);refine goesL_ (some 21) rfl rfl Try.func118 (by kernel_rfl) rfl #[.int .i64 (wrap64 (a0 - 1)),.int .u64 t101] rfl (by (try simp only [List.map_toArray,List.map_cons,List.map_nil]);first|done|rfl|(simp only [List.length_drop,List.length_take];rfl)) ?_;(with_reducible refine (ih k (by omega) (wrap64 (a0 - 1)) t101 t103 _ A5.out).mono ?_);rintro e w' ⟨rfl,⟨nd,rfl⟩⟩;refine ⟨_,rfl,?_⟩)|((with_reducible refine zm (f:=140) rfl ?_);refine goesL_ (some 24) rfl rfl Try.func140 (by kernel_rfl) rfl #[.int .i64 a0,.int .u64 (Go.bits .xor .u64 t102 t103),.int .u64 t101] rfl (by (try simp only [List.map_toArray,List.map_cons,List.map_nil]);first|done|rfl|(simp only [List.length_drop,List.length_take];rfl)) ?_;(with_reducible refine (z1H.calls a0 (Go.bits .xor .u64 t102 t103) t101 t104 _ A6.out).mono ?_);rintro e w' ⟨rfl,⟨nd,rfl⟩⟩;refine ⟨_,rfl,?_⟩))
 go_ret
 exact ⟨by first|rfl|(simp;done)|(simp [*];done),by repeat (first|exact Drawn0.refl _|apply Drawn0.step)⟩
end Go.Proofs.Ytkhmpaooinpfoaa.P
namespace Go.Proofs.Ytkhmpaooinpfoaa.P
open Go.RowKit Go.Proofs.YtkhmpaooinpfoaaW.PrintWords Go.Proofs.YtkhmpaooinpfoaaW.PrintLast Go.Proofs.YtkhmpaooinpfoaaW.PrintMore
attribute [local go_sem] z17 z19 z1j z1k zZ z10 z18 z1a   -- for this text's walks alone
set_option linter.unusedVariables false
set_option linter.unusedSimpArgs false
mutual
def zH.j0 : Nat → Int → Int → Int → Bool → Option (Int)
 | 0,_,_,_,_=>none
 | k + 1,x0,x1,x2,x23=>if x23 = true then (some (Go.bits .and .u64 (Go.bits .and .u64 x1 x2) 1)) else ((z1G.f x0 x1).bind fun bt101=>((z1G.f x0 x2).bind fun bt103=>((zH.f k (wrap64 (x0 - 1)) bt101.1 bt103.1).bind fun t105=>((zH.f k (wrap64 (x0 - 1)) bt101.2 bt103.2).bind fun t106=>((zH.f k (wrap64 (x0 - 1)) (Go.bits .xor .u64 bt101.1 bt101.2) (Go.bits .xor .u64 bt103.1 bt103.2)).bind fun t107=>((z12.f k (wrap64 (x0 - 1)) t105).bind fun t108=>((z1H.f x0 (Go.bits .xor .u64 (Go.bits .xor .u64 (Go.bits .xor .u64 t107 t105) t106) t108) (Go.bits .xor .u64 t106 t105)).bind fun t109=>(some t109))))))))
def zH.f : Nat → Int → Int → Int → Option (Int)
 | 0,_,_,_=>none
 | k + 1,a0,a1,a2=>if a0 = 0 then (zH.j0 k a0 a1 a2 true) else (if a1 = 0 then (zH.j0 k a0 a1 a2 true) else (zH.j0 k a0 a1 a2 (a2 == 0)))
end
theorem zH.z1b : ∀ k,(∀ y0 y1 y2,LeO (zH.f k y0 y1 y2) (zH.f (k + 1) y0 y1 y2)) ∧ (∀ y0 y1 y2 y3,LeO (zH.j0 k y0 y1 y2 y3) (zH.j0 (k + 1) y0 y1 y2 y3))
 | 0=>⟨fun _ _ _ r h=>by simp [zH.f] at h,fun _ _ _ _ r h=>by simp [zH.j0] at h⟩
 | k + 1=>by
  obtain ⟨ih0,ih1⟩:=zH.z1b k
  refine ⟨?_,?_⟩
  · intro y0 y1 y2
    unfold zH.f
    repeat' first
    | (with_reducible exact ih0 _ _ _)
    | (with_reducible exact ih1 _ _ _ _)
    | (with_reducible exact z12.mono _ _ _)
    | (with_reducible exact LeO.refl _)
    | (with_reducible exact LeO.none _)
    | (with_reducible refine LeO.ite ?_ ?_)
    | (with_reducible refine LeO.bind ?_ (fun _=>?_))
    | exact ih0 _ _ _
    | exact ih1 _ _ _ _
    | exact z12.mono _ _ _
    | exact LeO.none _
    | refine LeO.ite ?_ ?_
    | refine LeO.bind ?_ (fun _=>?_)
  · intro y0 y1 y2 y3
    unfold zH.j0
    repeat' first
    | (with_reducible exact ih0 _ _ _)
    | (with_reducible exact ih1 _ _ _ _)
    | (with_reducible exact z12.mono _ _ _)
    | (with_reducible exact LeO.refl _)
    | (with_reducible exact LeO.none _)
    | (with_reducible refine LeO.ite ?_ ?_)
    | (with_reducible refine LeO.bind ?_ (fun _=>?_))
    | exact ih0 _ _ _
    | exact ih1 _ _ _ _
    | exact z12.mono _ _ _
    | exact LeO.none _
    | refine LeO.ite ?_ ?_
    | refine LeO.bind ?_ (fun _=>?_)
theorem zH.mono : ∀ a0 a1 a2 k,LeO (zH.f k a0 a1 a2) (zH.f (k + 1) a0 a1 a2):=by
 intro a0 a1 a2 k
 obtain ⟨ih0,ih1⟩:=zH.z1b k
 exact ih0 a0 a1 a2
set_option maxHeartbeats 8000000 in
set_option maxRecDepth 100000 in
theorem zH.calls (k : Nat) : ∀ (a0 : Int) (a1 : Int) (a2 : Int) (r : Int) (w : World) (h : zH.f k a0 a1 a2 = some r),
 Calls Try.prog 117 #[.int .i64 a0,.int .u64 a1,.int .u64 a2] w fun e w'=>e = .returned (.int .u64 r) ∧ Drawn0 w w':=by
 induction k using Nat.strongRecOn with
 | _ k ih =>
 intro a0 a1 a2 r w h
 cases k with
 | zero=>exact absurd h (by simp [zH.f])
 | succ k =>
 simp only [zH.f] at h
 have H : (if a0 = 0 then (zH.j0 k a0 a1 a2 true) else (if a1 = 0 then (zH.j0 k a0 a1 a2 true) else (zH.j0 k a0 a1 a2 (a2 == 0)))) = some r:=h
 clear h
 have HC4:=z2.mk H
 clear H
 go_enter Try.func117,Try.ntmps117
 go_upto_region 1 with (fail)
 go_cut [23] (fun v23 wc=>∃ (kq : Nat) (x23_3 : Bool),v23 = .bool x23_3 ∧ z2 (zH.j0 kq a0 a1 a2 x23_3 = some r) ∧ z2 (kq ≤ k) ∧ Drawn0 w wc)
 case first =>
  have H:=HC4.out
  clear HC4
  by_cases c5 : a0 = 0
  · rw [if_pos c5] at H
    have c5b0 : (a0 == 0) = true:=beq_iff_eq.mpr c5
    have c5b1 : (a0 != 0) = false:=bne_eq_false_iff_eq.mpr c5
    clear c5
    (first|rw [c5b0]|(simp only [zD,zG];rw [c5b0])|skip)
    have H':=z2.mk H
    clear H
    go_wp2
    go_meet
    case rel=>exact ⟨_,(true),(by first|rfl|(simp;done)|(simp [*];done)),H',⟨by first|omega|exact Nat.le_refl _⟩,by repeat (first|exact Drawn0.refl _|apply Drawn0.step)⟩
  rw [if_neg c5] at H
  have c5b0 : (a0 == 0) = false:=beq_eq_false_iff_ne.mpr c5
  have c5b1 : (a0 != 0) = true:=bne_iff_ne.mpr c5
  (first|rw [c5b0]|(simp only [zD,zG];rw [c5b0])|skip)
  by_cases c6 : a1 = 0
  rotate_left
  · rw [if_neg c6] at H
    have c6b0 : (a1 == 0) = false:=beq_eq_false_iff_ne.mpr c6
    have c6b1 : (a1 != 0) = true:=bne_iff_ne.mpr c6
    have H':=z2.mk H
    clear H
    go_wp2
    go_meet
    case rel=>exact ⟨_,((a2 == 0)),(by first|rfl|(simp;done)|(simp [*];done)),H',⟨by first|omega|exact Nat.le_refl _⟩,by repeat (first|exact Drawn0.refl _|apply Drawn0.step)⟩
  rw [if_pos c6] at H
  have c6b0 : (a1 == 0) = true:=beq_iff_eq.mpr c6
  have c6b1 : (a1 != 0) = false:=bne_eq_false_iff_eq.mpr c6
  clear c6
  have H':=z2.mk H
  clear H
  go_wp2
  go_meet
  case rel=>exact ⟨_,(true),(by first|rfl|(simp;done)|(simp [*];done)),H',⟨by first|omega|exact Nat.le_refl _⟩,by repeat (first|exact Drawn0.refl _|apply Drawn0.step)⟩
 case rest =>
  clear HC4
  (try clear c1);(try clear p2);(try clear c5);(try clear c5b0);(try clear c5b1);(try clear c6);(try clear c6b0);(try clear c6b1)
  obtain ⟨kq,x23_3,rfl,HA,HJ3,⟨mc3,rfl⟩⟩:=hcut
  cases kq with
  | zero=>exact absurd HA.out (by simp [zH.j0])
  | succ kj3 =>
   have H:=HA.out
   clear HA
   simp only [zH.j0] at H
   by_cases c7 : x23_3 = true
   · subst c7
     have H1 : (some (Go.bits .and .u64 (Go.bits .and .u64 a1 a2) 1)) = some r:=by rw [if_pos rfl] at H;exact H
     clear H
     have H:=H1
     clear H1
     obtain rfl:=Option.some.inj H
     go_wp2
     go_ret
     exact ⟨by first|rfl|(simp;done)|(simp [*];done),by repeat (first|exact Drawn0.refl _|apply Drawn0.step)⟩
   replace c7:=Bool.eq_false_iff.mpr c7
   subst c7
   have H1 : ((z1G.f a0 a1).bind fun bt101=>((z1G.f a0 a2).bind fun bt103=>((zH.f kj3 (wrap64 (a0 - 1)) bt101.1 bt103.1).bind fun t105=>((zH.f kj3 (wrap64 (a0 - 1)) bt101.2 bt103.2).bind fun t106=>((zH.f kj3 (wrap64 (a0 - 1)) (Go.bits .xor .u64 bt101.1 bt101.2) (Go.bits .xor .u64 bt103.1 bt103.2)).bind fun t107=>((z12.f kj3 (wrap64 (a0 - 1)) t105).bind fun t108=>((z1H.f a0 (Go.bits .xor .u64 (Go.bits .xor .u64 (Go.bits .xor .u64 t107 t105) t106) t108) (Go.bits .xor .u64 t106 t105)).bind fun t109=>(some t109)))))))) = some r:=by rw [if_neg (show ¬ (false = true) by decide)] at H;exact H
   clear H
   have H:=H1
   clear H1
   replace H:=Option.bind_eq_some_iff.mp H
   obtain ⟨⟨t101,t102⟩,A80,H⟩:=H
   replace H : ((z1G.f a0 a2).bind fun bt103=>((zH.f kj3 (wrap64 (a0 - 1)) t101 bt103.1).bind fun t105=>((zH.f kj3 (wrap64 (a0 - 1)) t102 bt103.2).bind fun t106=>((zH.f kj3 (wrap64 (a0 - 1)) (Go.bits .xor .u64 t101 t102) (Go.bits .xor .u64 bt103.1 bt103.2)).bind fun t107=>((z12.f kj3 (wrap64 (a0 - 1)) t105).bind fun t108=>((z1H.f a0 (Go.bits .xor .u64 (Go.bits .xor .u64 (Go.bits .xor .u64 t107 t105) t106) t108) (Go.bits .xor .u64 t106 t105)).bind fun t109=>(some t109))))))) = some r:=H
   have A8:=z2.mk A80
   clear A80
   replace H:=Option.bind_eq_some_iff.mp H
   obtain ⟨⟨t103,t104⟩,A90,H⟩:=H
   replace H : ((zH.f kj3 (wrap64 (a0 - 1)) t101 t103).bind fun t105=>((zH.f kj3 (wrap64 (a0 - 1)) t102 t104).bind fun t106=>((zH.f kj3 (wrap64 (a0 - 1)) (Go.bits .xor .u64 t101 t102) (Go.bits .xor .u64 t103 t104)).bind fun t107=>((z12.f kj3 (wrap64 (a0 - 1)) t105).bind fun t108=>((z1H.f a0 (Go.bits .xor .u64 (Go.bits .xor .u64 (Go.bits .xor .u64 t107 t105) t106) t108) (Go.bits .xor .u64 t106 t105)).bind fun t109=>(some t109)))))) = some r:=H
   have A9:=z2.mk A90
   clear A90
   replace H:=Option.bind_eq_some_iff.mp H
   obtain ⟨t105,A100,H⟩:=H
   replace H : ((zH.f kj3 (wrap64 (a0 - 1)) t102 t104).bind fun t106=>((zH.f kj3 (wrap64 (a0 - 1)) (Go.bits .xor .u64 t101 t102) (Go.bits .xor .u64 t103 t104)).bind fun t107=>((z12.f kj3 (wrap64 (a0 - 1)) t105).bind fun t108=>((z1H.f a0 (Go.bits .xor .u64 (Go.bits .xor .u64 (Go.bits .xor .u64 t107 t105) t106) t108) (Go.bits .xor .u64 t106 t105)).bind fun t109=>(some t109))))) = some r:=H
   have A10:=z2.mk A100
   clear A100
   replace H:=Option.bind_eq_some_iff.mp H
   obtain ⟨t106,A110,H⟩:=H
   replace H : ((zH.f kj3 (wrap64 (a0 - 1)) (Go.bits .xor .u64 t101 t102) (Go.bits .xor .u64 t103 t104)).bind fun t107=>((z12.f kj3 (wrap64 (a0 - 1)) t105).bind fun t108=>((z1H.f a0 (Go.bits .xor .u64 (Go.bits .xor .u64 (Go.bits .xor .u64 t107 t105) t106) t108) (Go.bits .xor .u64 t106 t105)).bind fun t109=>(some t109)))) = some r:=H
   have A11:=z2.mk A110
   clear A110
   replace H:=Option.bind_eq_some_iff.mp H
   obtain ⟨t107,A120,H⟩:=H
   replace H : ((z12.f kj3 (wrap64 (a0 - 1)) t105).bind fun t108=>((z1H.f a0 (Go.bits .xor .u64 (Go.bits .xor .u64 (Go.bits .xor .u64 t107 t105) t106) t108) (Go.bits .xor .u64 t106 t105)).bind fun t109=>(some t109))) = some r:=H
   have A12:=z2.mk A120
   clear A120
   replace H:=Option.bind_eq_some_iff.mp H
   obtain ⟨t108,A130,H⟩:=H
   replace H : ((z1H.f a0 (Go.bits .xor .u64 (Go.bits .xor .u64 (Go.bits .xor .u64 t107 t105) t106) t108) (Go.bits .xor .u64 t106 t105)).bind fun t109=>(some t109)) = some r:=H
   have A13:=z2.mk A130
   clear A130
   replace H:=Option.bind_eq_some_iff.mp H
   obtain ⟨t109,A140,H⟩:=H
   replace H : (some t109) = some r:=H
   have A14:=z2.mk A140
   clear A140
   obtain rfl:=Option.some.inj H
   go_wp2_with (first|((with_reducible refine zm (f:=139) rfl ?_);refine goesL_ (some 31) rfl rfl Try.func139 (by kernel_rfl) rfl #[.int .i64 a0,.int .u64 a1] rfl (by (try simp only [List.map_toArray,List.map_cons,List.map_nil]);first|done|rfl|(simp only [List.length_drop,List.length_take];rfl)) ?_;(with_reducible refine (z1G.calls a0 a1 t101 t102 _ A8.out).mono ?_);rintro e w' ⟨rfl,⟨nd,rfl⟩⟩;refine ⟨_,rfl,?_⟩)|((with_reducible refine zm (f:=139) rfl ?_);refine goesL_ (some 37) rfl rfl Try.func139 (by kernel_rfl) rfl #[.int .i64 a0,.int .u64 a2] rfl (by (try simp only [List.map_toArray,List.map_cons,List.map_nil]);first|done|rfl|(simp only [List.length_drop,List.length_take];rfl)) ?_;(with_reducible refine (z1G.calls a0 a2 t103 t104 _ A9.out).mono ?_);rintro e w' ⟨rfl,⟨nd,rfl⟩⟩;refine ⟨_,rfl,?_⟩)|((with_reducible refine zm (f:=117) rfl ?_);refine goesL_ (some 44) rfl rfl Try.func117 (by kernel_rfl) rfl #[.int .i64 (wrap64 (a0 - 1)),.int .u64 t101,.int .u64 t103] rfl (by (try simp only [List.map_toArray,List.map_cons,List.map_nil]);first|done|rfl|(simp only [List.length_drop,List.length_take];rfl)) ?_;(with_reducible refine (ih kj3 (by have:=HJ3.out;omega) (wrap64 (a0 - 1)) t101 t103 t105 _ A10.out).mono ?_);rintro e w' ⟨rfl,⟨nd,rfl⟩⟩;refine ⟨_,rfl,?_⟩)|((with_reducible refine zm (f:=117) rfl ?_);refine goesL_ (some 49) rfl rfl Try.func117 (by kernel_rfl) rfl #[.int .i64 (wrap64 (a0 - 1)),.int .u64 t102,.int .u64 t104] rfl (by (try simp only [List.map_toArray,List.map_cons,List.map_nil]);first|done|rfl|(simp only [List.length_drop,List.length_take];rfl)) ?_;(with_reducible refine (ih kj3 (by have:=HJ3.out;omega) (wrap64 (a0 - 1)) t102 t104 t106 _ A11.out).mono ?_);rintro e w' ⟨rfl,⟨nd,rfl⟩⟩;refine ⟨_,rfl,?_⟩)|((with_reducible refine zm (f:=117) rfl ?_);refine goesL_ (some 58) rfl rfl Try.func117 (by kernel_rfl) rfl #[.int .i64 (wrap64 (a0 - 1)),.int .u64 (Go.bits .xor .u64 t101 t102),.int .u64 (Go.bits .xor .u64 t103 t104)] rfl (by (try simp only [List.map_toArray,List.map_cons,List.map_nil]);first|done|rfl|(simp only [List.length_drop,List.length_take];rfl)) ?_;(with_reducible refine (ih kj3 (by have:=HJ3.out;omega) (wrap64 (a0 - 1)) (Go.bits .xor .u64 t101 t102) (Go.bits .xor .u64 t103 t104) t107 _ A12.out).mono ?_);rintro e w' ⟨rfl,⟨nd,rfl⟩⟩;refine ⟨_,rfl,?_⟩)|((with_reducible refine zm (f:=118) rfl ?_);refine goesL_ (some 68) rfl rfl Try.func118 (by kernel_rfl) rfl #[.int .i64 (wrap64 (a0 - 1)),.int .u64 t105] rfl (by (try simp only [List.map_toArray,List.map_cons,List.map_nil]);first|done|rfl|(simp only [List.length_drop,List.length_take];rfl)) ?_;(with_reducible refine (z12.calls kj3 (wrap64 (a0 - 1)) t105 t108 _ A13.out).mono ?_);rintro e w' ⟨rfl,⟨nd,rfl⟩⟩;refine ⟨_,rfl,?_⟩)|((with_reducible refine zm (f:=140) rfl ?_);refine goesL_ (some 73) rfl rfl Try.func140 (by kernel_rfl) rfl #[.int .i64 a0,.int .u64 (Go.bits .xor .u64 (Go.bits .xor .u64 (Go.bits .xor .u64 t107 t105) t106) t108),.int .u64 (Go.bits .xor .u64 t106 t105)] rfl (by (try simp only [List.map_toArray,List.map_cons,List.map_nil]);first|done|rfl|(simp only [List.length_drop,List.length_take];rfl)) ?_;(with_reducible refine (z1H.calls a0 (Go.bits .xor .u64 (Go.bits .xor .u64 (Go.bits .xor .u64 t107 t105) t106) t108) (Go.bits .xor .u64 t106 t105) t109 _ A14.out).mono ?_);rintro e w' ⟨rfl,⟨nd,rfl⟩⟩;refine ⟨_,rfl,?_⟩))
   go_ret
   exact ⟨by first|rfl|(simp;done)|(simp [*];done),by repeat (first|exact Drawn0.refl _|apply Drawn0.step)⟩
end Go.Proofs.Ytkhmpaooinpfoaa.P
namespace Go.Proofs.Ytkhmpaooinpfoaa.P
open Go.RowKit Go.Proofs.YtkhmpaooinpfoaaW.PrintWords Go.Proofs.YtkhmpaooinpfoaaW.PrintLast Go.Proofs.YtkhmpaooinpfoaaW.PrintMore
attribute [local go_sem] z17 z19 z1j z1k zZ z10 z18 z1a   -- for this text's walks alone
set_option linter.unusedVariables false
set_option linter.unusedSimpArgs false
def zX.j0 : Nat → Int → Bool → Int → Int → Int → Int → Option (Int × Int)
 | 0,_,_,_,_,_,_=>none
 | k + 1,x0,x10,x102000,x102001,x103000,x103001=>if x10 = true then (some (0,0)) else (if x0 ≤ 6 then ((zH.f k x0 x102001 x103001).bind fun t106=>(some (0,t106))) else ((zH.f k 6 x102000 x103000).bind fun t107=>((zH.f k 6 x102001 x103001).bind fun t108=>((zH.f k 6 (Go.bits .xor .u64 x102000 x102001) (Go.bits .xor .u64 x103000 x103001)).bind fun t109=>((z12.f k 6 t107).bind fun t110=>(some (Go.bits .xor .u64 (Go.bits .xor .u64 (Go.bits .xor .u64 t109 t107) t108) t110,Go.bits .xor .u64 t108 t107)))))))
def zX.f (k : Nat) (a0 : Int) (a1_0 : Int) (a1_1 : Int) (a2_0 : Int) (a2_1 : Int) : Option (Int × Int):=(zP.f k a0 a1_0 a1_1).bind fun t104=>(if t104 = true then ((zP.f k a0 a2_0 a2_1).bind fun t105=>(zX.j0 k a0 (!t105) a1_0 a1_1 a2_0 a2_1)) else (zX.j0 k a0 true a1_0 a1_1 a2_0 a2_1))
theorem zX.z1b : ∀ k,(∀ y0 y1 y2 y3 y4 y5,LeO (zX.j0 k y0 y1 y2 y3 y4 y5) (zX.j0 (k + 1) y0 y1 y2 y3 y4 y5))
 | 0=>fun _ _ _ _ _ _ r h=>by simp [zX.j0] at h
 | k + 1=>by
  have ih0:=zX.z1b k
  · intro y0 y1 y2 y3 y4 y5
    unfold zX.j0
    repeat' first
    | (with_reducible exact ih0 _ _ _ _ _ _)
    | (with_reducible exact zP.mono _ _ _ _)
    | (with_reducible exact zH.mono _ _ _ _)
    | (with_reducible exact z12.mono _ _ _)
    | (with_reducible exact LeO.refl _)
    | (with_reducible exact LeO.none _)
    | (with_reducible refine LeO.ite ?_ ?_)
    | (with_reducible refine LeO.bind ?_ (fun _=>?_))
    | exact ih0 _ _ _ _ _ _
    | exact zP.mono _ _ _ _
    | exact zH.mono _ _ _ _
    | exact z12.mono _ _ _
    | exact LeO.none _
    | refine LeO.ite ?_ ?_
    | refine LeO.bind ?_ (fun _=>?_)
theorem zX.mono : ∀ a0 a1 a2 a3 a4 k,LeO (zX.f k a0 a1 a2 a3 a4) (zX.f (k + 1) a0 a1 a2 a3 a4):=by
 intro a0 a1 a2 a3 a4 k
 have ih0:=zX.z1b k
 unfold zX.f
 repeat' first
  | (with_reducible exact ih0 _ _ _ _ _ _)
  | (with_reducible exact zP.mono _ _ _ _)
  | (with_reducible exact zH.mono _ _ _ _)
  | (with_reducible exact z12.mono _ _ _)
  | (with_reducible exact LeO.refl _)
  | (with_reducible exact LeO.none _)
  | (with_reducible refine LeO.ite ?_ ?_)
  | (with_reducible refine LeO.bind ?_ (fun _=>?_))
  | exact ih0 _ _ _ _ _ _
  | exact zP.mono _ _ _ _
  | exact zH.mono _ _ _ _
  | exact z12.mono _ _ _
  | exact LeO.none _
  | refine LeO.ite ?_ ?_
  | refine LeO.bind ?_ (fun _=>?_)
set_option maxHeartbeats 8000000 in
set_option maxRecDepth 100000 in
theorem zX.calls (k : Nat) (a0 : Int) (a1_0 : Int) (a1_1 : Int) (a2_0 : Int) (a2_1 : Int) (r1 : Int) (r2 : Int) (w : World) (h : zX.f k a0 a1_0 a1_1 a2_0 a2_1 = some (r1,r2)) :
 Calls Try.prog 78 #[.int .i64 a0,.agg #[.int .u64 a1_0,.int .u64 a1_1],.agg #[.int .u64 a2_0,.int .u64 a2_1]] w fun e w'=>e = .returned (.agg #[.int .u64 r1,.int .u64 r2]) ∧ Below w.heap.size w w':=by
 have hu30:=Try.underlying30
 have HB:=z2.mk (Below.refl w.heap.size w)
 have H : ((zP.f k a0 a1_0 a1_1).bind fun t104=>(if t104 = true then ((zP.f k a0 a2_0 a2_1).bind fun t105=>(zX.j0 k a0 (!t105) a1_0 a1_1 a2_0 a2_1)) else (zX.j0 k a0 true a1_0 a1_1 a2_0 a2_1))) = some (r1,r2):=h
 clear h
 have HC4:=z2.mk H
 clear H
 go_enter Try.func78,Try.ntmps78
 go_upto_region 1 with (first|((with_reducible refine zO (N:=4) rfl ?_);refine zM ?hg (N:=4) ?hd (cs:=#[.int .u64 a1_0,.int .u64 a1_1]) (t:=30) ?hr ?_;(case hd=>rfl);(case hg=>rfl);(case hr=>first|(go_simp;done)|(go_simp;rfl));intro gb101 hg w5 hbox hb;have n0_:=z2.mk (za (by repeat (first|(with_reducible first|exact HB.out|apply z4|apply z1|apply z3)|exact HB.out)) hb);have n1_:=z2.mk (hbox);have n2_:=z2.mk ((by rw [hg];exact (zc (by repeat (first|(with_reducible first|exact HB.out|apply z4|apply z1|apply z3)|exact HB.out))) : w.heap.size ≤ gb101));have n3_:=z2.mk ((by rw [hg];exact (zc (by repeat (first|(with_reducible first|exact HB.out|apply z4|apply z1|apply z3)|exact HB.out))) : w.heap.size ≤ gb101));clear HB;have HB:=n0_;have BK101:=n1_;have GW101:=n2_;have GE101:=n3_;clear n0_ n1_ n2_ n3_;clear hb hbox hg)|((with_reducible refine zO (N:=5) rfl ?_);refine zM ?hg (N:=5) ?hd (cs:=#[.int .u64 a2_0,.int .u64 a2_1]) (t:=30) ?hr ?_;(case hd=>rfl);(case hg=>rfl);(case hr=>first|(go_simp;done)|(go_simp;rfl));intro gb102 hg w6 hbox hb;have n0_:=z2.mk (ze (g:=gb101) (o:=.cells #[.int .u64 a1_0,.int .u64 a1_1] 30 (0,0)) (by (with_reducible repeat (first|refine z6 ?_ _|refine z8 ?_|refine z5 ?_ _));exact BK101.out) hb);have n1_:=z2.mk (za (by repeat (first|(with_reducible first|exact HB.out|apply z4|apply z1|apply z3|refine z7 ?_ GE101.out)|exact HB.out)) hb);have n2_:=z2.mk (hbox);have n3_:=z2.mk ((by rw [hg];exact (zc (by repeat (first|(with_reducible first|exact HB.out|apply z4|apply z1|apply z3|refine z7 ?_ GE101.out)|exact HB.out))) : w.heap.size ≤ gb102));have n4_:=z2.mk ((by rw [hg];exact (zc (by repeat (first|(with_reducible first|exact HB.out|apply z4|apply z1|apply z3|refine z7 ?_ GE101.out)|exact HB.out))) : w.heap.size ≤ gb102));have n5_:=z2.mk ((by rw [hg];exact Nat.ne_of_lt (z11 (g:=gb101) (o:=.cells #[.int .u64 a1_0,.int .u64 a1_1] 30 (0,0)) (by (with_reducible repeat (first|refine z6 ?_ _|refine z8 ?_|refine z5 ?_ _));exact BK101.out)) : gb101 ≠ gb102));have n6_:=z2.mk ((by rw [hg];exact Nat.ne_of_gt (z11 (g:=gb101) (o:=.cells #[.int .u64 a1_0,.int .u64 a1_1] 30 (0,0)) (by (with_reducible repeat (first|refine z6 ?_ _|refine z8 ?_|refine z5 ?_ _));exact BK101.out)) : gb102 ≠ gb101));clear BK101;clear HB;have BK101:=n0_;have HB:=n1_;have BK102:=n2_;have GW102:=n3_;have GE102:=n4_;have NB101_102:=n5_;have NB102_101:=n6_;clear n0_ n1_ n2_ n3_ n4_ n5_ n6_;clear hb hbox hg)|((with_reducible refine zO (N:=6) rfl ?_);refine zM ?hg (N:=6) ?hd (cs:=#[.int .u64 0,.int .u64 0]) (t:=30) ?hr ?_;(case hd=>rfl);(case hg=>rfl);(case hr=>first|(go_simp;done)|(go_simp;rfl));intro gb103 hg w7 hbox hb;have n0_:=z2.mk (ze (g:=gb101) (o:=.cells #[.int .u64 a1_0,.int .u64 a1_1] 30 (0,0)) (by (with_reducible repeat (first|refine z6 ?_ _|refine z8 ?_|refine z5 ?_ _));exact BK101.out) hb);have n1_:=z2.mk (ze (g:=gb102) (o:=.cells #[.int .u64 a2_0,.int .u64 a2_1] 30 (0,0)) (by (with_reducible repeat (first|refine z6 ?_ _|refine z8 ?_|refine z5 ?_ _));exact BK102.out) hb);have n2_:=z2.mk (za (by repeat (first|(with_reducible first|exact HB.out|apply z4|apply z1|apply z3|refine z7 ?_ GE101.out|refine z7 ?_ GE102.out)|exact HB.out)) hb);have n3_:=z2.mk (hbox);have n4_:=z2.mk ((by rw [hg];exact (zc (by repeat (first|(with_reducible first|exact HB.out|apply z4|apply z1|apply z3|refine z7 ?_ GE101.out|refine z7 ?_ GE102.out)|exact HB.out))) : w.heap.size ≤ gb103));have n5_:=z2.mk ((by rw [hg];exact (zc (by repeat (first|(with_reducible first|exact HB.out|apply z4|apply z1|apply z3|refine z7 ?_ GE101.out|refine z7 ?_ GE102.out)|exact HB.out))) : w.heap.size ≤ gb103));have n6_:=z2.mk ((by rw [hg];exact Nat.ne_of_lt (z11 (g:=gb101) (o:=.cells #[.int .u64 a1_0,.int .u64 a1_1] 30 (0,0)) (by (with_reducible repeat (first|refine z6 ?_ _|refine z8 ?_|refine z5 ?_ _));exact BK101.out)) : gb101 ≠ gb103));have n7_:=z2.mk ((by rw [hg];exact Nat.ne_of_gt (z11 (g:=gb101) (o:=.cells #[.int .u64 a1_0,.int .u64 a1_1] 30 (0,0)) (by (with_reducible repeat (first|refine z6 ?_ _|refine z8 ?_|refine z5 ?_ _));exact BK101.out)) : gb103 ≠ gb101));have n8_:=z2.mk ((by rw [hg];exact Nat.ne_of_lt (z11 (g:=gb102) (o:=.cells #[.int .u64 a2_0,.int .u64 a2_1] 30 (0,0)) (by (with_reducible repeat (first|refine z6 ?_ _|refine z8 ?_|refine z5 ?_ _));exact BK102.out)) : gb102 ≠ gb103));have n9_:=z2.mk ((by rw [hg];exact Nat.ne_of_gt (z11 (g:=gb102) (o:=.cells #[.int .u64 a2_0,.int .u64 a2_1] 30 (0,0)) (by (with_reducible repeat (first|refine z6 ?_ _|refine z8 ?_|refine z5 ?_ _));exact BK102.out)) : gb103 ≠ gb102));clear BK101;clear BK102;clear HB;have BK101:=n0_;have BK102:=n1_;have HB:=n2_;have BK103:=n3_;have GW103:=n4_;have GE103:=n5_;have NB101_103:=n6_;have NB103_101:=n7_;have NB102_103:=n8_;have NB103_102:=n9_;clear n0_ n1_ n2_ n3_ n4_ n5_ n6_ n7_ n8_ n9_;clear hb hbox hg))
 repeat (go_quiet (first|((with_reducible refine zO (N:=4) rfl ?_);refine zM ?hg (N:=4) ?hd (cs:=#[.int .u64 a1_0,.int .u64 a1_1]) (t:=30) ?hr ?_;(case hd=>rfl);(case hg=>rfl);(case hr=>first|(go_simp;done)|(go_simp;rfl));intro gb101 hg w5 hbox hb;have n0_:=z2.mk (za (by repeat (first|(with_reducible first|exact HB.out|apply z4|apply z1|apply z3)|exact HB.out)) hb);have n1_:=z2.mk (hbox);have n2_:=z2.mk ((by rw [hg];exact (zc (by repeat (first|(with_reducible first|exact HB.out|apply z4|apply z1|apply z3)|exact HB.out))) : w.heap.size ≤ gb101));have n3_:=z2.mk ((by rw [hg];exact (zc (by repeat (first|(with_reducible first|exact HB.out|apply z4|apply z1|apply z3)|exact HB.out))) : w.heap.size ≤ gb101));clear HB;have HB:=n0_;have BK101:=n1_;have GW101:=n2_;have GE101:=n3_;clear n0_ n1_ n2_ n3_;clear hb hbox hg)|((with_reducible refine zO (N:=5) rfl ?_);refine zM ?hg (N:=5) ?hd (cs:=#[.int .u64 a2_0,.int .u64 a2_1]) (t:=30) ?hr ?_;(case hd=>rfl);(case hg=>rfl);(case hr=>first|(go_simp;done)|(go_simp;rfl));intro gb102 hg w6 hbox hb;have n0_:=z2.mk (ze (g:=gb101) (o:=.cells #[.int .u64 a1_0,.int .u64 a1_1] 30 (0,0)) (by (with_reducible repeat (first|refine z6 ?_ _|refine z8 ?_|refine z5 ?_ _));exact BK101.out) hb);have n1_:=z2.mk (za (by repeat (first|(with_reducible first|exact HB.out|apply z4|apply z1|apply z3|refine z7 ?_ GE101.out)|exact HB.out)) hb);have n2_:=z2.mk (hbox);have n3_:=z2.mk ((by rw [hg];exact (zc (by repeat (first|(with_reducible first|exact HB.out|apply z4|apply z1|apply z3|refine z7 ?_ GE101.out)|exact HB.out))) : w.heap.size ≤ gb102));have n4_:=z2.mk ((by rw [hg];exact (zc (by repeat (first|(with_reducible first|exact HB.out|apply z4|apply z1|apply z3|refine z7 ?_ GE101.out)|exact HB.out))) : w.heap.size ≤ gb102));have n5_:=z2.mk ((by rw [hg];exact Nat.ne_of_lt (z11 (g:=gb101) (o:=.cells #[.int .u64 a1_0,.int .u64 a1_1] 30 (0,0)) (by (with_reducible repeat (first|refine z6 ?_ _|refine z8 ?_|refine z5 ?_ _));exact BK101.out)) : gb101 ≠ gb102));have n6_:=z2.mk ((by rw [hg];exact Nat.ne_of_gt (z11 (g:=gb101) (o:=.cells #[.int .u64 a1_0,.int .u64 a1_1] 30 (0,0)) (by (with_reducible repeat (first|refine z6 ?_ _|refine z8 ?_|refine z5 ?_ _));exact BK101.out)) : gb102 ≠ gb101));clear BK101;clear HB;have BK101:=n0_;have HB:=n1_;have BK102:=n2_;have GW102:=n3_;have GE102:=n4_;have NB101_102:=n5_;have NB102_101:=n6_;clear n0_ n1_ n2_ n3_ n4_ n5_ n6_;clear hb hbox hg)|((with_reducible refine zO (N:=6) rfl ?_);refine zM ?hg (N:=6) ?hd (cs:=#[.int .u64 0,.int .u64 0]) (t:=30) ?hr ?_;(case hd=>rfl);(case hg=>rfl);(case hr=>first|(go_simp;done)|(go_simp;rfl));intro gb103 hg w7 hbox hb;have n0_:=z2.mk (ze (g:=gb101) (o:=.cells #[.int .u64 a1_0,.int .u64 a1_1] 30 (0,0)) (by (with_reducible repeat (first|refine z6 ?_ _|refine z8 ?_|refine z5 ?_ _));exact BK101.out) hb);have n1_:=z2.mk (ze (g:=gb102) (o:=.cells #[.int .u64 a2_0,.int .u64 a2_1] 30 (0,0)) (by (with_reducible repeat (first|refine z6 ?_ _|refine z8 ?_|refine z5 ?_ _));exact BK102.out) hb);have n2_:=z2.mk (za (by repeat (first|(with_reducible first|exact HB.out|apply z4|apply z1|apply z3|refine z7 ?_ GE101.out|refine z7 ?_ GE102.out)|exact HB.out)) hb);have n3_:=z2.mk (hbox);have n4_:=z2.mk ((by rw [hg];exact (zc (by repeat (first|(with_reducible first|exact HB.out|apply z4|apply z1|apply z3|refine z7 ?_ GE101.out|refine z7 ?_ GE102.out)|exact HB.out))) : w.heap.size ≤ gb103));have n5_:=z2.mk ((by rw [hg];exact (zc (by repeat (first|(with_reducible first|exact HB.out|apply z4|apply z1|apply z3|refine z7 ?_ GE101.out|refine z7 ?_ GE102.out)|exact HB.out))) : w.heap.size ≤ gb103));have n6_:=z2.mk ((by rw [hg];exact Nat.ne_of_lt (z11 (g:=gb101) (o:=.cells #[.int .u64 a1_0,.int .u64 a1_1] 30 (0,0)) (by (with_reducible repeat (first|refine z6 ?_ _|refine z8 ?_|refine z5 ?_ _));exact BK101.out)) : gb101 ≠ gb103));have n7_:=z2.mk ((by rw [hg];exact Nat.ne_of_gt (z11 (g:=gb101) (o:=.cells #[.int .u64 a1_0,.int .u64 a1_1] 30 (0,0)) (by (with_reducible repeat (first|refine z6 ?_ _|refine z8 ?_|refine z5 ?_ _));exact BK101.out)) : gb103 ≠ gb101));have n8_:=z2.mk ((by rw [hg];exact Nat.ne_of_lt (z11 (g:=gb102) (o:=.cells #[.int .u64 a2_0,.int .u64 a2_1] 30 (0,0)) (by (with_reducible repeat (first|refine z6 ?_ _|refine z8 ?_|refine z5 ?_ _));exact BK102.out)) : gb102 ≠ gb103));have n9_:=z2.mk ((by rw [hg];exact Nat.ne_of_gt (z11 (g:=gb102) (o:=.cells #[.int .u64 a2_0,.int .u64 a2_1] 30 (0,0)) (by (with_reducible repeat (first|refine z6 ?_ _|refine z8 ?_|refine z5 ?_ _));exact BK102.out)) : gb103 ≠ gb102));clear BK101;clear BK102;clear HB;have BK101:=n0_;have BK102:=n1_;have HB:=n2_;have BK103:=n3_;have GW103:=n4_;have GE103:=n5_;have NB101_103:=n6_;have NB103_101:=n7_;have NB102_103:=n8_;have NB103_102:=n9_;clear n0_ n1_ n2_ n3_ n4_ n5_ n6_ n7_ n8_ n9_;clear hb hbox hg));go_upto_region 1 with (first|((with_reducible refine zO (N:=4) rfl ?_);refine zM ?hg (N:=4) ?hd (cs:=#[.int .u64 a1_0,.int .u64 a1_1]) (t:=30) ?hr ?_;(case hd=>rfl);(case hg=>rfl);(case hr=>first|(go_simp;done)|(go_simp;rfl));intro gb101 hg w5 hbox hb;have n0_:=z2.mk (za (by repeat (first|(with_reducible first|exact HB.out|apply z4|apply z1|apply z3)|exact HB.out)) hb);have n1_:=z2.mk (hbox);have n2_:=z2.mk ((by rw [hg];exact (zc (by repeat (first|(with_reducible first|exact HB.out|apply z4|apply z1|apply z3)|exact HB.out))) : w.heap.size ≤ gb101));have n3_:=z2.mk ((by rw [hg];exact (zc (by repeat (first|(with_reducible first|exact HB.out|apply z4|apply z1|apply z3)|exact HB.out))) : w.heap.size ≤ gb101));clear HB;have HB:=n0_;have BK101:=n1_;have GW101:=n2_;have GE101:=n3_;clear n0_ n1_ n2_ n3_;clear hb hbox hg)|((with_reducible refine zO (N:=5) rfl ?_);refine zM ?hg (N:=5) ?hd (cs:=#[.int .u64 a2_0,.int .u64 a2_1]) (t:=30) ?hr ?_;(case hd=>rfl);(case hg=>rfl);(case hr=>first|(go_simp;done)|(go_simp;rfl));intro gb102 hg w6 hbox hb;have n0_:=z2.mk (ze (g:=gb101) (o:=.cells #[.int .u64 a1_0,.int .u64 a1_1] 30 (0,0)) (by (with_reducible repeat (first|refine z6 ?_ _|refine z8 ?_|refine z5 ?_ _));exact BK101.out) hb);have n1_:=z2.mk (za (by repeat (first|(with_reducible first|exact HB.out|apply z4|apply z1|apply z3|refine z7 ?_ GE101.out)|exact HB.out)) hb);have n2_:=z2.mk (hbox);have n3_:=z2.mk ((by rw [hg];exact (zc (by repeat (first|(with_reducible first|exact HB.out|apply z4|apply z1|apply z3|refine z7 ?_ GE101.out)|exact HB.out))) : w.heap.size ≤ gb102));have n4_:=z2.mk ((by rw [hg];exact (zc (by repeat (first|(with_reducible first|exact HB.out|apply z4|apply z1|apply z3|refine z7 ?_ GE101.out)|exact HB.out))) : w.heap.size ≤ gb102));have n5_:=z2.mk ((by rw [hg];exact Nat.ne_of_lt (z11 (g:=gb101) (o:=.cells #[.int .u64 a1_0,.int .u64 a1_1] 30 (0,0)) (by (with_reducible repeat (first|refine z6 ?_ _|refine z8 ?_|refine z5 ?_ _));exact BK101.out)) : gb101 ≠ gb102));have n6_:=z2.mk ((by rw [hg];exact Nat.ne_of_gt (z11 (g:=gb101) (o:=.cells #[.int .u64 a1_0,.int .u64 a1_1] 30 (0,0)) (by (with_reducible repeat (first|refine z6 ?_ _|refine z8 ?_|refine z5 ?_ _));exact BK101.out)) : gb102 ≠ gb101));clear BK101;clear HB;have BK101:=n0_;have HB:=n1_;have BK102:=n2_;have GW102:=n3_;have GE102:=n4_;have NB101_102:=n5_;have NB102_101:=n6_;clear n0_ n1_ n2_ n3_ n4_ n5_ n6_;clear hb hbox hg)|((with_reducible refine zO (N:=6) rfl ?_);refine zM ?hg (N:=6) ?hd (cs:=#[.int .u64 0,.int .u64 0]) (t:=30) ?hr ?_;(case hd=>rfl);(case hg=>rfl);(case hr=>first|(go_simp;done)|(go_simp;rfl));intro gb103 hg w7 hbox hb;have n0_:=z2.mk (ze (g:=gb101) (o:=.cells #[.int .u64 a1_0,.int .u64 a1_1] 30 (0,0)) (by (with_reducible repeat (first|refine z6 ?_ _|refine z8 ?_|refine z5 ?_ _));exact BK101.out) hb);have n1_:=z2.mk (ze (g:=gb102) (o:=.cells #[.int .u64 a2_0,.int .u64 a2_1] 30 (0,0)) (by (with_reducible repeat (first|refine z6 ?_ _|refine z8 ?_|refine z5 ?_ _));exact BK102.out) hb);have n2_:=z2.mk (za (by repeat (first|(with_reducible first|exact HB.out|apply z4|apply z1|apply z3|refine z7 ?_ GE101.out|refine z7 ?_ GE102.out)|exact HB.out)) hb);have n3_:=z2.mk (hbox);have n4_:=z2.mk ((by rw [hg];exact (zc (by repeat (first|(with_reducible first|exact HB.out|apply z4|apply z1|apply z3|refine z7 ?_ GE101.out|refine z7 ?_ GE102.out)|exact HB.out))) : w.heap.size ≤ gb103));have n5_:=z2.mk ((by rw [hg];exact (zc (by repeat (first|(with_reducible first|exact HB.out|apply z4|apply z1|apply z3|refine z7 ?_ GE101.out|refine z7 ?_ GE102.out)|exact HB.out))) : w.heap.size ≤ gb103));have n6_:=z2.mk ((by rw [hg];exact Nat.ne_of_lt (z11 (g:=gb101) (o:=.cells #[.int .u64 a1_0,.int .u64 a1_1] 30 (0,0)) (by (with_reducible repeat (first|refine z6 ?_ _|refine z8 ?_|refine z5 ?_ _));exact BK101.out)) : gb101 ≠ gb103));have n7_:=z2.mk ((by rw [hg];exact Nat.ne_of_gt (z11 (g:=gb101) (o:=.cells #[.int .u64 a1_0,.int .u64 a1_1] 30 (0,0)) (by (with_reducible repeat (first|refine z6 ?_ _|refine z8 ?_|refine z5 ?_ _));exact BK101.out)) : gb103 ≠ gb101));have n8_:=z2.mk ((by rw [hg];exact Nat.ne_of_lt (z11 (g:=gb102) (o:=.cells #[.int .u64 a2_0,.int .u64 a2_1] 30 (0,0)) (by (with_reducible repeat (first|refine z6 ?_ _|refine z8 ?_|refine z5 ?_ _));exact BK102.out)) : gb102 ≠ gb103));have n9_:=z2.mk ((by rw [hg];exact Nat.ne_of_gt (z11 (g:=gb102) (o:=.cells #[.int .u64 a2_0,.int .u64 a2_1] 30 (0,0)) (by (with_reducible repeat (first|refine z6 ?_ _|refine z8 ?_|refine z5 ?_ _));exact BK102.out)) : gb103 ≠ gb102));clear BK101;clear BK102;clear HB;have BK101:=n0_;have BK102:=n1_;have HB:=n2_;have BK103:=n3_;have GW103:=n4_;have GE103:=n5_;have NB101_103:=n6_;have NB103_101:=n7_;have NB102_103:=n8_;have NB103_102:=n9_;clear n0_ n1_ n2_ n3_ n4_ n5_ n6_ n7_ n8_ n9_;clear hb hbox hg)))
 (try simp only [Act.put,List.setIfInBounds_toArray,List.set_cons_zero,List.set_cons_succ])
 go_cut [10] (fun v10 wc=>∃ (kq : Nat) (x10_3 : Bool),v10 = .bool x10_3 ∧ z2 (zX.j0 kq a0 x10_3 a1_0 a1_1 a2_0 a2_1 = some (r1,r2)) ∧ z2 (kq ≤ k) ∧ z2 (wc.heap[gb101]? = some (.cells #[.int .u64 a1_0,.int .u64 a1_1] 30 (0,0))) ∧ z2 (wc.heap[gb102]? = some (.cells #[.int .u64 a2_0,.int .u64 a2_1] 30 (0,0))) ∧ z2 (wc.heap[gb103]? = some (.cells #[.int .u64 0,.int .u64 0] 30 (0,0))) ∧ z2 (Below w.heap.size w wc))
 case first =>
  have H:=HC4.out
  clear HC4
  replace H:=Option.bind_eq_some_iff.mp H
  obtain ⟨t104,A80,H⟩:=H
  replace H : (if t104 = true then ((zP.f k a0 a2_0 a2_1).bind fun t105=>(zX.j0 k a0 (!t105) a1_0 a1_1 a2_0 a2_1)) else (zX.j0 k a0 true a1_0 a1_1 a2_0 a2_1)) = some (r1,r2):=H
  have A8:=z2.mk A80
  clear A80
  by_cases c9 : t104 = true
  rotate_left
  · replace c9:=Bool.eq_false_iff.mpr c9
    subst c9
    have H1 : (zX.j0 k a0 true a1_0 a1_1 a2_0 a2_1) = some (r1,r2):=by rw [if_neg (show ¬ (false = true) by decide)] at H;exact H
    clear H
    have H:=H1
    clear H1
    have H':=z2.mk H
    clear H
    have hnb18:=NB101_102.out
    have hnc18:=NB102_101.out
    have hnb19:=NB101_103.out
    have hnc19:=NB103_101.out
    have hcz20_0 : w7.cell? ⟨gb101,0,none⟩ = some (.int .u64 a1_0):=(z9 BK101.out 0).trans rfl
    have hcz20_1 : w7.cell? ⟨gb101,1,none⟩ = some (.int .u64 a1_1):=(z9 BK101.out 1).trans rfl
    have hfz20_0:=zd BK101.out 0
    have hfz20_1:=zd BK101.out 1
    go_wp2_with (first|(go_at_call 81;(with_reducible refine (zP.calls k a0 a1_0 a1_1 false _ A8.out).mono ?_);rintro e w21 ⟨rfl,hb⟩;have n0_:=z2.mk (ze (g:=gb101) (o:=.cells #[.int .u64 a1_0,.int .u64 a1_1] 30 (0,0)) (by (with_reducible repeat (first|refine z6 ?_ _|refine z8 ?_|refine z5 ?_ _));exact BK101.out) hb);have n1_:=z2.mk (ze (g:=gb102) (o:=.cells #[.int .u64 a2_0,.int .u64 a2_1] 30 (0,0)) (by (with_reducible repeat (first|refine z6 ?_ _|refine z8 ?_|refine z5 ?_ _));exact BK102.out) hb);have n2_:=z2.mk (ze (g:=gb103) (o:=.cells #[.int .u64 0,.int .u64 0] 30 (0,0)) (by (with_reducible repeat (first|refine z6 ?_ _|refine z8 ?_|refine z5 ?_ _));exact BK103.out) hb);have n3_:=z2.mk (za (by repeat (first|(with_reducible first|exact HB.out|apply z4|apply z1|apply z3|refine z7 ?_ GE101.out|refine z7 ?_ GE102.out|refine z7 ?_ GE103.out)|exact HB.out)) hb);clear BK101;clear BK102;clear BK103;clear HB;have BK101:=n0_;have BK102:=n1_;have BK103:=n2_;have HB:=n3_;clear n0_ n1_ n2_ n3_;(try clear hb);(try clear hb2);(try clear hk);(try clear hi)))
    repeat (go_quiet (first|(go_at_call 81;(with_reducible refine (zP.calls k a0 a1_0 a1_1 false _ A8.out).mono ?_);rintro e w21 ⟨rfl,hb⟩;have n0_:=z2.mk (ze (g:=gb101) (o:=.cells #[.int .u64 a1_0,.int .u64 a1_1] 30 (0,0)) (by (with_reducible repeat (first|refine z6 ?_ _|refine z8 ?_|refine z5 ?_ _));exact BK101.out) hb);have n1_:=z2.mk (ze (g:=gb102) (o:=.cells #[.int .u64 a2_0,.int .u64 a2_1] 30 (0,0)) (by (with_reducible repeat (first|refine z6 ?_ _|refine z8 ?_|refine z5 ?_ _));exact BK102.out) hb);have n2_:=z2.mk (ze (g:=gb103) (o:=.cells #[.int .u64 0,.int .u64 0] 30 (0,0)) (by (with_reducible repeat (first|refine z6 ?_ _|refine z8 ?_|refine z5 ?_ _));exact BK103.out) hb);have n3_:=z2.mk (za (by repeat (first|(with_reducible first|exact HB.out|apply z4|apply z1|apply z3|refine z7 ?_ GE101.out|refine z7 ?_ GE102.out|refine z7 ?_ GE103.out)|exact HB.out)) hb);clear BK101;clear BK102;clear BK103;clear HB;have BK101:=n0_;have BK102:=n1_;have BK103:=n2_;have HB:=n3_;clear n0_ n1_ n2_ n3_;(try clear hb);(try clear hb2);(try clear hk);(try clear hi)));try go_wp2_with (first|(go_at_call 81;(with_reducible refine (zP.calls k a0 a1_0 a1_1 false _ A8.out).mono ?_);rintro e w21 ⟨rfl,hb⟩;have n0_:=z2.mk (ze (g:=gb101) (o:=.cells #[.int .u64 a1_0,.int .u64 a1_1] 30 (0,0)) (by (with_reducible repeat (first|refine z6 ?_ _|refine z8 ?_|refine z5 ?_ _));exact BK101.out) hb);have n1_:=z2.mk (ze (g:=gb102) (o:=.cells #[.int .u64 a2_0,.int .u64 a2_1] 30 (0,0)) (by (with_reducible repeat (first|refine z6 ?_ _|refine z8 ?_|refine z5 ?_ _));exact BK102.out) hb);have n2_:=z2.mk (ze (g:=gb103) (o:=.cells #[.int .u64 0,.int .u64 0] 30 (0,0)) (by (with_reducible repeat (first|refine z6 ?_ _|refine z8 ?_|refine z5 ?_ _));exact BK103.out) hb);have n3_:=z2.mk (za (by repeat (first|(with_reducible first|exact HB.out|apply z4|apply z1|apply z3|refine z7 ?_ GE101.out|refine z7 ?_ GE102.out|refine z7 ?_ GE103.out)|exact HB.out)) hb);clear BK101;clear BK102;clear BK103;clear HB;have BK101:=n0_;have BK102:=n1_;have BK103:=n2_;have HB:=n3_;clear n0_ n1_ n2_ n3_;(try clear hb);(try clear hb2);(try clear hk);(try clear hi))))
    go_meet
    case rel=>exact ⟨_,(true),(by first|rfl|(simp;done)|(simp [*];done)),H',⟨by first|omega|exact Nat.le_refl _⟩,⟨by (with_reducible repeat (first|refine z6 ?_ _|refine z8 ?_|refine z5 ?_ _));exact BK101.out⟩,⟨by (with_reducible repeat (first|refine z6 ?_ _|refine z8 ?_|refine z5 ?_ _));exact BK102.out⟩,⟨by (with_reducible repeat (first|refine z6 ?_ _|refine z8 ?_|refine z5 ?_ _));exact BK103.out⟩,⟨by repeat (first|(with_reducible first|exact HB.out|apply z4|apply z1|apply z3|refine z7 ?_ GE101.out|refine z7 ?_ GE102.out|refine z7 ?_ GE103.out)|exact HB.out)⟩⟩
  subst c9
  have H1 : ((zP.f k a0 a2_0 a2_1).bind fun t105=>(zX.j0 k a0 (!t105) a1_0 a1_1 a2_0 a2_1)) = some (r1,r2):=by rw [if_pos rfl] at H;exact H
  clear H
  have H:=H1
  clear H1
  replace H:=Option.bind_eq_some_iff.mp H
  obtain ⟨t105,A100,H⟩:=H
  replace H : (zX.j0 k a0 (!t105) a1_0 a1_1 a2_0 a2_1) = some (r1,r2):=H
  have A10:=z2.mk A100
  clear A100
  have H':=z2.mk H
  clear H
  have hnb11:=NB101_102.out
  have hnc11:=NB102_101.out
  have hnb12:=NB101_103.out
  have hnc12:=NB103_101.out
  have hcz13_0 : w7.cell? ⟨gb101,0,none⟩ = some (.int .u64 a1_0):=(z9 BK101.out 0).trans rfl
  have hcz13_1 : w7.cell? ⟨gb101,1,none⟩ = some (.int .u64 a1_1):=(z9 BK101.out 1).trans rfl
  have hfz13_0:=zd BK101.out 0
  have hfz13_1:=zd BK101.out 1
  go_wp2_with (first|(go_at_call 81;(with_reducible refine (zP.calls k a0 a1_0 a1_1 true _ A8.out).mono ?_);rintro e w14 ⟨rfl,hb⟩;have n0_:=z2.mk (ze (g:=gb101) (o:=.cells #[.int .u64 a1_0,.int .u64 a1_1] 30 (0,0)) (by (with_reducible repeat (first|refine z6 ?_ _|refine z8 ?_|refine z5 ?_ _));exact BK101.out) hb);have n1_:=z2.mk (ze (g:=gb102) (o:=.cells #[.int .u64 a2_0,.int .u64 a2_1] 30 (0,0)) (by (with_reducible repeat (first|refine z6 ?_ _|refine z8 ?_|refine z5 ?_ _));exact BK102.out) hb);have n2_:=z2.mk (ze (g:=gb103) (o:=.cells #[.int .u64 0,.int .u64 0] 30 (0,0)) (by (with_reducible repeat (first|refine z6 ?_ _|refine z8 ?_|refine z5 ?_ _));exact BK103.out) hb);have n3_:=z2.mk (za (by repeat (first|(with_reducible first|exact HB.out|apply z4|apply z1|apply z3|refine z7 ?_ GE101.out|refine z7 ?_ GE102.out|refine z7 ?_ GE103.out)|exact HB.out)) hb);clear BK101;clear BK102;clear BK103;clear HB;have BK101:=n0_;have BK102:=n1_;have BK103:=n2_;have HB:=n3_;clear n0_ n1_ n2_ n3_;(try clear hb);(try clear hb2);(try clear hk);(try clear hi);have hnb15:=NB102_103.out;have hnc15:=NB103_102.out;have hcz16_0 : w14.cell? ⟨gb102,0,none⟩ = some (.int .u64 a2_0):=(z9 BK102.out 0).trans rfl;have hcz16_1 : w14.cell? ⟨gb102,1,none⟩ = some (.int .u64 a2_1):=(z9 BK102.out 1).trans rfl;have hfz16_0:=zd BK102.out 0;have hfz16_1:=zd BK102.out 1)|(go_at_call 81;(with_reducible refine (zP.calls k a0 a2_0 a2_1 t105 _ A10.out).mono ?_);rintro e w17 ⟨rfl,hb⟩;have n0_:=z2.mk (ze (g:=gb101) (o:=.cells #[.int .u64 a1_0,.int .u64 a1_1] 30 (0,0)) (by (with_reducible repeat (first|refine z6 ?_ _|refine z8 ?_|refine z5 ?_ _));exact BK101.out) hb);have n1_:=z2.mk (ze (g:=gb102) (o:=.cells #[.int .u64 a2_0,.int .u64 a2_1] 30 (0,0)) (by (with_reducible repeat (first|refine z6 ?_ _|refine z8 ?_|refine z5 ?_ _));exact BK102.out) hb);have n2_:=z2.mk (ze (g:=gb103) (o:=.cells #[.int .u64 0,.int .u64 0] 30 (0,0)) (by (with_reducible repeat (first|refine z6 ?_ _|refine z8 ?_|refine z5 ?_ _));exact BK103.out) hb);have n3_:=z2.mk (za (by repeat (first|(with_reducible first|exact HB.out|apply z4|apply z1|apply z3|refine z7 ?_ GE101.out|refine z7 ?_ GE102.out|refine z7 ?_ GE103.out)|exact HB.out)) hb);clear BK101;clear BK102;clear BK103;clear HB;have BK101:=n0_;have BK102:=n1_;have BK103:=n2_;have HB:=n3_;clear n0_ n1_ n2_ n3_;(try clear hb);(try clear hb2);(try clear hk);(try clear hi)))
  repeat (go_quiet (first|(go_at_call 81;(with_reducible refine (zP.calls k a0 a1_0 a1_1 true _ A8.out).mono ?_);rintro e w14 ⟨rfl,hb⟩;have n0_:=z2.mk (ze (g:=gb101) (o:=.cells #[.int .u64 a1_0,.int .u64 a1_1] 30 (0,0)) (by (with_reducible repeat (first|refine z6 ?_ _|refine z8 ?_|refine z5 ?_ _));exact BK101.out) hb);have n1_:=z2.mk (ze (g:=gb102) (o:=.cells #[.int .u64 a2_0,.int .u64 a2_1] 30 (0,0)) (by (with_reducible repeat (first|refine z6 ?_ _|refine z8 ?_|refine z5 ?_ _));exact BK102.out) hb);have n2_:=z2.mk (ze (g:=gb103) (o:=.cells #[.int .u64 0,.int .u64 0] 30 (0,0)) (by (with_reducible repeat (first|refine z6 ?_ _|refine z8 ?_|refine z5 ?_ _));exact BK103.out) hb);have n3_:=z2.mk (za (by repeat (first|(with_reducible first|exact HB.out|apply z4|apply z1|apply z3|refine z7 ?_ GE101.out|refine z7 ?_ GE102.out|refine z7 ?_ GE103.out)|exact HB.out)) hb);clear BK101;clear BK102;clear BK103;clear HB;have BK101:=n0_;have BK102:=n1_;have BK103:=n2_;have HB:=n3_;clear n0_ n1_ n2_ n3_;(try clear hb);(try clear hb2);(try clear hk);(try clear hi);have hnb15:=NB102_103.out;have hnc15:=NB103_102.out;have hcz16_0 : w14.cell? ⟨gb102,0,none⟩ = some (.int .u64 a2_0):=(z9 BK102.out 0).trans rfl;have hcz16_1 : w14.cell? ⟨gb102,1,none⟩ = some (.int .u64 a2_1):=(z9 BK102.out 1).trans rfl;have hfz16_0:=zd BK102.out 0;have hfz16_1:=zd BK102.out 1)|(go_at_call 81;(with_reducible refine (zP.calls k a0 a2_0 a2_1 t105 _ A10.out).mono ?_);rintro e w17 ⟨rfl,hb⟩;have n0_:=z2.mk (ze (g:=gb101) (o:=.cells #[.int .u64 a1_0,.int .u64 a1_1] 30 (0,0)) (by (with_reducible repeat (first|refine z6 ?_ _|refine z8 ?_|refine z5 ?_ _));exact BK101.out) hb);have n1_:=z2.mk (ze (g:=gb102) (o:=.cells #[.int .u64 a2_0,.int .u64 a2_1] 30 (0,0)) (by (with_reducible repeat (first|refine z6 ?_ _|refine z8 ?_|refine z5 ?_ _));exact BK102.out) hb);have n2_:=z2.mk (ze (g:=gb103) (o:=.cells #[.int .u64 0,.int .u64 0] 30 (0,0)) (by (with_reducible repeat (first|refine z6 ?_ _|refine z8 ?_|refine z5 ?_ _));exact BK103.out) hb);have n3_:=z2.mk (za (by repeat (first|(with_reducible first|exact HB.out|apply z4|apply z1|apply z3|refine z7 ?_ GE101.out|refine z7 ?_ GE102.out|refine z7 ?_ GE103.out)|exact HB.out)) hb);clear BK101;clear BK102;clear BK103;clear HB;have BK101:=n0_;have BK102:=n1_;have BK103:=n2_;have HB:=n3_;clear n0_ n1_ n2_ n3_;(try clear hb);(try clear hb2);(try clear hk);(try clear hi)));try go_wp2_with (first|(go_at_call 81;(with_reducible refine (zP.calls k a0 a1_0 a1_1 true _ A8.out).mono ?_);rintro e w14 ⟨rfl,hb⟩;have n0_:=z2.mk (ze (g:=gb101) (o:=.cells #[.int .u64 a1_0,.int .u64 a1_1] 30 (0,0)) (by (with_reducible repeat (first|refine z6 ?_ _|refine z8 ?_|refine z5 ?_ _));exact BK101.out) hb);have n1_:=z2.mk (ze (g:=gb102) (o:=.cells #[.int .u64 a2_0,.int .u64 a2_1] 30 (0,0)) (by (with_reducible repeat (first|refine z6 ?_ _|refine z8 ?_|refine z5 ?_ _));exact BK102.out) hb);have n2_:=z2.mk (ze (g:=gb103) (o:=.cells #[.int .u64 0,.int .u64 0] 30 (0,0)) (by (with_reducible repeat (first|refine z6 ?_ _|refine z8 ?_|refine z5 ?_ _));exact BK103.out) hb);have n3_:=z2.mk (za (by repeat (first|(with_reducible first|exact HB.out|apply z4|apply z1|apply z3|refine z7 ?_ GE101.out|refine z7 ?_ GE102.out|refine z7 ?_ GE103.out)|exact HB.out)) hb);clear BK101;clear BK102;clear BK103;clear HB;have BK101:=n0_;have BK102:=n1_;have BK103:=n2_;have HB:=n3_;clear n0_ n1_ n2_ n3_;(try clear hb);(try clear hb2);(try clear hk);(try clear hi);have hnb15:=NB102_103.out;have hnc15:=NB103_102.out;have hcz16_0 : w14.cell? ⟨gb102,0,none⟩ = some (.int .u64 a2_0):=(z9 BK102.out 0).trans rfl;have hcz16_1 : w14.cell? ⟨gb102,1,none⟩ = some (.int .u64 a2_1):=(z9 BK102.out 1).trans rfl;have hfz16_0:=zd BK102.out 0;have hfz16_1:=zd BK102.out 1)|(go_at_call 81;(with_reducible refine (zP.calls k a0 a2_0 a2_1 t105 _ A10.out).mono ?_);rintro e w17 ⟨rfl,hb⟩;have n0_:=z2.mk (ze (g:=gb101) (o:=.cells #[.int .u64 a1_0,.int .u64 a1_1] 30 (0,0)) (by (with_reducible repeat (first|refine z6 ?_ _|refine z8 ?_|refine z5 ?_ _));exact BK101.out) hb);have n1_:=z2.mk (ze (g:=gb102) (o:=.cells #[.int .u64 a2_0,.int .u64 a2_1] 30 (0,0)) (by (with_reducible repeat (first|refine z6 ?_ _|refine z8 ?_|refine z5 ?_ _));exact BK102.out) hb);have n2_:=z2.mk (ze (g:=gb103) (o:=.cells #[.int .u64 0,.int .u64 0] 30 (0,0)) (by (with_reducible repeat (first|refine z6 ?_ _|refine z8 ?_|refine z5 ?_ _));exact BK103.out) hb);have n3_:=z2.mk (za (by repeat (first|(with_reducible first|exact HB.out|apply z4|apply z1|apply z3|refine z7 ?_ GE101.out|refine z7 ?_ GE102.out|refine z7 ?_ GE103.out)|exact HB.out)) hb);clear BK101;clear BK102;clear BK103;clear HB;have BK101:=n0_;have BK102:=n1_;have BK103:=n2_;have HB:=n3_;clear n0_ n1_ n2_ n3_;(try clear hb);(try clear hb2);(try clear hk);(try clear hi))))
  go_meet
  case rel=>exact ⟨_,(!t105),(by first|rfl|(simp;done)|(simp [*];done)),H',⟨by first|omega|exact Nat.le_refl _⟩,⟨by (with_reducible repeat (first|refine z6 ?_ _|refine z8 ?_|refine z5 ?_ _));exact BK101.out⟩,⟨by (with_reducible repeat (first|refine z6 ?_ _|refine z8 ?_|refine z5 ?_ _));exact BK102.out⟩,⟨by (with_reducible repeat (first|refine z6 ?_ _|refine z8 ?_|refine z5 ?_ _));exact BK103.out⟩,⟨by repeat (first|(with_reducible first|exact HB.out|apply z4|apply z1|apply z3|refine z7 ?_ GE101.out|refine z7 ?_ GE102.out|refine z7 ?_ GE103.out)|exact HB.out)⟩⟩
 case rest =>
  clear HC4
  (try clear c1);(try clear p2);(try clear c7);(try clear c9);(try clear c11);(try clear c12);(try clear c15);(try clear c18);(try clear c19);(try clear hcz13_0);(try clear hcz13_1);(try clear hcz16_0);(try clear hcz16_1);(try clear hcz20_0);(try clear hcz20_1);(try clear hfz13_0);(try clear hfz13_1);(try clear hfz16_0);(try clear hfz16_1);(try clear hfz20_0);(try clear hfz20_1)
  obtain ⟨kq,x10_3,rfl,HA,HJ3,BK101,BK102,BK103,HB⟩:=hcut
  cases kq with
  | zero=>exact absurd HA.out (by simp [zX.j0])
  | succ kj3 =>
   have H:=HA.out
   clear HA
   simp only [zX.j0] at H
   by_cases c22 : x10_3 = true
   · subst c22
     have H1 : (some (0,0)) = some (r1,r2):=by rw [if_pos rfl] at H;exact H
     clear H
     have H:=H1
     clear H1
     simp only [Option.some.injEq,Prod.mk.injEq] at H
     obtain ⟨rfl,rfl⟩:=H
     have hnb23:=NB103_101.out
     have hnc23:=NB101_103.out
     have hnb24:=NB103_102.out
     have hnc24:=NB102_103.out
     have hcz25_0 : wc.cell? ⟨gb103,0,none⟩ = some (.int .u64 0):=(z9 BK103.out 0).trans rfl
     have hcz25_1 : wc.cell? ⟨gb103,1,none⟩ = some (.int .u64 0):=(z9 BK103.out 1).trans rfl
     have hfz25_0:=zd BK103.out 0
     have hfz25_1:=zd BK103.out 1
     go_wp2
     repeat (go_quiet (fail);try go_wp2)
     refine bodyPost_ret (results_cell_row rfl _ _ gb103 30 #[.int .u64 0,.int .u64 0] (0,0) _ rfl (by (with_reducible repeat (first|refine z6 ?_ _|refine z8 ?_|refine z5 ?_ _));refine z15 (cs:=#[.int .u64 0,.int .u64 0]) ?_ 1 _ rfl;(with_reducible repeat (first|refine z6 ?_ _|refine z8 ?_|refine z5 ?_ _));refine z15 (cs:=#[.int .u64 0,.int .u64 0]) ?_ 0 _ rfl;(with_reducible repeat (first|refine z6 ?_ _|refine z8 ?_|refine z5 ?_ _));exact BK103.out) Try.underlying30 rfl (by kernel_rfl)) rfl ?_
     exact ⟨by first|rfl|(simp [zh,zi] <;> rfl)|(simp [*,zh,zi] <;> rfl),by repeat (first|(with_reducible first|exact HB.out|apply z4|apply z1|apply z3|refine z7 ?_ GE101.out|refine z7 ?_ GE102.out|refine z7 ?_ GE103.out)|exact HB.out)⟩
   replace c22:=Bool.eq_false_iff.mpr c22
   subst c22
   have H1 : (if a0 ≤ 6 then ((zH.f kj3 a0 a1_1 a2_1).bind fun t106=>(some (0,t106))) else ((zH.f kj3 6 a1_0 a2_0).bind fun t107=>((zH.f kj3 6 a1_1 a2_1).bind fun t108=>((zH.f kj3 6 (Go.bits .xor .u64 a1_0 a1_1) (Go.bits .xor .u64 a2_0 a2_1)).bind fun t109=>((z12.f kj3 6 t107).bind fun t110=>(some (Go.bits .xor .u64 (Go.bits .xor .u64 (Go.bits .xor .u64 t109 t107) t108) t110,Go.bits .xor .u64 t108 t107))))))) = some (r1,r2):=by rw [if_neg (show ¬ (false = true) by decide)] at H;exact H
   clear H
   have H:=H1
   clear H1
   by_cases c26 : a0 ≤ 6
   · rw [if_pos c26] at H
     have c26b0 : decide (a0 ≤ 6) = true:=decide_eq_true c26
     clear c26
     replace H:=Option.bind_eq_some_iff.mp H
     obtain ⟨t106,A270,H⟩:=H
     replace H : (some (0,t106)) = some (r1,r2):=H
     have A27:=z2.mk A270
     clear A270
     simp only [Option.some.injEq,Prod.mk.injEq] at H
     obtain ⟨rfl,rfl⟩:=H
     have hnb28:=NB101_102.out
     have hnc28:=NB102_101.out
     have hnb29:=NB101_103.out
     have hnc29:=NB103_101.out
     have hcz30_0 : wc.cell? ⟨gb101,0,none⟩ = some (.int .u64 a1_0):=(z9 BK101.out 0).trans rfl
     have hcz30_1 : wc.cell? ⟨gb101,1,none⟩ = some (.int .u64 a1_1):=(z9 BK101.out 1).trans rfl
     have hfz30_0:=zd BK101.out 0
     have hfz30_1:=zd BK101.out 1
     have hnb31:=NB102_103.out
     have hnc31:=NB103_102.out
     have hcz32_0 : wc.cell? ⟨gb102,0,none⟩ = some (.int .u64 a2_0):=(z9 BK102.out 0).trans rfl
     have hcz32_1 : wc.cell? ⟨gb102,1,none⟩ = some (.int .u64 a2_1):=(z9 BK102.out 1).trans rfl
     have hfz32_0:=zd BK102.out 0
     have hfz32_1:=zd BK102.out 1
     go_wp2_with (first|(go_at_call 117;(with_reducible refine (zH.calls kj3 a0 a1_1 a2_1 t106 _ A27.out).mono ?_);rintro e w' ⟨rfl,⟨nd,rfl⟩⟩;(try first|exact ⟨rfl,_,World.drewN_drewN _ _ _⟩|exact ⟨rfl,_,Eq.trans (World.drewN_drewN _ _ _) (congrArg (World.drewN _) (Nat.add_assoc _ _ _))⟩);have hcz33_0 : wc.cell? ⟨gb103,0,none⟩ = some (.int .u64 0):=(z9 BK103.out 0).trans rfl;have hcz33_1 : wc.cell? ⟨gb103,1,none⟩ = some (.int .u64 0):=(z9 BK103.out 1).trans rfl;have hfz33_0:=zd BK103.out 0;have hfz33_1:=zd BK103.out 1))
     repeat (go_quiet (first|(go_at_call 117;(with_reducible refine (zH.calls kj3 a0 a1_1 a2_1 t106 _ A27.out).mono ?_);rintro e w' ⟨rfl,⟨nd,rfl⟩⟩;(try first|exact ⟨rfl,_,World.drewN_drewN _ _ _⟩|exact ⟨rfl,_,Eq.trans (World.drewN_drewN _ _ _) (congrArg (World.drewN _) (Nat.add_assoc _ _ _))⟩);have hcz33_0 : wc.cell? ⟨gb103,0,none⟩ = some (.int .u64 0):=(z9 BK103.out 0).trans rfl;have hcz33_1 : wc.cell? ⟨gb103,1,none⟩ = some (.int .u64 0):=(z9 BK103.out 1).trans rfl;have hfz33_0:=zd BK103.out 0;have hfz33_1:=zd BK103.out 1));try go_wp2_with (first|(go_at_call 117;(with_reducible refine (zH.calls kj3 a0 a1_1 a2_1 t106 _ A27.out).mono ?_);rintro e w' ⟨rfl,⟨nd,rfl⟩⟩;(try first|exact ⟨rfl,_,World.drewN_drewN _ _ _⟩|exact ⟨rfl,_,Eq.trans (World.drewN_drewN _ _ _) (congrArg (World.drewN _) (Nat.add_assoc _ _ _))⟩);have hcz33_0 : wc.cell? ⟨gb103,0,none⟩ = some (.int .u64 0):=(z9 BK103.out 0).trans rfl;have hcz33_1 : wc.cell? ⟨gb103,1,none⟩ = some (.int .u64 0):=(z9 BK103.out 1).trans rfl;have hfz33_0:=zd BK103.out 0;have hfz33_1:=zd BK103.out 1)))
     refine bodyPost_ret (results_cell_row rfl _ _ gb103 30 #[.int .u64 0,.int .u64 t106] (0,0) _ rfl (by (with_reducible repeat (first|refine z6 ?_ _|refine z8 ?_|refine z5 ?_ _));refine z15 (cs:=#[.int .u64 0,.int .u64 0]) ?_ 1 _ rfl;(with_reducible repeat (first|refine z6 ?_ _|refine z8 ?_|refine z5 ?_ _));refine z15 (cs:=#[.int .u64 0,.int .u64 0]) ?_ 0 _ rfl;(with_reducible repeat (first|refine z6 ?_ _|refine z8 ?_|refine z5 ?_ _));exact BK103.out) Try.underlying30 rfl (by kernel_rfl)) rfl ?_
     exact ⟨by first|rfl|(simp [zh,zi] <;> rfl)|(simp [*,zh,zi] <;> rfl),by repeat (first|(with_reducible first|exact HB.out|apply z4|apply z1|apply z3|refine z7 ?_ GE101.out|refine z7 ?_ GE102.out|refine z7 ?_ GE103.out)|exact HB.out)⟩
   rw [if_neg c26] at H
   have c26b0 : decide (a0 ≤ 6) = false:=decide_eq_false c26
   clear c26
   replace H:=Option.bind_eq_some_iff.mp H
   obtain ⟨t107,A340,H⟩:=H
   replace H : ((zH.f kj3 6 a1_1 a2_1).bind fun t108=>((zH.f kj3 6 (Go.bits .xor .u64 a1_0 a1_1) (Go.bits .xor .u64 a2_0 a2_1)).bind fun t109=>((z12.f kj3 6 t107).bind fun t110=>(some (Go.bits .xor .u64 (Go.bits .xor .u64 (Go.bits .xor .u64 t109 t107) t108) t110,Go.bits .xor .u64 t108 t107))))) = some (r1,r2):=H
   have A34:=z2.mk A340
   clear A340
   replace H:=Option.bind_eq_some_iff.mp H
   obtain ⟨t108,A350,H⟩:=H
   replace H : ((zH.f kj3 6 (Go.bits .xor .u64 a1_0 a1_1) (Go.bits .xor .u64 a2_0 a2_1)).bind fun t109=>((z12.f kj3 6 t107).bind fun t110=>(some (Go.bits .xor .u64 (Go.bits .xor .u64 (Go.bits .xor .u64 t109 t107) t108) t110,Go.bits .xor .u64 t108 t107)))) = some (r1,r2):=H
   have A35:=z2.mk A350
   clear A350
   replace H:=Option.bind_eq_some_iff.mp H
   obtain ⟨t109,A360,H⟩:=H
   replace H : ((z12.f kj3 6 t107).bind fun t110=>(some (Go.bits .xor .u64 (Go.bits .xor .u64 (Go.bits .xor .u64 t109 t107) t108) t110,Go.bits .xor .u64 t108 t107))) = some (r1,r2):=H
   have A36:=z2.mk A360
   clear A360
   replace H:=Option.bind_eq_some_iff.mp H
   obtain ⟨t110,A370,H⟩:=H
   replace H : (some (Go.bits .xor .u64 (Go.bits .xor .u64 (Go.bits .xor .u64 t109 t107) t108) t110,Go.bits .xor .u64 t108 t107)) = some (r1,r2):=H
   have A37:=z2.mk A370
   clear A370
   simp only [Option.some.injEq,Prod.mk.injEq] at H
   obtain ⟨rfl,rfl⟩:=H
   have hnb38:=NB101_102.out
   have hnc38:=NB102_101.out
   have hnb39:=NB101_103.out
   have hnc39:=NB103_101.out
   have hcz40_0 : wc.cell? ⟨gb101,0,none⟩ = some (.int .u64 a1_0):=(z9 BK101.out 0).trans rfl
   have hcz40_1 : wc.cell? ⟨gb101,1,none⟩ = some (.int .u64 a1_1):=(z9 BK101.out 1).trans rfl
   have hfz40_0:=zd BK101.out 0
   have hfz40_1:=zd BK101.out 1
   have hnb41:=NB102_103.out
   have hnc41:=NB103_102.out
   have hcz42_0 : wc.cell? ⟨gb102,0,none⟩ = some (.int .u64 a2_0):=(z9 BK102.out 0).trans rfl
   have hcz42_1 : wc.cell? ⟨gb102,1,none⟩ = some (.int .u64 a2_1):=(z9 BK102.out 1).trans rfl
   have hfz42_0:=zd BK102.out 0
   have hfz42_1:=zd BK102.out 1
   go_wp2_with (first|(go_at_call 117;(with_reducible refine (zH.calls kj3 6 a1_0 a2_0 t107 _ A34.out).mono ?_);rintro e w' ⟨rfl,⟨nd,rfl⟩⟩;(try first|exact ⟨rfl,_,World.drewN_drewN _ _ _⟩|exact ⟨rfl,_,Eq.trans (World.drewN_drewN _ _ _) (congrArg (World.drewN _) (Nat.add_assoc _ _ _))⟩))|(go_at_call 117;(with_reducible refine (zH.calls kj3 6 a1_1 a2_1 t108 _ A35.out).mono ?_);rintro e w' ⟨rfl,⟨nd,rfl⟩⟩;(try first|exact ⟨rfl,_,World.drewN_drewN _ _ _⟩|exact ⟨rfl,_,Eq.trans (World.drewN_drewN _ _ _) (congrArg (World.drewN _) (Nat.add_assoc _ _ _))⟩))|(go_at_call 117;(with_reducible refine (zH.calls kj3 6 (Go.bits .xor .u64 a1_0 a1_1) (Go.bits .xor .u64 a2_0 a2_1) t109 _ A36.out).mono ?_);rintro e w' ⟨rfl,⟨nd,rfl⟩⟩;(try first|exact ⟨rfl,_,World.drewN_drewN _ _ _⟩|exact ⟨rfl,_,Eq.trans (World.drewN_drewN _ _ _) (congrArg (World.drewN _) (Nat.add_assoc _ _ _))⟩))|(go_at_call 118;(with_reducible refine (z12.calls kj3 6 t107 t110 _ A37.out).mono ?_);rintro e w' ⟨rfl,⟨nd,rfl⟩⟩;(try first|exact ⟨rfl,_,World.drewN_drewN _ _ _⟩|exact ⟨rfl,_,Eq.trans (World.drewN_drewN _ _ _) (congrArg (World.drewN _) (Nat.add_assoc _ _ _))⟩);have hcz43_0 : wc.cell? ⟨gb103,0,none⟩ = some (.int .u64 0):=(z9 BK103.out 0).trans rfl;have hcz43_1 : wc.cell? ⟨gb103,1,none⟩ = some (.int .u64 0):=(z9 BK103.out 1).trans rfl;have hfz43_0:=zd BK103.out 0;have hfz43_1:=zd BK103.out 1))
   repeat (go_quiet (first|(go_at_call 117;(with_reducible refine (zH.calls kj3 6 a1_0 a2_0 t107 _ A34.out).mono ?_);rintro e w' ⟨rfl,⟨nd,rfl⟩⟩;(try first|exact ⟨rfl,_,World.drewN_drewN _ _ _⟩|exact ⟨rfl,_,Eq.trans (World.drewN_drewN _ _ _) (congrArg (World.drewN _) (Nat.add_assoc _ _ _))⟩))|(go_at_call 117;(with_reducible refine (zH.calls kj3 6 a1_1 a2_1 t108 _ A35.out).mono ?_);rintro e w' ⟨rfl,⟨nd,rfl⟩⟩;(try first|exact ⟨rfl,_,World.drewN_drewN _ _ _⟩|exact ⟨rfl,_,Eq.trans (World.drewN_drewN _ _ _) (congrArg (World.drewN _) (Nat.add_assoc _ _ _))⟩))|(go_at_call 117;(with_reducible refine (zH.calls kj3 6 (Go.bits .xor .u64 a1_0 a1_1) (Go.bits .xor .u64 a2_0 a2_1) t109 _ A36.out).mono ?_);rintro e w' ⟨rfl,⟨nd,rfl⟩⟩;(try first|exact ⟨rfl,_,World.drewN_drewN _ _ _⟩|exact ⟨rfl,_,Eq.trans (World.drewN_drewN _ _ _) (congrArg (World.drewN _) (Nat.add_assoc _ _ _))⟩))|(go_at_call 118;(with_reducible refine (z12.calls kj3 6 t107 t110 _ A37.out).mono ?_);rintro e w' ⟨rfl,⟨nd,rfl⟩⟩;(try first|exact ⟨rfl,_,World.drewN_drewN _ _ _⟩|exact ⟨rfl,_,Eq.trans (World.drewN_drewN _ _ _) (congrArg (World.drewN _) (Nat.add_assoc _ _ _))⟩);have hcz43_0 : wc.cell? ⟨gb103,0,none⟩ = some (.int .u64 0):=(z9 BK103.out 0).trans rfl;have hcz43_1 : wc.cell? ⟨gb103,1,none⟩ = some (.int .u64 0):=(z9 BK103.out 1).trans rfl;have hfz43_0:=zd BK103.out 0;have hfz43_1:=zd BK103.out 1));try go_wp2_with (first|(go_at_call 117;(with_reducible refine (zH.calls kj3 6 a1_0 a2_0 t107 _ A34.out).mono ?_);rintro e w' ⟨rfl,⟨nd,rfl⟩⟩;(try first|exact ⟨rfl,_,World.drewN_drewN _ _ _⟩|exact ⟨rfl,_,Eq.trans (World.drewN_drewN _ _ _) (congrArg (World.drewN _) (Nat.add_assoc _ _ _))⟩))|(go_at_call 117;(with_reducible refine (zH.calls kj3 6 a1_1 a2_1 t108 _ A35.out).mono ?_);rintro e w' ⟨rfl,⟨nd,rfl⟩⟩;(try first|exact ⟨rfl,_,World.drewN_drewN _ _ _⟩|exact ⟨rfl,_,Eq.trans (World.drewN_drewN _ _ _) (congrArg (World.drewN _) (Nat.add_assoc _ _ _))⟩))|(go_at_call 117;(with_reducible refine (zH.calls kj3 6 (Go.bits .xor .u64 a1_0 a1_1) (Go.bits .xor .u64 a2_0 a2_1) t109 _ A36.out).mono ?_);rintro e w' ⟨rfl,⟨nd,rfl⟩⟩;(try first|exact ⟨rfl,_,World.drewN_drewN _ _ _⟩|exact ⟨rfl,_,Eq.trans (World.drewN_drewN _ _ _) (congrArg (World.drewN _) (Nat.add_assoc _ _ _))⟩))|(go_at_call 118;(with_reducible refine (z12.calls kj3 6 t107 t110 _ A37.out).mono ?_);rintro e w' ⟨rfl,⟨nd,rfl⟩⟩;(try first|exact ⟨rfl,_,World.drewN_drewN _ _ _⟩|exact ⟨rfl,_,Eq.trans (World.drewN_drewN _ _ _) (congrArg (World.drewN _) (Nat.add_assoc _ _ _))⟩);have hcz43_0 : wc.cell? ⟨gb103,0,none⟩ = some (.int .u64 0):=(z9 BK103.out 0).trans rfl;have hcz43_1 : wc.cell? ⟨gb103,1,none⟩ = some (.int .u64 0):=(z9 BK103.out 1).trans rfl;have hfz43_0:=zd BK103.out 0;have hfz43_1:=zd BK103.out 1)))
   refine bodyPost_ret (results_cell_row rfl _ _ gb103 30 #[.int .u64 (Go.bits .xor .u64 (Go.bits .xor .u64 (Go.bits .xor .u64 t109 t107) t108) t110),.int .u64 (Go.bits .xor .u64 t108 t107)] (0,0) _ rfl (by (with_reducible repeat (first|refine z6 ?_ _|refine z8 ?_|refine z5 ?_ _));refine z15 (cs:=#[.int .u64 (Go.bits .xor .u64 (Go.bits .xor .u64 (Go.bits .xor .u64 t109 t107) t108) t110),.int .u64 0]) ?_ 1 _ rfl;(with_reducible repeat (first|refine z6 ?_ _|refine z8 ?_|refine z5 ?_ _));refine z15 (cs:=#[.int .u64 0,.int .u64 0]) ?_ 0 _ rfl;(with_reducible repeat (first|refine z6 ?_ _|refine z8 ?_|refine z5 ?_ _));exact BK103.out) Try.underlying30 rfl (by kernel_rfl)) rfl ?_
   exact ⟨by first|rfl|(simp [zh,zi] <;> rfl)|(simp [*,zh,zi] <;> rfl),by repeat (first|(with_reducible first|exact HB.out|apply z4|apply z1|apply z3|refine z7 ?_ GE101.out|refine z7 ?_ GE102.out|refine z7 ?_ GE103.out)|exact HB.out)⟩
end Go.Proofs.Ytkhmpaooinpfoaa.P
namespace Go.Proofs.Ytkhmpaooinpfoaa.P
open Go.RowKit Go.Proofs.YtkhmpaooinpfoaaW.PrintWords Go.Proofs.YtkhmpaooinpfoaaW.PrintLast Go.Proofs.YtkhmpaooinpfoaaW.PrintMore
attribute [local go_sem] z17 z19 z1j z1k zZ z10 z18 z1a   -- for this text's walks alone
set_option linter.unusedVariables false
set_option linter.unusedSimpArgs false
set_option maxHeartbeats 800000 in
set_option maxRecDepth 100000 in
theorem z3D.nil (n : Int) (w : World) (h0 : 0 ≤ n) (hl : n ≤ 8796093022207) :
 Calls Try.prog 130 #[.slice none 0 0,.int .i64 n] w fun e w'=>∃ v0_ : Value,e = .returned (v0_) ∧ Kd.R k30 30 w' w.heap.size (fun _=>True) v0_ ([] : List S30) ∧ Below w.heap.size w w':=by
 have HB:=z2.mk (Below.refl w.heap.size w)
 have HN:=z2.mk h0
 have HL:=z2.mk hl
 have hw : IntKind.i64.wrap n = n:=by rw [IntKind.wrap_i64];omega
 have hw2 : wrap64 n = n:=by unfold wrap64;omega
 have d0 : decide (n < 0) = false:=decide_eq_false (by omega)
 by_cases hp : n > 0
 rotate_left
 · have d1 : decide (n > 0) = false:=decide_eq_false hp
   have d1' : decide (0 < n) = false:=decide_eq_false hp
   clear h0 hl hp
   go_enter Try.func130,Try.ntmps130
   go_wp2
   go_ret
   exact ⟨_,rfl,Kd.z25 _ _ _ _ _,HB.out⟩
 have d1 : decide (n > 0) = true:=decide_eq_true hp
 have d1' : decide (0 < n) = true:=decide_eq_true hp
 clear h0 hl hp
 go_enter Try.func130,Try.ntmps130
 go_wp2_with (first
  | ((with_reducible refine z1I (b:=.append) (xs:=#[.tmp 20,.tmp 21]) rfl ?_);at_builtin;refine Kd.z4o k30 (w0:=w) w.heap.size rfl (.tmp 20) (.tmp 21) 24 3 30 (.agg #[(.int .u64 0),(.int .u64 0)]) 16 rfl Try.underlying24 Try.underlying3 info30 rfl (by decide) (by omega) (.slice none 0 0) [] z30 n (fun _=>True) rfl rfl ?aZ (fun _ _=>trivial) (Kd.z25 _ _ _ _ _) ?a0 ?aB (Nat.le_refl _) ?aL ?_;(case aZ=>exact (z1E _ _ _ z30));(case a0=>exact HN.out);(case aB=>exact HB.out);(case aL=>have:=HL.out;have:=HN.out;simp only [List.length_nil];omega);intro v1 w1 ho hb hg hat;obtain ⟨A1,c1,rfl⟩:=Kd.z1s ho;have hcut:=cut_to (P:=Try.prog) 24 30 .i64 Try.underlying24 (info_parts info30).choose_spec.1 A1 _ c1 0 (Int.le_refl 0) (Int.natCast_nonneg _) (Kd.zI ho).2.1;have n0_:=z2.mk (Kd.R_take (m:=0) ho (Nat.zero_le _));have n1_:=z2.mk hb;clear HB ho hb hg hat;have HO:=n0_;have HB:=n1_;clear n0_ n1_))
 go_ret
 exact ⟨_,rfl,HO.out,HB.out⟩
end Go.Proofs.Ytkhmpaooinpfoaa.P
namespace Go.Proofs.Ytkhmpaooinpfoaa.P
open Go.RowKit Go.Proofs.YtkhmpaooinpfoaaW.PrintWords Go.Proofs.YtkhmpaooinpfoaaW.PrintLast Go.Proofs.YtkhmpaooinpfoaaW.PrintMore
attribute [local go_sem] z17 z19 z1j z1k zZ z10 z18 z1a   -- for this text's walks alone
set_option linter.unusedVariables false
set_option linter.unusedSimpArgs false
mutual
def zt.l0 : Nat → List (List (S30)) → Int → List (List (S30)) → Int → Int → Option ((List (S30)))
 | 0,_,_,_,_,_=>none
 | k + 1,x0,x3,x9,x10,x11=>if x11 < x10 then (if 0 ≤ x11 then (if x11 < (x9.length : Int) then (if (wrap64 (x3 + ((z1g x9 x11).length : Int))) < 0 then (none) else (zt.l0 k x0 (wrap64 (x3 + ((z1g x9 x11).length : Int))) x9 x10 (wrap64 (x11 + 1)))) else (none)) else (none)) else (if 0 ≤ x3 then (if x3 ≤ 8796093022207 then (zt.l1 k (([] : List (S30))) x0 (x0.length : Int) 0) else (none)) else (none))
def zt.l1 : Nat → List (S30) → List (List (S30)) → Int → Int → Option ((List (S30)))
 | 0,_,_,_,_=>none
 | k + 1,x6,x25,x26,x27=>if x27 < x26 then (if 0 ≤ x27 then (if x27 < (x25.length : Int) then (if x6.length + (z1g x25 x27).length < 8796093022208 then (zt.l1 k (x6 ++ (z1g x25 x27)) x25 x26 (wrap64 (x27 + 1))) else (none)) else (none)) else (none)) else (some x6)
end
def zt.f (k : Nat) (l0 : List (List (S30))) : Option ((List (S30))):=zt.l0 k l0 0 l0 (l0.length : Int) 0
theorem zt.z1b : ∀ k,(∀ y0 y1 y2 y3 y4,LeO (zt.l0 k y0 y1 y2 y3 y4) (zt.l0 (k + 1) y0 y1 y2 y3 y4)) ∧ (∀ y0 y1 y2 y3,LeO (zt.l1 k y0 y1 y2 y3) (zt.l1 (k + 1) y0 y1 y2 y3))
 | 0=>⟨fun _ _ _ _ _ r h=>by simp [zt.l0] at h,fun _ _ _ _ r h=>by simp [zt.l1] at h⟩
 | k + 1=>by
  obtain ⟨ih0,ih1⟩:=zt.z1b k
  refine ⟨?_,?_⟩
  · intro y0 y1 y2 y3 y4
    unfold zt.l0
    repeat' first
    | (with_reducible exact ih0 _ _ _ _ _)
    | (with_reducible exact ih1 _ _ _ _)
    | (with_reducible exact LeO.refl _)
    | (with_reducible exact LeO.none _)
    | (with_reducible refine LeO.ite ?_ ?_)
    | (with_reducible refine LeO.bind ?_ (fun _=>?_))
    | exact ih0 _ _ _ _ _
    | exact ih1 _ _ _ _
    | exact LeO.none _
    | refine LeO.ite ?_ ?_
    | refine LeO.bind ?_ (fun _=>?_)
  · intro y0 y1 y2 y3
    unfold zt.l1
    repeat' first
    | (with_reducible exact ih0 _ _ _ _ _)
    | (with_reducible exact ih1 _ _ _ _)
    | (with_reducible exact LeO.refl _)
    | (with_reducible exact LeO.none _)
    | (with_reducible refine LeO.ite ?_ ?_)
    | (with_reducible refine LeO.bind ?_ (fun _=>?_))
    | exact ih0 _ _ _ _ _
    | exact ih1 _ _ _ _
    | exact LeO.none _
    | refine LeO.ite ?_ ?_
    | refine LeO.bind ?_ (fun _=>?_)
theorem zt.mono : ∀ a0 k,LeO (zt.f k a0) (zt.f (k + 1) a0):=by
 intro a0 k
 obtain ⟨ih0,ih1⟩:=zt.z1b k
 unfold zt.f
 repeat' first
  | (with_reducible exact ih0 _ _ _ _ _)
  | (with_reducible exact ih1 _ _ _ _)
  | (with_reducible exact LeO.refl _)
  | (with_reducible exact LeO.none _)
  | (with_reducible refine LeO.ite ?_ ?_)
  | (with_reducible refine LeO.bind ?_ (fun _=>?_))
  | exact ih0 _ _ _ _ _
  | exact ih1 _ _ _ _
  | exact LeO.none _
  | refine LeO.ite ?_ ?_
  | refine LeO.bind ?_ (fun _=>?_)
set_option maxHeartbeats 8000000 in
set_option maxRecDepth 100000 in
theorem zt.calls (k : Nat) (A0 : Option Addr) (c0 : Nat) (l0 : List (List (S30))) (r : List (S30)) (w : World) (hr0 : Kd.C (Kd.slice 30 k30) w A0 l0.length l0) (hc0 : l0.length ≤ c0) (h : zt.f k l0 = some r) :
 Calls Try.prog 100 #[.slice A0 l0.length c0] w fun e w'=>∃ v0_ : Value,e = .returned (v0_) ∧ Kd.R k30 30 w' w.heap.size (fun _=>True) v0_ r ∧ Below w.heap.size w w':=by
 have HR0:=z2.mk hr0
 have HC0:=z2.mk hc0
 clear hr0 hc0
 have HB:=z2.mk (Below.refl w.heap.size w)
 have H : (zt.l0 k l0 0 l0 (l0.length : Int) 0) = some r:=h
 clear h
 have H':=z2.mk H
 clear H
 go_enter Try.func100,Try.ntmps100
 go_wp2
 go_loopg [3,11] k (fun kq v3 v11 w'=>∃ (x3_1 : Int) (x11_1 : Int),v3 = .int .i64 x3_1 ∧ v11 = .int .i64 x11_1 ∧ z2 (zt.l0 kq l0 x3_1 l0 (l0.length : Int) x11_1 = some r) ∧ z2 (kq ≤ k) ∧ z2 (Below w.heap.size w w'))
 case atStart=>exact ⟨(0),(0),(by first|rfl|(simp;done)|(simp [*];done)),(by first|rfl|(simp;done)|(simp [*];done)),H',⟨Nat.le_refl _⟩,⟨by repeat (first|(with_reducible first|exact HB.out|apply z4|apply z1|apply z3)|exact HB.out)⟩⟩
 case round =>
  clear H'
  (try clear c1)
  obtain ⟨x3_1,x11_1,rfl,rfl,HA,HK1,HB⟩:=hrel
  cases gk with
  | zero=>exact absurd HA.out (by simp [zt.l0])
  | succ k1 =>
   have H:=HA.out
   clear HA
   simp only [zt.l0] at H
   by_cases c2 : x11_1 < (l0.length : Int)
   · rw [if_pos c2] at H
     have c2b0 : decide (x11_1 < (l0.length : Int)) = true:=decide_eq_true c2
     clear c2
     by_cases c3 : 0 ≤ x11_1
     rotate_left
     · rw [if_neg c3] at H
       exact absurd H (by simp)
     rw [if_pos c3] at H
     have c3b0 : decide (0 ≤ x11_1) = true:=decide_eq_true c3
     clear c3
     by_cases c4 : x11_1 < (l0.length : Int)
     rotate_left
     · rw [if_neg c4] at H
       exact absurd H (by simp)
     rw [if_pos c4] at H
     have c4b0 : decide (x11_1 < (l0.length : Int)) = true:=decide_eq_true c4
     clear c4
     by_cases c5 : (wrap64 (x3_1 + ((z1g l0 x11_1).length : Int))) < 0
     · rw [if_pos c5] at H
       exact absurd H (by simp)
     rw [if_neg c5] at H
     have c5b0 : decide ((wrap64 (x3_1 + ((z1g l0 x11_1).length : Int))) < 0) = false:=decide_eq_false c5
     clear c5
     have H':=z2.mk H
     clear H
     have p101 : 0 ≤ (x11_1 : Int):=of_decide_eq_true (by first|(with_reducible assumption)|assumption)
     have q101 : x11_1 < (l0.length : Int):=of_decide_eq_true (by first|(with_reducible assumption)|assumption)
     obtain ⟨ad101,A101_0,c101_0,e101,hx101_0,hl101_0,hi101_0⟩:=z3s HR0.out x11_1 p101 q101
     cases e101
     replace hx101_0:=(HB.out.cell (World.block_lt_of_cell? w _ hx101_0)).trans hx101_0
     have HR101_0:=z2.mk hi101_0
     have HC101_0:=z2.mk hl101_0
     clear hi101_0 hl101_0
     replace p101:=eq_true p101
     replace q101:=eq_true q101
     go_wp2
     go_roundg k1
     case measure=>have:=HK1.out;omega
     case rel=>exact ⟨(wrap64 (x3_1 + ((z1g l0 x11_1).length : Int))),(wrap64 (x11_1 + 1)),(by first|rfl|(simp;done)|(simp [*];done)),(by first|rfl|(simp;done)|(simp [*];done)),H',⟨by have:=HK1.out;omega⟩,⟨by repeat (first|(with_reducible first|exact HB.out|apply z4|apply z1|apply z3)|exact HB.out)⟩⟩
   rw [if_neg c2] at H
   have c2b0 : decide (x11_1 < (l0.length : Int)) = false:=decide_eq_false c2
   clear c2
   by_cases c6 : 0 ≤ x3_1
   rotate_left
   · rw [if_neg c6] at H
     exact absurd H (by simp)
   rw [if_pos c6] at H
   have c6b0:=eq_true c6
   have c6b1 : decide (0 ≤ x3_1) = true:=decide_eq_true c6
   clear c6
   by_cases c7 : x3_1 ≤ 8796093022207
   rotate_left
   · rw [if_neg c7] at H
     exact absurd H (by simp)
   rw [if_pos c7] at H
   have c7b0:=eq_true c7
   have c7b1 : decide (x3_1 ≤ 8796093022207) = true:=decide_eq_true c7
   clear c7
   obtain ⟨y102,hy102⟩ : ∃ y_ : List (S30),y_ = (([] : List (S30))):=⟨_,rfl⟩
   replace H : (zt.l1 k1 y102 l0 (l0.length : Int) 0) = some r:=by first|(rw [hy102];with_reducible exact H)|(have H2_:=(Option.bind_some _ _).symm.trans H;rw [hy102];with_reducible exact H2_)|(have H2_:=(Option.bind_some _ _).symm.trans H;with_reducible exact H2_)|with_reducible exact H|(rw [hy102];exact H)|exact H
   have Ny102:=z2.mk hy102
   clear hy102
   have H':=z2.mk H
   clear H
   go_wp2_with (first|((with_reducible refine zm (f:=130) rfl ?_);refine goesL_ (some 24) rfl rfl Try.func130 (by kernel_rfl) rfl #[.slice none 0 0,.int .i64 x3_1] rfl (by (try simp only [List.map_toArray,List.map_cons,List.map_nil]);first|done|rfl) ?_;(with_reducible refine (z3D.nil x3_1 _ (of_decide_eq_true (by first|(with_reducible assumption)|assumption)) (of_decide_eq_true (by first|(with_reducible assumption)|assumption))).mono ?_);rintro e_ w8 ⟨v103,rfl,ho9,hb⟩;refine ⟨_,rfl,?_⟩;(first|rw [← Ny102.out] at ho9|(simp only [Int.reduceToNat] at ho9;rw [← Ny102.out] at ho9));have n0_:=z2.mk (Kd.z1o ho9 (zc (by repeat (first|(with_reducible first|exact HB.out|apply z4|apply z1|apply z3)|exact HB.out))));have n1_:=z2.mk (za (by repeat (first|(with_reducible first|exact HB.out|apply z4|apply z1|apply z3)|exact HB.out)) hb);clear HB;have HO104:=n0_;have HB:=n1_;clear n0_ n1_;clear hb ho9))
   go_loopg [6,27] k1 (fun kq v6 v27 w'=>∃ (x6_2 : List (S30)) (x27_2 : Int),v27 = .int .i64 x27_2 ∧ z2 (zt.l1 kq x6_2 l0 (l0.length : Int) x27_2 = some r) ∧ z2 (kq ≤ k1) ∧ z2 (Kd.R k30 30 w' w.heap.size (fun _=>True) v6 x6_2) ∧ z2 (Below w.heap.size w w'))
   case atStart=>exact ⟨(y102),(0),(by first|rfl|(simp;done)|(simp [*];done)),H',⟨Nat.le_refl _⟩,⟨by (with_reducible repeat (first|apply Kd.zj|apply Kd.zk|apply Kd.zo));exact HO104.out⟩,⟨by repeat (first|(with_reducible first|exact HB.out|apply z4|apply z1|apply z3)|exact HB.out)⟩⟩
   case round =>
    clear H'
    (try clear c1);(try clear p1);(try clear q1);(try clear hx1);(try clear c2);(try clear c2b0);(try clear p2);(try clear c3);(try clear c3b0);(try clear c4);(try clear c4b0);(try clear c5);(try clear c5b0);(try clear c6);(try clear c6b0);(try clear c6b1);(try clear p6);(try clear c7);(try clear c7b0);(try clear c7b1);(try clear hx101_0);(try clear p101);(try clear q101)
    obtain ⟨x6_2,x27_2,rfl,HA,HK2,HO_6,HB⟩:=hrel
    cases gk with
    | zero=>exact absurd HA.out (by simp [zt.l1])
    | succ k2 =>
     have H:=HA.out
     clear HA
     simp only [zt.l1] at H
     by_cases c10 : x27_2 < (l0.length : Int)
     rotate_left
     · rw [if_neg c10] at H
       have c10b0 : decide (x27_2 < (l0.length : Int)) = false:=decide_eq_false c10
       clear c10
       obtain rfl:=Option.some.inj H
       go_wp2
       go_ret
       exact ⟨_,by first|rfl|(simp [zh,zi] <;> rfl)|(simp [*,zh,zi] <;> rfl),by (with_reducible repeat (first|apply Kd.zj|apply Kd.zk|apply Kd.zo));exact HO_6.out,by repeat (first|(with_reducible first|exact HB.out|apply z4|apply z1|apply z3)|exact HB.out)⟩
     rw [if_pos c10] at H
     have c10b0 : decide (x27_2 < (l0.length : Int)) = true:=decide_eq_true c10
     clear c10
     by_cases c11 : 0 ≤ x27_2
     rotate_left
     · rw [if_neg c11] at H
       exact absurd H (by simp)
     rw [if_pos c11] at H
     have c11b0 : decide (0 ≤ x27_2) = true:=decide_eq_true c11
     clear c11
     by_cases c12 : x27_2 < (l0.length : Int)
     rotate_left
     · rw [if_neg c12] at H
       exact absurd H (by simp)
     rw [if_pos c12] at H
     have c12b0 : decide (x27_2 < (l0.length : Int)) = true:=decide_eq_true c12
     clear c12
     by_cases c13 : x6_2.length + (z1g l0 x27_2).length < 8796093022208
     rotate_left
     · rw [if_neg c13] at H
       exact absurd H (by simp)
     rw [if_pos c13] at H
     have LMc13:=z2.mk c13
     clear c13
     obtain ⟨y106,hy106⟩ : ∃ y_ : List (S30),y_ = (x6_2 ++ (z1g l0 x27_2)):=⟨_,rfl⟩
     replace H : (zt.l1 k2 y106 l0 (l0.length : Int) (wrap64 (x27_2 + 1))) = some r:=by first|(rw [hy106];with_reducible exact H)|(have H2_:=(Option.bind_some _ _).symm.trans H;rw [hy106];with_reducible exact H2_)|(have H2_:=(Option.bind_some _ _).symm.trans H;with_reducible exact H2_)|with_reducible exact H|(rw [hy106];exact H)|exact H
     have Ny106:=z2.mk hy106
     clear hy106
     have H':=z2.mk H
     clear H
     have p105 : 0 ≤ (x27_2 : Int):=of_decide_eq_true (by first|(with_reducible assumption)|assumption)
     have q105 : x27_2 < (l0.length : Int):=of_decide_eq_true (by first|(with_reducible assumption)|assumption)
     obtain ⟨ad105,A105_0,c105_0,e105,hx105_0,hl105_0,hi105_0⟩:=z3s HR0.out x27_2 p105 q105
     cases e105
     replace hx105_0:=(HB.out.cell (World.block_lt_of_cell? w _ hx105_0)).trans hx105_0
     have HR105_0:=z2.mk hi105_0
     have HC105_0:=z2.mk hl105_0
     clear hi105_0 hl105_0
     replace p105:=eq_true p105
     replace q105:=eq_true q105
     go_wp2_with (first|((with_reducible refine z1I (b:=.append) (xs:=#[.tmp 31,.tmp 32]) rfl ?_);at_builtin;refine Kd.z3r k30 (w0:=w) w.heap.size rfl (.tmp 31) (.tmp 32) 24 30 (.agg #[(.int .u64 0),(.int .u64 0)]) 16 rfl Try.underlying24 info30 rfl (by decide) (by omega) u6 x6_2 (z1g l0 x27_2) _ _ _ (fun _=>True) (fun _=>False) rfl rfl ?aO ?aR (fun _ _ h=>h) (fun _ h=>h.elim) ?aF ?aB ?aS ?aL ?_;(case aR=>repeat (first|exact (Kd.z1h HR105_0.out HB.out)|(with_reducible refine Kd.zS ?_ _)|(with_reducible refine Kd.zT ?_ _)|(with_reducible refine Kd.z16 ?_)));(case aB=>exact (by repeat (first|(with_reducible first|exact HB.out|apply z4|apply z1|apply z3)|exact HB.out)));(case aF=>exact (fun _ _=>trivial));(case aO=>exact (by (with_reducible repeat (first|apply Kd.zj|apply Kd.zk|apply Kd.zo));exact HO_6.out));(case aS=>exact (zc (by repeat (first|(with_reducible first|exact HB.out|apply z4|apply z1|apply z3)|exact HB.out))));(case aL=>have:=LMc13.out;omega);intro v107 w14 ho hb hg hat;rw [← Ny106.out] at ho;have n0_:=z2.mk (hb);have n1_:=z2.mk (ho);clear HB;clear HO_6;have HB:=n0_;have HO108:=n1_;clear n0_ n1_;clear ho hb hg hat))
     go_roundg k2
     case measure=>have:=HK1.out;have:=HK2.out;omega
     case rel=>exact ⟨(y106),(wrap64 (x27_2 + 1)),(by first|rfl|(simp;done)|(simp [*];done)),H',⟨by have:=HK1.out;have:=HK2.out;omega⟩,⟨by (with_reducible repeat (first|apply Kd.zj|apply Kd.zk|apply Kd.zo));exact HO108.out⟩,⟨by repeat (first|(with_reducible first|exact HB.out|apply z4|apply z1|apply z3)|exact HB.out)⟩⟩
end Go.Proofs.Ytkhmpaooinpfoaa.P
namespace Go.Proofs.Ytkhmpaooinpfoaa.P
open Go.RowKit Go.Proofs.YtkhmpaooinpfoaaW.PrintWords Go.Proofs.YtkhmpaooinpfoaaW.PrintLast Go.Proofs.YtkhmpaooinpfoaaW.PrintMore
attribute [local go_sem] z17 z19 z1j z1k zZ z10 z18 z1a   -- for this text's walks alone
set_option linter.unusedVariables false
set_option linter.unusedSimpArgs false
def z1u.f (k : Nat) (l0 : List (List (S30))) : Option ((List (S30))):=(zt.f k l0).bind fun t101=>(some t101)
theorem z1u.mono : ∀ a0 k,LeO (z1u.f k a0) (z1u.f (k + 1) a0):=by
 intro a0 k
 unfold z1u.f
 repeat' first
  | (with_reducible exact zt.mono _ _)
  | (with_reducible exact LeO.refl _)
  | (with_reducible exact LeO.none _)
  | (with_reducible refine LeO.ite ?_ ?_)
  | (with_reducible refine LeO.bind ?_ (fun _=>?_))
  | exact zt.mono _ _
  | exact LeO.none _
  | refine LeO.ite ?_ ?_
  | refine LeO.bind ?_ (fun _=>?_)
set_option maxHeartbeats 8000000 in
set_option maxRecDepth 100000 in
theorem z1u.calls (k : Nat) (A0 : Option Addr) (c0 : Nat) (l0 : List (List (S30))) (r : List (S30)) (w : World) (hr0 : Kd.C (Kd.slice 30 k30) w A0 l0.length l0) (hc0 : l0.length ≤ c0) (h : z1u.f k l0 = some r) :
 Calls Try.prog 77 #[.slice A0 l0.length c0] w fun e w'=>∃ v0_ : Value,e = .returned (v0_) ∧ Kd.R k30 30 w' w.heap.size (fun _=>True) v0_ r ∧ Below w.heap.size w w':=by
 have HR0:=z2.mk hr0
 have HC0:=z2.mk hc0
 clear hr0 hc0
 have HB:=z2.mk (Below.refl w.heap.size w)
 have H : ((zt.f k l0).bind fun t101=>(some t101)) = some r:=h
 clear h
 replace H:=Option.bind_eq_some_iff.mp H
 obtain ⟨t101,A20,H⟩:=H
 replace H : (some t101) = some r:=H
 have A2:=z2.mk A20
 clear A20
 obtain rfl:=Option.some.inj H
 go_enter Try.func77,Try.ntmps77
 go_wp2_with (first|((with_reducible refine zm (f:=100) rfl ?_);refine goesL_ (some 4) rfl rfl Try.func100 (by kernel_rfl) rfl #[.slice A0 l0.length c0] rfl (by (try simp only [List.map_toArray,List.map_cons,List.map_nil]);first|done|rfl|(simp only [List.length_drop,List.length_take];rfl)) ?_;(with_reducible refine (zt.calls k _ _ l0 t101 _ ?side1 ?side2 A2.out).mono ?_);(case side1=>repeat (first|exact HR0.out|(with_reducible refine Kd.zS ?_ _)|(with_reducible refine Kd.zT ?_ _)|(with_reducible refine Kd.z16 ?_)));(case side2=>exact HC0.out);rintro e w3 ⟨v102,rfl,ho0,hb⟩;refine ⟨_,rfl,?_⟩;have n0_:=z2.mk (Kd.z1o ho0 (zc (by repeat (first|(with_reducible first|exact HB.out|apply z4|apply z1|apply z3)|exact HB.out))));have n1_:=z2.mk (za (by repeat (first|(with_reducible first|exact HB.out|apply z4|apply z1|apply z3)|exact HB.out)) hb);clear HB;have HO103:=n0_;have HB:=n1_;clear n0_ n1_;(try clear hb);(try clear hb2);(try clear hk);(try clear hi);(try clear ho0)))
 go_ret
 exact ⟨_,by first|rfl|(simp [zh,zi] <;> rfl)|(simp [*,zh,zi] <;> rfl),by (with_reducible repeat (first|apply Kd.zj|apply Kd.zk|apply Kd.zo));exact HO103.out,by repeat (first|(with_reducible first|exact HB.out|apply z4|apply z1|apply z3)|exact HB.out)⟩
end Go.Proofs.Ytkhmpaooinpfoaa.P
namespace Go.Proofs.Ytkhmpaooinpfoaa.P
open Go.RowKit Go.Proofs.YtkhmpaooinpfoaaW.PrintWords Go.Proofs.YtkhmpaooinpfoaaW.PrintLast Go.Proofs.YtkhmpaooinpfoaaW.PrintMore
attribute [local go_sem] z17 z19 z1j z1k zZ z10 z18 z1a   -- for this text's walks alone
set_option linter.unusedVariables false
set_option linter.unusedSimpArgs false
mutual
def zz.j0 : Nat → Int → List (List (S30)) → List (S30) → Bool → Option ((List (S30)) × Int)
 | 0,_,_,_,_=>none
 | k + 1,x0,x1,x2,x13=>if x13 = true then (some (([] : List (S30)),6)) else ((z14.f k x0 x2).bind fun t102=>(if t102 = true then ((z1u.f k x1).bind fun t103=>((z14.f k x0 t103).bind fun t106=>(zz.j1 k x0 x1 x2 (!t106)))) else (zz.j1 k x0 x1 x2 true)))
def zz.j1 : Nat → Int → List (List (S30)) → List (S30) → Bool → Option ((List (S30)) × Int)
 | 0,_,_,_,_=>none
 | k + 1,x0,x1,x2,x24=>if x24 = true then (some (([] : List (S30)),5)) else (if (x1.length : Int) = 0 then (some (([] : List (S30)),0)) else (if 0 < (x1.length : Int) then (if 0 ≤ ((z1g x1 0).length : Int) then (if (((z1g x1 0).length : Int) : Int).toNat ≤ 17592186044416 then (zz.l0 k x0 x2 (List.replicate (((z1g x1 0).length : Int) : Int).toNat z30) x1 (x1.length : Int) 0) else (none)) else (none)) else (none)))
def zz.l0 : Nat → Int → List (S30) → List (S30) → List (List (S30)) → Int → Int → Option ((List (S30)) × Int)
 | 0,_,_,_,_,_,_=>none
 | k + 1,x0,x2,x8,x45,x46,x47=>if x47 < x46 then (if 0 ≤ x47 then (if x47 < (x45.length : Int) then (zz.l1 k x0 x2 x8 x47 x45 x46 x47 (z1g x45 x47) ((z1g x45 x47).length : Int) 0) else (none)) else (none)) else (some (x8,0))
def zz.l1 : Nat → Int → List (S30) → List (S30) → Int → List (List (S30)) → Int → Int → List (S30) → Int → Int → Option ((List (S30)) × Int)
 | 0,_,_,_,_,_,_,_,_,_,_=>none
 | k + 1,x0,x2,x8,x9,x45,x46,x47,x52,x53,x54=>if x54 < x53 then (if 0 ≤ x54 then (if x54 < (x52.length : Int) then (if x54 < (x8.length : Int) then (if 0 ≤ x9 then (if x9 < (x2.length : Int) then ((zX.f k x0 ((zq x2 x9).f0) ((zq x2 x9).f1) ((zq x52 x54).f0) ((zq x52 x54).f1)).bind fun bt116=>((z1D.f ((zq x8 x54).f0) ((zq x8 x54).f1) bt116.1 bt116.2).bind fun bt118=>(zz.l1 k x0 x2 (x8.set (x54 : Int).toNat (⟨bt118.1,bt118.2⟩ : S30)) x9 x45 x46 x47 x52 x53 (wrap64 (x54 + 1))))) else (none)) else (none)) else (none)) else (none)) else (none)) else (zz.l0 k x0 x2 x8 x45 x46 (wrap64 (x47 + 1)))
end
def zz.f (k : Nat) (a0 : Int) (l1 : List (List (S30))) (l2 : List (S30)) : Option ((List (S30)) × Int):=if (l1.length : Int) = (l2.length : Int) then ((z1c.f l1).bind fun t101=>(zz.j0 k a0 l1 l2 (!t101))) else (zz.j0 k a0 l1 l2 true)
theorem zz.z1b : ∀ k,(∀ y0 y1 y2 y3,LeO (zz.j0 k y0 y1 y2 y3) (zz.j0 (k + 1) y0 y1 y2 y3)) ∧ (∀ y0 y1 y2 y3,LeO (zz.j1 k y0 y1 y2 y3) (zz.j1 (k + 1) y0 y1 y2 y3)) ∧ (∀ y0 y1 y2 y3 y4 y5,LeO (zz.l0 k y0 y1 y2 y3 y4 y5) (zz.l0 (k + 1) y0 y1 y2 y3 y4 y5)) ∧ (∀ y0 y1 y2 y3 y4 y5 y6 y7 y8 y9,LeO (zz.l1 k y0 y1 y2 y3 y4 y5 y6 y7 y8 y9) (zz.l1 (k + 1) y0 y1 y2 y3 y4 y5 y6 y7 y8 y9))
 | 0=>⟨fun _ _ _ _ r h=>by simp [zz.j0] at h,fun _ _ _ _ r h=>by simp [zz.j1] at h,fun _ _ _ _ _ _ r h=>by simp [zz.l0] at h,fun _ _ _ _ _ _ _ _ _ _ r h=>by simp [zz.l1] at h⟩
 | k + 1=>by
  obtain ⟨ih0,ih1,ih2,ih3⟩:=zz.z1b k
  refine ⟨?_,?_,?_,?_⟩
  · intro y0 y1 y2 y3
    unfold zz.j0
    repeat' first
    | (with_reducible exact ih0 _ _ _ _)
    | (with_reducible exact ih1 _ _ _ _)
    | (with_reducible exact ih2 _ _ _ _ _ _)
    | (with_reducible exact ih3 _ _ _ _ _ _ _ _ _ _)
    | (with_reducible exact zX.mono _ _ _ _ _ _)
    | (with_reducible exact z1u.mono _ _)
    | (with_reducible exact z14.mono _ _ _)
    | (with_reducible exact LeO.refl _)
    | (with_reducible exact LeO.none _)
    | (with_reducible refine LeO.ite ?_ ?_)
    | (with_reducible refine LeO.bind ?_ (fun _=>?_))
    | exact ih0 _ _ _ _
    | exact ih1 _ _ _ _
    | exact ih2 _ _ _ _ _ _
    | exact ih3 _ _ _ _ _ _ _ _ _ _
    | exact zX.mono _ _ _ _ _ _
    | exact z1u.mono _ _
    | exact z14.mono _ _ _
    | exact LeO.none _
    | refine LeO.ite ?_ ?_
    | refine LeO.bind ?_ (fun _=>?_)
  · intro y0 y1 y2 y3
    unfold zz.j1
    repeat' first
    | (with_reducible exact ih0 _ _ _ _)
    | (with_reducible exact ih1 _ _ _ _)
    | (with_reducible exact ih2 _ _ _ _ _ _)
    | (with_reducible exact ih3 _ _ _ _ _ _ _ _ _ _)
    | (with_reducible exact zX.mono _ _ _ _ _ _)
    | (with_reducible exact z1u.mono _ _)
    | (with_reducible exact z14.mono _ _ _)
    | (with_reducible exact LeO.refl _)
    | (with_reducible exact LeO.none _)
    | (with_reducible refine LeO.ite ?_ ?_)
    | (with_reducible refine LeO.bind ?_ (fun _=>?_))
    | exact ih0 _ _ _ _
    | exact ih1 _ _ _ _
    | exact ih2 _ _ _ _ _ _
    | exact ih3 _ _ _ _ _ _ _ _ _ _
    | exact zX.mono _ _ _ _ _ _
    | exact z1u.mono _ _
    | exact z14.mono _ _ _
    | exact LeO.none _
    | refine LeO.ite ?_ ?_
    | refine LeO.bind ?_ (fun _=>?_)
  · intro y0 y1 y2 y3 y4 y5
    unfold zz.l0
    repeat' first
    | (with_reducible exact ih0 _ _ _ _)
    | (with_reducible exact ih1 _ _ _ _)
    | (with_reducible exact ih2 _ _ _ _ _ _)
    | (with_reducible exact ih3 _ _ _ _ _ _ _ _ _ _)
    | (with_reducible exact zX.mono _ _ _ _ _ _)
    | (with_reducible exact z1u.mono _ _)
    | (with_reducible exact z14.mono _ _ _)
    | (with_reducible exact LeO.refl _)
    | (with_reducible exact LeO.none _)
    | (with_reducible refine LeO.ite ?_ ?_)
    | (with_reducible refine LeO.bind ?_ (fun _=>?_))
    | exact ih0 _ _ _ _
    | exact ih1 _ _ _ _
    | exact ih2 _ _ _ _ _ _
    | exact ih3 _ _ _ _ _ _ _ _ _ _
    | exact zX.mono _ _ _ _ _ _
    | exact z1u.mono _ _
    | exact z14.mono _ _ _
    | exact LeO.none _
    | refine LeO.ite ?_ ?_
    | refine LeO.bind ?_ (fun _=>?_)
  · intro y0 y1 y2 y3 y4 y5 y6 y7 y8 y9
    unfold zz.l1
    repeat' first
    | (with_reducible exact ih0 _ _ _ _)
    | (with_reducible exact ih1 _ _ _ _)
    | (with_reducible exact ih2 _ _ _ _ _ _)
    | (with_reducible exact ih3 _ _ _ _ _ _ _ _ _ _)
    | (with_reducible exact zX.mono _ _ _ _ _ _)
    | (with_reducible exact z1u.mono _ _)
    | (with_reducible exact z14.mono _ _ _)
    | (with_reducible exact LeO.refl _)
    | (with_reducible exact LeO.none _)
    | (with_reducible refine LeO.ite ?_ ?_)
    | (with_reducible refine LeO.bind ?_ (fun _=>?_))
    | exact ih0 _ _ _ _
    | exact ih1 _ _ _ _
    | exact ih2 _ _ _ _ _ _
    | exact ih3 _ _ _ _ _ _ _ _ _ _
    | exact zX.mono _ _ _ _ _ _
    | exact z1u.mono _ _
    | exact z14.mono _ _ _
    | exact LeO.none _
    | refine LeO.ite ?_ ?_
    | refine LeO.bind ?_ (fun _=>?_)
theorem zz.mono : ∀ a0 a1 a2 k,LeO (zz.f k a0 a1 a2) (zz.f (k + 1) a0 a1 a2):=by
 intro a0 a1 a2 k
 obtain ⟨ih0,ih1,ih2,ih3⟩:=zz.z1b k
 unfold zz.f
 repeat' first
  | (with_reducible exact ih0 _ _ _ _)
  | (with_reducible exact ih1 _ _ _ _)
  | (with_reducible exact ih2 _ _ _ _ _ _)
  | (with_reducible exact ih3 _ _ _ _ _ _ _ _ _ _)
  | (with_reducible exact zX.mono _ _ _ _ _ _)
  | (with_reducible exact z1u.mono _ _)
  | (with_reducible exact z14.mono _ _ _)
  | (with_reducible exact LeO.refl _)
  | (with_reducible exact LeO.none _)
  | (with_reducible refine LeO.ite ?_ ?_)
  | (with_reducible refine LeO.bind ?_ (fun _=>?_))
  | exact ih0 _ _ _ _
  | exact ih1 _ _ _ _
  | exact ih2 _ _ _ _ _ _
  | exact ih3 _ _ _ _ _ _ _ _ _ _
  | exact zX.mono _ _ _ _ _ _
  | exact z1u.mono _ _
  | exact z14.mono _ _ _
  | exact LeO.none _
  | refine LeO.ite ?_ ?_
  | refine LeO.bind ?_ (fun _=>?_)
def zz.T14 : Bool × List (List Nat × List Nat):=(true,[([],[]),([],[]),([],[]),([],[]),([2,3],[2,3]),([4],[4]),([],[]),([],[]),([],[]),([7,8],[7,8]),([9],[9]),([],[]),([6,10,11],[6,10,11]),([5,12,12],[5,12]),([0,1,0,1,2,3,4,5,6,7,8,9,10,11,12,13],[0,1]),([14,13,13,0,1,2,3,4,5,6,7,8,9,10,11,12,13],[13,14])])
def zz.B14 : List Nat:=[0,0,0,0,12,28,0,0,0,384,896,0,4032,8188,16383,32767]
theorem zz.tab14 : rtab .any (opsOf Try.f23 14) = zz.T14:=by kernel_rfl
theorem zz.bits14 : waitsOk zz.T14.2 zz.B14 = true:=by kernel_rfl
set_option maxHeartbeats 8000000 in
set_option maxRecDepth 100000 in
theorem zz.calls (k : Nat) (a0 : Int) (A1 : Option Addr) (c1 : Nat) (l1 : List (List (S30))) (A2 : Option Addr) (c2 : Nat) (l2 : List (S30)) (r1 : List (S30)) (r2 : Int) (w : World) (hr1 : Kd.C (Kd.slice 30 k30) w A1 l1.length l1) (hc1 : l1.length ≤ c1) (hr2 : Kd.C k30 w A2 l2.length l2) (hc2 : l2.length ≤ c2) (h : zz.f k a0 l1 l2 = some (r1,r2)) :
 Calls Try.prog 23 #[.int .i64 a0,.slice A1 l1.length c1,.slice A2 l2.length c2] w fun e w'=>∃ v0_ : Value,e = .returned (.tuple #[v0_,.int .i64 r2]) ∧ Kd.R k30 30 w' w.heap.size (fun _=>True) v0_ r1 ∧ Below w.heap.size w w':=by
 have hu30:=Try.underlying30
 have HR1:=z2.mk hr1
 have HC1:=z2.mk hc1
 clear hr1 hc1
 have HR2:=z2.mk hr2
 have HC2:=z2.mk hc2
 clear hr2 hc2
 have HB:=z2.mk (Below.refl w.heap.size w)
 have H : (if (l1.length : Int) = (l2.length : Int) then ((z1c.f l1).bind fun t101=>(zz.j0 k a0 l1 l2 (!t101))) else (zz.j0 k a0 l1 l2 true)) = some (r1,r2):=h
 clear h
 have HC4:=z2.mk H
 clear H
 go_enter Try.func23,Try.ntmps23
 go_upto_region 1 with (fail)
 go_cut [13] (fun v13 wc=>∃ (kq : Nat) (x13_3 : Bool),v13 = .bool x13_3 ∧ z2 (zz.j0 kq a0 l1 l2 x13_3 = some (r1,r2)) ∧ z2 (kq ≤ k) ∧ z2 (Below w.heap.size w wc))
 case first =>
  have H:=HC4.out
  clear HC4
  by_cases c5 : (l1.length : Int) = (l2.length : Int)
  rotate_left
  · rw [if_neg c5] at H
    have c5b0 : ((l1.length : Int) == (l2.length : Int)) = false:=beq_eq_false_iff_ne.mpr c5
    have c5b1 : ((l1.length : Int) != (l2.length : Int)) = true:=bne_iff_ne.mpr c5
    have c5b2 : (l1.length == l2.length) = false:=by first|simpa using c5|(simp at c5 ⊢;omega)
    (first|rw [c5b0]|(simp only [zD,zG];rw [c5b0])|skip)
    have H':=z2.mk H
    clear H
    go_wp2
    go_meet
    case rel=>exact ⟨_,(true),(by first|rfl|(simp;done)|(simp [*];done)),H',⟨by first|omega|exact Nat.le_refl _⟩,⟨by repeat (first|(with_reducible first|exact HB.out|apply z4|apply z1|apply z3)|exact HB.out)⟩⟩
  rw [if_pos c5] at H
  have c5b0 : ((l1.length : Int) == (l2.length : Int)) = true:=beq_iff_eq.mpr c5
  have c5b1 : ((l1.length : Int) != (l2.length : Int)) = false:=bne_eq_false_iff_eq.mpr c5
  have c5b2 : (l1.length == l2.length) = true:=by first|simpa using c5|(simp at c5 ⊢;omega)
  clear c5
  (first|rw [c5b0]|(simp only [zD,zG];rw [c5b0])|skip)
  replace H:=Option.bind_eq_some_iff.mp H
  obtain ⟨t101,A60,H⟩:=H
  replace H : (zz.j0 k a0 l1 l2 (!t101)) = some (r1,r2):=H
  have A6:=z2.mk A60
  clear A60
  have H':=z2.mk H
  clear H
  go_wp2_with (first|(go_at_call 74;(with_reducible refine (z1c.calls _ _ l1 t101 _ ?side1 ?side2 A6.out).mono ?_);(case side1=>repeat (first|exact (Kd.z1h HR1.out HB.out)|(with_reducible refine Kd.zS ?_ _)|(with_reducible refine Kd.zT ?_ _)|(with_reducible refine Kd.z16 ?_)));(case side2=>exact HC1.out);rintro e w7 ⟨rfl,hb⟩;have n0_:=z2.mk (za (by repeat (first|(with_reducible first|exact HB.out|apply z4|apply z1|apply z3)|exact HB.out)) hb);clear HB;have HB:=n0_;clear n0_;(try clear hb);(try clear hb2);(try clear hk);(try clear hi)))
  go_meet
  case rel=>exact ⟨_,(!t101),(by first|rfl|(simp;done)|(simp [*];done)),H',⟨by first|omega|exact Nat.le_refl _⟩,⟨by repeat (first|(with_reducible first|exact HB.out|apply z4|apply z1|apply z3)|exact HB.out)⟩⟩
 case rest =>
  clear HC4
  (try clear c1);(try clear c2);(try clear p2);(try clear c5);(try clear c5b0);(try clear c5b1);(try clear c5b2)
  obtain ⟨kq,x13_3,rfl,HA,HJ3,HB⟩:=hcut
  cases kq with
  | zero=>exact absurd HA.out (by simp [zz.j0])
  | succ kj3 =>
   have H:=HA.out
   clear HA
   simp only [zz.j0] at H
   by_cases c8 : x13_3 = true
   · subst c8
     have H1 : (some (([] : List (S30)),6)) = some (r1,r2):=by rw [if_pos rfl] at H;exact H
     clear H
     have H:=H1
     clear H1
     simp only [Option.some.injEq,Prod.mk.injEq] at H
     obtain ⟨rfl,rfl⟩:=H
     go_wp2
     go_ret2
     exact ⟨_,by first|rfl|(simp [zh,zi] <;> rfl)|(simp [*,zh,zi] <;> rfl),by first|exact Kd.z25 _ _ _ _ _|exact Kd.z2i _ _ _ _ _|exact Kd.z2l _ _ _ _ _|exact Kd.z2j _ _ _ _ _|exact Kd.z2k _ _ _ _ _,by repeat (first|(with_reducible first|exact HB.out|apply z4|apply z1|apply z3)|exact HB.out)⟩
   replace c8:=Bool.eq_false_iff.mpr c8
   subst c8
   have H1 : ((z14.f kj3 a0 l2).bind fun t102=>(if t102 = true then ((z1u.f kj3 l1).bind fun t103=>((z14.f kj3 a0 t103).bind fun t106=>(zz.j1 kj3 a0 l1 l2 (!t106)))) else (zz.j1 kj3 a0 l1 l2 true))) = some (r1,r2):=by rw [if_neg (show ¬ (false = true) by decide)] at H;exact H
   clear H
   have H:=H1
   clear H1
   have HC9:=z2.mk H
   clear H
   go_upto_region 3 with (fail)
   go_cut [24] (fun v24 wc=>∃ (kq : Nat) (x24_8 : Bool),v24 = .bool x24_8 ∧ z2 (zz.j1 kq a0 l1 l2 x24_8 = some (r1,r2)) ∧ z2 (kq ≤ kj3) ∧ z2 (Below w.heap.size w wc))
   case first =>
    have H:=HC9.out
    clear HC9
    replace H:=Option.bind_eq_some_iff.mp H
    obtain ⟨t102,A100,H⟩:=H
    replace H : (if t102 = true then ((z1u.f kj3 l1).bind fun t103=>((z14.f kj3 a0 t103).bind fun t106=>(zz.j1 kj3 a0 l1 l2 (!t106)))) else (zz.j1 kj3 a0 l1 l2 true)) = some (r1,r2):=H
    have A10:=z2.mk A100
    clear A100
    by_cases c11 : t102 = true
    rotate_left
    · replace c11:=Bool.eq_false_iff.mpr c11
      subst c11
      have H1 : (zz.j1 kj3 a0 l1 l2 true) = some (r1,r2):=by rw [if_neg (show ¬ (false = true) by decide)] at H;exact H
      clear H
      have H:=H1
      clear H1
      have H':=z2.mk H
      clear H
      go_wp2_with (first|((with_reducible refine zm (f:=76) rfl ?_);refine goesL_ (some 27) rfl rfl Try.func76 (by kernel_rfl) rfl #[.int .i64 a0,.slice A2 l2.length c2] rfl (by (try simp only [List.map_toArray,List.map_cons,List.map_nil]);first|done|rfl|(simp only [List.length_drop,List.length_take];rfl)) ?_;(with_reducible refine (z14.calls kj3 a0 _ _ l2 false _ ?side1 ?side2 A10.out).mono ?_);(case side1=>repeat (first|exact (Kd.z1h HR2.out HB.out)|(with_reducible refine Kd.zS ?_ _)|(with_reducible refine Kd.zT ?_ _)|(with_reducible refine Kd.z16 ?_)));(case side2=>exact HC2.out);rintro e w18 ⟨rfl,hb⟩;refine ⟨_,rfl,?_⟩;have n0_:=z2.mk (za (by repeat (first|(with_reducible first|exact HB.out|apply z4|apply z1|apply z3)|exact HB.out)) hb);clear HB;have HB:=n0_;clear n0_;(try clear hb);(try clear hb2);(try clear hk);(try clear hi)))
      go_meet
      case rel=>exact ⟨_,(true),(by first|rfl|(simp;done)|(simp [*];done)),H',⟨by have:=HJ3.out;first|omega|exact Nat.le_refl _⟩,⟨by repeat (first|(with_reducible first|exact HB.out|apply z4|apply z1|apply z3)|exact HB.out)⟩⟩
    subst c11
    have H1 : ((z1u.f kj3 l1).bind fun t103=>((z14.f kj3 a0 t103).bind fun t106=>(zz.j1 kj3 a0 l1 l2 (!t106)))) = some (r1,r2):=by rw [if_pos rfl] at H;exact H
    clear H
    have H:=H1
    clear H1
    replace H:=Option.bind_eq_some_iff.mp H
    obtain ⟨t103,A120,H⟩:=H
    replace H : ((z14.f kj3 a0 t103).bind fun t106=>(zz.j1 kj3 a0 l1 l2 (!t106))) = some (r1,r2):=H
    have A12:=z2.mk A120
    clear A120
    replace H:=Option.bind_eq_some_iff.mp H
    obtain ⟨t106,A130,H⟩:=H
    replace H : (zz.j1 kj3 a0 l1 l2 (!t106)) = some (r1,r2):=H
    have A13:=z2.mk A130
    clear A130
    have H':=z2.mk H
    clear H
    go_wp2_with (first|((with_reducible refine zm (f:=76) rfl ?_);refine goesL_ (some 27) rfl rfl Try.func76 (by kernel_rfl) rfl #[.int .i64 a0,.slice A2 l2.length c2] rfl (by (try simp only [List.map_toArray,List.map_cons,List.map_nil]);first|done|rfl|(simp only [List.length_drop,List.length_take];rfl)) ?_;(with_reducible refine (z14.calls kj3 a0 _ _ l2 true _ ?side1 ?side2 A10.out).mono ?_);(case side1=>repeat (first|exact (Kd.z1h HR2.out HB.out)|(with_reducible refine Kd.zS ?_ _)|(with_reducible refine Kd.zT ?_ _)|(with_reducible refine Kd.z16 ?_)));(case side2=>exact HC2.out);rintro e w14 ⟨rfl,hb⟩;refine ⟨_,rfl,?_⟩;have n0_:=z2.mk (za (by repeat (first|(with_reducible first|exact HB.out|apply z4|apply z1|apply z3)|exact HB.out)) hb);clear HB;have HB:=n0_;clear n0_;(try clear hb);(try clear hb2);(try clear hk);(try clear hi))|(go_at_call 77;(with_reducible refine (z1u.calls kj3 _ _ l1 t103 _ ?side1 ?side2 A12.out).mono ?_);(case side1=>repeat (first|exact (Kd.z1h HR1.out HB.out)|(with_reducible refine Kd.zS ?_ _)|(with_reducible refine Kd.zT ?_ _)|(with_reducible refine Kd.z16 ?_)));(case side2=>exact HC1.out);rintro e w15 ⟨v104,rfl,ho0,hb⟩;have n0_:=z2.mk (Kd.z1o ho0 (zc (by repeat (first|(with_reducible first|exact HB.out|apply z4|apply z1|apply z3)|exact HB.out))));have n1_:=z2.mk (za (by repeat (first|(with_reducible first|exact HB.out|apply z4|apply z1|apply z3)|exact HB.out)) hb);clear HB;have HO105:=n0_;have HB:=n1_;clear n0_ n1_;(try clear hb);(try clear hb2);(try clear hk);(try clear hi);(try clear ho0);obtain ⟨Ao16,co16,eo16⟩:=Kd.z1s HO105.out;subst eo16)|(go_at_call 76;(with_reducible refine (z14.calls kj3 a0 _ _ t103 t106 _ ?side1 ?side2 A13.out).mono ?_);(case side1=>repeat (first|exact (Kd.zI HO105.out).2.2|(with_reducible refine Kd.zS ?_ _)|(with_reducible refine Kd.zT ?_ _)|(with_reducible refine Kd.z16 ?_)));(case side2=>exact (Kd.zI HO105.out).2.1);rintro e w17 ⟨rfl,hb⟩;have n0_:=z2.mk (Kd.zE (by (with_reducible repeat (first|apply Kd.zj|apply Kd.zk|apply Kd.zo));exact HO105.out) hb);have n1_:=z2.mk (za (by repeat (first|(with_reducible first|exact HB.out|apply z4|apply z1|apply z3)|exact HB.out)) hb);clear HO105;clear HB;have HO105:=n0_;have HB:=n1_;clear n0_ n1_;(try clear hb);(try clear hb2);(try clear hk);(try clear hi)))
    go_meet
    case rel=>exact ⟨_,(!t106),(by first|rfl|(simp;done)|(simp [*];done)),H',⟨by have:=HJ3.out;first|omega|exact Nat.le_refl _⟩,⟨by repeat (first|(with_reducible first|exact HB.out|apply z4|apply z1|apply z3)|exact HB.out)⟩⟩
   case rest =>
    clear HC9
    (try clear c1);(try clear c2);(try clear p2);(try clear c5);(try clear c5b0);(try clear c5b1);(try clear c5b2);(try clear c7);(try clear c8);(try clear c11);(try clear p2)
    obtain ⟨kq,x24_8,rfl,HA,HJ8,HB⟩:=hcut
    cases kq with
    | zero=>exact absurd HA.out (by simp [zz.j1])
    | succ kj8 =>
     have H:=HA.out
     clear HA
     simp only [zz.j1] at H
     by_cases c19 : x24_8 = true
     · subst c19
       have H1 : (some (([] : List (S30)),5)) = some (r1,r2):=by rw [if_pos rfl] at H;exact H
       clear H
       have H:=H1
       clear H1
       simp only [Option.some.injEq,Prod.mk.injEq] at H
       obtain ⟨rfl,rfl⟩:=H
       go_wp2
       go_ret2
       exact ⟨_,by first|rfl|(simp [zh,zi] <;> rfl)|(simp [*,zh,zi] <;> rfl),by first|exact Kd.z25 _ _ _ _ _|exact Kd.z2i _ _ _ _ _|exact Kd.z2l _ _ _ _ _|exact Kd.z2j _ _ _ _ _|exact Kd.z2k _ _ _ _ _,by repeat (first|(with_reducible first|exact HB.out|apply z4|apply z1|apply z3)|exact HB.out)⟩
     replace c19:=Bool.eq_false_iff.mpr c19
     subst c19
     have H1 : (if (l1.length : Int) = 0 then (some (([] : List (S30)),0)) else (if 0 < (l1.length : Int) then (if 0 ≤ ((z1g l1 0).length : Int) then (if (((z1g l1 0).length : Int) : Int).toNat ≤ 17592186044416 then (zz.l0 kj8 a0 l2 (List.replicate (((z1g l1 0).length : Int) : Int).toNat z30) l1 (l1.length : Int) 0) else (none)) else (none)) else (none))) = some (r1,r2):=by rw [if_neg (show ¬ (false = true) by decide)] at H;exact H
     clear H
     have H:=H1
     clear H1
     by_cases c20 : (l1.length : Int) = 0
     · rw [if_pos c20] at H
       have c20b0 : ((l1.length : Int) == 0) = true:=beq_iff_eq.mpr c20
       have c20b1 : ((l1.length : Int) != 0) = false:=bne_eq_false_iff_eq.mpr c20
       clear c20
       simp only [Option.some.injEq,Prod.mk.injEq] at H
       obtain ⟨rfl,rfl⟩:=H
       go_wp2
       go_ret2
       exact ⟨_,by first|rfl|(simp [zh,zi] <;> rfl)|(simp [*,zh,zi] <;> rfl),by first|exact Kd.z25 _ _ _ _ _|exact Kd.z2i _ _ _ _ _|exact Kd.z2l _ _ _ _ _|exact Kd.z2j _ _ _ _ _|exact Kd.z2k _ _ _ _ _,by repeat (first|(with_reducible first|exact HB.out|apply z4|apply z1|apply z3)|exact HB.out)⟩
     rw [if_neg c20] at H
     have c20b0 : ((l1.length : Int) == 0) = false:=beq_eq_false_iff_ne.mpr c20
     have c20b1 : ((l1.length : Int) != 0) = true:=bne_iff_ne.mpr c20
     have c20b2 : ¬ (l1 = []):=fun h_=>c20 (by rw [h_];rfl)
     by_cases c21 : 0 < (l1.length : Int)
     rotate_left
     · rw [if_neg c21] at H
       exact absurd H (by simp)
     rw [if_pos c21] at H
     have c21b0 : decide (0 < (l1.length : Int)) = true:=decide_eq_true c21
     have c21b1 : decide (0 < l1.length) = true:=decide_eq_true (by omega)
     clear c21
     by_cases c22 : 0 ≤ ((z1g l1 0).length : Int)
     rotate_left
     · rw [if_neg c22] at H
       exact absurd H (by simp)
     rw [if_pos c22] at H
     have c22b0:=eq_true c22
     have c22b1 : decide (0 ≤ ((z1g l1 0).length : Int)) = true:=decide_eq_true c22
     clear c22
     by_cases c23 : (((z1g l1 0).length : Int) : Int).toNat ≤ 17592186044416
     rotate_left
     · rw [if_neg c23] at H
       exact absurd H (by simp)
     rw [if_pos c23] at H
     have c23b0:=eq_true c23
     have c23b1 : decide ((((z1g l1 0).length : Int) : Int).toNat ≤ 17592186044416) = true:=decide_eq_true c23
     clear c23
     obtain ⟨y108,hy108⟩ : ∃ y_ : List (S30),y_ = (List.replicate (((z1g l1 0).length : Int) : Int).toNat z30):=⟨_,rfl⟩
     replace H : (zz.l0 kj8 a0 l2 y108 l1 (l1.length : Int) 0) = some (r1,r2):=by first|(rw [hy108];with_reducible exact H)|(have H2_:=(Option.bind_some _ _).symm.trans H;rw [hy108];with_reducible exact H2_)|(have H2_:=(Option.bind_some _ _).symm.trans H;with_reducible exact H2_)|with_reducible exact H|(rw [hy108];exact H)|exact H
     have Ny108:=z2.mk hy108
     clear hy108
     have H':=z2.mk H
     clear H
     have p107 : 0 ≤ (0 : Int):=(by omega)
     have q107 : 0 < (l1.length : Int):=of_decide_eq_true (by first|(with_reducible assumption)|assumption)
     obtain ⟨ad107,A107_0,c107_0,e107,hx107_0,hl107_0,hi107_0⟩:=z3s HR1.out 0 p107 q107
     cases e107
     have qi107 : (0 < l1.length) = True:=eq_true (by omega)
     (try rw [show ((0 : Int)).toNat = 0 from rfl] at hx107_0)
     (try rw [Addr.add_zero'] at hx107_0)
     replace hx107_0:=(HB.out.cell (World.block_lt_of_cell? w _ hx107_0)).trans hx107_0
     have HR107_0:=z2.mk hi107_0
     have HC107_0:=z2.mk hl107_0
     clear hi107_0 hl107_0
     replace p107:=eq_true p107
     replace q107:=eq_true q107
     go_wp2_with (first|((with_reducible refine zO (N:=44) rfl ?_);refine Kd.z6Q k30 _ 30 rfl (N:=44) rfl 24 _ _ rfl ((z1g l1 0).length : Int) rfl rfl Try.underlying24 (.agg #[(.int .u64 0),(.int .u64 0)]) 16 info30 rfl (by decide) (by omega) z30 (ok:=fun _=>True) (okp:=fun _=>True) (z1E _ _ _ z30 ) (fun _ hk=>hk) trivial (of_decide_eq_true (by first|(with_reducible assumption)|assumption)) (Nat.le_trans (Nat.mul_le_mul_right _ (of_decide_eq_true (by first|(with_reducible assumption)|assumption) : ((z1g l1 0).length : Int).toNat ≤ 17592186044416)) (by omega)) (Below.refl _ _) (Nat.le_refl _) ?_;intro v109 w24 ho25 hb hg_ hnew_;clear hg_ hnew_;(first|rw [← Ny108.out] at ho25|(simp only [Int.reduceToNat] at ho25;rw [← Ny108.out] at ho25));have n0_:=z2.mk (Kd.z1o ho25 (zc (by repeat (first|(with_reducible first|exact HB.out|apply z4|apply z1|apply z3)|exact HB.out))));have n1_:=z2.mk (za (by repeat (first|(with_reducible first|exact HB.out|apply z4|apply z1|apply z3)|exact HB.out)) hb);clear HB;have HO110:=n0_;have HB:=n1_;clear n0_ n1_;clear hb ho25))
     go_loopg [47] kj8 (fun kq v47 w'=>∃ (x8_3 : List (S30)) (x47_3 : Int),v47 = .int .i64 x47_3 ∧ z2 (zz.l0 kq a0 l2 x8_3 l1 (l1.length : Int) x47_3 = some (r1,r2)) ∧ z2 (kq ≤ kj8) ∧ z2 (Kd.R k30 30 w' w.heap.size (fun _=>True) v109 x8_3) ∧ z2 (Below w.heap.size w w'))
     case atStart=>exact ⟨(y108),(0),(by first|rfl|(simp;done)|(simp [*];done)),H',⟨Nat.le_refl _⟩,⟨by (with_reducible repeat (first|apply Kd.zj|apply Kd.zk|apply Kd.zo));exact HO110.out⟩,⟨by repeat (first|(with_reducible first|exact HB.out|apply z4|apply z1|apply z3)|exact HB.out)⟩⟩
     case round =>
      clear H'
      (try clear c1);(try clear p1);(try clear q1);(try clear hx1);(try clear qi1);(try clear c2);(try clear p2);(try clear c5);(try clear c5b0);(try clear c5b1);(try clear c5b2);(try clear c7);(try clear c8);(try clear c10);(try clear p10);(try clear q10);(try clear hx10);(try clear qi10);(try clear c11);(try clear c19);(try clear c20);(try clear c20b0);(try clear c20b1);(try clear c20b2);(try clear c21);(try clear c21b0);(try clear c21b1);(try clear c22);(try clear c22b0);(try clear c22b1);(try clear c23);(try clear c23b0);(try clear c23b1);(try clear hx107_0);(try clear p107);(try clear p2);(try clear q107)
      obtain ⟨x8_3,x47_3,rfl,HA,HK3,HO_8,HB⟩:=hrel
      cases gk with
      | zero=>exact absurd HA.out (by simp [zz.l0])
      | succ k3 =>
       have H:=HA.out
       clear HA
       simp only [zz.l0] at H
       by_cases c26 : x47_3 < (l1.length : Int)
       rotate_left
       · rw [if_neg c26] at H
         have c26b0 : decide (x47_3 < (l1.length : Int)) = false:=decide_eq_false c26
         clear c26
         simp only [Option.some.injEq,Prod.mk.injEq] at H
         obtain ⟨rfl,rfl⟩:=H
         go_wp2
         go_ret2
         exact ⟨_,by first|rfl|(simp [zh,zi] <;> rfl)|(simp [*,zh,zi] <;> rfl),by (with_reducible repeat (first|apply Kd.zj|apply Kd.zk|apply Kd.zo));exact HO_8.out,by repeat (first|(with_reducible first|exact HB.out|apply z4|apply z1|apply z3)|exact HB.out)⟩
       rw [if_pos c26] at H
       have c26b0 : decide (x47_3 < (l1.length : Int)) = true:=decide_eq_true c26
       clear c26
       by_cases c27 : 0 ≤ x47_3
       rotate_left
       · rw [if_neg c27] at H
         exact absurd H (by simp)
       rw [if_pos c27] at H
       have c27b0 : decide (0 ≤ x47_3) = true:=decide_eq_true c27
       clear c27
       by_cases c28 : x47_3 < (l1.length : Int)
       rotate_left
       · rw [if_neg c28] at H
         exact absurd H (by simp)
       rw [if_pos c28] at H
       have c28b0 : decide (x47_3 < (l1.length : Int)) = true:=decide_eq_true c28
       clear c28
       have H':=z2.mk H
       clear H
       have p111 : 0 ≤ (x47_3 : Int):=of_decide_eq_true (by first|(with_reducible assumption)|assumption)
       have q111 : x47_3 < (l1.length : Int):=of_decide_eq_true (by first|(with_reducible assumption)|assumption)
       obtain ⟨ad111,A111_0,c111_0,e111,hx111_0,hl111_0,hi111_0⟩:=z3s HR1.out x47_3 p111 q111
       obtain rfl : ad107 = ad111:=(by injection e111)
       replace hx111_0:=(HB.out.cell (World.block_lt_of_cell? w _ hx111_0)).trans hx111_0
       have HR111_0:=z2.mk hi111_0
       have HC111_0:=z2.mk hl111_0
       clear hi111_0 hl111_0
       replace p111:=eq_true p111
       replace q111:=eq_true q111
       go_wp2
       go_loopg [54] k3 (fun kq v54 w'=>∃ (x8_4 : List (S30)) (x54_4 : Int),v54 = .int .i64 x54_4 ∧ z2 (zz.l1 kq a0 l2 x8_4 x47_3 l1 (l1.length : Int) x47_3 (z1g l1 x47_3) ((z1g l1 x47_3).length : Int) x54_4 = some (r1,r2)) ∧ z2 (kq ≤ k3) ∧ z2 (Kd.R k30 30 w' w.heap.size (fun _=>True) v109 x8_4) ∧ z2 (Below w.heap.size w w'))
       case atStart=>exact ⟨(x8_3),(0),(by first|rfl|(simp;done)|(simp [*];done)),H',⟨Nat.le_refl _⟩,⟨by (with_reducible repeat (first|apply Kd.zj|apply Kd.zk|apply Kd.zo));exact HO_8.out⟩,⟨by repeat (first|(with_reducible first|exact HB.out|apply z4|apply z1|apply z3)|exact HB.out)⟩⟩
       case round =>
        clear H'
        (try clear c1);(try clear p1);(try clear q1);(try clear hx1);(try clear qi1);(try clear c2);(try clear p2);(try clear c5);(try clear c5b0);(try clear c5b1);(try clear c5b2);(try clear c7);(try clear c8);(try clear c10);(try clear p10);(try clear q10);(try clear hx10);(try clear qi10);(try clear c11);(try clear p11);(try clear q11);(try clear hx11);(try clear c19);(try clear c20);(try clear c20b0);(try clear c20b1);(try clear c20b2);(try clear c21);(try clear c21b0);(try clear c21b1);(try clear c22);(try clear c22b0);(try clear c22b1);(try clear c23);(try clear c23b0);(try clear c23b1);(try clear c26);(try clear c26b0);(try clear c27);(try clear c27b0);(try clear c28);(try clear c28b0);(try clear hx107_0);(try clear hx111_0);(try clear p1);(try clear p10);(try clear p107);(try clear p111);(try clear p2);(try clear q1);(try clear q10);(try clear q107);(try clear q111)
        obtain ⟨x8_4,x54_4,rfl,HA,HK4,HO_8,HB⟩:=hrel
        cases gk with
        | zero=>exact absurd HA.out (by simp [zz.l1])
        | succ k4 =>
         have H:=HA.out
         clear HA
         simp only [zz.l1] at H
         by_cases c29 : x54_4 < ((z1g l1 x47_3).length : Int)
         rotate_left
         · rw [if_neg c29] at H
           have c29b0 : decide (x54_4 < ((z1g l1 x47_3).length : Int)) = false:=decide_eq_false c29
           clear c29
           have H':=z2.mk H
           clear H
           go_wp2
           go_roundg k4
           case measure=>have:=HJ3.out;have:=HJ8.out;have:=HK3.out;have:=HK4.out;omega
           case rel=>exact ⟨(x8_4),(wrap64 (x47_3 + 1)),(by first|rfl|(simp;done)|(simp [*];done)),H',⟨by have:=HJ3.out;have:=HJ8.out;have:=HK3.out;have:=HK4.out;omega⟩,⟨by (with_reducible repeat (first|apply Kd.zj|apply Kd.zk|apply Kd.zo));exact HO_8.out⟩,⟨by repeat (first|(with_reducible first|exact HB.out|apply z4|apply z1|apply z3)|exact HB.out)⟩⟩
         rw [if_pos c29] at H
         have c29b0 : decide (x54_4 < ((z1g l1 x47_3).length : Int)) = true:=decide_eq_true c29
         clear c29
         by_cases c30 : 0 ≤ x54_4
         rotate_left
         · rw [if_neg c30] at H
           exact absurd H (by simp)
         rw [if_pos c30] at H
         have c30b0 : decide (0 ≤ x54_4) = true:=decide_eq_true c30
         clear c30
         by_cases c31 : x54_4 < ((z1g l1 x47_3).length : Int)
         rotate_left
         · rw [if_neg c31] at H
           exact absurd H (by simp)
         rw [if_pos c31] at H
         have c31b0 : decide (x54_4 < ((z1g l1 x47_3).length : Int)) = true:=decide_eq_true c31
         clear c31
         by_cases c32 : x54_4 < (x8_4.length : Int)
         rotate_left
         · rw [if_neg c32] at H
           exact absurd H (by simp)
         rw [if_pos c32] at H
         have c32b0 : decide (x54_4 < (x8_4.length : Int)) = true:=decide_eq_true c32
         clear c32
         by_cases c33 : 0 ≤ x47_3
         rotate_left
         · rw [if_neg c33] at H
           exact absurd H (by simp)
         rw [if_pos c33] at H
         have c33b0 : decide (0 ≤ x47_3) = true:=decide_eq_true c33
         clear c33
         by_cases c34 : x47_3 < (l2.length : Int)
         rotate_left
         · rw [if_neg c34] at H
           exact absurd H (by simp)
         rw [if_pos c34] at H
         have c34b0 : decide (x47_3 < (l2.length : Int)) = true:=decide_eq_true c34
         clear c34
         replace H:=Option.bind_eq_some_iff.mp H
         obtain ⟨⟨t116,t117⟩,A350,H⟩:=H
         replace H : ((z1D.f ((zq x8_4 x54_4).f0) ((zq x8_4 x54_4).f1) t116 t117).bind fun bt118=>(zz.l1 k4 a0 l2 (x8_4.set (x54_4 : Int).toNat (⟨bt118.1,bt118.2⟩ : S30)) x47_3 l1 (l1.length : Int) x47_3 (z1g l1 x47_3) ((z1g l1 x47_3).length : Int) (wrap64 (x54_4 + 1)))) = some (r1,r2):=H
         have A35:=z2.mk A350
         clear A350
         replace H:=Option.bind_eq_some_iff.mp H
         obtain ⟨⟨t118,t119⟩,A360,H⟩:=H
         replace H : (zz.l1 k4 a0 l2 (x8_4.set (x54_4 : Int).toNat (⟨t118,t119⟩ : S30)) x47_3 l1 (l1.length : Int) x47_3 (z1g l1 x47_3) ((z1g l1 x47_3).length : Int) (wrap64 (x54_4 + 1))) = some (r1,r2):=H
         have A36:=z2.mk A360
         clear A360
         obtain ⟨y120,hy120⟩ : ∃ y_ : List (S30),y_ = (x8_4.set (x54_4 : Int).toNat (⟨t118,t119⟩ : S30)):=⟨_,rfl⟩
         replace H : (zz.l1 k4 a0 l2 y120 x47_3 l1 (l1.length : Int) x47_3 (z1g l1 x47_3) ((z1g l1 x47_3).length : Int) (wrap64 (x54_4 + 1))) = some (r1,r2):=by first|(rw [hy120];with_reducible exact H)|(have H2_:=(Option.bind_some _ _).symm.trans H;rw [hy120];with_reducible exact H2_)|(have H2_:=(Option.bind_some _ _).symm.trans H;with_reducible exact H2_)|with_reducible exact H|(rw [hy120];exact H)|exact H
         have Ny120:=z2.mk hy120
         clear hy120
         have H':=z2.mk H
         clear H
         have p112 : 0 ≤ (x54_4 : Int):=of_decide_eq_true (by first|(with_reducible assumption)|assumption)
         have q112 : x54_4 < ((z1g l1 x47_3).length : Int):=of_decide_eq_true (by first|(with_reducible assumption)|assumption)
         obtain ⟨ad112,e112,hx112_0,hx112_1⟩:=z2o HR111_0.out x54_4 p112 q112
         cases e112
         replace hx112_0:=(HB.out.cell (World.block_lt_of_cell? w _ hx112_0)).trans hx112_0
         replace hx112_1:=(HB.out.cell (World.block_lt_of_cell? w _ hx112_1)).trans hx112_1
         replace p112:=eq_true p112
         replace q112:=eq_true q112
         try go_wp2_with (first|((with_reducible refine zO (N:=12) rfl ?_);refine zM ?hg (N:=12) ?hd (cs:=#[.int .u64 0,.int .u64 0]) (t:=30) ?hr ?_;(case hd=>rfl);(case hg=>rfl);(case hr=>first|(go_simp;done)|(go_simp;rfl));intro gb113 hg w38 hbox hb;have n0_:=z2.mk (Kd.zE (Kd.z2n (by (with_reducible repeat (first|apply Kd.zj|apply Kd.zk|apply Kd.zo));exact HO_8.out) gb113 (Nat.le_of_eq hg.symm)) hb);have n1_:=z2.mk (za (by repeat (first|(with_reducible first|exact HB.out|apply z4|apply z1|apply z3)|exact HB.out)) hb);have n2_:=z2.mk (hbox);have n3_:=z2.mk ((by rw [hg];exact (zc (by repeat (first|(with_reducible first|exact HB.out|apply z4|apply z1|apply z3)|exact HB.out))) : w.heap.size ≤ gb113));have n4_:=z2.mk ((by rw [hg];exact (zc (by repeat (first|(with_reducible first|exact HB.out|apply z4|apply z1|apply z3)|exact HB.out))) : w.heap.size ≤ gb113));clear HO_8;clear HB;have HO_8:=n0_;have HB:=n1_;have BK113:=n2_;have GW113:=n3_;have GE113:=n4_;clear n0_ n1_ n2_ n3_ n4_;clear hb hbox hg;have hcz39_0 : w38.cell? ⟨gb113,0,none⟩ = some (.int .u64 0):=(z9 BK113.out 0).trans rfl;have hcz39_1 : w38.cell? ⟨gb113,1,none⟩ = some (.int .u64 0):=(z9 BK113.out 1).trans rfl;have hfz39_0:=zd BK113.out 0;have hfz39_1:=zd BK113.out 1))
         have n0_ : z2 (Kd.R k30 30 ((w38.setCell ⟨gb113,0,none⟩ (.int .u64 ((zq (z1g l1 x47_3) x54_4).f0))).setCell ⟨gb113,1,none⟩ (.int .u64 ((zq (z1g l1 x47_3) x54_4).f1))) w.heap.size (fun k_=>k_ ≠ gb113) v109 x8_4):=⟨by (with_reducible repeat (first|apply Kd.zj|apply Kd.zk|apply Kd.zo));exact Kd.z1w (Kd.z2M (p:=⟨gb113,1,none⟩) (Kd.z2M (p:=⟨gb113,0,none⟩) (Kd.z1w HO_8.out (fun k_ hk=>(⟨hk,hk.2⟩ : _ ∧ k_ ≠ gb113))) (fun _ hk=>hk.2) (.int .u64 ((zq (z1g l1 x47_3) x54_4).f0))) (fun _ hk=>hk.2) (.int .u64 ((zq (z1g l1 x47_3) x54_4).f1))) (fun _ hk=>hk.1.2)⟩
         have n1_ : z2 (((w38.setCell ⟨gb113,0,none⟩ (.int .u64 ((zq (z1g l1 x47_3) x54_4).f0))).setCell ⟨gb113,1,none⟩ (.int .u64 ((zq (z1g l1 x47_3) x54_4).f1))).heap[gb113]? = some (.cells #[.int .u64 ((zq (z1g l1 x47_3) x54_4).f0),.int .u64 ((zq (z1g l1 x47_3) x54_4).f1)] 30 (0,0))):=⟨by (with_reducible repeat (first|refine z6 ?_ _|refine z8 ?_|refine z5 ?_ _));refine z15 (cs:=#[.int .u64 ((zq (z1g l1 x47_3) x54_4).f0),.int .u64 0]) ?_ 1 _ rfl;(with_reducible repeat (first|refine z6 ?_ _|refine z8 ?_|refine z5 ?_ _));refine z15 (cs:=#[.int .u64 0,.int .u64 0]) ?_ 0 _ rfl;(with_reducible repeat (first|refine z6 ?_ _|refine z8 ?_|refine z5 ?_ _));exact BK113.out⟩
         have n2_ : z2 (Below w.heap.size w ((w38.setCell ⟨gb113,0,none⟩ (.int .u64 ((zq (z1g l1 x47_3) x54_4).f0))).setCell ⟨gb113,1,none⟩ (.int .u64 ((zq (z1g l1 x47_3) x54_4).f1)))):=⟨by repeat (first|(with_reducible first|exact HB.out|apply z4|apply z1|apply z3|refine z7 ?_ GE113.out)|exact HB.out)⟩
         (try clear HO_8)
         (try clear BK113)
         (try clear HB)
         generalize ((w38.setCell ⟨gb113,0,none⟩ (.int .u64 ((zq (z1g l1 x47_3) x54_4).f0))).setCell ⟨gb113,1,none⟩ (.int .u64 ((zq (z1g l1 x47_3) x54_4).f1))) = w40 at n0_ n1_ n2_ ⊢
         have HO_8:=n0_
         have BK113:=n1_
         have HB:=n2_
         clear n0_ n1_ n2_
         have n0_:=z2.mk (Kd.zo HO_8.out)
         have n1_:=z2.mk (z8 BK113.out)
         have n2_:=z2.mk (z3 HB.out)
         clear HO_8
         clear BK113
         clear HB
         have HO_8:=n0_
         have BK113:=n1_
         have HB:=n2_
         clear n0_ n1_ n2_
         obtain ⟨Ao42,co42,eo42⟩:=Kd.z1s HO_8.out
         (first|subst eo42|(injection eo42 with f1_ f2_ f3_;have f4_:=f1_.symm;have f5_:=f3_.symm;clear f1_ f2_ f3_;subst f4_;subst f5_))
         have p114 : 0 ≤ (x54_4 : Int):=of_decide_eq_true (by first|(with_reducible assumption)|assumption)
         have q114 : x54_4 < (x8_4.length : Int):=of_decide_eq_true (by first|(with_reducible assumption)|assumption)
         obtain ⟨ad114,e114,hx114_0,hx114_1⟩:=z2o (Kd.zI HO_8.out).2.2 x54_4 p114 q114
         cases e114
         replace p114:=eq_true p114
         replace q114:=eq_true q114
         have p115 : 0 ≤ (x47_3 : Int):=of_decide_eq_true (by first|(with_reducible assumption)|assumption)
         have q115 : x47_3 < (l2.length : Int):=of_decide_eq_true (by first|(with_reducible assumption)|assumption)
         obtain ⟨ad115,e115,hx115_0,hx115_1⟩:=z2o HR2.out x47_3 p115 q115
         have hw115_1:=hx115_1
         have hw115_0:=hx115_0
         cases e115
         replace hx115_0:=(HB.out.cell (World.block_lt_of_cell? w _ hx115_0)).trans hx115_0
         replace hx115_1:=(HB.out.cell (World.block_lt_of_cell? w _ hx115_1)).trans hx115_1
         replace p115:=eq_true p115
         replace q115:=eq_true q115
         refine start_ (n:=16) (S:=fun w'=>w'.cell? ⟨gb113,0,none⟩ = some (.int .u64 ((zq (z1g l1 x47_3) x54_4).f0)) ∧ w'.cell? ⟨gb113,1,none⟩ = some (.int .u64 ((zq (z1g l1 x47_3) x54_4).f1)) ∧ w'.cell? (ad114.add ((x54_4).toNat * 2)) = some (.int .u64 ((zq x8_4 x54_4).f0)) ∧ w'.cell? ⟨(ad114.add ((x54_4).toNat * 2)).block,(ad114.add ((x54_4).toNat * 2)).off + 1,none⟩ = some (.int .u64 ((zq x8_4 x54_4).f1)) ∧ w'.cell? (ad115.add ((x47_3).toNat * 2)) = some (.int .u64 ((zq l2 x47_3).f0)) ∧ w'.cell? ⟨(ad115.add ((x47_3).toNat * 2)).block,(ad115.add ((x47_3).toNat * 2)).off + 1,none⟩ = some (.int .u64 ((zq l2 x47_3).f1))) (ds:=[15]) #[false,false,false,false,false,false,false,false,false,false,false,false,false,false,false,false] (by kernel_rfl) rfl rfl ⟨(z9 BK113.out 0).trans rfl,(z9 BK113.out 1).trans rfl,hx114_0,hx114_1,((HB.out.cell (World.block_lt_of_cell? w _ hw115_0)).trans hw115_0),((HB.out.cell (World.block_lt_of_cell? w _ hw115_1)).trans hw115_1)⟩ (fun hHeld=>?_);refine z1M zz.tab14 zz.bits14 (fun HT_ HW_=>?_)
         generalize w40.drew = w41 at HO_8 BK113 HB hx114_0 hx114_1 hx115_0 hx115_1 hHeld ⊢
         refine pure_ (i:=0) (N:=some 59) (v:=?_) (a':=?_) #[true,false,false,false,false,false,false,false,false,false,false,false,false,false,false,false] rfl rfl (zL HT_.out (by kernel_rfl)) (fun _ _ _ h=>h) (Or.inl ⟨by rfl,?_⟩) ?_ ?_
         rotate_left
         · intro w'
           go_simp
           with_reducible rfl
         rotate_left
         · simp only [Act.put,List.setIfInBounds_toArray,List.set_cons_zero,List.set_cons_succ,zD,zG]
           rfl
         refine pure_ (i:=1) (N:=some 60) (v:=?_) (a':=?_) #[true,true,false,false,false,false,false,false,false,false,false,false,false,false,false,false] rfl rfl (zL HT_.out (by kernel_rfl)) (fun _ _ _ h=>h) (Or.inl ⟨by rfl,?_⟩) ?_ ?_
         rotate_left
         · intro w'
           go_simp
           with_reducible rfl
         rotate_left
         · simp only [Act.put,List.setIfInBounds_toArray,List.set_cons_zero,List.set_cons_succ,zD,zG]
           rfl
         refine pure_ (i:=2) (N:=some 61) (v:=?_) (a':=?_) #[true,true,true,false,false,false,false,false,false,false,false,false,false,false,false,false] rfl rfl (zL HT_.out (by kernel_rfl)) (fun _ _ _ h=>h) (Or.inl ⟨by rfl,?_⟩) ?_ ?_
         rotate_left
         · intro w'
           go_simp
           with_reducible rfl
         rotate_left
         · simp only [Act.put,List.setIfInBounds_toArray,List.set_cons_zero,List.set_cons_succ,zD,zG]
           rfl
         refine pure_ (i:=3) (N:=some 62) (v:=?_) (a':=?_) #[true,true,true,true,false,false,false,false,false,false,false,false,false,false,false,false] rfl rfl (zL HT_.out (by kernel_rfl)) (fun _ _ _ h=>h) (Or.inl ⟨by rfl,?_⟩) ?_ ?_
         rotate_left
         · intro w'
           go_simp
           with_reducible rfl
         rotate_left
         · simp only [Act.put,List.setIfInBounds_toArray,List.set_cons_zero,List.set_cons_succ,zD,zG]
           rfl
         refine pure_ (i:=4) (N:=some 63) (v:=?_) (a':=?_) #[true,true,true,true,true,false,false,false,false,false,false,false,false,false,false,false] rfl rfl (zL HT_.out (by kernel_rfl)) (fun _ _ _ h=>h) (Or.inl ⟨by rfl,?_⟩) ?_ ?_
         rotate_left
         · intro w'
           go_simp
           with_reducible rfl
         rotate_left
         · simp only [Act.put,List.setIfInBounds_toArray,List.set_cons_zero,List.set_cons_succ,zD,zG]
           rfl
         refine pure_ (i:=6) (N:=some 65) (v:=?_) (a':=?_) #[true,true,true,true,true,false,true,false,false,false,false,false,false,false,false,false] rfl rfl (zL HT_.out (by kernel_rfl)) (fun _ _ _ h=>h) (Or.inl ⟨by rfl,?_⟩) ?_ ?_
         rotate_left
         · intro w'
           go_simp
           with_reducible rfl
         rotate_left
         · simp only [Act.put,List.setIfInBounds_toArray,List.set_cons_zero,List.set_cons_succ,zD,zG]
           rfl
         refine pure_ (i:=7) (N:=some 66) (v:=?_) (a':=?_) #[true,true,true,true,true,false,true,true,false,false,false,false,false,false,false,false] rfl rfl (zL HT_.out (by kernel_rfl)) (fun _ _ _ h=>h) (Or.inl ⟨by rfl,?_⟩) ?_ ?_
         rotate_left
         · intro w'
           go_simp
           with_reducible rfl
         rotate_left
         · simp only [Act.put,List.setIfInBounds_toArray,List.set_cons_zero,List.set_cons_succ,zD,zG]
           rfl
         refine pure_ (i:=8) (N:=some 67) (v:=?_) (a':=?_) #[true,true,true,true,true,false,true,true,true,false,false,false,false,false,false,false] rfl rfl (zL HT_.out (by kernel_rfl)) (fun _ _ _ h=>h) (Or.inl ⟨by rfl,?_⟩) ?_ ?_
         rotate_left
         · intro w'
           go_simp
           with_reducible rfl
         rotate_left
         · simp only [Act.put,List.setIfInBounds_toArray,List.set_cons_zero,List.set_cons_succ,zD,zG]
           rfl
         refine pure_ (i:=9) (N:=some 68) (v:=?_) (a':=?_) #[true,true,true,true,true,false,true,true,true,true,false,false,false,false,false,false] rfl rfl (zL HT_.out (by kernel_rfl)) (fun _ _ _ h=>h) (Or.inl ⟨by rfl,?_⟩) ?_ ?_
         rotate_left
         · intro w'
           go_simp
           with_reducible rfl
         rotate_left
         · simp only [Act.put,List.setIfInBounds_toArray,List.set_cons_zero,List.set_cons_succ,zD,zG]
           rfl
         refine take_ (i:=5) (N:=some 64) (v:=?_) (a':=?_) #[true,true,true,true,true,true,true,true,true,true,false,false,false,false,false,false] rfl rfl (z1y HT_.out HW_.out (by kernel_rfl)) (fun _ _ _ h=>h) (Or.inl ⟨by rfl,?_⟩) hHeld ?_ ?_
         rotate_left
         · rintro w' ⟨s0,s1,s2,s3,s4,s5⟩
           go_simp
           with_reducible rfl
         rotate_left
         · simp only [Act.put,List.setIfInBounds_toArray,List.set_cons_zero,List.set_cons_succ,zD,zG]
           rfl
         refine take_ (i:=10) (N:=some 69) (v:=?_) (a':=?_) #[true,true,true,true,true,true,true,true,true,true,true,false,false,false,false,false] rfl rfl (z1y HT_.out HW_.out (by kernel_rfl)) (fun _ _ _ h=>h) (Or.inl ⟨by rfl,?_⟩) hHeld ?_ ?_
         rotate_left
         · rintro w' ⟨s0,s1,s2,s3,s4,s5⟩
           go_simp
           with_reducible rfl
         rotate_left
         · simp only [Act.put,List.setIfInBounds_toArray,List.set_cons_zero,List.set_cons_succ,zD,zG]
           rfl
         refine take_ (i:=11) (N:=some 70) (v:=?_) (a':=?_) #[true,true,true,true,true,true,true,true,true,true,true,true,false,false,false,false] rfl rfl (z1y HT_.out HW_.out (by kernel_rfl)) (fun _ _ _ h=>h) (Or.inl ⟨by rfl,?_⟩) hHeld ?_ ?_
         rotate_left
         · rintro w' ⟨s0,s1,s2,s3,s4,s5⟩
           go_simp
           with_reducible rfl
         rotate_left
         · simp only [Act.put,List.setIfInBounds_toArray,List.set_cons_zero,List.set_cons_succ,zD,zG]
           rfl
         refine one_ (i:=12) (N:=some 71) #[true,true,true,true,true,true,true,true,true,true,true,true,true,false,false,false] rfl rfl (z1A HT_.out (by kernel_rfl)) (by decide) (fun K hK=>?_)
         refine goes_ Try.func78 (by kernel_rfl) rfl #[.int .i64 a0,.agg #[.int .u64 ((zq l2 x47_3).f0),.int .u64 ((zq l2 x47_3).f1)],.agg #[.int .u64 ((zq (z1g l1 x47_3) x54_4).f0),.int .u64 ((zq (z1g l1 x47_3) x54_4).f1)]] (by rfl) rfl rfl (by (try simp only [List.map_toArray,List.map_cons,List.map_nil]);first|done|rfl|(simp only [List.length_drop,List.length_take];rfl)) ?_
         with_reducible refine (zX.calls k4 a0 ((zq l2 x47_3).f0) ((zq l2 x47_3).f1) ((zq (z1g l1 x47_3) x54_4).f0) ((zq (z1g l1 x47_3) x54_4).f1) t116 t117 _ A35.out).mono ?_
         rintro e w43 ⟨rfl,hb⟩
         have HS2_:=(hb.cell (World.block_lt_of_cell? _ _ (hHeld.2.2.1))).trans (hHeld.2.2.1)
         have HS3_:=(hb.cell (World.block_lt_of_cell? _ _ (hHeld.2.2.2.1))).trans (hHeld.2.2.2.1)
         refine ⟨_,rfl,?_⟩
         have n0_:=z2.mk (Kd.zE (by (with_reducible repeat (first|apply Kd.zj|apply Kd.zk|apply Kd.zo));exact HO_8.out) hb)
         have n1_:=z2.mk (ze (g:=gb113) (o:=.cells #[.int .u64 ((zq (z1g l1 x47_3) x54_4).f0),.int .u64 ((zq (z1g l1 x47_3) x54_4).f1)] 30 (0,0)) (by (with_reducible repeat (first|refine z6 ?_ _|refine z8 ?_|refine z5 ?_ _));exact BK113.out) hb)
         have n2_:=z2.mk (za (by repeat (first|(with_reducible first|exact HB.out|apply z4|apply z1|apply z3|refine z7 ?_ GE113.out)|exact HB.out)) hb)
         clear HO_8
         clear BK113
         clear HB
         have HO_8:=n0_
         have BK113:=n1_
         have HB:=n2_
         clear n0_ n1_ n2_
         (try clear hb)
         (try clear hb2)
         (try clear hk)
         (try clear hi)
         refine hK.out _ _ ⟨(z9 BK113.out 0).trans rfl,(z9 BK113.out 1).trans rfl,HS2_,HS3_,((HB.out.cell (World.block_lt_of_cell? w _ hw115_0)).trans hw115_0),((HB.out.cell (World.block_lt_of_cell? w _ hw115_1)).trans hw115_1)⟩ (fun hHeld=>?_)
         clear hK K
         refine norm_ (a':=?_) ?_ ?_
         rotate_left
         · show Act.put _ (some 71) _ = _
           simp only [Act.put,List.setIfInBounds_toArray,List.set_cons_zero,List.set_cons_succ,zD,zG]
           rfl
         refine one_ (i:=13) (N:=some 72) #[true,true,true,true,true,true,true,true,true,true,true,true,true,true,false,false] rfl rfl (z1A HT_.out (by kernel_rfl)) (by decide) (fun K hK=>?_)
         refine goes_ Try.func64 (by kernel_rfl) rfl #[.agg #[.int .u64 ((zq x8_4 x54_4).f0),.int .u64 ((zq x8_4 x54_4).f1)],.agg #[.int .u64 t116,.int .u64 t117]] (by rfl) rfl rfl (by (try simp only [List.map_toArray,List.map_cons,List.map_nil]);first|done|rfl|(simp only [List.length_drop,List.length_take];rfl)) ?_
         with_reducible refine (z1D.calls ((zq x8_4 x54_4).f0) ((zq x8_4 x54_4).f1) t116 t117 t118 t119 _ A36.out).mono ?_
         rintro e w44 ⟨rfl,hb⟩
         have HS2_:=(hb.cell (World.block_lt_of_cell? _ _ (hHeld.2.2.1))).trans (hHeld.2.2.1)
         have HS3_:=(hb.cell (World.block_lt_of_cell? _ _ (hHeld.2.2.2.1))).trans (hHeld.2.2.2.1)
         refine ⟨_,rfl,?_⟩
         have n0_:=z2.mk (Kd.zE (by (with_reducible repeat (first|apply Kd.zj|apply Kd.zk|apply Kd.zo));exact HO_8.out) hb)
         have n1_:=z2.mk (ze (g:=gb113) (o:=.cells #[.int .u64 ((zq (z1g l1 x47_3) x54_4).f0),.int .u64 ((zq (z1g l1 x47_3) x54_4).f1)] 30 (0,0)) (by (with_reducible repeat (first|refine z6 ?_ _|refine z8 ?_|refine z5 ?_ _));exact BK113.out) hb)
         have n2_:=z2.mk (za (by repeat (first|(with_reducible first|exact HB.out|apply z4|apply z1|apply z3|refine z7 ?_ GE113.out)|exact HB.out)) hb)
         clear HO_8
         clear BK113
         clear HB
         have HO_8:=n0_
         have BK113:=n1_
         have HB:=n2_
         clear n0_ n1_ n2_
         (try clear hb)
         (try clear hb2)
         (try clear hk)
         (try clear hi)
         have p37 : 0 ≤ (x54_4 : Int):=of_decide_eq_true (by first|(with_reducible assumption)|assumption)
         have q37 : (x54_4 : Int) < ((x8_4.length : Int) : Int):=of_decide_eq_true (by first|(with_reducible assumption)|assumption)
         obtain ⟨go37,co37,eo37,gb37,gl37,cl37,HG37⟩:=Kd.z4w HO_8.out (by omega)
         (first|cases eo37|(injection eo37 with ea_ en_ ec_;(first|subst ea_|(injection ea_ with ea_;subst ea_));subst ec_;clear en_))
         have GB37:=z2.mk gb37
         have GG37:=z2.mk HG37
         clear gb37 gl37 HG37
         (first|simp only [z28] at hx114_0|skip)
         (first|simp only [z28] at hx114_1|skip)
         obtain ⟨ce37,hcl37,hM37,hcc37,hfr37⟩:=Kd.z31 HO_8.out z30 (x54_4 : Int) p37 q37
         obtain rfl:=z22 hM37
         have hx37_0 : World.cell? _ ⟨go37,(x54_4 : Int).toNat * 2,none⟩ = some (.int .u64 ((zq x8_4 x54_4).f0)):=hcc37 0 _ rfl
         have hx37_1 : World.cell? _ ⟨go37,(x54_4 : Int).toNat * 2 + 1,none⟩ = some (.int .u64 ((zq x8_4 x54_4).f1)):=hcc37 1 _ rfl
         have hf37_0 : World.frozen? _ ⟨go37,(x54_4 : Int).toNat * 2,none⟩ = false:=hfr37 0
         have hf37_1 : World.frozen? _ ⟨go37,(x54_4 : Int).toNat * 2 + 1,none⟩ = false:=hfr37 1
         clear hcl37 hcc37 hfr37 hM37
         replace p37:=eq_true p37
         replace q37:=eq_true q37
         obtain ⟨ce45,hcl45,hM45,hcc45,hfr45⟩:=Kd.z31 HO_8.out z30 (x54_4 : Int) (of_decide_eq_true (by first|(with_reducible assumption)|assumption)) (by have h_ : (x54_4 : Int) < ((x8_4.length : Int) : Int):=of_decide_eq_true (by first|(with_reducible assumption)|assumption);first|exact h_|(have e_:=(Kd.zI HO_8.out).1;omega)|simpa using h_)
         obtain rfl:=z22 hM45
         have HP45:=(Kd.z6s HO_8.out (x54_4 : Int) (of_decide_eq_true (by first|(with_reducible assumption)|assumption)) (by have h_ : (x54_4 : Int) < ((x8_4.length : Int) : Int):=of_decide_eq_true (by first|(with_reducible assumption)|assumption);first|exact h_|(have e_:=(Kd.zI HO_8.out).1;omega)|simpa using h_) (seg:=[.int .u64 t118,.int .u64 t119]) (j:=0) hcl45 hcc45 (show 2 ≤ 2 from by decide) (x':=(⟨t118,t119⟩ : S30)) (z1E _ _ _ (⟨t118,t119⟩ : S30) ) (fun _ hk=>hk)).1
         rw [← Ny120.out] at HP45
         have HQ45:=z2.mk HP45
         clear hcl45 hcc45 hfr45 hM45 HP45
         refine hK.out _ _ ⟨(z9 BK113.out 0).trans rfl,(z9 BK113.out 1).trans rfl,HS2_,HS3_,((HB.out.cell (World.block_lt_of_cell? w _ hw115_0)).trans hw115_0),((HB.out.cell (World.block_lt_of_cell? w _ hw115_1)).trans hw115_1)⟩ (fun hHeld=>?_)
         clear hK K
         refine norm_ (a':=?_) ?_ ?_
         rotate_left
         · show Act.put _ (some 72) _ = _
           simp only [Act.put,List.setIfInBounds_toArray,List.set_cons_zero,List.set_cons_succ,zD,zG]
           rfl
         refine pure_ (i:=14) (N:=some 73) (v:=?_) (a':=?_) #[true,true,true,true,true,true,true,true,true,true,true,true,true,true,true,false] rfl rfl (zL HT_.out (by kernel_rfl)) (fun _ _ _ h=>h) (Or.inl ⟨by rfl,?_⟩) ?_ ?_
         rotate_left
         · intro w'
           go_simp
           with_reducible rfl
         rotate_left
         · simp only [Act.put,List.setIfInBounds_toArray,List.set_cons_zero,List.set_cons_succ,zD,zG]
           rfl
         refine last_ (i:=15) (N:=none) #[true,true,true,true,true,true,true,true,true,true,true,true,true,true,true,true] rfl rfl (z1A HT_.out (by kernel_rfl)) (by decide) (fun K hK=>?_)
         refine skip_ (w1:=?_) (by rfl) rfl ?_ ?_
         rotate_left
         · go_simp
           rfl
         refine hK.out _ _ ?_
         clear hK K
         refine done_ (z24 HT_.out (by kernel_rfl)) ?_
         try go_wp2
         go_roundg k4
         case measure=>have:=HJ3.out;have:=HJ8.out;have:=HK3.out;have:=HK4.out;omega
         case rel=>exact ⟨(y120),(wrap64 (x54_4 + 1)),(by first|rfl|(simp;done)|(simp [*];done)),H',⟨by have:=HJ3.out;have:=HJ8.out;have:=HK3.out;have:=HK4.out;omega⟩,⟨by (with_reducible repeat (first|apply Kd.zj|apply Kd.zk|apply Kd.zo));exact Kd.z1w HQ45.out (fun _ hk=>trivial)⟩,⟨by repeat (first|(with_reducible first|exact HB.out|apply z4|apply z1|apply z3|refine z7 ?_ GB37.out|refine z7 ?_ GB37.out|refine z7 ?_ GE113.out)|exact HB.out)⟩⟩
end Go.Proofs.Ytkhmpaooinpfoaa.P
namespace Go.Proofs.Ytkhmpaooinpfoaa.P
open Go.RowKit Go.Proofs.YtkhmpaooinpfoaaW.PrintWords Go.Proofs.YtkhmpaooinpfoaaW.PrintLast Go.Proofs.YtkhmpaooinpfoaaW.PrintMore
attribute [local go_sem] z17 z19 z1j z1k zZ z10 z18 z1a   -- for this text's walks alone
set_option linter.unusedVariables false
set_option linter.unusedSimpArgs false
def z1T.f (a0_0 : Int) (a0_1 : Int) (a1 : Int) : Option (Int):=if a1 ≥ 64 then (if 0 ≤ (IntKind.u64.wrap (wrap64 (a1 - 64))) then (some (Go.bits .and .u64 (shr .u64 a0_0 (IntKind.u64.wrap (wrap64 (a1 - 64)))) 1)) else (none)) else (if 0 ≤ (IntKind.u64.wrap (a1)) then (some (Go.bits .and .u64 (shr .u64 a0_1 (IntKind.u64.wrap (a1))) 1)) else (none))
set_option maxHeartbeats 8000000 in
set_option maxRecDepth 100000 in
theorem z1T.calls (a0_0 : Int) (a0_1 : Int) (a1 : Int) (r : Int) (w : World) (h : z1T.f a0_0 a0_1 a1 = some r) :
 Calls Try.prog 122 #[.agg #[.int .u64 a0_0,.int .u64 a0_1],.int .i64 a1] w fun e w'=>e = .returned (.int .u64 r) ∧ Below w.heap.size w w':=by
 have hu40:=Try.underlying40
 have HB:=z2.mk (Below.refl w.heap.size w)
 have H : (if a1 ≥ 64 then (if 0 ≤ (IntKind.u64.wrap (wrap64 (a1 - 64))) then (some (Go.bits .and .u64 (shr .u64 a0_0 (IntKind.u64.wrap (wrap64 (a1 - 64)))) 1)) else (none)) else (if 0 ≤ (IntKind.u64.wrap (a1)) then (some (Go.bits .and .u64 (shr .u64 a0_1 (IntKind.u64.wrap (a1))) 1)) else (none))) = some r:=h
 clear h
 by_cases c3 : a1 ≥ 64
 · rw [if_pos c3] at H
   have c3b0 : decide (64 ≤ a1) = true:=decide_eq_true c3
   clear c3
   obtain ⟨ji4,hji4⟩ : ∃ j_ : Int,(IntKind.u64.wrap (wrap64 (a1 - 64))) = j_:=⟨_,rfl⟩
   replace H : (if 0 ≤ (ji4) then (some (Go.bits .and .u64 (shr .u64 a0_0 (ji4)) 1)) else (none)) = some r:=by first|(rw [hji4] at H;exact H)|(simp only [hji4] at H ⊢;exact H)
   by_cases c5 : 0 ≤ (ji4)
   rotate_left
   · rw [if_neg c5] at H
     exact absurd H (by simp)
   rw [if_pos c5] at H
   have c5b0:=eq_true c5
   have c5b1 : decide (0 ≤ (ji4)) = true:=decide_eq_true c5
   clear c5
   obtain ⟨ji6,hji6⟩ : ∃ j_ : Int,(shr .u64 a0_0 (ji4)) = j_:=⟨_,rfl⟩
   replace H : (some (Go.bits .and .u64 (ji6) 1)) = some r:=by first|(rw [hji6] at H;exact H)|(simp only [hji6] at H ⊢;exact H)
   have hji6_ : (a0_0 / 2 ^ min (ji4).toNat 64) = ji6:=hji6
   have hji6z : (ji4) ≤ 64 → (a0_0 / 2 ^ (ji4).toNat) = ji6:=z2C hji6
   obtain rfl:=Option.some.inj H
   go_enter Try.func122,Try.ntmps122
   go_wp2_with (first|((with_reducible refine zO (N:=2) rfl ?_);refine zM ?hg (N:=2) ?hd (cs:=#[.int .u64 a0_0,.int .u64 a0_1]) (t:=40) ?hr ?_;(case hd=>rfl);(case hg=>rfl);(case hr=>first|(go_simp;done)|(go_simp;rfl));intro gb101 hg w7 hbox hb;have n0_:=z2.mk (za (by repeat (first|(with_reducible first|exact HB.out|apply z4|apply z1|apply z3)|exact HB.out)) hb);have n1_:=z2.mk (hbox);have n2_:=z2.mk ((by rw [hg];exact (zc (by repeat (first|(with_reducible first|exact HB.out|apply z4|apply z1|apply z3)|exact HB.out))) : w.heap.size ≤ gb101));have n3_:=z2.mk ((by rw [hg];exact (zc (by repeat (first|(with_reducible first|exact HB.out|apply z4|apply z1|apply z3)|exact HB.out))) : w.heap.size ≤ gb101));clear HB;have HB:=n0_;have BK101:=n1_;have GW101:=n2_;have GE101:=n3_;clear n0_ n1_ n2_ n3_;clear hb hbox hg;have hcz8_0 : w7.cell? ⟨gb101,0,none⟩ = some (.int .u64 a0_0):=(z9 BK101.out 0).trans rfl;have hcz8_1 : w7.cell? ⟨gb101,1,none⟩ = some (.int .u64 a0_1):=(z9 BK101.out 1).trans rfl;have hfz8_0:=zd BK101.out 0;have hfz8_1:=zd BK101.out 1))
   go_ret
   exact ⟨by first|rfl|(simp [zh,zi] <;> rfl)|(simp only [← hji4,← hji6];first|rfl|(simp [zh,zi] <;> rfl))|(simp [*,zh,zi] <;> rfl),by repeat (first|(with_reducible first|exact HB.out|apply z4|apply z1|apply z3|refine z7 ?_ GE101.out)|exact HB.out)⟩
 rw [if_neg c3] at H
 have c3b0 : decide (64 ≤ a1) = false:=decide_eq_false c3
 clear c3
 obtain ⟨ji9,hji9⟩ : ∃ j_ : Int,(IntKind.u64.wrap (a1)) = j_:=⟨_,rfl⟩
 replace H : (if 0 ≤ (ji9) then (some (Go.bits .and .u64 (shr .u64 a0_1 (ji9)) 1)) else (none)) = some r:=by first|(rw [hji9] at H;exact H)|(simp only [hji9] at H ⊢;exact H)
 by_cases c10 : 0 ≤ (ji9)
 rotate_left
 · rw [if_neg c10] at H
   exact absurd H (by simp)
 rw [if_pos c10] at H
 have c10b0:=eq_true c10
 have c10b1 : decide (0 ≤ (ji9)) = true:=decide_eq_true c10
 clear c10
 obtain ⟨ji11,hji11⟩ : ∃ j_ : Int,(shr .u64 a0_1 (ji9)) = j_:=⟨_,rfl⟩
 replace H : (some (Go.bits .and .u64 (ji11) 1)) = some r:=by first|(rw [hji11] at H;exact H)|(simp only [hji11] at H ⊢;exact H)
 have hji11_ : (a0_1 / 2 ^ min (ji9).toNat 64) = ji11:=hji11
 have hji11z : (ji9) ≤ 64 → (a0_1 / 2 ^ (ji9).toNat) = ji11:=z2C hji11
 obtain rfl:=Option.some.inj H
 go_enter Try.func122,Try.ntmps122
 go_wp2_with (first|((with_reducible refine zO (N:=2) rfl ?_);refine zM ?hg (N:=2) ?hd (cs:=#[.int .u64 a0_0,.int .u64 a0_1]) (t:=40) ?hr ?_;(case hd=>rfl);(case hg=>rfl);(case hr=>first|(go_simp;done)|(go_simp;rfl));intro gb101 hg w12 hbox hb;have n0_:=z2.mk (za (by repeat (first|(with_reducible first|exact HB.out|apply z4|apply z1|apply z3)|exact HB.out)) hb);have n1_:=z2.mk (hbox);have n2_:=z2.mk ((by rw [hg];exact (zc (by repeat (first|(with_reducible first|exact HB.out|apply z4|apply z1|apply z3)|exact HB.out))) : w.heap.size ≤ gb101));have n3_:=z2.mk ((by rw [hg];exact (zc (by repeat (first|(with_reducible first|exact HB.out|apply z4|apply z1|apply z3)|exact HB.out))) : w.heap.size ≤ gb101));clear HB;have HB:=n0_;have BK101:=n1_;have GW101:=n2_;have GE101:=n3_;clear n0_ n1_ n2_ n3_;clear hb hbox hg;have hcz13_0 : w12.cell? ⟨gb101,0,none⟩ = some (.int .u64 a0_0):=(z9 BK101.out 0).trans rfl;have hcz13_1 : w12.cell? ⟨gb101,1,none⟩ = some (.int .u64 a0_1):=(z9 BK101.out 1).trans rfl;have hfz13_0:=zd BK101.out 0;have hfz13_1:=zd BK101.out 1))
 go_ret
 exact ⟨by first|rfl|(simp [zh,zi] <;> rfl)|(simp only [← hji9,← hji11];first|rfl|(simp [zh,zi] <;> rfl))|(simp [*,zh,zi] <;> rfl),by repeat (first|(with_reducible first|exact HB.out|apply z4|apply z1|apply z3|refine z7 ?_ GE101.out)|exact HB.out)⟩
end Go.Proofs.Ytkhmpaooinpfoaa.P
namespace Go.Proofs.Ytkhmpaooinpfoaa.P
open Go.RowKit Go.Proofs.YtkhmpaooinpfoaaW.PrintWords Go.Proofs.YtkhmpaooinpfoaaW.PrintLast Go.Proofs.YtkhmpaooinpfoaaW.PrintMore
attribute [local go_sem] z17 z19 z1j z1k zZ z10 z18 z1a   -- for this text's walks alone
set_option linter.unusedVariables false
set_option linter.unusedSimpArgs false
mutual
def zr.j0 : Nat → Int → List Int → Bool → Int → Int → Option (Bool)
 | 0,_,_,_,_,_=>none
 | k + 1,x0,x5,x13,x102000,x102001=>if x13 = true then (some false) else (if 0 ≤ x0 then (if x0 < (x5.length : Int) then (zr.l0 k (rd x5 x0) x102000 x102001) else (none)) else (none))
def zr.l0 : Nat → Int → Int → Int → Option (Bool)
 | 0,_,_,_=>none
 | k + 1,x6,x102000,x102001=>if x6 < 128 then ((z1T.f x102000 x102001 x6).bind fun t106=>(if t106 = 1 then (some false) else (zr.l0 k (wrap64 (x6 + 1)) x102000 x102001))) else (some true)
end
def zr.f (k : Nat) (a0 : Int) (a1_0 : Int) (a1_1 : Int) : Option (Bool):=(some (([1,2,4,8,16,32,64,128] : List Int) : List Int)).bind fun y102=>(if a0 < 0 then (zr.j0 k a0 y102 true a1_0 a1_1) else (zr.j0 k a0 y102 (decide (a0 > 7)) a1_0 a1_1))
theorem zr.z1b : ∀ k,(∀ y0 y1 y2 y3 y4,LeO (zr.j0 k y0 y1 y2 y3 y4) (zr.j0 (k + 1) y0 y1 y2 y3 y4)) ∧ (∀ y0 y1 y2,LeO (zr.l0 k y0 y1 y2) (zr.l0 (k + 1) y0 y1 y2))
 | 0=>⟨fun _ _ _ _ _ r h=>by simp [zr.j0] at h,fun _ _ _ r h=>by simp [zr.l0] at h⟩
 | k + 1=>by
  obtain ⟨ih0,ih1⟩:=zr.z1b k
  refine ⟨?_,?_⟩
  · intro y0 y1 y2 y3 y4
    unfold zr.j0
    repeat' first
    | (with_reducible exact ih0 _ _ _ _ _)
    | (with_reducible exact ih1 _ _ _)
    | (with_reducible exact LeO.refl _)
    | (with_reducible exact LeO.none _)
    | (with_reducible refine LeO.ite ?_ ?_)
    | (with_reducible refine LeO.bind ?_ (fun _=>?_))
    | exact ih0 _ _ _ _ _
    | exact ih1 _ _ _
    | exact LeO.none _
    | refine LeO.ite ?_ ?_
    | refine LeO.bind ?_ (fun _=>?_)
  · intro y0 y1 y2
    unfold zr.l0
    repeat' first
    | (with_reducible exact ih0 _ _ _ _ _)
    | (with_reducible exact ih1 _ _ _)
    | (with_reducible exact LeO.refl _)
    | (with_reducible exact LeO.none _)
    | (with_reducible refine LeO.ite ?_ ?_)
    | (with_reducible refine LeO.bind ?_ (fun _=>?_))
    | exact ih0 _ _ _ _ _
    | exact ih1 _ _ _
    | exact LeO.none _
    | refine LeO.ite ?_ ?_
    | refine LeO.bind ?_ (fun _=>?_)
theorem zr.mono : ∀ a0 a1 a2 k,LeO (zr.f k a0 a1 a2) (zr.f (k + 1) a0 a1 a2):=by
 intro a0 a1 a2 k
 obtain ⟨ih0,ih1⟩:=zr.z1b k
 unfold zr.f
 repeat' first
  | (with_reducible exact ih0 _ _ _ _ _)
  | (with_reducible exact ih1 _ _ _)
  | (with_reducible exact LeO.refl _)
  | (with_reducible exact LeO.none _)
  | (with_reducible refine LeO.ite ?_ ?_)
  | (with_reducible refine LeO.bind ?_ (fun _=>?_))
  | exact ih0 _ _ _ _ _
  | exact ih1 _ _ _
  | exact LeO.none _
  | refine LeO.ite ?_ ?_
  | refine LeO.bind ?_ (fun _=>?_)
set_option maxHeartbeats 8000000 in
set_option maxRecDepth 100000 in
theorem zr.calls (k : Nat) (a0 : Int) (a1_0 : Int) (a1_1 : Int) (r : Bool) (w : World) (h : zr.f k a0 a1_0 a1_1 = some r) :
 Calls Try.prog 85 #[.int .i64 a0,.agg #[.int .u64 a1_0,.int .u64 a1_1]] w fun e w'=>e = .returned (.bool r) ∧ Below w.heap.size w w':=by
 have hu40:=Try.underlying40
 have HB:=z2.mk (Below.refl w.heap.size w)
 have H : ((some (([1,2,4,8,16,32,64,128] : List Int) : List Int)).bind fun y102=>(if a0 < 0 then (zr.j0 k a0 y102 true a1_0 a1_1) else (zr.j0 k a0 y102 (decide (a0 > 7)) a1_0 a1_1))) = some r:=h
 clear h
 obtain ⟨y102,hy102⟩ : ∃ y_ : List Int,y_ = (([1,2,4,8,16,32,64,128] : List Int)):=⟨_,rfl⟩
 replace H : (if a0 < 0 then (zr.j0 k a0 y102 true a1_0 a1_1) else (zr.j0 k a0 y102 (decide (a0 > 7)) a1_0 a1_1)) = some r:=by first|(rw [hy102];with_reducible exact H)|(have H2_:=(Option.bind_some _ _).symm.trans H;rw [hy102];with_reducible exact H2_)|(have H2_:=(Option.bind_some _ _).symm.trans H;with_reducible exact H2_)|with_reducible exact H|(rw [hy102];exact H)|exact H
 have Ny102:=z2.mk hy102
 clear hy102
 have HC3:=z2.mk H
 clear H
 go_enter Try.func85,Try.ntmps85
 go_upto_region 2 with (first|((with_reducible refine zO (N:=3) rfl ?_);refine zM ?hg (N:=3) ?hd (cs:=#[.int .u64 a1_0,.int .u64 a1_1]) (t:=40) ?hr ?_;(case hd=>rfl);(case hg=>rfl);(case hr=>first|(go_simp;done)|(go_simp;rfl));intro gb101 hg w4 hbox hb;have n0_:=z2.mk (za (by repeat (first|(with_reducible first|exact HB.out|apply z4|apply z1|apply z3)|exact HB.out)) hb);have n1_:=z2.mk (hbox);have n2_:=z2.mk ((by rw [hg];exact (zc (by repeat (first|(with_reducible first|exact HB.out|apply z4|apply z1|apply z3)|exact HB.out))) : w.heap.size ≤ gb101));have n3_:=z2.mk ((by rw [hg];exact (zc (by repeat (first|(with_reducible first|exact HB.out|apply z4|apply z1|apply z3)|exact HB.out))) : w.heap.size ≤ gb101));clear HB;have HB:=n0_;have BK101:=n1_;have GW101:=n2_;have GE101:=n3_;clear n0_ n1_ n2_ n3_;clear hb hbox hg)|((with_reducible refine zO (N:=7) rfl ?_);refine Kd.z4R (Kd.int .i64) _ 3 ?hg (N:=7) ?hd (xs:=([1,2,4,8,16,32,64,128] : List Int)) (inner:=[.int .i64 1,.int .i64 2,.int .i64 4,.int .i64 8,.int .i64 16,.int .i64 32,.int .i64 64,.int .i64 128]) (ok:=fun _=>True) (okp:=fun _=>True) ?hr ?hp (fun _ hk=>hk) trivial (Below.refl _ _) (Nat.le_refl _) (by simp) ?_;(case hd=>rfl);(case hg=>rfl);(case hr=>first|(go_simp;done)|(go_simp;rfl));(case hp=>exact (Reps.one (show Kd.M (Kd.int .i64) _ _ _ 1 [.int .i64 1] from rfl) (Reps.one (show Kd.M (Kd.int .i64) _ _ _ 2 [.int .i64 2] from rfl) (Reps.one (show Kd.M (Kd.int .i64) _ _ _ 4 [.int .i64 4] from rfl) (Reps.one (show Kd.M (Kd.int .i64) _ _ _ 8 [.int .i64 8] from rfl) (Reps.one (show Kd.M (Kd.int .i64) _ _ _ 16 [.int .i64 16] from rfl) (Reps.one (show Kd.M (Kd.int .i64) _ _ _ 32 [.int .i64 32] from rfl) (Reps.one (show Kd.M (Kd.int .i64) _ _ _ 64 [.int .i64 64] from rfl) (Reps.one (show Kd.M (Kd.int .i64) _ _ _ 128 [.int .i64 128] from rfl) (Reps.none _ _))))))))));intro v103 w5 ho6 hb hg_ hnew_;clear hg_ hnew_;(first|rw [← Ny102.out] at ho6|(simp only [Int.reduceToNat] at ho6;rw [← Ny102.out] at ho6));have n0_:=z2.mk (Kd.z1o ho6 (zc (by repeat (first|(with_reducible first|exact HB.out|apply z4|apply z1|apply z3|refine z7 ?_ GE101.out)|exact HB.out))));have n1_:=z2.mk (ze (g:=gb101) (o:=.cells #[.int .u64 a1_0,.int .u64 a1_1] 40 (0,0)) (by (with_reducible repeat (first|refine z6 ?_ _|refine z8 ?_|refine z5 ?_ _));exact BK101.out) hb);have n2_:=z2.mk (za (by repeat (first|(with_reducible first|exact HB.out|apply z4|apply z1|apply z3|refine z7 ?_ GE101.out)|exact HB.out)) hb);clear BK101;clear HB;have HO104:=n0_;have BK101:=n1_;have HB:=n2_;clear n0_ n1_ n2_;clear hb ho6))
 (try simp only [Act.put,List.setIfInBounds_toArray,List.set_cons_zero,List.set_cons_succ])
 go_cut [13] (fun v13 wc=>∃ (kq : Nat) (x13_2 : Bool),v13 = .bool x13_2 ∧ z2 (zr.j0 kq a0 y102 x13_2 a1_0 a1_1 = some r) ∧ z2 (kq ≤ k) ∧ z2 (Kd.R (Kd.int .i64) 3 wc w.heap.size (fun _=>True) v103 y102) ∧ z2 (wc.heap[gb101]? = some (.cells #[.int .u64 a1_0,.int .u64 a1_1] 40 (0,0))) ∧ z2 (Below w.heap.size w wc))
 case first =>
  have H:=HC3.out
  clear HC3
  by_cases c7 : a0 < 0
  rotate_left
  · rw [if_neg c7] at H
    have c7b0 : decide (a0 < 0) = false:=decide_eq_false c7
    clear c7
    (first|rw [c7b0]|(simp only [zD,zG];rw [c7b0])|skip)
    have H':=z2.mk H
    clear H
    go_wp2
    go_meet
    case rel=>exact ⟨_,(decide (a0 > 7)),(by first|rfl|(simp;done)|(simp [*];done)),H',⟨by first|omega|exact Nat.le_refl _⟩,⟨by (with_reducible repeat (first|apply Kd.zj|apply Kd.zk|apply Kd.zo));exact HO104.out⟩,⟨by (with_reducible repeat (first|refine z6 ?_ _|refine z8 ?_|refine z5 ?_ _));exact BK101.out⟩,⟨by repeat (first|(with_reducible first|exact HB.out|apply z4|apply z1|apply z3|refine z7 ?_ GE101.out)|exact HB.out)⟩⟩
  rw [if_pos c7] at H
  have c7b0 : decide (a0 < 0) = true:=decide_eq_true c7
  clear c7
  (first|rw [c7b0]|(simp only [zD,zG];rw [c7b0])|skip)
  have H':=z2.mk H
  clear H
  go_wp2
  go_meet
  case rel=>exact ⟨_,(true),(by first|rfl|(simp;done)|(simp [*];done)),H',⟨by first|omega|exact Nat.le_refl _⟩,⟨by (with_reducible repeat (first|apply Kd.zj|apply Kd.zk|apply Kd.zo));exact HO104.out⟩,⟨by (with_reducible repeat (first|refine z6 ?_ _|refine z8 ?_|refine z5 ?_ _));exact BK101.out⟩,⟨by repeat (first|(with_reducible first|exact HB.out|apply z4|apply z1|apply z3|refine z7 ?_ GE101.out)|exact HB.out)⟩⟩
 case rest =>
  clear HC3
  (try clear p2);(try clear c7);(try clear c7b0)
  obtain ⟨kq,x13_2,rfl,HA,HJ2,HO_5,BK101,HB⟩:=hcut
  cases kq with
  | zero=>exact absurd HA.out (by simp [zr.j0])
  | succ kj2 =>
   have H:=HA.out
   clear HA
   simp only [zr.j0] at H
   by_cases c8 : x13_2 = true
   · subst c8
     have H1 : (some false) = some r:=by rw [if_pos rfl] at H;exact H
     clear H
     have H:=H1
     clear H1
     obtain rfl:=Option.some.inj H
     go_wp2
     go_ret
     exact ⟨by first|rfl|(simp [zh,zi] <;> rfl)|(simp [*,zh,zi] <;> rfl),by repeat (first|(with_reducible first|exact HB.out|apply z4|apply z1|apply z3|refine z7 ?_ GE101.out)|exact HB.out)⟩
   replace c8:=Bool.eq_false_iff.mpr c8
   subst c8
   have H1 : (if 0 ≤ a0 then (if a0 < (y102.length : Int) then (zr.l0 kj2 (rd y102 a0) a1_0 a1_1) else (none)) else (none)) = some r:=by rw [if_neg (show ¬ (false = true) by decide)] at H;exact H
   clear H
   have H:=H1
   clear H1
   by_cases c9 : 0 ≤ a0
   rotate_left
   · rw [if_neg c9] at H
     exact absurd H (by simp)
   rw [if_pos c9] at H
   have c9b0 : decide (0 ≤ a0) = true:=decide_eq_true c9
   clear c9
   by_cases c10 : a0 < (y102.length : Int)
   rotate_left
   · rw [if_neg c10] at H
     exact absurd H (by simp)
   rw [if_pos c10] at H
   have c10b0 : decide (a0 < (y102.length : Int)) = true:=decide_eq_true c10
   clear c10
   have H':=z2.mk H
   clear H
   obtain ⟨Ao11,co11,eo11⟩:=Kd.z1s HO_5.out
   subst eo11
   have p105 : 0 ≤ (a0 : Int):=of_decide_eq_true (by first|(with_reducible assumption)|assumption)
   have q105 : a0 < (y102.length : Int):=of_decide_eq_true (by first|(with_reducible assumption)|assumption)
   obtain ⟨ad105,e105,hx105_0⟩:=Kd.at_int (Kd.zI HO_5.out).2.2 a0 p105 q105
   cases e105
   replace p105:=eq_true p105
   replace q105:=eq_true q105
   go_wp2
   go_loopg [6] kj2 (fun kq v6 w'=>∃ (x6_2 : Int),v6 = .int .i64 x6_2 ∧ z2 (zr.l0 kq x6_2 a1_0 a1_1 = some r) ∧ z2 (kq ≤ kj2) ∧ z2 (w'.heap[gb101]? = some (.cells #[.int .u64 a1_0,.int .u64 a1_1] 40 (0,0))) ∧ z2 (Below w.heap.size w w'))
   case atStart=>exact ⟨(rd y102 a0),(by first|rfl|(simp;done)|(simp [*];done)),H',⟨Nat.le_refl _⟩,⟨by (with_reducible repeat (first|refine z6 ?_ _|refine z8 ?_|refine z5 ?_ _));exact BK101.out⟩,⟨by repeat (first|(with_reducible first|exact HB.out|apply z4|apply z1|apply z3|refine z7 ?_ GE101.out)|exact HB.out)⟩⟩
   case round =>
    clear H'
    (try clear c1);(try clear p1);(try clear q1);(try clear hx1);(try clear p2);(try clear c7);(try clear c7b0);(try clear c8);(try clear c9);(try clear c9b0);(try clear c10);(try clear c10b0);(try clear p10);(try clear q10);(try clear hx10);(try clear hx105_0);(try clear p105);(try clear p2);(try clear q105)
    obtain ⟨x6_2,rfl,HA,HK2,BK101,HB⟩:=hrel
    cases gk with
    | zero=>exact absurd HA.out (by simp [zr.l0])
    | succ k2 =>
     have H:=HA.out
     clear HA
     simp only [zr.l0] at H
     by_cases c12 : x6_2 < 128
     rotate_left
     · rw [if_neg c12] at H
       have c12b0 : decide (x6_2 < 128) = false:=decide_eq_false c12
       clear c12
       obtain rfl:=Option.some.inj H
       go_wp2
       go_ret
       exact ⟨by first|rfl|(simp [zh,zi] <;> rfl)|(simp [*,zh,zi] <;> rfl),by repeat (first|(with_reducible first|exact HB.out|apply z4|apply z1|apply z3|refine z7 ?_ GE101.out)|exact HB.out)⟩
     rw [if_pos c12] at H
     have c12b0 : decide (x6_2 < 128) = true:=decide_eq_true c12
     clear c12
     replace H:=Option.bind_eq_some_iff.mp H
     obtain ⟨t106,A130,H⟩:=H
     replace H : (if t106 = 1 then (some false) else (zr.l0 k2 (wrap64 (x6_2 + 1)) a1_0 a1_1)) = some r:=H
     have A13:=z2.mk A130
     clear A130
     by_cases c14 : t106 = 1
     · rw [if_pos c14] at H
       have c14b0 : (t106 == 1) = true:=beq_iff_eq.mpr c14
       have c14b1 : (t106 != 1) = false:=bne_eq_false_iff_eq.mpr c14
       clear c14
       obtain rfl:=Option.some.inj H
       have hcz15_0 : wr.cell? ⟨gb101,0,none⟩ = some (.int .u64 a1_0):=(z9 BK101.out 0).trans rfl
       have hcz15_1 : wr.cell? ⟨gb101,1,none⟩ = some (.int .u64 a1_1):=(z9 BK101.out 1).trans rfl
       have hfz15_0:=zd BK101.out 0
       have hfz15_1:=zd BK101.out 1
       go_wp2_with (first|((with_reducible refine zm (f:=122) rfl ?_);refine goesL_ (some 24) rfl rfl Try.func122 (by kernel_rfl) rfl #[.agg #[.int .u64 a1_0,.int .u64 a1_1],.int .i64 x6_2] rfl (by (try simp only [List.map_toArray,List.map_cons,List.map_nil]);first|done|rfl|(simp only [List.length_drop,List.length_take];rfl)) ?_;(with_reducible refine (z1T.calls a1_0 a1_1 x6_2 t106 _ A13.out).mono ?_);rintro e w16 ⟨rfl,hb⟩;refine ⟨_,rfl,?_⟩;have n0_:=z2.mk (ze (g:=gb101) (o:=.cells #[.int .u64 a1_0,.int .u64 a1_1] 40 (0,0)) (by (with_reducible repeat (first|refine z6 ?_ _|refine z8 ?_|refine z5 ?_ _));exact BK101.out) hb);have n1_:=z2.mk (za (by repeat (first|(with_reducible first|exact HB.out|apply z4|apply z1|apply z3|refine z7 ?_ GE101.out)|exact HB.out)) hb);clear BK101;clear HB;have BK101:=n0_;have HB:=n1_;clear n0_ n1_;(try clear hb);(try clear hb2);(try clear hk);(try clear hi)))
       go_ret
       exact ⟨by first|rfl|(simp [zh,zi] <;> rfl)|(simp [*,zh,zi] <;> rfl),by repeat (first|(with_reducible first|exact HB.out|apply z4|apply z1|apply z3|refine z7 ?_ GE101.out)|exact HB.out)⟩
     rw [if_neg c14] at H
     have c14b0 : (t106 == 1) = false:=beq_eq_false_iff_ne.mpr c14
     have c14b1 : (t106 != 1) = true:=bne_iff_ne.mpr c14
     have H':=z2.mk H
     clear H
     have hcz17_0 : wr.cell? ⟨gb101,0,none⟩ = some (.int .u64 a1_0):=(z9 BK101.out 0).trans rfl
     have hcz17_1 : wr.cell? ⟨gb101,1,none⟩ = some (.int .u64 a1_1):=(z9 BK101.out 1).trans rfl
     have hfz17_0:=zd BK101.out 0
     have hfz17_1:=zd BK101.out 1
     go_wp2_with (first|((with_reducible refine zm (f:=122) rfl ?_);refine goesL_ (some 24) rfl rfl Try.func122 (by kernel_rfl) rfl #[.agg #[.int .u64 a1_0,.int .u64 a1_1],.int .i64 x6_2] rfl (by (try simp only [List.map_toArray,List.map_cons,List.map_nil]);first|done|rfl|(simp only [List.length_drop,List.length_take];rfl)) ?_;(with_reducible refine (z1T.calls a1_0 a1_1 x6_2 t106 _ A13.out).mono ?_);rintro e w18 ⟨rfl,hb⟩;refine ⟨_,rfl,?_⟩;have n0_:=z2.mk (ze (g:=gb101) (o:=.cells #[.int .u64 a1_0,.int .u64 a1_1] 40 (0,0)) (by (with_reducible repeat (first|refine z6 ?_ _|refine z8 ?_|refine z5 ?_ _));exact BK101.out) hb);have n1_:=z2.mk (za (by repeat (first|(with_reducible first|exact HB.out|apply z4|apply z1|apply z3|refine z7 ?_ GE101.out)|exact HB.out)) hb);clear BK101;clear HB;have BK101:=n0_;have HB:=n1_;clear n0_ n1_;(try clear hb);(try clear hb2);(try clear hk);(try clear hi)))
     go_roundg k2
     case measure=>have:=HJ2.out;have:=HK2.out;omega
     case rel=>exact ⟨(wrap64 (x6_2 + 1)),(by first|rfl|(simp;done)|(simp [*];done)),H',⟨by have:=HJ2.out;have:=HK2.out;omega⟩,⟨by (with_reducible repeat (first|refine z6 ?_ _|refine z8 ?_|refine z5 ?_ _));exact BK101.out⟩,⟨by repeat (first|(with_reducible first|exact HB.out|apply z4|apply z1|apply z3|refine z7 ?_ GE101.out)|exact HB.out)⟩⟩
end Go.Proofs.Ytkhmpaooinpfoaa.P
namespace Go.Proofs.Ytkhmpaooinpfoaa.P
open Go.RowKit Go.Proofs.YtkhmpaooinpfoaaW.PrintWords Go.Proofs.YtkhmpaooinpfoaaW.PrintLast Go.Proofs.YtkhmpaooinpfoaaW.PrintMore
attribute [local go_sem] z17 z19 z1j z1k zZ z10 z18 z1a   -- for this text's walks alone
set_option linter.unusedVariables false
set_option linter.unusedSimpArgs false
def zA.l0 : Nat → Int → List (S40) → Int → Option (Bool)
 | 0,_,_,_=>none
 | k + 1,x0,x1,x5=>if x5 < (x1.length : Int) then (if 0 ≤ x5 then ((zr.f k x0 ((z1n x1 x5).f0) ((z1n x1 x5).f1)).bind fun t102=>(if t102 = true then (zA.l0 k x0 x1 (wrap64 (x5 + 1))) else (some false))) else (none)) else (some true)
def zA.f (k : Nat) (a0 : Int) (l1 : List (S40)) : Option (Bool):=zA.l0 k a0 l1 0
theorem zA.z1b : ∀ k,(∀ y0 y1 y2,LeO (zA.l0 k y0 y1 y2) (zA.l0 (k + 1) y0 y1 y2))
 | 0=>fun _ _ _ r h=>by simp [zA.l0] at h
 | k + 1=>by
  have ih0:=zA.z1b k
  · intro y0 y1 y2
    unfold zA.l0
    repeat' first
    | (with_reducible exact ih0 _ _ _)
    | (with_reducible exact zr.mono _ _ _ _)
    | (with_reducible exact LeO.refl _)
    | (with_reducible exact LeO.none _)
    | (with_reducible refine LeO.ite ?_ ?_)
    | (with_reducible refine LeO.bind ?_ (fun _=>?_))
    | exact ih0 _ _ _
    | exact zr.mono _ _ _ _
    | exact LeO.none _
    | refine LeO.ite ?_ ?_
    | refine LeO.bind ?_ (fun _=>?_)
theorem zA.mono : ∀ a0 a1 k,LeO (zA.f k a0 a1) (zA.f (k + 1) a0 a1):=by
 intro a0 a1 k
 have ih0:=zA.z1b k
 unfold zA.f
 repeat' first
  | (with_reducible exact ih0 _ _ _)
  | (with_reducible exact zr.mono _ _ _ _)
  | (with_reducible exact LeO.refl _)
  | (with_reducible exact LeO.none _)
  | (with_reducible refine LeO.ite ?_ ?_)
  | (with_reducible refine LeO.bind ?_ (fun _=>?_))
  | exact ih0 _ _ _
  | exact zr.mono _ _ _ _
  | exact LeO.none _
  | refine LeO.ite ?_ ?_
  | refine LeO.bind ?_ (fun _=>?_)
set_option maxHeartbeats 8000000 in
set_option maxRecDepth 100000 in
theorem zA.calls (k : Nat) (a0 : Int) (A1 : Option Addr) (c1 : Nat) (l1 : List (S40)) (r : Bool) (w : World) (hr1 : Kd.C k40 w A1 l1.length l1) (hc1 : l1.length ≤ c1) (h : zA.f k a0 l1 = some r) :
 Calls Try.prog 50 #[.int .i64 a0,.slice A1 l1.length c1] w fun e w'=>e = .returned (.bool r) ∧ Below w.heap.size w w':=by
 have hu40:=Try.underlying40
 have HR1:=z2.mk hr1
 have HC1:=z2.mk hc1
 clear hr1 hc1
 have HB:=z2.mk (Below.refl w.heap.size w)
 have H : (zA.l0 k a0 l1 0) = some r:=h
 clear h
 have H':=z2.mk H
 clear H
 go_enter Try.func50,Try.ntmps50
 go_wp2
 go_loopg [5] k (fun kq v5 w'=>∃ (x5_1 : Int),v5 = .int .i64 x5_1 ∧ z2 (zA.l0 kq a0 l1 x5_1 = some r) ∧ z2 (kq ≤ k) ∧ z2 (Below w.heap.size w w'))
 case atStart=>exact ⟨(0),(by first|rfl|(simp;done)|(simp [*];done)),H',⟨Nat.le_refl _⟩,⟨by repeat (first|(with_reducible first|exact HB.out|apply z4|apply z1|apply z3)|exact HB.out)⟩⟩
 case round =>
  clear H'
  (try clear c1);(try clear p2)
  obtain ⟨x5_1,rfl,HA,HK1,HB⟩:=hrel
  cases gk with
  | zero=>exact absurd HA.out (by simp [zA.l0])
  | succ k1 =>
   have H:=HA.out
   clear HA
   simp only [zA.l0] at H
   by_cases c3 : x5_1 < (l1.length : Int)
   rotate_left
   · rw [if_neg c3] at H
     have c3b0 : decide (x5_1 < (l1.length : Int)) = false:=decide_eq_false c3
     clear c3
     obtain rfl:=Option.some.inj H
     go_wp2
     go_ret
     exact ⟨by first|rfl|(simp [zh,zi] <;> rfl)|(simp [*,zh,zi] <;> rfl),by repeat (first|(with_reducible first|exact HB.out|apply z4|apply z1|apply z3)|exact HB.out)⟩
   rw [if_pos c3] at H
   have c3b0 : decide (x5_1 < (l1.length : Int)) = true:=decide_eq_true c3
   clear c3
   by_cases c4 : 0 ≤ x5_1
   rotate_left
   · rw [if_neg c4] at H
     exact absurd H (by simp)
   rw [if_pos c4] at H
   have c4b0 : decide (0 ≤ x5_1) = true:=decide_eq_true c4
   clear c4
   replace H:=Option.bind_eq_some_iff.mp H
   obtain ⟨t102,A50,H⟩:=H
   replace H : (if t102 = true then (zA.l0 k1 a0 l1 (wrap64 (x5_1 + 1))) else (some false)) = some r:=H
   have A5:=z2.mk A50
   clear A50
   by_cases c6 : t102 = true
   rotate_left
   · replace c6:=Bool.eq_false_iff.mpr c6
     subst c6
     have H1 : (some false) = some r:=by rw [if_neg (show ¬ (false = true) by decide)] at H;exact H
     clear H
     have H:=H1
     clear H1
     obtain rfl:=Option.some.inj H
     have p101 : 0 ≤ (x5_1 : Int):=of_decide_eq_true (by first|(with_reducible assumption)|assumption)
     have q101 : x5_1 < (l1.length : Int):=of_decide_eq_true (by first|(with_reducible assumption)|assumption)
     obtain ⟨ad101,e101,hx101_0,hx101_1⟩:=z3m HR1.out x5_1 p101 q101
     cases e101
     replace hx101_0:=(HB.out.cell (World.block_lt_of_cell? w _ hx101_0)).trans hx101_0
     replace hx101_1:=(HB.out.cell (World.block_lt_of_cell? w _ hx101_1)).trans hx101_1
     replace p101:=eq_true p101
     replace q101:=eq_true q101
     go_wp2_with (first|((with_reducible refine zm (f:=85) rfl ?_);refine goesL_ (some 17) rfl rfl Try.func85 (by kernel_rfl) rfl #[.int .i64 a0,.agg #[.int .u64 ((z1n l1 x5_1).f0),.int .u64 ((z1n l1 x5_1).f1)]] rfl (by (try simp only [List.map_toArray,List.map_cons,List.map_nil]);first|done|rfl|(simp only [List.length_drop,List.length_take];rfl)) ?_;(with_reducible refine (zr.calls k1 a0 ((z1n l1 x5_1).f0) ((z1n l1 x5_1).f1) false _ A5.out).mono ?_);rintro e w8 ⟨rfl,hb⟩;refine ⟨_,rfl,?_⟩;have n0_:=z2.mk (za (by repeat (first|(with_reducible first|exact HB.out|apply z4|apply z1|apply z3)|exact HB.out)) hb);clear HB;have HB:=n0_;clear n0_;(try clear hb);(try clear hb2);(try clear hk);(try clear hi)))
     go_ret
     exact ⟨by first|rfl|(simp [zh,zi] <;> rfl)|(simp [*,zh,zi] <;> rfl),by repeat (first|(with_reducible first|exact HB.out|apply z4|apply z1|apply z3)|exact HB.out)⟩
   subst c6
   have H1 : (zA.l0 k1 a0 l1 (wrap64 (x5_1 + 1))) = some r:=by rw [if_pos rfl] at H;exact H
   clear H
   have H:=H1
   clear H1
   have H':=z2.mk H
   clear H
   have p101 : 0 ≤ (x5_1 : Int):=of_decide_eq_true (by first|(with_reducible assumption)|assumption)
   have q101 : x5_1 < (l1.length : Int):=of_decide_eq_true (by first|(with_reducible assumption)|assumption)
   obtain ⟨ad101,e101,hx101_0,hx101_1⟩:=z3m HR1.out x5_1 p101 q101
   cases e101
   replace hx101_0:=(HB.out.cell (World.block_lt_of_cell? w _ hx101_0)).trans hx101_0
   replace hx101_1:=(HB.out.cell (World.block_lt_of_cell? w _ hx101_1)).trans hx101_1
   replace p101:=eq_true p101
   replace q101:=eq_true q101
   go_wp2_with (first|((with_reducible refine zm (f:=85) rfl ?_);refine goesL_ (some 17) rfl rfl Try.func85 (by kernel_rfl) rfl #[.int .i64 a0,.agg #[.int .u64 ((z1n l1 x5_1).f0),.int .u64 ((z1n l1 x5_1).f1)]] rfl (by (try simp only [List.map_toArray,List.map_cons,List.map_nil]);first|done|rfl|(simp only [List.length_drop,List.length_take];rfl)) ?_;(with_reducible refine (zr.calls k1 a0 ((z1n l1 x5_1).f0) ((z1n l1 x5_1).f1) true _ A5.out).mono ?_);rintro e w7 ⟨rfl,hb⟩;refine ⟨_,rfl,?_⟩;have n0_:=z2.mk (za (by repeat (first|(with_reducible first|exact HB.out|apply z4|apply z1|apply z3)|exact HB.out)) hb);clear HB;have HB:=n0_;clear n0_;(try clear hb);(try clear hb2);(try clear hk);(try clear hi)))
   go_roundg k1
   case measure=>have:=HK1.out;omega
   case rel=>exact ⟨(wrap64 (x5_1 + 1)),(by first|rfl|(simp;done)|(simp [*];done)),H',⟨by have:=HK1.out;omega⟩,⟨by repeat (first|(with_reducible first|exact HB.out|apply z4|apply z1|apply z3)|exact HB.out)⟩⟩
end Go.Proofs.Ytkhmpaooinpfoaa.P
namespace Go.Proofs.Ytkhmpaooinpfoaa.P
open Go.RowKit Go.Proofs.YtkhmpaooinpfoaaW.PrintWords Go.Proofs.YtkhmpaooinpfoaaW.PrintLast Go.Proofs.YtkhmpaooinpfoaaW.PrintMore
attribute [local go_sem] z17 z19 z1j z1k zZ z10 z18 z1a   -- for this text's walks alone
set_option linter.unusedVariables false
set_option linter.unusedSimpArgs false
def z1B.f (a0_0 : Int) (a0_1 : Int) (a1_0 : Int) (a1_1 : Int) : Option (Int × Int):=some (Go.bits .xor .u64 a0_0 a1_0,Go.bits .xor .u64 a0_1 a1_1)
set_option maxHeartbeats 8000000 in
set_option maxRecDepth 100000 in
theorem z1B.calls (a0_0 : Int) (a0_1 : Int) (a1_0 : Int) (a1_1 : Int) (r1 : Int) (r2 : Int) (w : World) (h : z1B.f a0_0 a0_1 a1_0 a1_1 = some (r1,r2)) :
 Calls Try.prog 69 #[.agg #[.int .u64 a0_0,.int .u64 a0_1],.agg #[.int .u64 a1_0,.int .u64 a1_1]] w fun e w'=>e = .returned (.agg #[.int .u64 r1,.int .u64 r2]) ∧ Below w.heap.size w w':=by
 have hu40:=Try.underlying40
 have HB:=z2.mk (Below.refl w.heap.size w)
 have H : (some (Go.bits .xor .u64 a0_0 a1_0,Go.bits .xor .u64 a0_1 a1_1)) = some (r1,r2):=h
 clear h
 simp only [Option.some.injEq,Prod.mk.injEq] at H
 obtain ⟨rfl,rfl⟩:=H
 go_enter Try.func69,Try.ntmps69
 go_wp2_with (first|((with_reducible refine zO (N:=2) rfl ?_);refine zM ?hg (N:=2) ?hd (cs:=#[.int .u64 a0_0,.int .u64 a0_1]) (t:=40) ?hr ?_;(case hd=>rfl);(case hg=>rfl);(case hr=>first|(go_simp;done)|(go_simp;rfl));intro gb101 hg w3 hbox hb;have n0_:=z2.mk (za (by repeat (first|(with_reducible first|exact HB.out|apply z4|apply z1|apply z3)|exact HB.out)) hb);have n1_:=z2.mk (hbox);have n2_:=z2.mk ((by rw [hg];exact (zc (by repeat (first|(with_reducible first|exact HB.out|apply z4|apply z1|apply z3)|exact HB.out))) : w.heap.size ≤ gb101));have n3_:=z2.mk ((by rw [hg];exact (zc (by repeat (first|(with_reducible first|exact HB.out|apply z4|apply z1|apply z3)|exact HB.out))) : w.heap.size ≤ gb101));clear HB;have HB:=n0_;have BK101:=n1_;have GW101:=n2_;have GE101:=n3_;clear n0_ n1_ n2_ n3_;clear hb hbox hg)|((with_reducible refine zO (N:=3) rfl ?_);refine zM ?hg (N:=3) ?hd (cs:=#[.int .u64 a1_0,.int .u64 a1_1]) (t:=40) ?hr ?_;(case hd=>rfl);(case hg=>rfl);(case hr=>first|(go_simp;done)|(go_simp;rfl));intro gb102 hg w4 hbox hb;have n0_:=z2.mk (ze (g:=gb101) (o:=.cells #[.int .u64 a0_0,.int .u64 a0_1] 40 (0,0)) (by (with_reducible repeat (first|refine z6 ?_ _|refine z8 ?_|refine z5 ?_ _));exact BK101.out) hb);have n1_:=z2.mk (za (by repeat (first|(with_reducible first|exact HB.out|apply z4|apply z1|apply z3|refine z7 ?_ GE101.out)|exact HB.out)) hb);have n2_:=z2.mk (hbox);have n3_:=z2.mk ((by rw [hg];exact (zc (by repeat (first|(with_reducible first|exact HB.out|apply z4|apply z1|apply z3|refine z7 ?_ GE101.out)|exact HB.out))) : w.heap.size ≤ gb102));have n4_:=z2.mk ((by rw [hg];exact (zc (by repeat (first|(with_reducible first|exact HB.out|apply z4|apply z1|apply z3|refine z7 ?_ GE101.out)|exact HB.out))) : w.heap.size ≤ gb102));have n5_:=z2.mk ((by rw [hg];exact Nat.ne_of_lt (z11 (g:=gb101) (o:=.cells #[.int .u64 a0_0,.int .u64 a0_1] 40 (0,0)) (by (with_reducible repeat (first|refine z6 ?_ _|refine z8 ?_|refine z5 ?_ _));exact BK101.out)) : gb101 ≠ gb102));have n6_:=z2.mk ((by rw [hg];exact Nat.ne_of_gt (z11 (g:=gb101) (o:=.cells #[.int .u64 a0_0,.int .u64 a0_1] 40 (0,0)) (by (with_reducible repeat (first|refine z6 ?_ _|refine z8 ?_|refine z5 ?_ _));exact BK101.out)) : gb102 ≠ gb101));clear BK101;clear HB;have BK101:=n0_;have HB:=n1_;have BK102:=n2_;have GW102:=n3_;have GE102:=n4_;have NB101_102:=n5_;have NB102_101:=n6_;clear n0_ n1_ n2_ n3_ n4_ n5_ n6_;clear hb hbox hg)|((with_reducible refine zO (N:=4) rfl ?_);refine zM ?hg (N:=4) ?hd (cs:=#[.int .u64 0,.int .u64 0]) (t:=40) ?hr ?_;(case hd=>rfl);(case hg=>rfl);(case hr=>first|(go_simp;done)|(go_simp;rfl));intro gb103 hg w5 hbox hb;have n0_:=z2.mk (ze (g:=gb101) (o:=.cells #[.int .u64 a0_0,.int .u64 a0_1] 40 (0,0)) (by (with_reducible repeat (first|refine z6 ?_ _|refine z8 ?_|refine z5 ?_ _));exact BK101.out) hb);have n1_:=z2.mk (ze (g:=gb102) (o:=.cells #[.int .u64 a1_0,.int .u64 a1_1] 40 (0,0)) (by (with_reducible repeat (first|refine z6 ?_ _|refine z8 ?_|refine z5 ?_ _));exact BK102.out) hb);have n2_:=z2.mk (za (by repeat (first|(with_reducible first|exact HB.out|apply z4|apply z1|apply z3|refine z7 ?_ GE101.out|refine z7 ?_ GE102.out)|exact HB.out)) hb);have n3_:=z2.mk (hbox);have n4_:=z2.mk ((by rw [hg];exact (zc (by repeat (first|(with_reducible first|exact HB.out|apply z4|apply z1|apply z3|refine z7 ?_ GE101.out|refine z7 ?_ GE102.out)|exact HB.out))) : w.heap.size ≤ gb103));have n5_:=z2.mk ((by rw [hg];exact (zc (by repeat (first|(with_reducible first|exact HB.out|apply z4|apply z1|apply z3|refine z7 ?_ GE101.out|refine z7 ?_ GE102.out)|exact HB.out))) : w.heap.size ≤ gb103));have n6_:=z2.mk ((by rw [hg];exact Nat.ne_of_lt (z11 (g:=gb101) (o:=.cells #[.int .u64 a0_0,.int .u64 a0_1] 40 (0,0)) (by (with_reducible repeat (first|refine z6 ?_ _|refine z8 ?_|refine z5 ?_ _));exact BK101.out)) : gb101 ≠ gb103));have n7_:=z2.mk ((by rw [hg];exact Nat.ne_of_gt (z11 (g:=gb101) (o:=.cells #[.int .u64 a0_0,.int .u64 a0_1] 40 (0,0)) (by (with_reducible repeat (first|refine z6 ?_ _|refine z8 ?_|refine z5 ?_ _));exact BK101.out)) : gb103 ≠ gb101));have n8_:=z2.mk ((by rw [hg];exact Nat.ne_of_lt (z11 (g:=gb102) (o:=.cells #[.int .u64 a1_0,.int .u64 a1_1] 40 (0,0)) (by (with_reducible repeat (first|refine z6 ?_ _|refine z8 ?_|refine z5 ?_ _));exact BK102.out)) : gb102 ≠ gb103));have n9_:=z2.mk ((by rw [hg];exact Nat.ne_of_gt (z11 (g:=gb102) (o:=.cells #[.int .u64 a1_0,.int .u64 a1_1] 40 (0,0)) (by (with_reducible repeat (first|refine z6 ?_ _|refine z8 ?_|refine z5 ?_ _));exact BK102.out)) : gb103 ≠ gb102));clear BK101;clear BK102;clear HB;have BK101:=n0_;have BK102:=n1_;have HB:=n2_;have BK103:=n3_;have GW103:=n4_;have GE103:=n5_;have NB101_103:=n6_;have NB103_101:=n7_;have NB102_103:=n8_;have NB103_102:=n9_;clear n0_ n1_ n2_ n3_ n4_ n5_ n6_ n7_ n8_ n9_;clear hb hbox hg;have hnb6:=NB101_102.out;have hnc6:=NB102_101.out;have hnb7:=NB101_103.out;have hnc7:=NB103_101.out;have hcz8_0 : w5.cell? ⟨gb101,0,none⟩ = some (.int .u64 a0_0):=(z9 BK101.out 0).trans rfl;have hcz8_1 : w5.cell? ⟨gb101,1,none⟩ = some (.int .u64 a0_1):=(z9 BK101.out 1).trans rfl;have hfz8_0:=zd BK101.out 0;have hfz8_1:=zd BK101.out 1;have hnb9:=NB102_103.out;have hnc9:=NB103_102.out;have hcz10_0 : w5.cell? ⟨gb102,0,none⟩ = some (.int .u64 a1_0):=(z9 BK102.out 0).trans rfl;have hcz10_1 : w5.cell? ⟨gb102,1,none⟩ = some (.int .u64 a1_1):=(z9 BK102.out 1).trans rfl;have hfz10_0:=zd BK102.out 0;have hfz10_1:=zd BK102.out 1;have hcz11_0 : w5.cell? ⟨gb103,0,none⟩ = some (.int .u64 0):=(z9 BK103.out 0).trans rfl;have hcz11_1 : w5.cell? ⟨gb103,1,none⟩ = some (.int .u64 0):=(z9 BK103.out 1).trans rfl;have hfz11_0:=zd BK103.out 0;have hfz11_1:=zd BK103.out 1))
 refine bodyPost_ret (results_cell_row rfl _ _ gb103 40 #[.int .u64 (Go.bits .xor .u64 a0_0 a1_0),.int .u64 (Go.bits .xor .u64 a0_1 a1_1)] (0,0) _ rfl (by (with_reducible repeat (first|refine z6 ?_ _|refine z8 ?_|refine z5 ?_ _));refine z15 (cs:=#[.int .u64 (Go.bits .xor .u64 a0_0 a1_0),.int .u64 0]) ?_ 1 _ rfl;(with_reducible repeat (first|refine z6 ?_ _|refine z8 ?_|refine z5 ?_ _));refine z15 (cs:=#[.int .u64 0,.int .u64 0]) ?_ 0 _ rfl;(with_reducible repeat (first|refine z6 ?_ _|refine z8 ?_|refine z5 ?_ _));exact BK103.out) Try.underlying40 rfl (by kernel_rfl)) rfl ?_
 exact ⟨by first|rfl|(simp [zh,zi] <;> rfl)|(simp [*,zh,zi] <;> rfl),by repeat (first|(with_reducible first|exact HB.out|apply z4|apply z1|apply z3|refine z7 ?_ GE101.out|refine z7 ?_ GE102.out|refine z7 ?_ GE103.out)|exact HB.out)⟩
end Go.Proofs.Ytkhmpaooinpfoaa.P

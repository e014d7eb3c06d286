/- WeaveCuts: a list cut into rows, and joined again, or the error; for up to 100 elements and any width. Own text. -/
import Derived.Deep.Slices
import Derived.OpenShut
import Derived.ProofKit
import Derived.Laws.BitsLemmas
import Derived.Test.YtngcaphdkgihmaaRows
import Derived.WalkKit
import Derived.ShutString
import Derived.ChangeOld
import Derived.Below
import Derived.SizedLaws
import Derived.Carry
import Derived.Test.YtngcaphdkgihmaaMWeaveCutsa
import Derived.Test.YtngcaphdkgihmaaMWeaveCutsb
namespace Go.Proofs.Ytngcaphdkgihmaa.P
open Go.RowKit Go.Proofs.YtngcaphdkgihmaaW.PrintWords Go.Proofs.YtngcaphdkgihmaaW.PrintLast Go.Proofs.YtngcaphdkgihmaaW.PrintMore
attribute [local go_sem] zF zH zP zQ zC zD zG zI   -- for this text's walks alone
set_option linter.unusedVariables false
set_option linter.unusedSimpArgs false
mutual
def z5.j0 : Nat → Int → List (List (S51)) → Bool → Option (Bool)
 | 0,_,_,_=>none
 | k + 1,x1,x5,x63=>if x63 = true then (some false) else (z5.l0 k x1 x5 0)
def z5.l0 : Nat → Int → List (List (S51)) → Int → Option (Bool)
 | 0,_,_,_=>none
 | k + 1,x1,x5,x7=>if x7 < (x5.length : Int) then (if 0 ≤ x7 then (if ((z1p x5 x7).length : Int) = x1 then (z5.l0 k x1 x5 (wrap64 (x7 + 1))) else (some false)) else (none)) else ((zk.f k).bind fun t116=>(some t116))
end
def z5.f (k : Nat) (l0 : List (S51)) (a1 : Int) : Option (Bool):=if (l0.length : Int) > 100 then ((zk.f k).bind fun t101=>(some t101)) else ((zp.f k l0 a1).bind fun bt102=>(if a1 < 1 then ((zk.f k).bind fun t106=>(if t106 = true then (if bt102.2 = 1 then (some ((bt102.1.length : Int) == 0)) else (some false)) else (some false))) else (if a1 = 0 then (none) else (if ((l0.length : Int) % a1) = 0 then (if bt102.2 = 0 then (if (bt102.1.length : Int) = (wrap64 ((l0.length : Int) / a1)) then ((zN.f k bt102.1).bind fun t108=>((zj.f k l0).bind fun t111=>((zh.f k t108 t111).bind fun t114=>(z5.j0 k a1 bt102.1 (!t114))))) else (z5.j0 k a1 bt102.1 true)) else (z5.j0 k a1 bt102.1 true)) else ((zk.f k).bind fun t107=>(if t107 = true then (if bt102.2 = 6 then (some ((bt102.1.length : Int) == 0)) else (some false)) else (some false)))))))
theorem z5.zR : ∀ k,(∀ y0 y1 y2,LeO (z5.j0 k y0 y1 y2) (z5.j0 (k + 1) y0 y1 y2)) ∧ (∀ y0 y1 y2,LeO (z5.l0 k y0 y1 y2) (z5.l0 (k + 1) y0 y1 y2))
 | 0=>⟨fun _ _ _ r h=>by simp [z5.j0] at h,fun _ _ _ r h=>by simp [z5.l0] at h⟩
 | k + 1=>by
  obtain ⟨ih0,ih1⟩:=z5.zR k
  refine ⟨?_,?_⟩
  · intro y0 y1 y2
    unfold z5.j0
    repeat' first
    | (with_reducible exact ih0 _ _ _)
    | (with_reducible exact ih1 _ _ _)
    | (with_reducible exact zj.mono _ _)
    | (with_reducible exact zh.mono _ _ _)
    | (with_reducible exact zk.mono _)
    | (with_reducible exact zp.mono _ _ _)
    | (with_reducible exact zN.mono _ _)
    | (with_reducible exact LeO.refl _)
    | (with_reducible exact LeO.none _)
    | (with_reducible refine LeO.ite ?_ ?_)
    | (with_reducible refine LeO.bind ?_ (fun _=>?_))
    | exact ih0 _ _ _
    | exact ih1 _ _ _
    | exact zj.mono _ _
    | exact zh.mono _ _ _
    | exact zk.mono _
    | exact zp.mono _ _ _
    | exact zN.mono _ _
    | exact LeO.none _
    | refine LeO.ite ?_ ?_
    | refine LeO.bind ?_ (fun _=>?_)
  · intro y0 y1 y2
    unfold z5.l0
    repeat' first
    | (with_reducible exact ih0 _ _ _)
    | (with_reducible exact ih1 _ _ _)
    | (with_reducible exact zj.mono _ _)
    | (with_reducible exact zh.mono _ _ _)
    | (with_reducible exact zk.mono _)
    | (with_reducible exact zp.mono _ _ _)
    | (with_reducible exact zN.mono _ _)
    | (with_reducible exact LeO.refl _)
    | (with_reducible exact LeO.none _)
    | (with_reducible refine LeO.ite ?_ ?_)
    | (with_reducible refine LeO.bind ?_ (fun _=>?_))
    | exact ih0 _ _ _
    | exact ih1 _ _ _
    | exact zj.mono _ _
    | exact zh.mono _ _ _
    | exact zk.mono _
    | exact zp.mono _ _ _
    | exact zN.mono _ _
    | exact LeO.none _
    | refine LeO.ite ?_ ?_
    | refine LeO.bind ?_ (fun _=>?_)
theorem z5.mono : ∀ a0 a1 k,LeO (z5.f k a0 a1) (z5.f (k + 1) a0 a1):=by
 intro a0 a1 k
 obtain ⟨ih0,ih1⟩:=z5.zR k
 unfold z5.f
 repeat' first
  | (with_reducible exact ih0 _ _ _)
  | (with_reducible exact ih1 _ _ _)
  | (with_reducible exact zj.mono _ _)
  | (with_reducible exact zh.mono _ _ _)
  | (with_reducible exact zk.mono _)
  | (with_reducible exact zp.mono _ _ _)
  | (with_reducible exact zN.mono _ _)
  | (with_reducible exact LeO.refl _)
  | (with_reducible exact LeO.none _)
  | (with_reducible refine LeO.ite ?_ ?_)
  | (with_reducible refine LeO.bind ?_ (fun _=>?_))
  | exact ih0 _ _ _
  | exact ih1 _ _ _
  | exact zj.mono _ _
  | exact zh.mono _ _ _
  | exact zk.mono _
  | exact zp.mono _ _ _
  | exact zN.mono _ _
  | exact LeO.none _
  | refine LeO.ite ?_ ?_
  | refine LeO.bind ?_ (fun _=>?_)
set_option maxHeartbeats 8000000 in
set_option maxRecDepth 100000 in
theorem z5.calls (k : Nat) (A0 : Option Addr) (c0 : Nat) (l0 : List (S51)) (a1 : Int) (r : Bool) (w : World) (hr0 : Kd.C k51 w A0 l0.length l0) (hc0 : l0.length ≤ c0) (h : z5.f k l0 a1 = some r) :
 Calls Try.prog 5 #[.slice A0 l0.length c0,.int .i64 a1] w fun e w'=>e = .returned (.bool r) ∧ Below w.heap.size w w':=by
 have HR0:=z4.mk hr0
 have HC0:=z4.mk hc0
 clear hr0 hc0
 have HB:=z4.mk (Below.refl w.heap.size w)
 have H : (if (l0.length : Int) > 100 then ((zk.f k).bind fun t101=>(some t101)) else ((zp.f k l0 a1).bind fun bt102=>(if a1 < 1 then ((zk.f k).bind fun t106=>(if t106 = true then (if bt102.2 = 1 then (some ((bt102.1.length : Int) == 0)) else (some false)) else (some false))) else (if a1 = 0 then (none) else (if ((l0.length : Int) % a1) = 0 then (if bt102.2 = 0 then (if (bt102.1.length : Int) = (wrap64 ((l0.length : Int) / a1)) then ((zN.f k bt102.1).bind fun t108=>((zj.f k l0).bind fun t111=>((zh.f k t108 t111).bind fun t114=>(z5.j0 k a1 bt102.1 (!t114))))) else (z5.j0 k a1 bt102.1 true)) else (z5.j0 k a1 bt102.1 true)) else ((zk.f k).bind fun t107=>(if t107 = true then (if bt102.2 = 6 then (some ((bt102.1.length : Int) == 0)) else (some false)) else (some false)))))))) = some r:=h
 clear h
 by_cases c3 : (l0.length : Int) > 100
 · rw [if_pos c3] at H
   have c3b0 : decide (100 < (l0.length : Int)) = true:=decide_eq_true c3
   have c3b1 : decide (100 < l0.length) = true:=decide_eq_true (by omega)
   clear c3
   replace H:=Option.bind_eq_some_iff.mp H
   obtain ⟨t101,A40,H⟩:=H
   replace H : (some t101) = some r:=H
   have A4:=z4.mk A40
   clear A40
   obtain rfl:=Option.some.inj H
   go_enter Try.func5,Try.ntmps5
   go_wp2_with (first|((with_reducible refine zn (f:=23) rfl ?_);refine goesL_ (some 11) rfl rfl Try.func23 (by kernel_rfl) rfl #[] rfl (by (try simp only [List.map_toArray,List.map_cons,List.map_nil]);first|done|rfl|(simp only [List.length_drop,List.length_take];rfl)) ?_;(with_reducible refine (zk.calls k  t101 _ A4.out).mono ?_);rintro e w5 ⟨rfl,hb⟩;refine ⟨_,rfl,?_⟩;have n0_:=z4.mk (zc (by repeat (first|(with_reducible first|exact HB.out|apply z2|apply z1|apply z3)|exact HB.out)) hb);clear HB;have HB:=n0_;clear n0_;(try clear hb);(try clear hb2);(try clear hk);(try clear hi)))
   go_ret
   exact ⟨by first|rfl|(simp [ze,zf] <;> rfl)|(simp [*,ze,zf] <;> rfl),by repeat (first|(with_reducible first|exact HB.out|apply z2|apply z1|apply z3)|exact HB.out)⟩
 rw [if_neg c3] at H
 have c3b0 : decide (100 < (l0.length : Int)) = false:=decide_eq_false c3
 have c3b1 : decide (100 < l0.length) = false:=decide_eq_false (by omega)
 clear c3
 replace H:=Option.bind_eq_some_iff.mp H
 obtain ⟨⟨t102,t105⟩,A60,H⟩:=H
 replace H : (if a1 < 1 then ((zk.f k).bind fun t106=>(if t106 = true then (if t105 = 1 then (some ((t102.length : Int) == 0)) else (some false)) else (some false))) else (if a1 = 0 then (none) else (if ((l0.length : Int) % a1) = 0 then (if t105 = 0 then (if (t102.length : Int) = (wrap64 ((l0.length : Int) / a1)) then ((zN.f k t102).bind fun t108=>((zj.f k l0).bind fun t111=>((zh.f k t108 t111).bind fun t114=>(z5.j0 k a1 t102 (!t114))))) else (z5.j0 k a1 t102 true)) else (z5.j0 k a1 t102 true)) else ((zk.f k).bind fun t107=>(if t107 = true then (if t105 = 6 then (some ((t102.length : Int) == 0)) else (some false)) else (some false)))))) = some r:=H
 have A6:=z4.mk A60
 clear A60
 by_cases c7 : a1 < 1
 · rw [if_pos c7] at H
   have c7b0 : decide (a1 < 1) = true:=decide_eq_true c7
   clear c7
   replace H:=Option.bind_eq_some_iff.mp H
   obtain ⟨t106,A80,H⟩:=H
   replace H : (if t106 = true then (if t105 = 1 then (some ((t102.length : Int) == 0)) else (some false)) else (some false)) = some r:=H
   have A8:=z4.mk A80
   clear A80
   by_cases c9 : t106 = true
   rotate_left
   · replace c9:=Bool.eq_false_iff.mpr c9
     subst c9
     have H1 : (some false) = some r:=by rw [if_neg (show ¬ (false = true) by decide)] at H;exact H
     clear H
     have H:=H1
     clear H1
     obtain rfl:=Option.some.inj H
     go_enter Try.func5,Try.ntmps5
     go_wp2_with (first|((with_reducible refine zn (f:=24) rfl ?_);refine goesL_ (some 15) rfl rfl Try.func24 (by kernel_rfl) rfl #[.slice A0 l0.length c0,.int .i64 a1] rfl (by (try simp only [List.map_toArray,List.map_cons,List.map_nil]);first|done|rfl|(simp only [List.length_drop,List.length_take];rfl)) ?_;(with_reducible refine (zp.calls k _ _ l0 a1 t102 t105 _ ?side1 ?side2 A6.out).mono ?_);(case side1=>repeat (first|exact HR0.out|(with_reducible refine Kd.zT ?_ _)|(with_reducible refine Kd.zU ?_ _)|(with_reducible refine Kd.z16 ?_)));(case side2=>exact HC0.out);rintro e w16 ⟨v103,rfl,ho0,hb⟩;refine ⟨_,rfl,?_⟩;have n0_:=z4.mk (Kd.z1m (Kd.z1t (ok':=fun k_=>True) ho0 (fun k_ hk_=>trivial)) (zb (by repeat (first|(with_reducible first|exact HB.out|apply z2|apply z1|apply z3)|exact HB.out))));have n1_:=z4.mk (zc (by repeat (first|(with_reducible first|exact HB.out|apply z2|apply z1|apply z3)|exact HB.out)) hb);clear HB;have HO104:=n0_;have HB:=n1_;clear n0_ n1_;(try clear hb);(try clear hb2);(try clear hk);(try clear hi);(try clear ho0))|((with_reducible refine zn (f:=23) rfl ?_);refine goesL_ (some 20) rfl rfl Try.func23 (by kernel_rfl) rfl #[] rfl (by (try simp only [List.map_toArray,List.map_cons,List.map_nil]);first|done|rfl|(simp only [List.length_drop,List.length_take];rfl)) ?_;(with_reducible refine (zk.calls k  false _ A8.out).mono ?_);rintro e w17 ⟨rfl,hb⟩;refine ⟨_,rfl,?_⟩;have n0_:=z4.mk (Kd.z1r (by (with_reducible repeat (first|apply Kd.z19|apply Kd.z1a|apply Kd.z1l));exact HO104.out) hb);have n1_:=z4.mk (zc (by repeat (first|(with_reducible first|exact HB.out|apply z2|apply z1|apply z3)|exact HB.out)) hb);clear HO104;clear HB;have HO104:=n0_;have HB:=n1_;clear n0_ n1_;(try clear hb);(try clear hb2);(try clear hk);(try clear hi)))
     go_ret
     exact ⟨by first|rfl|(simp [ze,zf] <;> rfl)|(simp [*,ze,zf] <;> rfl),by repeat (first|(with_reducible first|exact HB.out|apply z2|apply z1|apply z3)|exact HB.out)⟩
   subst c9
   have H1 : (if t105 = 1 then (some ((t102.length : Int) == 0)) else (some false)) = some r:=by rw [if_pos rfl] at H;exact H
   clear H
   have H:=H1
   clear H1
   by_cases c10 : t105 = 1
   rotate_left
   · rw [if_neg c10] at H
     have c10b0 : (t105 == 1) = false:=beq_eq_false_iff_ne.mpr c10
     have c10b1 : (t105 != 1) = true:=bne_iff_ne.mpr c10
     obtain rfl:=Option.some.inj H
     go_enter Try.func5,Try.ntmps5
     go_wp2_with (first|((with_reducible refine zn (f:=24) rfl ?_);refine goesL_ (some 15) rfl rfl Try.func24 (by kernel_rfl) rfl #[.slice A0 l0.length c0,.int .i64 a1] rfl (by (try simp only [List.map_toArray,List.map_cons,List.map_nil]);first|done|rfl|(simp only [List.length_drop,List.length_take];rfl)) ?_;(with_reducible refine (zp.calls k _ _ l0 a1 t102 t105 _ ?side1 ?side2 A6.out).mono ?_);(case side1=>repeat (first|exact HR0.out|(with_reducible refine Kd.zT ?_ _)|(with_reducible refine Kd.zU ?_ _)|(with_reducible refine Kd.z16 ?_)));(case side2=>exact HC0.out);rintro e w14 ⟨v103,rfl,ho0,hb⟩;refine ⟨_,rfl,?_⟩;have n0_:=z4.mk (Kd.z1m (Kd.z1t (ok':=fun k_=>True) ho0 (fun k_ hk_=>trivial)) (zb (by repeat (first|(with_reducible first|exact HB.out|apply z2|apply z1|apply z3)|exact HB.out))));have n1_:=z4.mk (zc (by repeat (first|(with_reducible first|exact HB.out|apply z2|apply z1|apply z3)|exact HB.out)) hb);clear HB;have HO104:=n0_;have HB:=n1_;clear n0_ n1_;(try clear hb);(try clear hb2);(try clear hk);(try clear hi);(try clear ho0))|((with_reducible refine zn (f:=23) rfl ?_);refine goesL_ (some 20) rfl rfl Try.func23 (by kernel_rfl) rfl #[] rfl (by (try simp only [List.map_toArray,List.map_cons,List.map_nil]);first|done|rfl|(simp only [List.length_drop,List.length_take];rfl)) ?_;(with_reducible refine (zk.calls k  true _ A8.out).mono ?_);rintro e w15 ⟨rfl,hb⟩;refine ⟨_,rfl,?_⟩;have n0_:=z4.mk (Kd.z1r (by (with_reducible repeat (first|apply Kd.z19|apply Kd.z1a|apply Kd.z1l));exact HO104.out) hb);have n1_:=z4.mk (zc (by repeat (first|(with_reducible first|exact HB.out|apply z2|apply z1|apply z3)|exact HB.out)) hb);clear HO104;clear HB;have HO104:=n0_;have HB:=n1_;clear n0_ n1_;(try clear hb);(try clear hb2);(try clear hk);(try clear hi)))
     go_ret
     exact ⟨by first|rfl|(simp [ze,zf] <;> rfl)|(simp [*,ze,zf] <;> rfl),by repeat (first|(with_reducible first|exact HB.out|apply z2|apply z1|apply z3)|exact HB.out)⟩
   rw [if_pos c10] at H
   have c10b0 : (t105 == 1) = true:=beq_iff_eq.mpr c10
   have c10b1 : (t105 != 1) = false:=bne_eq_false_iff_eq.mpr c10
   clear c10
   obtain rfl:=Option.some.inj H
   go_enter Try.func5,Try.ntmps5
   go_wp2_with (first|((with_reducible refine zn (f:=24) rfl ?_);refine goesL_ (some 15) rfl rfl Try.func24 (by kernel_rfl) rfl #[.slice A0 l0.length c0,.int .i64 a1] rfl (by (try simp only [List.map_toArray,List.map_cons,List.map_nil]);first|done|rfl|(simp only [List.length_drop,List.length_take];rfl)) ?_;(with_reducible refine (zp.calls k _ _ l0 a1 t102 t105 _ ?side1 ?side2 A6.out).mono ?_);(case side1=>repeat (first|exact HR0.out|(with_reducible refine Kd.zT ?_ _)|(with_reducible refine Kd.zU ?_ _)|(with_reducible refine Kd.z16 ?_)));(case side2=>exact HC0.out);rintro e w11 ⟨v103,rfl,ho0,hb⟩;refine ⟨_,rfl,?_⟩;have n0_:=z4.mk (Kd.z1m (Kd.z1t (ok':=fun k_=>True) ho0 (fun k_ hk_=>trivial)) (zb (by repeat (first|(with_reducible first|exact HB.out|apply z2|apply z1|apply z3)|exact HB.out))));have n1_:=z4.mk (zc (by repeat (first|(with_reducible first|exact HB.out|apply z2|apply z1|apply z3)|exact HB.out)) hb);clear HB;have HO104:=n0_;have HB:=n1_;clear n0_ n1_;(try clear hb);(try clear hb2);(try clear hk);(try clear hi);(try clear ho0))|((with_reducible refine zn (f:=23) rfl ?_);refine goesL_ (some 20) rfl rfl Try.func23 (by kernel_rfl) rfl #[] rfl (by (try simp only [List.map_toArray,List.map_cons,List.map_nil]);first|done|rfl|(simp only [List.length_drop,List.length_take];rfl)) ?_;(with_reducible refine (zk.calls k  true _ A8.out).mono ?_);rintro e w12 ⟨rfl,hb⟩;refine ⟨_,rfl,?_⟩;have n0_:=z4.mk (Kd.z1r (by (with_reducible repeat (first|apply Kd.z19|apply Kd.z1a|apply Kd.z1l));exact HO104.out) hb);have n1_:=z4.mk (zc (by repeat (first|(with_reducible first|exact HB.out|apply z2|apply z1|apply z3)|exact HB.out)) hb);clear HO104;clear HB;have HO104:=n0_;have HB:=n1_;clear n0_ n1_;(try clear hb);(try clear hb2);(try clear hk);(try clear hi);obtain ⟨Ao13,co13,eo13⟩:=Kd.z1I HO104.out;subst eo13))
   go_ret
   exact ⟨by first|rfl|(simp [ze,zf] <;> rfl)|(simp [*,ze,zf] <;> rfl),by repeat (first|(with_reducible first|exact HB.out|apply z2|apply z1|apply z3)|exact HB.out)⟩
 rw [if_neg c7] at H
 have c7b0 : decide (a1 < 1) = false:=decide_eq_false c7
 clear c7
 by_cases c18 : a1 = 0
 · rw [if_pos c18] at H
   exact absurd H (by simp)
 rw [if_neg c18] at H
 have c18b0 : (a1 == 0) = false:=beq_eq_false_iff_ne.mpr c18
 have c18b1 : (a1 != 0) = true:=bne_iff_ne.mpr c18
 by_cases c19 : ((l0.length : Int) % a1) = 0
 rotate_left
 · rw [if_neg c19] at H
   have c19b0 : (((l0.length : Int) % a1) == 0) = false:=beq_eq_false_iff_ne.mpr c19
   have c19b1 : (((l0.length : Int) % a1) != 0) = true:=bne_iff_ne.mpr c19
   replace H:=Option.bind_eq_some_iff.mp H
   obtain ⟨t107,A420,H⟩:=H
   replace H : (if t107 = true then (if t105 = 6 then (some ((t102.length : Int) == 0)) else (some false)) else (some false)) = some r:=H
   have A42:=z4.mk A420
   clear A420
   by_cases c43 : t107 = true
   rotate_left
   · replace c43:=Bool.eq_false_iff.mpr c43
     subst c43
     have H1 : (some false) = some r:=by rw [if_neg (show ¬ (false = true) by decide)] at H;exact H
     clear H
     have H:=H1
     clear H1
     obtain rfl:=Option.some.inj H
     go_enter Try.func5,Try.ntmps5
     go_wp2_with (first|((with_reducible refine zn (f:=24) rfl ?_);refine goesL_ (some 15) rfl rfl Try.func24 (by kernel_rfl) rfl #[.slice A0 l0.length c0,.int .i64 a1] rfl (by (try simp only [List.map_toArray,List.map_cons,List.map_nil]);first|done|rfl|(simp only [List.length_drop,List.length_take];rfl)) ?_;(with_reducible refine (zp.calls k _ _ l0 a1 t102 t105 _ ?side1 ?side2 A6.out).mono ?_);(case side1=>repeat (first|exact HR0.out|(with_reducible refine Kd.zT ?_ _)|(with_reducible refine Kd.zU ?_ _)|(with_reducible refine Kd.z16 ?_)));(case side2=>exact HC0.out);rintro e w50 ⟨v103,rfl,ho0,hb⟩;refine ⟨_,rfl,?_⟩;have n0_:=z4.mk (Kd.z1m (Kd.z1t (ok':=fun k_=>True) ho0 (fun k_ hk_=>trivial)) (zb (by repeat (first|(with_reducible first|exact HB.out|apply z2|apply z1|apply z3)|exact HB.out))));have n1_:=z4.mk (zc (by repeat (first|(with_reducible first|exact HB.out|apply z2|apply z1|apply z3)|exact HB.out)) hb);clear HB;have HO104:=n0_;have HB:=n1_;clear n0_ n1_;(try clear hb);(try clear hb2);(try clear hk);(try clear hi);(try clear ho0))|((with_reducible refine zn (f:=23) rfl ?_);refine goesL_ (some 35) rfl rfl Try.func23 (by kernel_rfl) rfl #[] rfl (by (try simp only [List.map_toArray,List.map_cons,List.map_nil]);first|done|rfl|(simp only [List.length_drop,List.length_take];rfl)) ?_;(with_reducible refine (zk.calls k  false _ A42.out).mono ?_);rintro e w51 ⟨rfl,hb⟩;refine ⟨_,rfl,?_⟩;have n0_:=z4.mk (Kd.z1r (by (with_reducible repeat (first|apply Kd.z19|apply Kd.z1a|apply Kd.z1l));exact HO104.out) hb);have n1_:=z4.mk (zc (by repeat (first|(with_reducible first|exact HB.out|apply z2|apply z1|apply z3)|exact HB.out)) hb);clear HO104;clear HB;have HO104:=n0_;have HB:=n1_;clear n0_ n1_;(try clear hb);(try clear hb2);(try clear hk);(try clear hi)))
     go_ret
     exact ⟨by first|rfl|(simp [ze,zf] <;> rfl)|(simp [*,ze,zf] <;> rfl),by repeat (first|(with_reducible first|exact HB.out|apply z2|apply z1|apply z3)|exact HB.out)⟩
   subst c43
   have H1 : (if t105 = 6 then (some ((t102.length : Int) == 0)) else (some false)) = some r:=by rw [if_pos rfl] at H;exact H
   clear H
   have H:=H1
   clear H1
   by_cases c44 : t105 = 6
   rotate_left
   · rw [if_neg c44] at H
     have c44b0 : (t105 == 6) = false:=beq_eq_false_iff_ne.mpr c44
     have c44b1 : (t105 != 6) = true:=bne_iff_ne.mpr c44
     obtain rfl:=Option.some.inj H
     go_enter Try.func5,Try.ntmps5
     go_wp2_with (first|((with_reducible refine zn (f:=24) rfl ?_);refine goesL_ (some 15) rfl rfl Try.func24 (by kernel_rfl) rfl #[.slice A0 l0.length c0,.int .i64 a1] rfl (by (try simp only [List.map_toArray,List.map_cons,List.map_nil]);first|done|rfl|(simp only [List.length_drop,List.length_take];rfl)) ?_;(with_reducible refine (zp.calls k _ _ l0 a1 t102 t105 _ ?side1 ?side2 A6.out).mono ?_);(case side1=>repeat (first|exact HR0.out|(with_reducible refine Kd.zT ?_ _)|(with_reducible refine Kd.zU ?_ _)|(with_reducible refine Kd.z16 ?_)));(case side2=>exact HC0.out);rintro e w48 ⟨v103,rfl,ho0,hb⟩;refine ⟨_,rfl,?_⟩;have n0_:=z4.mk (Kd.z1m (Kd.z1t (ok':=fun k_=>True) ho0 (fun k_ hk_=>trivial)) (zb (by repeat (first|(with_reducible first|exact HB.out|apply z2|apply z1|apply z3)|exact HB.out))));have n1_:=z4.mk (zc (by repeat (first|(with_reducible first|exact HB.out|apply z2|apply z1|apply z3)|exact HB.out)) hb);clear HB;have HO104:=n0_;have HB:=n1_;clear n0_ n1_;(try clear hb);(try clear hb2);(try clear hk);(try clear hi);(try clear ho0))|((with_reducible refine zn (f:=23) rfl ?_);refine goesL_ (some 35) rfl rfl Try.func23 (by kernel_rfl) rfl #[] rfl (by (try simp only [List.map_toArray,List.map_cons,List.map_nil]);first|done|rfl|(simp only [List.length_drop,List.length_take];rfl)) ?_;(with_reducible refine (zk.calls k  true _ A42.out).mono ?_);rintro e w49 ⟨rfl,hb⟩;refine ⟨_,rfl,?_⟩;have n0_:=z4.mk (Kd.z1r (by (with_reducible repeat (first|apply Kd.z19|apply Kd.z1a|apply Kd.z1l));exact HO104.out) hb);have n1_:=z4.mk (zc (by repeat (first|(with_reducible first|exact HB.out|apply z2|apply z1|apply z3)|exact HB.out)) hb);clear HO104;clear HB;have HO104:=n0_;have HB:=n1_;clear n0_ n1_;(try clear hb);(try clear hb2);(try clear hk);(try clear hi)))
     go_ret
     exact ⟨by first|rfl|(simp [ze,zf] <;> rfl)|(simp [*,ze,zf] <;> rfl),by repeat (first|(with_reducible first|exact HB.out|apply z2|apply z1|apply z3)|exact HB.out)⟩
   rw [if_pos c44] at H
   have c44b0 : (t105 == 6) = true:=beq_iff_eq.mpr c44
   have c44b1 : (t105 != 6) = false:=bne_eq_false_iff_eq.mpr c44
   clear c44
   obtain rfl:=Option.some.inj H
   go_enter Try.func5,Try.ntmps5
   go_wp2_with (first|((with_reducible refine zn (f:=24) rfl ?_);refine goesL_ (some 15) rfl rfl Try.func24 (by kernel_rfl) rfl #[.slice A0 l0.length c0,.int .i64 a1] rfl (by (try simp only [List.map_toArray,List.map_cons,List.map_nil]);first|done|rfl|(simp only [List.length_drop,List.length_take];rfl)) ?_;(with_reducible refine (zp.calls k _ _ l0 a1 t102 t105 _ ?side1 ?side2 A6.out).mono ?_);(case side1=>repeat (first|exact HR0.out|(with_reducible refine Kd.zT ?_ _)|(with_reducible refine Kd.zU ?_ _)|(with_reducible refine Kd.z16 ?_)));(case side2=>exact HC0.out);rintro e w45 ⟨v103,rfl,ho0,hb⟩;refine ⟨_,rfl,?_⟩;have n0_:=z4.mk (Kd.z1m (Kd.z1t (ok':=fun k_=>True) ho0 (fun k_ hk_=>trivial)) (zb (by repeat (first|(with_reducible first|exact HB.out|apply z2|apply z1|apply z3)|exact HB.out))));have n1_:=z4.mk (zc (by repeat (first|(with_reducible first|exact HB.out|apply z2|apply z1|apply z3)|exact HB.out)) hb);clear HB;have HO104:=n0_;have HB:=n1_;clear n0_ n1_;(try clear hb);(try clear hb2);(try clear hk);(try clear hi);(try clear ho0))|((with_reducible refine zn (f:=23) rfl ?_);refine goesL_ (some 35) rfl rfl Try.func23 (by kernel_rfl) rfl #[] rfl (by (try simp only [List.map_toArray,List.map_cons,List.map_nil]);first|done|rfl|(simp only [List.length_drop,List.length_take];rfl)) ?_;(with_reducible refine (zk.calls k  true _ A42.out).mono ?_);rintro e w46 ⟨rfl,hb⟩;refine ⟨_,rfl,?_⟩;have n0_:=z4.mk (Kd.z1r (by (with_reducible repeat (first|apply Kd.z19|apply Kd.z1a|apply Kd.z1l));exact HO104.out) hb);have n1_:=z4.mk (zc (by repeat (first|(with_reducible first|exact HB.out|apply z2|apply z1|apply z3)|exact HB.out)) hb);clear HO104;clear HB;have HO104:=n0_;have HB:=n1_;clear n0_ n1_;(try clear hb);(try clear hb2);(try clear hk);(try clear hi);obtain ⟨Ao47,co47,eo47⟩:=Kd.z1I HO104.out;subst eo47))
   go_ret
   exact ⟨by first|rfl|(simp [ze,zf] <;> rfl)|(simp [*,ze,zf] <;> rfl),by repeat (first|(with_reducible first|exact HB.out|apply z2|apply z1|apply z3)|exact HB.out)⟩
 rw [if_pos c19] at H
 have c19b0 : (((l0.length : Int) % a1) == 0) = true:=beq_iff_eq.mpr c19
 have c19b1 : (((l0.length : Int) % a1) != 0) = false:=bne_eq_false_iff_eq.mpr c19
 clear c19
 have HC20:=z4.mk H
 clear H
 go_enter Try.func5,Try.ntmps5
 go_upto_region 8 with (first|((with_reducible refine zn (f:=24) rfl ?_);refine goesL_ (some 15) rfl rfl Try.func24 (by kernel_rfl) rfl #[.slice A0 l0.length c0,.int .i64 a1] rfl (by (try simp only [List.map_toArray,List.map_cons,List.map_nil]);first|done|rfl|(simp only [List.length_drop,List.length_take];rfl)) ?_;(with_reducible refine (zp.calls k _ _ l0 a1 t102 t105 _ ?side1 ?side2 A6.out).mono ?_);(case side1=>repeat (first|exact HR0.out|(with_reducible refine Kd.zT ?_ _)|(with_reducible refine Kd.zU ?_ _)|(with_reducible refine Kd.z16 ?_)));(case side2=>exact HC0.out);rintro e w21 ⟨v103,rfl,ho0,hb⟩;refine ⟨_,rfl,?_⟩;have n0_:=z4.mk (Kd.z1m (Kd.z1t (ok':=fun k_=>True) ho0 (fun k_ hk_=>trivial)) (zb (by repeat (first|(with_reducible first|exact HB.out|apply z2|apply z1|apply z3)|exact HB.out))));have n1_:=z4.mk (zc (by repeat (first|(with_reducible first|exact HB.out|apply z2|apply z1|apply z3)|exact HB.out)) hb);clear HB;have HO104:=n0_;have HB:=n1_;clear n0_ n1_;(try clear hb);(try clear hb2);(try clear hk);(try clear hi);(try clear ho0)))
 (try simp only [Act.put,List.setIfInBounds_toArray,List.set_cons_zero,List.set_cons_succ])
 go_cut [63] (fun v63 wc=>∃ (kq : Nat) (x63_19 : Bool),v63 = .bool x63_19 ∧ z4 (z5.j0 kq a1 t102 x63_19 = some r) ∧ z4 (kq ≤ k) ∧ z4 (Kd.N (Kd.slice 51 k51) 37 wc w.heap.size (fun _=>True) v103 t102) ∧ z4 (Below w.heap.size w wc))
 case first =>
  have H:=HC20.out
  clear HC20
  by_cases c22 : t105 = 0
  rotate_left
  · rw [if_neg c22] at H
    have c22b0 : (t105 == 0) = false:=beq_eq_false_iff_ne.mpr c22
    have c22b1 : (t105 != 0) = true:=bne_iff_ne.mpr c22
    (first|rw [c22b0]|(simp only [zJ,zS];rw [c22b0])|skip)
    have H':=z4.mk H
    clear H
    go_wp2
    go_meet
    case rel=>exact ⟨_,(true),(by first|rfl|(simp;done)|(simp [*];done)),H',⟨by first|omega|exact Nat.le_refl _⟩,⟨by (with_reducible repeat (first|apply Kd.z19|apply Kd.z1a|apply Kd.z1l));exact HO104.out⟩,⟨by repeat (first|(with_reducible first|exact HB.out|apply z2|apply z1|apply z3)|exact HB.out)⟩⟩
  rw [if_pos c22] at H
  have c22b0 : (t105 == 0) = true:=beq_iff_eq.mpr c22
  have c22b1 : (t105 != 0) = false:=bne_eq_false_iff_eq.mpr c22
  clear c22
  (first|rw [c22b0]|(simp only [zJ,zS];rw [c22b0])|skip)
  by_cases c23 : (t102.length : Int) = (wrap64 ((l0.length : Int) / a1))
  rotate_left
  · rw [if_neg c23] at H
    have c23b0 : ((t102.length : Int) == (wrap64 ((l0.length : Int) / a1))) = false:=beq_eq_false_iff_ne.mpr c23
    have c23b1 : ((t102.length : Int) != (wrap64 ((l0.length : Int) / a1))) = true:=bne_iff_ne.mpr c23
    have H':=z4.mk H
    clear H
    obtain ⟨Ao32,co32,eo32⟩:=Kd.z1I HO104.out
    subst eo32
    go_wp2
    go_meet
    case rel=>exact ⟨_,(true),(by first|rfl|(simp;done)|(simp [*];done)),H',⟨by first|omega|exact Nat.le_refl _⟩,⟨by (with_reducible repeat (first|apply Kd.z19|apply Kd.z1a|apply Kd.z1l));exact HO104.out⟩,⟨by repeat (first|(with_reducible first|exact HB.out|apply z2|apply z1|apply z3)|exact HB.out)⟩⟩
  rw [if_pos c23] at H
  have c23b0 : ((t102.length : Int) == (wrap64 ((l0.length : Int) / a1))) = true:=beq_iff_eq.mpr c23
  have c23b1 : ((t102.length : Int) != (wrap64 ((l0.length : Int) / a1))) = false:=bne_eq_false_iff_eq.mpr c23
  clear c23
  replace H:=Option.bind_eq_some_iff.mp H
  obtain ⟨t108,A240,H⟩:=H
  replace H : ((zj.f k l0).bind fun t111=>((zh.f k t108 t111).bind fun t114=>(z5.j0 k a1 t102 (!t114)))) = some r:=H
  have A24:=z4.mk A240
  clear A240
  replace H:=Option.bind_eq_some_iff.mp H
  obtain ⟨t111,A250,H⟩:=H
  replace H : ((zh.f k t108 t111).bind fun t114=>(z5.j0 k a1 t102 (!t114))) = some r:=H
  have A25:=z4.mk A250
  clear A250
  replace H:=Option.bind_eq_some_iff.mp H
  obtain ⟨t114,A260,H⟩:=H
  replace H : (z5.j0 k a1 t102 (!t114)) = some r:=H
  have A26:=z4.mk A260
  clear A260
  have H':=z4.mk H
  clear H
  obtain ⟨Ao27,co27,eo27⟩:=Kd.z1I HO104.out
  subst eo27
  go_wp2_with (first|(go_at_call 26;(with_reducible refine (zN.calls k _ _ t102 t108 _ ?side1 ?side2 A24.out).mono ?_);(case side1=>repeat (first|exact (Kd.z1Q HO104.out).2.2|(with_reducible refine Kd.zT ?_ _)|(with_reducible refine Kd.zU ?_ _)|(with_reducible refine Kd.z16 ?_)));(case side2=>exact (Kd.z1Q HO104.out).2.1);rintro e w28 ⟨v109,rfl,ho0,hb⟩;have n0_:=z4.mk (Kd.z3B (by (with_reducible repeat (first|apply Kd.z19|apply Kd.z1a|apply Kd.z1l));exact HO104.out) (Kd.z28 ho0) hb);have n1_:=z4.mk (Kd.z1b ho0 (zb (by repeat (first|(with_reducible first|exact HB.out|apply z2|apply z1|apply z3)|exact HB.out))));have n2_:=z4.mk (zc (by repeat (first|(with_reducible first|exact HB.out|apply z2|apply z1|apply z3)|exact HB.out)) hb);clear HO104;clear HB;have HO104:=n0_;have HO110:=n1_;have HB:=n2_;clear n0_ n1_ n2_;(try clear hb);(try clear hb2);(try clear hk);(try clear hi);(try clear ho0))|(go_at_call 27;(with_reducible refine (zj.calls k _ _ l0 t111 _ ?side1 ?side2 A25.out).mono ?_);(case side1=>repeat (first|exact (Kd.z1H HR0.out HB.out)|(with_reducible refine Kd.zT ?_ _)|(with_reducible refine Kd.zU ?_ _)|(with_reducible refine Kd.z16 ?_)));(case side2=>exact HC0.out);rintro e w29 ⟨v112,rfl,ho0,hb⟩;have n0_:=z4.mk (Kd.z3B (by (with_reducible repeat (first|apply Kd.z19|apply Kd.z1a|apply Kd.z1l));exact HO104.out) (Kd.z28 ho0) hb);have n1_:=z4.mk (Kd.z14 (by (with_reducible repeat (first|apply Kd.zv|apply Kd.zw|apply Kd.zE));exact HO110.out) hb);have n2_:=z4.mk (Kd.z1b ho0 (zb (by repeat (first|(with_reducible first|exact HB.out|apply z2|apply z1|apply z3)|exact HB.out))));have n3_:=z4.mk (zc (by repeat (first|(with_reducible first|exact HB.out|apply z2|apply z1|apply z3)|exact HB.out)) hb);clear HO104;clear HO110;clear HB;have HO104:=n0_;have HO110:=n1_;have HO113:=n2_;have HB:=n3_;clear n0_ n1_ n2_ n3_;(try clear hb);(try clear hb2);(try clear hk);(try clear hi);(try clear ho0);obtain ⟨Ao30,co30,eo30⟩:=Kd.z15 HO110.out;subst eo30;obtain ⟨Ao31,co31,eo31⟩:=Kd.z15 HO113.out;subst eo31)|(go_at_call 25;(with_reducible refine (zh.calls k _ _ t108 _ _ t111 t114 _ ?side1 ?side2 ?side3 ?side4 A26.out).mono ?_);(case side1=>repeat (first|exact (Kd.zx HO110.out).2.2|(with_reducible refine Kd.zT ?_ _)|(with_reducible refine Kd.zU ?_ _)|(with_reducible refine Kd.z16 ?_)));(case side2=>exact (Kd.zx HO110.out).2.1);(case side3=>repeat (first|exact (Kd.zx HO113.out).2.2|(with_reducible refine Kd.zT ?_ _)|(with_reducible refine Kd.zU ?_ _)|(with_reducible refine Kd.z16 ?_)));(case side4=>exact (Kd.zx HO113.out).2.1);rintro e w' ⟨rfl,⟨nd,rfl⟩⟩))
  go_meet
  case rel=>exact ⟨_,(!t114),(by first|rfl|(simp;done)|(simp [*];done)),H',⟨by first|omega|exact Nat.le_refl _⟩,⟨by (with_reducible repeat (first|apply Kd.z19|apply Kd.z1a|apply Kd.z1l));exact Kd.z1t HO104.out (fun _ hk=>trivial)⟩,⟨by repeat (first|(with_reducible first|exact HB.out|apply z2|apply z1|apply z3)|exact HB.out)⟩⟩
 case rest =>
  clear HC20
  (try clear c1);(try clear c2);(try clear p2);(try clear c3);(try clear c3b0);(try clear c3b1);(try clear c5);(try clear p6);(try clear c7);(try clear c7b0);(try clear c9);(try clear c10);(try clear c10b0);(try clear c10b1);(try clear c18);(try clear c18b0);(try clear c18b1);(try clear c19);(try clear c19b0);(try clear c19b1);(try clear c22);(try clear c22b0);(try clear c22b1);(try clear c23);(try clear c23b0);(try clear c23b1);(try clear c24)
  obtain ⟨kq,x63_19,rfl,HA,HJ19,HO_5,HB⟩:=hcut
  cases kq with
  | zero=>exact absurd HA.out (by simp [z5.j0])
  | succ kj19 =>
   have H:=HA.out
   clear HA
   simp only [z5.j0] at H
   by_cases c33 : x63_19 = true
   · subst c33
     have H1 : (some false) = some r:=by rw [if_pos rfl] at H;exact H
     clear H
     have H:=H1
     clear H1
     obtain rfl:=Option.some.inj H
     go_wp2
     go_ret
     exact ⟨by first|rfl|(simp [ze,zf] <;> rfl)|(simp [*,ze,zf] <;> rfl),by repeat (first|(with_reducible first|exact HB.out|apply z2|apply z1|apply z3)|exact HB.out)⟩
   replace c33:=Bool.eq_false_iff.mpr c33
   subst c33
   have H1 : (z5.l0 kj19 a1 t102 0) = some r:=by rw [if_neg (show ¬ (false = true) by decide)] at H;exact H
   clear H
   have H:=H1
   clear H1
   have H':=z4.mk H
   clear H
   go_wp2
   go_loopg [7] kj19 (fun kq v7 w'=>∃ (x7_2 : Int),v7 = .int .i64 x7_2 ∧ z4 (z5.l0 kq a1 t102 x7_2 = some r) ∧ z4 (kq ≤ kj19) ∧ z4 (Kd.N (Kd.slice 51 k51) 37 w' w.heap.size (fun _=>True) v103 t102) ∧ z4 (Below w.heap.size w w'))
   case atStart=>exact ⟨(0),(by first|rfl|(simp;done)|(simp [*];done)),H',⟨Nat.le_refl _⟩,⟨by (with_reducible repeat (first|apply Kd.z19|apply Kd.z1a|apply Kd.z1l));exact HO_5.out⟩,⟨by repeat (first|(with_reducible first|exact HB.out|apply z2|apply z1|apply z3)|exact HB.out)⟩⟩
   case round =>
    clear H'
    (try clear c1);(try clear c2);(try clear p2);(try clear c3);(try clear c3b0);(try clear c3b1);(try clear c5);(try clear p6);(try clear c7);(try clear c7b0);(try clear c9);(try clear c10);(try clear c10b0);(try clear c10b1);(try clear c18);(try clear c18b0);(try clear c18b1);(try clear c19);(try clear c19b0);(try clear c19b1);(try clear c22);(try clear c22b0);(try clear c22b1);(try clear c23);(try clear c23b0);(try clear c23b1);(try clear c24);(try clear c33);(try clear p2);(try clear p6)
    obtain ⟨x7_2,rfl,HA,HK2,HO_5,HB⟩:=hrel
    cases gk with
    | zero=>exact absurd HA.out (by simp [z5.l0])
    | succ k2 =>
     have H:=HA.out
     clear HA
     simp only [z5.l0] at H
     by_cases c34 : x7_2 < (t102.length : Int)
     rotate_left
     · rw [if_neg c34] at H
       have c34b0 : decide (x7_2 < (t102.length : Int)) = false:=decide_eq_false c34
       clear c34
       replace H:=Option.bind_eq_some_iff.mp H
       obtain ⟨t116,A390,H⟩:=H
       replace H : (some t116) = some r:=H
       have A39:=z4.mk A390
       clear A390
       obtain rfl:=Option.some.inj H
       obtain ⟨Ao40,co40,eo40⟩:=Kd.z1I HO_5.out
       subst eo40
       go_wp2_with (first|((with_reducible refine zn (f:=23) rfl ?_);refine goesL_ (some 77) rfl rfl Try.func23 (by kernel_rfl) rfl #[] rfl (by (try simp only [List.map_toArray,List.map_cons,List.map_nil]);first|done|rfl|(simp only [List.length_drop,List.length_take];rfl)) ?_;(with_reducible refine (zk.calls k2  t116 _ A39.out).mono ?_);rintro e w41 ⟨rfl,hb⟩;refine ⟨_,rfl,?_⟩;have n0_:=z4.mk (Kd.z1r (by (with_reducible repeat (first|apply Kd.z19|apply Kd.z1a|apply Kd.z1l));exact HO_5.out) hb);have n1_:=z4.mk (zc (by repeat (first|(with_reducible first|exact HB.out|apply z2|apply z1|apply z3)|exact HB.out)) hb);clear HO_5;clear HB;have HO_5:=n0_;have HB:=n1_;clear n0_ n1_;(try clear hb);(try clear hb2);(try clear hk);(try clear hi)))
       go_ret
       exact ⟨by first|rfl|(simp [ze,zf] <;> rfl)|(simp [*,ze,zf] <;> rfl),by repeat (first|(with_reducible first|exact HB.out|apply z2|apply z1|apply z3)|exact HB.out)⟩
     rw [if_pos c34] at H
     have c34b0 : decide (x7_2 < (t102.length : Int)) = true:=decide_eq_true c34
     clear c34
     by_cases c35 : 0 ≤ x7_2
     rotate_left
     · rw [if_neg c35] at H
       exact absurd H (by simp)
     rw [if_pos c35] at H
     have c35b0 : decide (0 ≤ x7_2) = true:=decide_eq_true c35
     clear c35
     by_cases c36 : ((z1p t102 x7_2).length : Int) = a1
     rotate_left
     · rw [if_neg c36] at H
       have c36b0 : (((z1p t102 x7_2).length : Int) == a1) = false:=beq_eq_false_iff_ne.mpr c36
       have c36b1 : (((z1p t102 x7_2).length : Int) != a1) = true:=bne_iff_ne.mpr c36
       obtain rfl:=Option.some.inj H
       obtain ⟨Ao38,co38,eo38⟩:=Kd.z1I HO_5.out
       subst eo38
       have p115 : 0 ≤ (x7_2 : Int):=of_decide_eq_true (by first|(with_reducible assumption)|assumption)
       have q115 : x7_2 < (t102.length : Int):=of_decide_eq_true (by first|(with_reducible assumption)|assumption)
       obtain ⟨ad115,A115_0,c115_0,e115,hx115_0,hl115_0,hi115_0⟩:=at_L6 (Kd.z1Q HO_5.out).2.2 x7_2 p115 q115
       cases e115
       obtain ⟨ce115,hce115,hMe115,hcc115⟩:=Kd.N_get HO_5.out [] x7_2 p115 (by first|exact q115|exact of_decide_eq_true (by first|(with_reducible assumption)|assumption)|(have e_:=(Kd.z1Q HO_5.out).1;omega))
       obtain ⟨ua115_0,uc115_0,rfl,ul115_0,ge115_0⟩:=Kd.z1V hMe115
       have hv115_0:=hcc115 0 _ rfl
       rw [Nat.add_zero,show ((Kd.slice 51 k51)).sz = 1 from rfl,Nat.mul_one] at hv115_0
       replace hv115_0:=Option.some.inj (hv115_0.symm.trans hx115_0)
       injection hv115_0 with hva_ hvn_ hvc_
       rw [hva_] at ge115_0
       rw [hvc_] at ul115_0
       have HL115_0:=z4.mk (show Kd.V k51 51 _ w.heap.size _ _ (z1p t102 x7_2) from Kd.V_mk ul115_0 ge115_0)
       clear hva_ hvn_ hvc_ ge115_0 ul115_0
       clear hcc115 hce115
       have HR115_0:=z4.mk hi115_0
       have HC115_0:=z4.mk hl115_0
       clear hi115_0 hl115_0
       replace p115:=eq_true p115
       replace q115:=eq_true q115
       go_wp2
       go_ret
       exact ⟨by first|rfl|(simp [ze,zf] <;> rfl)|(simp [*,ze,zf] <;> rfl),by repeat (first|(with_reducible first|exact HB.out|apply z2|apply z1|apply z3)|exact HB.out)⟩
     rw [if_pos c36] at H
     have c36b0 : (((z1p t102 x7_2).length : Int) == a1) = true:=beq_iff_eq.mpr c36
     have c36b1 : (((z1p t102 x7_2).length : Int) != a1) = false:=bne_eq_false_iff_eq.mpr c36
     clear c36
     have H':=z4.mk H
     clear H
     obtain ⟨Ao37,co37,eo37⟩:=Kd.z1I HO_5.out
     subst eo37
     have p115 : 0 ≤ (x7_2 : Int):=of_decide_eq_true (by first|(with_reducible assumption)|assumption)
     have q115 : x7_2 < (t102.length : Int):=of_decide_eq_true (by first|(with_reducible assumption)|assumption)
     obtain ⟨ad115,A115_0,c115_0,e115,hx115_0,hl115_0,hi115_0⟩:=at_L6 (Kd.z1Q HO_5.out).2.2 x7_2 p115 q115
     cases e115
     obtain ⟨ce115,hce115,hMe115,hcc115⟩:=Kd.N_get HO_5.out [] x7_2 p115 (by first|exact q115|exact of_decide_eq_true (by first|(with_reducible assumption)|assumption)|(have e_:=(Kd.z1Q HO_5.out).1;omega))
     obtain ⟨ua115_0,uc115_0,rfl,ul115_0,ge115_0⟩:=Kd.z1V hMe115
     have hv115_0:=hcc115 0 _ rfl
     rw [Nat.add_zero,show ((Kd.slice 51 k51)).sz = 1 from rfl,Nat.mul_one] at hv115_0
     replace hv115_0:=Option.some.inj (hv115_0.symm.trans hx115_0)
     injection hv115_0 with hva_ hvn_ hvc_
     rw [hva_] at ge115_0
     rw [hvc_] at ul115_0
     have HL115_0:=z4.mk (show Kd.V k51 51 _ w.heap.size _ _ (z1p t102 x7_2) from Kd.V_mk ul115_0 ge115_0)
     clear hva_ hvn_ hvc_ ge115_0 ul115_0
     clear hcc115 hce115
     have HR115_0:=z4.mk hi115_0
     have HC115_0:=z4.mk hl115_0
     clear hi115_0 hl115_0
     replace p115:=eq_true p115
     replace q115:=eq_true q115
     go_wp2
     go_roundg k2
     case measure=>have:=HJ19.out;have:=HK2.out;omega
     case rel=>exact ⟨(wrap64 (x7_2 + 1)),(by first|rfl|(simp;done)|(simp [*];done)),H',⟨by have:=HJ19.out;have:=HK2.out;omega⟩,⟨by (with_reducible repeat (first|apply Kd.z19|apply Kd.z1a|apply Kd.z1l));exact HO_5.out⟩,⟨by repeat (first|(with_reducible first|exact HB.out|apply z2|apply z1|apply z3)|exact HB.out)⟩⟩
end Go.Proofs.Ytngcaphdkgihmaa.P
/- What the arguments of a law read as: for each type that can be told, any reading of it is one of a value of its kind, with its numbers in their ranges. Own text. -/
namespace Go.Proofs.Ytngcaphdkgihmaa.Reads
open Go.ChangeShapes Go.WideShapes Go.ChangeAt Go.RowKit Go.Deep Go.Proofs.YtngcaphdkgihmaaW.PrintWords
set_option linter.unusedVariables false

/-- Whatever is read at type t is of kind d, and good. -/
def ReadsAs {α : Type} (P : Program) (t : TypeId) (d : Kd α) (good : α → Prop) : Prop :=
  ∀ {H : Type} (enc : TypeId × Value → H) (w : World) (base : Nat) (spare : Nat → Bool) (held : Bool) (fuel : Nat) (cs : List Value) (x : DataW H × List MemPlace), DataW.trod enc P w base spare held fuel t cs = some x → ∃ a, d.K w a cs ∧ good a

theorem z4q {P : Program} {t : TypeId} {k : IntKind} (ht : P.underlying t = some (.int k)) : ReadsAs P t (Kd.int k) (fun n => (Lit.int k n).wf = true) := by
  intro H enc w base spare held fuel cs x h
  obtain ⟨n, rfl, _, hw⟩ := DataW.trod_int ht h
  exact ⟨n, rfl, hw⟩
theorem op_bool {P : Program} {t : TypeId} (ht : P.underlying t = some .bool) : ReadsAs P t Kd.bool (fun _ => True) := by
  intro H enc w base spare held fuel cs x h
  obtain ⟨n, rfl, _⟩ := DataW.trod_bool ht h
  exact ⟨n, rfl, trivial⟩
theorem z3s (a : Addr) (i j : Nat) : (a.add i).add j = a.add (i + j) := Go.Deep.add_add a i j
theorem op_slice {α : Type} {P : Program} {t e : TypeId} {d : Kd α} {good : α → Prop} (ht : P.underlying t = some (.slice e)) (hc : P.cellsOf e = d.sz) (he : ReadsAs P e d good) : ReadsAs P t (Kd.slice e d) (fun l => (∀ x ∈ l, good x) ∧ l.length ≤ maxLen) := by
  intro H enc w base spare held fuel cs x h
  rcases open_slice ht h with ⟨rfl, _⟩ | ⟨a, len, cap, m, n, D, Pl, rfl, hb, hl, hm, hmm, rfl, hx⟩
  · exact ⟨[], ⟨none, 0, rfl, Nat.le_refl _, Kd.C_nil d w⟩, ⟨by simp, Nat.zero_le _⟩⟩
  · have hlm : len ≤ m := by rw [hmm]; split <;> omega
    have hex : ∀ i, i < len → ∃ y : α, ∃ c, c.length = d.sz ∧ d.K w y c ∧ good y ∧ ∀ j u, c[j]? = some u → w.cell? (a.add (i * d.sz + j)) = some u := by
      intro i hi
      obtain ⟨cs', h1, h2⟩ := hx i (by omega)
      obtain ⟨_, hlen, hcell⟩ := World.cells?_some h1
      obtain ⟨y, hK, hg⟩ := he enc w base spare held n cs' _ h2
      refine ⟨y, cs', by rw [hlen, hc], hK, hg, fun j u hu => ?_⟩
      have hj : j < P.cellsOf e := by rw [← hlen]; exact (List.getElem?_eq_some_iff.1 hu).1
      have := hcell j hj
      rw [z3s] at this
      rw [← hc, this]; exact hu
    have hmax : len ≤ 9223372036854775807 := by
      have h9 : len ≤ maxLen := by omega
      simpa [maxLen] using h9
    have hlen : (List.ofFn (fun i : Fin len => Classical.choose (hex i.1 i.2))).length = len := List.length_ofFn
    refine ⟨List.ofFn (fun i : Fin len => Classical.choose (hex i.1 i.2)), ⟨some a, cap, by rw [hlen], by rw [hlen]; exact hl, rfl, by rw [hlen]; exact hmax, fun _ => ⟨a, rfl, ?_⟩⟩, ?_, by rw [hlen]; omega⟩
    · intro j p hp
      obtain ⟨hj, hpj⟩ := List.getElem?_eq_some_iff.1 hp
      rw [List.length_ofFn] at hj
      rw [List.getElem_ofFn] at hpj
      obtain ⟨c, h1, h2, _, h4⟩ := Classical.choose_spec (hex j hj)
      exact ⟨c, h1, by rw [← hpj]; exact h2, h4⟩
    · intro y hy
      obtain ⟨i, rfl⟩ := List.mem_ofFn.1 hy
      obtain ⟨c, _, _, h3, _⟩ := Classical.choose_spec (hex i.1 i.2)
      exact h3

/-- Fields that lie one behind the other. -/
def ReadsFs {α : Type} (P : Program) (fs : List Field) (off : Nat) (d : Kd α) (good : α → Prop) : Prop :=
  ∀ {H : Type} (enc : TypeId × Value → H) (w : World) (base : Nat) (spare : Nat → Bool) (held : Bool) (n : Nat) (cs : List Value), cs.length = d.sz →
    (∀ f ∈ fs, off ≤ f.offset ∧ ∃ x, DataW.trod enc P w base spare held n f.type ((cs.drop (f.offset - off)).take (P.cellsOf f.type)) = some x) → ∃ a, d.K w a cs ∧ good a
theorem z4t {α : Type} {P : Program} {f : Field} {off : Nat} {d : Kd α} {good : α → Prop} (hs : P.cellsOf f.type = d.sz) (ho : f.offset = off) (he : ReadsAs P f.type d good) : ReadsFs P [f] off d good := by
  intro H enc w base spare held n cs hl h
  obtain ⟨_, x, hx⟩ := h f (by simp)
  rw [ho, Nat.sub_self, List.drop_zero, hs, ← hl, List.take_length] at hx
  exact he enc w base spare held n cs x hx
theorem z4s {α β : Type} {P : Program} {f : Field} {fs : List Field} {off : Nat} {d : Kd α} {d' : Kd β} {good : α → Prop} {good' : β → Prop} (hs : P.cellsOf f.type = d.sz) (ho : f.offset = off) (he : ReadsAs P f.type d good)
    (hr : ReadsFs P fs (off + d.sz) d' good') (hoff : ∀ g ∈ fs, off + d.sz ≤ g.offset) : ReadsFs P (f :: fs) off (Kd.pair d d') (fun x => good x.1 ∧ good' x.2) := by
  intro H enc w base spare held n cs hl h
  have hl' : cs.length = d.sz + d'.sz := hl
  obtain ⟨_, x, hx⟩ := h f (by simp)
  rw [ho, Nat.sub_self, List.drop_zero, hs] at hx
  obtain ⟨a, hK, hg⟩ := he enc w base spare held n _ x hx
  obtain ⟨b, hK', hg'⟩ := hr enc w base spare held n (cs.drop d.sz) (by rw [List.length_drop]; omega) (fun g hgm => by
    obtain ⟨_, y, hy⟩ := h g (by simp [hgm])
    have ho' := hoff g hgm
    refine ⟨ho', y, ?_⟩
    rw [List.drop_drop, show d.sz + (g.offset - (off + d.sz)) = g.offset - off by omega]
    exact hy)
  exact ⟨(a, b), ⟨cs.take d.sz, cs.drop d.sz, (List.take_append_drop _ _).symm, hK, hK'⟩, hg, hg'⟩
theorem z4r {α β : Type} {P : Program} {t : TypeId} {fs : Array Field} {l : List Field} {d : Kd α} {good : α → Prop} (f : β → α) (hsurj : ∀ a, ∃ b, f b = a) (ht : P.underlying t = some (.struct fs)) (hfl : fs.toList = l) (hs : P.cellsOf t = d.sz) (h : ReadsFs P l 0 d good) :
    ReadsAs P t (Kd.iso d f) (fun b => good (f b)) := by
  intro H enc w base spare held fuel cs x hx
  obtain ⟨xs, n, rfl, _, hlen, hxs, hall⟩ := DataW.trod_struct ht hx
  obtain ⟨a, hK, hg⟩ := h enc w base spare held n cs (by rw [hlen, hs]) (fun g hgm => by
    rw [← hfl] at hgm
    obtain ⟨i, hi, rfl⟩ := List.mem_iff_getElem.1 hgm
    have h1 := hall i fs.toList[i] (by simp at hi ⊢)
    have hi' : i < xs.length := by rw [hxs]; simpa using hi
    refine ⟨Nat.zero_le _, xs[i], ?_⟩
    rw [Nat.sub_zero, h1, List.getElem?_eq_getElem hi'])
  obtain ⟨b, rfl⟩ := hsurj a
  exact ⟨b, hK, hg⟩

/-- Elements of an array, one behind the other. -/
def ReadsAr {α : Type} (P : Program) (e : TypeId) (m : Nat) (d : Kd α) (good : α → Prop) : Prop :=
  ∀ {H : Type} (enc : TypeId × Value → H) (w : World) (base : Nat) (spare : Nat → Bool) (held : Bool) (n : Nat) (cs : List Value), cs.length = d.sz →
    (∀ i, i < m → ∃ x, DataW.trod enc P w base spare held n e ((cs.drop (i * P.cellsOf e)).take (P.cellsOf e)) = some x) → ∃ a, d.K w a cs ∧ good a
theorem opas_last {α : Type} {P : Program} {e : TypeId} {d : Kd α} {good : α → Prop} (hs : P.cellsOf e = d.sz) (he : ReadsAs P e d good) : ReadsAr P e 1 d good := by
  intro H enc w base spare held n cs hl h
  obtain ⟨x, hx⟩ := h 0 (by omega)
  rw [Nat.zero_mul, List.drop_zero, hs, ← hl, List.take_length] at hx
  exact he enc w base spare held n cs x hx
theorem opas_cons {α β : Type} {P : Program} {e : TypeId} {m : Nat} {d : Kd α} {d' : Kd β} {good : α → Prop} {good' : β → Prop} (hs : P.cellsOf e = d.sz) (he : ReadsAs P e d good) (hr : ReadsAr P e m d' good') :
    ReadsAr P e (m + 1) (Kd.pair d d') (fun x => good x.1 ∧ good' x.2) := by
  intro H enc w base spare held n cs hl h
  have hl' : cs.length = d.sz + d'.sz := hl
  obtain ⟨x, hx⟩ := h 0 (by omega)
  rw [Nat.zero_mul, List.drop_zero, hs] at hx
  obtain ⟨a, hK, hg⟩ := he enc w base spare held n _ x hx
  obtain ⟨b, hK', hg'⟩ := hr enc w base spare held n (cs.drop d.sz) (by rw [List.length_drop]; omega) (fun i hi => by
    obtain ⟨y, hy⟩ := h (i + 1) (by omega)
    refine ⟨y, ?_⟩
    rw [List.drop_drop, show d.sz + i * P.cellsOf e = (i + 1) * P.cellsOf e by rw [hs, Nat.add_mul]; omega]
    exact hy)
  exact ⟨(a, b), ⟨cs.take d.sz, cs.drop d.sz, (List.take_append_drop _ _).symm, hK, hK'⟩, hg, hg'⟩
theorem op_array {α β : Type} {P : Program} {t e : TypeId} {m : Nat} {d : Kd α} {good : α → Prop} (f : β → α) (hsurj : ∀ a, ∃ b, f b = a) (ht : P.underlying t = some (.array m e)) (hs : P.cellsOf t = d.sz) (h : ReadsAr P e m d good) :
    ReadsAs P t (Kd.iso d f) (fun b => good (f b)) := by
  intro H enc w base spare held fuel cs x hx
  obtain ⟨xs, n, rfl, _, hlen, hxs, hall⟩ := DataW.trod_array ht hx
  obtain ⟨a, hK, hg⟩ := h enc w base spare held n cs (by rw [hlen, hs]) (fun i hi => by
    have hi' : i < xs.length := by omega
    exact ⟨xs[i], by rw [hall i hi, List.getElem?_eq_getElem hi']⟩)
  obtain ⟨b, rfl⟩ := hsurj a
  exact ⟨b, hK, hg⟩
theorem z3h {P : Program} {w : World} {r : Reach} {base : Nat} {t e : TypeId} {m : Nat} {v : Value} (ht : P.underlying t = some (.array m e)) (h : Value.okWide P w r base t v) : ∃ cs, v = .agg cs ∧ cs.size = P.cellsOf t := by
  simp only [Value.okWide, ht] at h
  cases v <;> simp_all

/-- An argument that is a slice. -/
theorem z44 {α : Type} {P : Program} {H : Type} {enc : TypeId × Value → H} {W : World} {base : Nat} {spare : Nat → Bool} {held : Bool} {t e : TypeId} {d : Kd α} {good : List α → Prop} {v : Value} {dd : DataW H} {ps : List MemPlace}
    (hop : ReadsAs P t (Kd.slice e d) good) {e' : TypeId} (ht : P.underlying t = some (.slice e')) {r : Reach} {b : Nat} (hv : Value.okWide P W r b t v) (h : DataW.Trod enc P W base spare held t v dd ps) :
    ∃ (l : List α) (A : Option Addr) (c : Nat), v = .slice A l.length c ∧ l.length ≤ c ∧ Kd.C d W A l.length l ∧ good l := by
  obtain ⟨A, len, cap, rfl⟩ := okWide_slice ht hv
  obtain ⟨fuel, hf⟩ := h
  obtain ⟨l, ⟨A', c, hcs, hl, hC⟩, hg⟩ := hop enc W base spare held fuel _ _ hf
  simp [Value.cells] at hcs
  obtain ⟨rfl, rfl, rfl⟩ := hcs
  exact ⟨l, A, cap, rfl, hl, hC, hg⟩
theorem arg_int {P : Program} {H : Type} {enc : TypeId × Value → H} {W : World} {base : Nat} {spare : Nat → Bool} {held : Bool} {t : TypeId} {k : IntKind} {v : Value} {dd : DataW H} {ps : List MemPlace}
    (ht : P.underlying t = some (.int k)) {r : Reach} {b : Nat} (hv : Value.okWide P W r b t v) (h : DataW.Trod enc P W base spare held t v dd ps) :
    ∃ n, v = .int k n ∧ (Lit.int k n).wf = true := by
  obtain ⟨n, rfl⟩ := okWide_int ht hv
  obtain ⟨fuel, hf⟩ := h
  obtain ⟨l, hcs, hg⟩ := z4q ht enc W base spare held fuel _ _ hf
  have : n = l := by
    have h1 : ([Value.int k n] : List Value) = [.int k l] := hcs
    simpa using h1
  subst this
  exact ⟨n, rfl, hg⟩
theorem arg_bool {P : Program} {W : World} {t : TypeId} {v : Value} (ht : P.underlying t = some .bool) {r : Reach} {b : Nat} (hv : Value.okWide P W r b t v) : ∃ n, v = .bool n := okWide_bool ht hv
/-- An argument that is a struct: its cells. -/
theorem arg_struct {α : Type} {P : Program} {H : Type} {enc : TypeId × Value → H} {W : World} {base : Nat} {spare : Nat → Bool} {held : Bool} {t : TypeId} {fs : Array Field} {d : Kd α} {good : α → Prop} {v : Value} {dd : DataW H} {ps : List MemPlace}
    (hop : ReadsAs P t d good) (ht : P.underlying t = some (.struct fs)) {r : Reach} {b : Nat} (hv : Value.okWide P W r b t v) (h : DataW.Trod enc P W base spare held t v dd ps) :
    ∃ (a : α) (cs : List Value), v = .agg cs.toArray ∧ d.K W a cs ∧ good a := by
  obtain ⟨cs, rfl, _⟩ := okWide_struct ht hv
  obtain ⟨fuel, hf⟩ := h
  obtain ⟨a, hK, hg⟩ := hop enc W base spare held fuel _ _ hf
  exact ⟨a, cs.toList, by simp, hK, hg⟩
/-- An argument that is an array: its cells. -/
theorem arg_array {α : Type} {P : Program} {H : Type} {enc : TypeId × Value → H} {W : World} {base : Nat} {spare : Nat → Bool} {held : Bool} {t e : TypeId} {m : Nat} {d : Kd α} {good : α → Prop} {v : Value} {dd : DataW H} {ps : List MemPlace}
    (hop : ReadsAs P t d good) (ht : P.underlying t = some (.array m e)) {r : Reach} {b : Nat} (hv : Value.okWide P W r b t v) (h : DataW.Trod enc P W base spare held t v dd ps) :
    ∃ (a : α) (cs : List Value), v = .agg cs.toArray ∧ d.K W a cs ∧ good a := by
  obtain ⟨cs, rfl, _⟩ := z3h ht hv
  obtain ⟨fuel, hf⟩ := h
  obtain ⟨a, hK, hg⟩ := hop enc W base spare held fuel _ _ hf
  exact ⟨a, cs.toList, by simp, hK, hg⟩
end Go.Proofs.Ytngcaphdkgihmaa.Reads
-- Own text: the statement that is left of the law WeaveCuts, and what a reading of its arguments is.
namespace Go.Proofs.Ytngcaphdkgihmaa.Stated.weaveCuts
open Go.RowKit Go.Proofs.YtngcaphdkgihmaaW.PrintWords Go.Proofs.Ytngcaphdkgihmaa.P Go.Proofs.Ytngcaphdkgihmaa.Reads
def Pure : Prop := ∀ (x0 : List (S51)) (x1 : Int), (((∀ x_ ∈ x0, ((Lit.int .u64 x_.f0).wf = true) ∧ ((Lit.int .u64 x_.f1).wf = true)) ∧ x0.length ≤ maxLen)) → ((Lit.int .i64 x1).wf = true) → ∃ k, z5.f k x0 x1 = some true
end Go.Proofs.Ytngcaphdkgihmaa.Stated.weaveCuts
/- Rounds: what is told by enough of them; and the arithmetic of whole numbers as the printed functions spell it. Own text. -/
namespace Go.Proofs.YtngcaphdkgihmaaW.PrintWords
set_option linter.unusedVariables false
set_option linter.unusedSimpArgs false
namespace Ev
variable {α β : Type}
theorem ret (r : α) : Ev (fun _ => some r) r := ⟨0, fun _ _ => rfl⟩
theorem ret' {a r : α} (h : a = r) : Ev (fun _ => some a) r := h ▸ Ev.ret a
theorem const {o : Option α} {r : α} (h : o = some r) : Ev (fun _ => o) r := ⟨0, fun _ _ => h⟩
theorem pos {c : Prop} [Decidable c] {f g : Nat → Option α} {r : α} (h : c) (k : Ev f r) : Ev (fun n => if c then f n else g n) r := by
  simp only [if_pos h]; exact k
theorem neg {c : Prop} [Decidable c] {f g : Nat → Option α} {r : α} (h : ¬ c) (k : Ev g r) : Ev (fun n => if c then f n else g n) r := by
  simp only [if_neg h]; exact k
theorem bnd {g : Nat → Option α} {f : Nat → α → Option β} {a : α} {r : β} (h : Ev g a) (k : Ev (fun n => f n a) r) : Ev (fun n => (g n).bind (f n)) r := Ev.bind h k
theorem bnd0 {o : Option α} {f : Nat → α → Option β} {a : α} {r : β} (h : o = some a) (k : Ev (fun n => f n a) r) : Ev (fun n => o.bind (f n)) r := Ev.bind (Ev.const h) k
theorem uniq {g : Nat → Option α} {a b : α} (h : Ev g a) (k : Ev g b) : a = b := by
  obtain ⟨K, hK⟩ := h; obtain ⟨L, hL⟩ := k
  have := hK (max K L) (Nat.le_max_left _ _); rw [hL _ (Nat.le_max_right _ _)] at this
  exact (Option.some.inj this).symm
theorem eqn {g : Nat → Option α} {a b : α} (h : Ev g a) (e : a = b) : Ev g b := e ▸ h
end Ev
end Go.Proofs.YtngcaphdkgihmaaW.PrintWords
namespace Go.Proofs.Ytngcaphdkgihmaa.Ar
open Go.RowKit Go.Proofs.YtngcaphdkgihmaaW.PrintWords Go.Proofs.YtngcaphdkgihmaaW.PrintMore
set_option linter.unusedVariables false
set_option linter.unusedSimpArgs false
theorem i64_id {x : Int} (h0 : -9223372036854775808 ≤ x) (h1 : x ≤ 9223372036854775807) : IntKind.i64.wrap x = x := by rw [IntKind.wrap_i64]; omega
theorem z2F {x : Int} (h0 : -9223372036854775808 ≤ x) (h1 : x ≤ 9223372036854775807) : wrap64 x = x := by unfold wrap64; omega
theorem z1F {i L : Nat} (h : i < L) (hL : L ≤ 4611686018427387904) : wrap64 ((i : Int) + 1) = ((i + 1 : Nat) : Int) := by rw [z2F (by omega) (by omega)]; omega
theorem z4E {i j : Nat} (h : i ≤ 2305843009213693952) (h' : j ≤ 2305843009213693952) : wrap64 ((i : Int) + (j : Int)) = ((i + j : Nat) : Int) := by rw [z2F (by omega) (by omega)]; omega
theorem w64_sub {i j : Nat} (h : j ≤ i) (h' : i ≤ 4611686018427387904) : wrap64 ((i : Int) - (j : Int)) = ((i - j : Nat) : Int) := by rw [z2F (by omega) (by omega)]; omega
theorem z2c {x : Int} (h0 : 0 ≤ x) (h1 : x < 18446744073709551616) : IntKind.u64.wrap x = x := by
  simp [IntKind.wrap, IntKind.bits, IntKind.signed]; omega
theorem z4B (w : Nat) (h : w ≤ 62) : shl .i64 1 (w : Int) = ((2 ^ w : Nat) : Int) := by
  unfold shl
  have h64 : IntKind.i64.bits = 64 := rfl
  rw [h64, Int.toNat_natCast, Nat.min_eq_left (by omega), Int.one_mul]
  have hp : (2 : Nat) ^ w ≤ 2 ^ 62 := Nat.pow_le_pow_right (by decide) h
  have hc : ((2 : Int) ^ w) = ((2 ^ w : Nat) : Int) := by simp
  rw [hc]
  have h62 : (2 : Nat) ^ 62 = 4611686018427387904 := by decide
  generalize 2 ^ w = p at hp ⊢
  exact i64_id (by omega) (by omega)
theorem z3x (w : Nat) (h : w ≤ 63) : shl .u64 1 (w : Int) = ((2 ^ w : Nat) : Int) := by
  unfold shl
  have h64 : IntKind.u64.bits = 64 := rfl
  rw [h64, Int.toNat_natCast, Nat.min_eq_left (by omega), Int.one_mul]
  have hp : (2 : Nat) ^ w ≤ 2 ^ 63 := Nat.pow_le_pow_right (by decide) h
  have hc : ((2 : Int) ^ w) = ((2 ^ w : Nat) : Int) := by simp
  rw [hc]
  have h63 : (2 : Nat) ^ 63 = 9223372036854775808 := by decide
  generalize 2 ^ w = p at hp ⊢
  exact z2c (by omega) (by omega)
theorem z3y (a w : Nat) (h : w ≤ 64) : shr .u64 (a : Int) (w : Int) = ((a / 2 ^ w : Nat) : Int) := by
  unfold shr
  have h64 : IntKind.u64.bits = 64 := rfl
  rw [h64, Int.toNat_natCast, Nat.min_eq_left h]; simp
theorem shr_i64 (a w : Nat) (h : w ≤ 64) : shr .i64 (a : Int) (w : Int) = ((a / 2 ^ w : Nat) : Int) := by
  unfold shr
  have h64 : IntKind.i64.bits = 64 := rfl
  rw [h64, Int.toNat_natCast, Nat.min_eq_left h]; simp
theorem z2U (op : BinOp) (a b : Nat) (ha : a < 2 ^ 64) (hb : b < 2 ^ 64) :
    (op = .and → Go.bits op .u64 a b = ((a &&& b : Nat) : Int)) ∧ (op = .or → Go.bits op .u64 a b = ((a ||| b : Nat) : Int)) ∧ (op = .xor → Go.bits op .u64 a b = ((a ^^^ b : Nat) : Int)) := by
  have ha' : a % 2 ^ IntKind.u64.bits = a := Nat.mod_eq_of_lt ha
  have hb' : b % 2 ^ IntKind.u64.bits = b := Nat.mod_eq_of_lt hb
  refine ⟨?_, ?_, ?_⟩ <;> rintro rfl <;> simp only [Go.bits, BitVec.ofInt_natCast, BitVec.toNat_and, BitVec.toNat_or, BitVec.toNat_xor, BitVec.toNat_ofNat, ha', hb']
  · exact z2c (Int.natCast_nonneg _) (by have := Nat.and_lt_two_pow a hb; omega)
  · exact z2c (Int.natCast_nonneg _) (by have := Nat.or_lt_two_pow ha hb; omega)
  · exact z2c (Int.natCast_nonneg _) (by have := Nat.xor_lt_two_pow ha hb; omega)
theorem z2T (a b : Nat) (ha : a < 2 ^ 64) (hb : b < 2 ^ 64) : Go.bits .and .u64 a b = ((a &&& b : Nat) : Int) := (z2U .and a b ha hb).1 rfl
theorem or_u64 (a b : Nat) (ha : a < 2 ^ 64) (hb : b < 2 ^ 64) : Go.bits .or .u64 a b = ((a ||| b : Nat) : Int) := (z2U .or a b ha hb).2.1 rfl
theorem z1h (a b : Nat) (ha : a < 2 ^ 64) (hb : b < 2 ^ 64) : Go.bits .xor .u64 a b = ((a ^^^ b : Nat) : Int) := (z2U .xor a b ha hb).2.2 rfl
theorem and_i64_mask (x w : Nat) (hx : x < 2 ^ 63) (hw : w ≤ 62) : Go.bits .and .i64 (x : Int) (((2 ^ w : Nat) : Int) - 1) = ((x % 2 ^ w : Nat) : Int) := by
  have := Go.bits_mask .i64 63 (by decide) (fun n h0 h1 => i64_id (by omega) (by omega)) w (by omega) (x : Int) (by omega) (by exact_mod_cast hx)
  have hc : (((2 ^ w : Nat) : Int) - 1) = 2 ^ w - 1 := by simp
  rw [hc, this]; simp
theorem two_pow_le {w : Nat} (h : w ≤ 6) : 2 ^ w ≤ 64 := Nat.pow_le_pow_right (n := 2) (by decide) h
theorem wf_i64 {x : Int} (h : (Lit.int .i64 x).wf = true) : -9223372036854775808 ≤ x ∧ x ≤ 9223372036854775807 := by
  simp only [Lit.wf, IntKind.min, IntKind.max, IntKind.signed, IntKind.bits, Bool.and_eq_true, decide_eq_true_eq] at h; simp at h; omega
theorem wf_u64 {x : Int} (h : (Lit.int .u64 x).wf = true) : 0 ≤ x ∧ x < 18446744073709551616 := by
  simp only [Lit.wf, IntKind.min, IntKind.max, IntKind.signed, IntKind.bits, Bool.and_eq_true, decide_eq_true_eq] at h; simp at h; omega
theorem rdOf_eq {α : Type} (d : α) (l : List α) (i : Nat) : rdOf d l (i : Int) = l.getD i d := by unfold rdOf; rw [Int.toNat_natCast]
end Go.Proofs.Ytngcaphdkgihmaa.Ar
/- The tower of fields of characteristic two, as pairs of pairs of bits: its laws. Own text; nothing of the program in it. -/
namespace Go.Proofs.Ytngcaphdkgihmaa.Tw
set_option linter.unusedVariables false
set_option linter.unusedSimpArgs false

/-- Level n: a bit, or two halves: the higher one and the lower one. -/
def T : Nat → Type
  | 0 => Bool
  | n + 1 => T n × T n
def zero : (n : Nat) → T n
  | 0 => false
  | n + 1 => (zero n, zero n)
def one : (n : Nat) → T n
  | 0 => true
  | n + 1 => (zero n, one n)
/-- The generator. -/
def gen : (n : Nat) → T n
  | 0 => true
  | n + 1 => (one n, zero n)
def add : {n : Nat} → T n → T n → T n
  | 0, a, b => Bool.xor a b
  | _ + 1, a, b => (add a.1 b.1, add a.2 b.2)
def mul : {n : Nat} → T n → T n → T n
  | 0, a, b => Bool.and a b
  | n + 1, a, b => (add (add (mul a.1 b.2) (mul a.2 b.1)) (mul (gen n) (mul a.1 b.1)), add (mul a.2 b.2) (mul a.1 b.1))
instance {n : Nat} : Add (T n) := ⟨add⟩
instance {n : Nat} : Mul (T n) := ⟨mul⟩
instance {n : Nat} : Zero (T n) := ⟨zero n⟩
instance {n : Nat} : One (T n) := ⟨one n⟩
instance : {n : Nat} → DecidableEq (T n)
  | 0 => inferInstanceAs (DecidableEq Bool)
  | n + 1 => let _ : DecidableEq (T n) := instDecidableEqT; inferInstanceAs (DecidableEq (T n × T n))
theorem z2q {n : Nat} (a b : T (n + 1)) : (a + b).1 = a.1 + b.1 := rfl
theorem z2S {n : Nat} (a b : T (n + 1)) : (a + b).2 = a.2 + b.2 := rfl
theorem z1x {n : Nat} (a b : T (n + 1)) : (a * b).1 = (a.1 * b.2 + a.2 * b.1) + gen n * (a.1 * b.1) := rfl
theorem z1y {n : Nat} (a b : T (n + 1)) : (a * b).2 = a.2 * b.2 + a.1 * b.1 := rfl
theorem z2k {n : Nat} : (0 : T (n + 1)).1 = 0 := rfl
theorem z2l {n : Nat} : (0 : T (n + 1)).2 = 0 := rfl
theorem z2Y {n : Nat} : (1 : T (n + 1)).1 = 0 := rfl
theorem z2Z {n : Nat} : (1 : T (n + 1)).2 = 1 := rfl
theorem z4f {n : Nat} : (gen (n + 1)).1 = 1 := rfl
theorem z4g {n : Nat} : (gen (n + 1)).2 = 0 := rfl
theorem gen_zero : gen 0 = 1 := rfl
/-- The element of two halves. -/
def mk {n : Nat} (a b : T n) : T (n + 1) := (a, b)
theorem z2v {n : Nat} (a b : T n) : (mk a b).1 = a := rfl
theorem z2w {n : Nat} (a b : T n) : (mk a b).2 = b := rfl
theorem ext {n : Nat} {a b : T (n + 1)} (h1 : a.1 = b.1) (h2 : a.2 = b.2) : a = b := Prod.ext h1 h2

theorem add_comm : {n : Nat} → (a b : T n) → a + b = b + a
  | 0, a, b => Bool.xor_comm a b
  | n + 1, a, b => ext (add_comm a.1 b.1) (add_comm a.2 b.2)
theorem add_assoc : {n : Nat} → (a b c : T n) → a + b + c = a + (b + c)
  | 0, a, b, c => Bool.xor_assoc a b c
  | n + 1, a, b, c => ext (add_assoc a.1 b.1 c.1) (add_assoc a.2 b.2 c.2)
theorem zero_add : {n : Nat} → (a : T n) → 0 + a = a
  | 0, a => Bool.false_xor a
  | n + 1, a => ext (zero_add a.1) (zero_add a.2)
theorem z1u : {n : Nat} → (a : T n) → a + a = 0
  | 0, a => Bool.xor_self a
  | n + 1, a => ext (z1u a.1) (z1u a.2)
theorem add_zero {n : Nat} (a : T n) : a + 0 = a := by rw [add_comm, zero_add]
theorem z1j {n : Nat} (a b c : T n) : a + (b + c) = b + (a + c) := by rw [← add_assoc, add_comm a b, add_assoc]
theorem z3c {n : Nat} (a b : T n) : a + (a + b) = b := by rw [← add_assoc, z1u, zero_add]
theorem z42 {n : Nat} {a b c : T n} (h : a + b = a + c) : b = c := by
  have := congrArg (a + ·) h
  simpa only [z3c] using this
theorem add_eq_zero {n : Nat} {a b : T n} (h : a + b = 0) : a = b := by
  have := congrArg (· + b) h
  simp only [add_assoc, z1u, add_zero, zero_add] at this
  exact this
theorem eq_add_of {n : Nat} {a b c : T n} (h : a + b = c) : a = c + b := by rw [← h, add_assoc, z1u, add_zero]

/-- The laws of products, all at once. -/
structure Laws (n : Nat) : Prop where
  comm : ∀ a b : T n, a * b = b * a
  zero_mul : ∀ a : T n, 0 * a = 0
  one_mul : ∀ a : T n, 1 * a = a
  mul_add : ∀ a b c : T n, a * (b + c) = a * b + a * c
  assoc : ∀ a b c : T n, a * b * c = a * (b * c)
theorem laws : (n : Nat) → Laws n
  | 0 => ⟨Bool.and_comm, Bool.false_and, Bool.true_and, by intro a b c; cases a <;> cases b <;> cases c <;> rfl, Bool.and_assoc⟩
  | n + 1 => by
    obtain ⟨comm, zmul, omul, madd, massoc⟩ := laws n
    have addm : ∀ a b c : T n, (a + b) * c = a * c + b * c := fun a b c => by rw [comm, madd, comm c a, comm c b]
    have mulz : ∀ a : T n, a * 0 = 0 := fun a => by rw [comm, zmul]
    have mulo : ∀ a : T n, a * 1 = a := fun a => by rw [comm, omul]
    have lcomm : ∀ a b c : T n, a * (b * c) = b * (a * c) := fun a b c => by rw [← massoc, comm a b, massoc]
    refine ⟨fun a b => ext ?_ ?_, fun a => ext ?_ ?_, fun a => ext ?_ ?_, fun a b c => ext ?_ ?_, fun a b c => ext ?_ ?_⟩
    · simp only [z1x]; rw [comm a.1 b.2, comm a.2 b.1, comm a.1 b.1, add_comm (b.2 * a.1)]
    · simp only [z1y]; rw [comm a.2 b.2, comm a.1 b.1]
    · simp only [z1x, z2k, z2l, zmul, mulz, add_zero]
    · simp only [z1y, z2k, z2l, zmul, mulz, add_zero]
    · simp only [z1x, z2Y, z2Z, zmul, mulz, omul, add_zero, zero_add]
    · simp only [z1y, z2Y, z2Z, zmul, mulz, omul, add_zero, zero_add]
    · simp only [z1x, z2q, z2S, madd, addm, add_assoc, z1j, add_comm]
    · simp only [z1y, z2q, z2S, madd, addm, add_assoc, z1j, add_comm]
    · simp only [z1x, z1y, madd, addm, massoc, lcomm, comm, add_assoc, z1j, add_comm]
    · simp only [z1x, z1y, madd, addm, massoc, lcomm, comm, add_assoc, z1j, add_comm]
section
variable {n : Nat} (a b c d : T n)
theorem mul_comm : a * b = b * a := (laws n).comm a b
theorem z3f : a * b * c = a * (b * c) := (laws n).assoc a b c
theorem mul_left_comm : a * (b * c) = b * (a * c) := by rw [← z3f, mul_comm a b, z3f]
theorem zero_mul : 0 * a = 0 := (laws n).zero_mul a
theorem z2X : a * 0 = 0 := by rw [mul_comm, zero_mul]
theorem one_mul : 1 * a = a := (laws n).one_mul a
theorem mul_one : a * 1 = a := by rw [mul_comm, one_mul]
theorem mul_add : a * (b + c) = a * b + a * c := (laws n).mul_add a b c
theorem add_mul : (a + b) * c = a * c + b * c := by rw [mul_comm, mul_add, mul_comm c a, mul_comm c b]
theorem add_sq : (a + b) * (a + b) = a * a + b * b := by
  rw [mul_add, add_mul, add_mul, mul_comm b a, add_assoc, ← add_assoc (a * b), z1u, zero_add]
end
end Go.Proofs.Ytngcaphdkgihmaa.Tw
/- Elements of the tower as numbers: bits of the lower half first. Own text; nothing of the program in it. -/
namespace Go.Proofs.Ytngcaphdkgihmaa.Tw
set_option linter.unusedVariables false
set_option linter.unusedSimpArgs false
/-- How many words of bits an element of a level is: 2 to the power 2^n. -/
def Q (n : Nat) : Nat := 2 ^ 2 ^ n
theorem z3o (n : Nat) : 0 < Q n := Nat.two_pow_pos _
theorem z2p (n : Nat) : Q (n + 1) = Q n * Q n := by unfold Q; rw [← Nat.pow_add, Nat.pow_succ 2 n, Nat.mul_two]
theorem Q_le_succ (n : Nat) : Q n ≤ Q (n + 1) := by rw [z2p]; exact Nat.le_mul_of_pos_left _ (z3o n)
theorem z36 {m n : Nat} (h : m ≤ n) : Q m ≤ Q n := Nat.pow_le_pow_right (by decide) (Nat.pow_le_pow_right (by decide) h)
theorem z3R : Q 6 = 2 ^ 64 := rfl
theorem Q_seven : Q 7 = 2 ^ 128 := rfl
def val : {n : Nat} → T n → Nat
  | 0, a => Bool.toNat a
  | n + 1, a => val a.1 * Q n + val a.2
def of : (n : Nat) → Nat → T n
  | 0, x => x % 2 == 1
  | n + 1, x => mk (of n (x / Q n)) (of n (x % Q n))
theorem val_zero_lvl (a : T 0) : val a = Bool.toNat a := rfl
theorem z1c {n : Nat} (a : T (n + 1)) : val a = val a.1 * Q n + val a.2 := rfl
theorem z1T (n x : Nat) : of (n + 1) x = mk (of n (x / Q n)) (of n (x % Q n)) := rfl
theorem zV : {n : Nat} → (a : T n) → val a < Q n
  | 0, a => by cases a <;> decide
  | n + 1, a => by
    rw [z1c, z2p]
    have h1 := zV a.1
    have h2 := zV a.2
    have h3 : val a.1 * Q n + Q n ≤ Q n * Q n := by
      have := Nat.mul_le_mul_right (Q n) h1
      rw [Nat.succ_mul] at this; exact this
    omega
theorem val_div {n : Nat} (a : T (n + 1)) : val a / Q n = val a.1 := by
  rw [z1c, Nat.mul_comm, Nat.mul_add_div (z3o n), Nat.div_eq_of_lt (zV a.2), Nat.add_zero]
theorem val_mod {n : Nat} (a : T (n + 1)) : val a % Q n = val a.2 := by
  rw [z1c, Nat.mul_comm, Nat.mul_add_mod, Nat.mod_eq_of_lt (zV a.2)]
theorem z1o : {n : Nat} → (a : T n) → of n (val a) = a
  | 0, a => by cases a <;> rfl
  | n + 1, a => by rw [z1T, val_div, val_mod, z1o a.1, z1o a.2]; rfl
theorem z1G : (n : Nat) → (x : Nat) → x < Q n → val (of n x) = x
  | 0, x, h => by
    have h' : x < 2 := h
    have : x = 0 ∨ x = 1 := by omega
    rcases this with rfl | rfl <;> rfl
  | n + 1, x, h => by
    rw [z1T, z1c, z2v, z2w]
    rw [z2p] at h
    rw [z1G n _ (Nat.div_lt_of_lt_mul h), z1G n _ (Nat.mod_lt _ (z3o n)), Nat.mul_comm]
    exact Nat.div_add_mod x (Q n)
theorem z1U {n : Nat} {a b : T n} (h : val a = val b) : a = b := by rw [← z1o a, h, z1o]
theorem z1d : (n : Nat) → val (0 : T n) = 0
  | 0 => rfl
  | n + 1 => by rw [z1c, z2k, z2l, z1d n, Nat.zero_mul]
theorem z27 : (n : Nat) → val (1 : T n) = 1
  | 0 => rfl
  | n + 1 => by rw [z1c, z2Y, z2Z, z1d n, z27 n, Nat.zero_mul]
theorem z3u (n : Nat) : of n 0 = 0 := by rw [← z1d n, z1o]
theorem of_one (n : Nat) : of n 1 = 1 := by rw [← z27 n, z1o]
theorem val_eq_zero {n : Nat} {a : T n} : val a = 0 ↔ a = 0 := ⟨fun h => z1U (h.trans (z1d n).symm), fun h => by rw [h, z1d]⟩
theorem xor_join {n a b c d : Nat} (hb : b < Q n) (hd : d < Q n) : (a * Q n + b) ^^^ (c * Q n + d) = (a ^^^ c) * Q n + (b ^^^ d) := by
  have h1 : ((a * Q n + b) ^^^ (c * Q n + d)) / Q n = a ^^^ c := by
    unfold Q at *
    rw [Nat.xor_div_two_pow, Nat.mul_comm a, Nat.mul_comm c, Nat.mul_add_div (Nat.two_pow_pos _), Nat.mul_add_div (Nat.two_pow_pos _), Nat.div_eq_of_lt hb, Nat.div_eq_of_lt hd]; rfl
  have h2 : ((a * Q n + b) ^^^ (c * Q n + d)) % Q n = b ^^^ d := by
    unfold Q at *
    rw [Nat.xor_mod_two_pow, Nat.mul_comm a, Nat.mul_comm c, Nat.mul_add_mod, Nat.mul_add_mod, Nat.mod_eq_of_lt hb, Nat.mod_eq_of_lt hd]
  have := Nat.div_add_mod ((a * Q n + b) ^^^ (c * Q n + d)) (Q n)
  rw [h1, h2, Nat.mul_comm] at this
  exact this.symm
theorem z17 : {n : Nat} → (a b : T n) → val (a + b) = val a ^^^ val b
  | 0, a, b => by cases a <;> cases b <;> rfl
  | n + 1, a, b => by
    rw [z1c, z1c, z1c, z2q, z2S, z17 a.1 b.1, z17 a.2 b.2, xor_join (zV _) (zV _)]
theorem z1w {n x y : Nat} (hx : x < Q n) (hy : y < Q n) : x ^^^ y < Q n := Nat.xor_lt_two_pow hx hy
theorem of_xor {n x y : Nat} (hx : x < Q n) (hy : y < Q n) : of n (x ^^^ y) = of n x + of n y :=
  z1U (by rw [z1G _ _ (z1w hx hy), z17, z1G _ _ hx, z1G _ _ hy])
/-- A number of a lower level: the higher half is 0. -/
theorem of_low {n x : Nat} (h : x < Q n) : of (n + 1) x = mk 0 (of n x) := by
  rw [z1T, Nat.div_eq_of_lt h, Nat.mod_eq_of_lt h, z3u]
/-- One level up. -/
def up {n : Nat} (a : T n) : T (n + 1) := mk 0 a
theorem z2d {n : Nat} (a : T n) : (up a).1 = 0 := rfl
theorem z3l {n : Nat} (a : T n) : (up a).2 = a := rfl
theorem val_up {n : Nat} (a : T n) : val (up a) = val a := by rw [z1c, z2d, z3l, z1d, Nat.zero_mul, Nat.zero_add]
theorem up_add {n : Nat} (a b : T n) : up (a + b) = up a + up b := ext (by rw [z2q, z2d, z2d, z2d, add_zero]) rfl
theorem up_mul {n : Nat} (a b : T n) : up (a * b) = up a * up b :=
  ext (by simp only [z1x, z2d, z3l, zero_mul, z2X, add_zero]) (by simp only [z1y, z2d, z3l, zero_mul, add_zero])
theorem up_mul_any {n : Nat} (a : T n) (b : T (n + 1)) : up a * b = mk (a * b.1) (a * b.2) :=
  ext (by simp only [z1x, z2d, z3l, zero_mul, z2X, add_zero, zero_add, z2v]) (by simp only [z1y, z2d, z3l, zero_mul, add_zero, z2w])
theorem up_zero (n : Nat) : up (0 : T n) = 0 := rfl
theorem up_one (n : Nat) : up (1 : T n) = 1 := rfl
theorem up_inj {n : Nat} {a b : T n} (h : up a = up b) : a = b := congrArg (fun x : T (n + 1) => x.2) h
/-- Many levels up. -/
def ups {n : Nat} : (d : Nat) → T n → T (n + d)
  | 0, a => a
  | d + 1, a => up (ups d a)
theorem ups_add {n : Nat} (a b : T n) : (d : Nat) → ups d (a + b) = ups d a + ups d b
  | 0 => rfl
  | d + 1 => by show up (ups d (a + b)) = _; rw [ups_add a b d, up_add]; rfl
theorem z4D {n : Nat} (a b : T n) : (d : Nat) → ups d (a * b) = ups d a * ups d b
  | 0 => rfl
  | d + 1 => by show up (ups d (a * b)) = _; rw [z4D a b d, up_mul]; rfl
theorem z2E {n : Nat} (a : T n) : (d : Nat) → val (ups d a) = val a
  | 0 => rfl
  | d + 1 => by show val (up (ups d a)) = _; rw [val_up, z2E a d]
theorem ups_zero {n : Nat} (d : Nat) : ups d (0 : T n) = 0 := z1U (by rw [z2E, z1d, z1d])
theorem ups_one {n : Nat} (d : Nat) : ups d (1 : T n) = 1 := z1U (by rw [z2E, z27, z27])
theorem ups_of {n d x : Nat} (h : x < Q n) : ups d (of n x) = of (n + d) x := z1U (by rw [z2E, z1G _ _ h, z1G _ _ (Nat.lt_of_lt_of_le h (z36 (Nat.le_add_right _ _)))])
/-- Products of numbers of a lower level are of it. -/
theorem z3z {n d x y : Nat} (hx : x < Q n) (hy : y < Q n) : val (of (n + d) x * of (n + d) y) = val (of n x * of n y) := by
  rw [← ups_of hx, ← ups_of hy, ← z4D, z2E]
theorem z24 {l m x y : Nat} (h : l ≤ m) (hx : x < Q l) (hy : y < Q l) : val (of m x * of m y) = val (of l x * of l y) := by
  obtain ⟨d, rfl⟩ := Nat.le.dest h
  exact z3z hx hy
theorem z3Y {l m x y : Nat} (h : l ≤ m) (hx : x < Q l) (hy : y < Q l) : val (of m x * of m y) < Q l := by
  rw [z24 h hx hy]; exact zV _
end Go.Proofs.Ytngcaphdkgihmaa.Tw
namespace Go.Proofs.Ytngcaphdkgihmaa.P
open Go.RowKit Go.Proofs.YtngcaphdkgihmaaW.PrintWords Go.Proofs.YtngcaphdkgihmaaW.PrintLast Go.Proofs.YtngcaphdkgihmaaW.PrintMore
attribute [local go_sem] zF zH zP zQ zC zD zG zI   -- for this text's walks alone
set_option linter.unusedVariables false
set_option linter.unusedSimpArgs false
def zL.f (a0 : Int) (a1 : Int) : Option (Int × Int):=if 0 ≤ (wrap64 (a0 - 1)) then (if 0 ≤ (shl .i64 1 (wrap64 (a0 - 1))) then (some (shr .u64 a1 (shl .i64 1 (wrap64 (a0 - 1))),Go.bits .and .u64 a1 (IntKind.u64.wrap ((shl .u64 1 (shl .i64 1 (wrap64 (a0 - 1)))) - 1)))) else (none)) else (none)
set_option maxHeartbeats 8000000 in
set_option maxRecDepth 100000 in
theorem zL.calls (a0 : Int) (a1 : Int) (r1 : Int) (r2 : Int) (w : World) (h : zL.f a0 a1 = some (r1,r2)) :
 Calls Try.prog 96 #[.int .i64 a0,.int .u64 a1] w fun e w'=>e = .returned (.tuple #[.int .u64 r1,.int .u64 r2]) ∧ Drawn0 w w':=by
 have H : (if 0 ≤ (wrap64 (a0 - 1)) then (if 0 ≤ (shl .i64 1 (wrap64 (a0 - 1))) then (some (shr .u64 a1 (shl .i64 1 (wrap64 (a0 - 1))),Go.bits .and .u64 a1 (IntKind.u64.wrap ((shl .u64 1 (shl .i64 1 (wrap64 (a0 - 1)))) - 1)))) else (none)) else (none)) = some (r1,r2):=h
 clear h
 obtain ⟨ji3,hji3⟩ : ∃ j_ : Int,(wrap64 (a0 - 1)) = j_:=⟨_,rfl⟩
 replace H : (if 0 ≤ (ji3) then (if 0 ≤ (shl .i64 1 (ji3)) then (some (shr .u64 a1 (shl .i64 1 (ji3)),Go.bits .and .u64 a1 (IntKind.u64.wrap ((shl .u64 1 (shl .i64 1 (ji3))) - 1)))) else (none)) else (none)) = some (r1,r2):=by first|(rw [hji3] at H;exact H)|(simp only [hji3] at H ⊢;exact H)
 have hji3w : (IntKind.i64.wrap (a0 - 1)) = ji3:=(zJ _).trans hji3
 by_cases c4 : 0 ≤ (ji3)
 rotate_left
 · rw [if_neg c4] at H
   exact absurd H (by simp)
 rw [if_pos c4] at H
 have c4b0:=eq_true c4
 have c4b1 : decide (0 ≤ (ji3)) = true:=decide_eq_true c4
 clear c4
 obtain ⟨ji5,hji5⟩ : ∃ j_ : Int,(shl .i64 1 (ji3)) = j_:=⟨_,rfl⟩
 replace H : (if 0 ≤ (ji5) then (some (shr .u64 a1 (ji5),Go.bits .and .u64 a1 (IntKind.u64.wrap ((shl .u64 1 (ji5)) - 1)))) else (none)) = some (r1,r2):=by first|(rw [hji5] at H;exact H)|(simp only [hji5] at H ⊢;exact H)
 have hji5_ : (IntKind.i64.wrap (1 * 2 ^ min (ji3).toNat 64)) = ji5:=hji5
 have hji5z : (ji3) ≤ 64 → (IntKind.i64.wrap (1 * 2 ^ (ji3).toNat)) = ji5:=z18 hji5
 have hji5u : (IntKind.i64.wrap (2 ^ min (ji3).toNat 64)) = ji5:=by have h_:=hji5_;rw [Int.one_mul] at h_;exact h_
 have hji5v : (ji3) ≤ 64 → (IntKind.i64.wrap (2 ^ (ji3).toNat)) = ji5:=fun hle_=>by have h_:=hji5z hle_;rw [Int.one_mul] at h_;exact h_
 have hji5y : (wrap64 (1 * 2 ^ min (ji3).toNat 64)) = ji5:=(zJ _).symm.trans hji5_
 have hji5x : (ji3) ≤ 64 → (wrap64 (1 * 2 ^ (ji3).toNat)) = ji5:=fun h_=>(zJ _).symm.trans (hji5z h_)
 by_cases c6 : 0 ≤ (ji5)
 rotate_left
 · rw [if_neg c6] at H
   exact absurd H (by simp)
 rw [if_pos c6] at H
 have c6b0:=eq_true c6
 have c6b1 : decide (0 ≤ (ji5)) = true:=decide_eq_true c6
 clear c6
 obtain ⟨ji7,hji7⟩ : ∃ j_ : Int,(shr .u64 a1 (ji5)) = j_:=⟨_,rfl⟩
 replace H : (some (ji7,Go.bits .and .u64 a1 (IntKind.u64.wrap ((shl .u64 1 (ji5)) - 1)))) = some (r1,r2):=by first|(rw [hji7] at H;exact H)|(simp only [hji7] at H ⊢;exact H)
 have hji7_ : (a1 / 2 ^ min (ji5).toNat 64) = ji7:=hji7
 have hji7z : (ji5) ≤ 64 → (a1 / 2 ^ (ji5).toNat) = ji7:=z1O hji7
 have c8b0:=eq_true (of_decide_eq_true (by first|(with_reducible assumption)|assumption) : 0 ≤ (ji5))
 obtain ⟨ji9,hji9⟩ : ∃ j_ : Int,(shl .u64 1 (ji5)) = j_:=⟨_,rfl⟩
 replace H : (some (ji7,Go.bits .and .u64 a1 (IntKind.u64.wrap ((ji9) - 1)))) = some (r1,r2):=by first|(rw [hji9] at H;exact H)|(simp only [hji9] at H ⊢;exact H)
 have hji9_ : (IntKind.u64.wrap (1 * 2 ^ min (ji5).toNat 64)) = ji9:=hji9
 have hji9z : (ji5) ≤ 64 → (IntKind.u64.wrap (1 * 2 ^ (ji5).toNat)) = ji9:=z18 hji9
 have hji9n0 : 0 ≤ ji9:=by rw [← hji9];exact Int.emod_nonneg _ (by decide)
 have hji9n1 : decide (0 ≤ ji9) = true:=decide_eq_true hji9n0
 replace hji9n0:=eq_true hji9n0
 have hji9u : (IntKind.u64.wrap (2 ^ min (ji5).toNat 64)) = ji9:=by have h_:=hji9_;rw [Int.one_mul] at h_;exact h_
 have hji9v : (ji5) ≤ 64 → (IntKind.u64.wrap (2 ^ (ji5).toNat)) = ji9:=fun hle_=>by have h_:=hji9z hle_;rw [Int.one_mul] at h_;exact h_
 simp only [Option.some.injEq,Prod.mk.injEq] at H
 obtain ⟨rfl,rfl⟩:=H
 go_enter Try.func96,Try.ntmps96
 go_wp2
 repeat (go_quiet (fail);try go_wp2)
 go_ret2
 exact ⟨by first|rfl|(simp;done)|(simp only [← hji3,← hji5,← hji7,← hji9] <;> (first|rfl|simp))|(simp [*];done),by repeat (first|exact Drawn0.refl _|apply Drawn0.step)⟩
end Go.Proofs.Ytngcaphdkgihmaa.P
namespace Go.Proofs.Ytngcaphdkgihmaa.P
open Go.RowKit Go.Proofs.YtngcaphdkgihmaaW.PrintWords Go.Proofs.YtngcaphdkgihmaaW.PrintLast Go.Proofs.YtngcaphdkgihmaaW.PrintMore
attribute [local go_sem] zF zH zP zQ zC zD zG zI   -- for this text's walks alone
set_option linter.unusedVariables false
set_option linter.unusedSimpArgs false
def zM.f (a0 : Int) (a1 : Int) (a2 : Int) : Option (Int):=if 0 ≤ (wrap64 (a0 - 1)) then (some (Go.bits .or .u64 (shl .u64 a1 (shl .u64 1 (wrap64 (a0 - 1)))) a2)) else (none)
set_option maxHeartbeats 8000000 in
set_option maxRecDepth 100000 in
theorem zM.calls (a0 : Int) (a1 : Int) (a2 : Int) (r : Int) (w : World) (h : zM.f a0 a1 a2 = some r) :
 Calls Try.prog 97 #[.int .i64 a0,.int .u64 a1,.int .u64 a2] w fun e w'=>e = .returned (.int .u64 r) ∧ Drawn0 w w':=by
 have H : (if 0 ≤ (wrap64 (a0 - 1)) then (some (Go.bits .or .u64 (shl .u64 a1 (shl .u64 1 (wrap64 (a0 - 1)))) a2)) else (none)) = some r:=h
 clear h
 obtain ⟨ji4,hji4⟩ : ∃ j_ : Int,(wrap64 (a0 - 1)) = j_:=⟨_,rfl⟩
 replace H : (if 0 ≤ (ji4) then (some (Go.bits .or .u64 (shl .u64 a1 (shl .u64 1 (ji4))) a2)) else (none)) = some r:=by first|(rw [hji4] at H;exact H)|(simp only [hji4] at H ⊢;exact H)
 have hji4w : (IntKind.i64.wrap (a0 - 1)) = ji4:=(zJ _).trans hji4
 by_cases c5 : 0 ≤ (ji4)
 rotate_left
 · rw [if_neg c5] at H
   exact absurd H (by simp)
 rw [if_pos c5] at H
 have c5b0:=eq_true c5
 have c5b1 : decide (0 ≤ (ji4)) = true:=decide_eq_true c5
 clear c5
 obtain ⟨ji6,hji6⟩ : ∃ j_ : Int,(shl .u64 1 (ji4)) = j_:=⟨_,rfl⟩
 replace H : (some (Go.bits .or .u64 (shl .u64 a1 (ji6)) a2)) = some r:=by first|(rw [hji6] at H;exact H)|(simp only [hji6] at H ⊢;exact H)
 have hji6_ : (IntKind.u64.wrap (1 * 2 ^ min (ji4).toNat 64)) = ji6:=hji6
 have hji6z : (ji4) ≤ 64 → (IntKind.u64.wrap (1 * 2 ^ (ji4).toNat)) = ji6:=z18 hji6
 have hji6n0 : 0 ≤ ji6:=by rw [← hji6];exact Int.emod_nonneg _ (by decide)
 have hji6n1 : decide (0 ≤ ji6) = true:=decide_eq_true hji6n0
 replace hji6n0:=eq_true hji6n0
 have hji6u : (IntKind.u64.wrap (2 ^ min (ji4).toNat 64)) = ji6:=by have h_:=hji6_;rw [Int.one_mul] at h_;exact h_
 have hji6v : (ji4) ≤ 64 → (IntKind.u64.wrap (2 ^ (ji4).toNat)) = ji6:=fun hle_=>by have h_:=hji6z hle_;rw [Int.one_mul] at h_;exact h_
 obtain ⟨ji7,hji7⟩ : ∃ j_ : Int,(shl .u64 a1 (ji6)) = j_:=⟨_,rfl⟩
 replace H : (some (Go.bits .or .u64 (ji7) a2)) = some r:=by first|(rw [hji7] at H;exact H)|(simp only [hji7] at H ⊢;exact H)
 have hji7_ : (IntKind.u64.wrap (a1 * 2 ^ min (ji6).toNat 64)) = ji7:=hji7
 have hji7z : (ji6) ≤ 64 → (IntKind.u64.wrap (a1 * 2 ^ (ji6).toNat)) = ji7:=z18 hji7
 have hji7n0 : 0 ≤ ji7:=by rw [← hji7];exact Int.emod_nonneg _ (by decide)
 have hji7n1 : decide (0 ≤ ji7) = true:=decide_eq_true hji7n0
 replace hji7n0:=eq_true hji7n0
 obtain rfl:=Option.some.inj H
 go_enter Try.func97,Try.ntmps97
 go_wp2
 go_ret
 exact ⟨by first|rfl|(simp;done)|(simp only [← hji4,← hji6,← hji7] <;> (first|rfl|simp))|(simp [*];done),by repeat (first|exact Drawn0.refl _|apply Drawn0.step)⟩
end Go.Proofs.Ytngcaphdkgihmaa.P
namespace Go.Proofs.Ytngcaphdkgihmaa.P
open Go.RowKit Go.Proofs.YtngcaphdkgihmaaW.PrintWords Go.Proofs.YtngcaphdkgihmaaW.PrintLast Go.Proofs.YtngcaphdkgihmaaW.PrintMore
attribute [local go_sem] zF zH zP zQ zC zD zG zI   -- for this text's walks alone
set_option linter.unusedVariables false
set_option linter.unusedSimpArgs false
def zt.f : Nat → Int → Int → Option (Int)
 | 0,_,_=>none
 | k + 1,a0,a1=>if a0 = 0 then (some a1) else ((zL.f a0 a1).bind fun bt101=>((zt.f k (wrap64 (a0 - 1)) bt101.1).bind fun t103=>((zM.f a0 (Go.bits .xor .u64 bt101.2 t103) bt101.1).bind fun t104=>(some t104))))
theorem zt.zR : ∀ k,(∀ y0 y1,LeO (zt.f k y0 y1) (zt.f (k + 1) y0 y1))
 | 0=>fun _ _ r h=>by simp [zt.f] at h
 | k + 1=>by
  have ih0:=zt.zR k
  · intro y0 y1
    unfold zt.f
    repeat' first
    | (with_reducible exact ih0 _ _)
    | (with_reducible exact LeO.refl _)
    | (with_reducible exact LeO.none _)
    | (with_reducible refine LeO.ite ?_ ?_)
    | (with_reducible refine LeO.bind ?_ (fun _=>?_))
    | exact ih0 _ _
    | exact LeO.none _
    | refine LeO.ite ?_ ?_
    | refine LeO.bind ?_ (fun _=>?_)
theorem zt.mono : ∀ a0 a1 k,LeO (zt.f k a0 a1) (zt.f (k + 1) a0 a1):=by
 intro a0 a1 k
 have ih0:=zt.zR k
 exact ih0 a0 a1
set_option maxHeartbeats 8000000 in
set_option maxRecDepth 100000 in
theorem zt.calls (k : Nat) : ∀ (a0 : Int) (a1 : Int) (r : Int) (w : World) (h : zt.f k a0 a1 = some r),
 Calls Try.prog 83 #[.int .i64 a0,.int .u64 a1] w fun e w'=>e = .returned (.int .u64 r) ∧ Drawn0 w w':=by
 induction k using Nat.strongRecOn with
 | _ k ih =>
 intro a0 a1 r w h
 cases k with
 | zero=>exact absurd h (by simp [zt.f])
 | succ k =>
 simp only [zt.f] at h
 have H : (if a0 = 0 then (some a1) else ((zL.f a0 a1).bind fun bt101=>((zt.f k (wrap64 (a0 - 1)) bt101.1).bind fun t103=>((zM.f a0 (Go.bits .xor .u64 bt101.2 t103) bt101.1).bind fun t104=>(some t104))))) = some r:=h
 clear h
 by_cases c3 : a0 = 0
 · rw [if_pos c3] at H
   have c3b0 : (a0 == 0) = true:=beq_iff_eq.mpr c3
   have c3b1 : (a0 != 0) = false:=bne_eq_false_iff_eq.mpr c3
   clear c3
   obtain rfl:=Option.some.inj H
   go_enter Try.func83,Try.ntmps83
   go_wp2
   go_ret
   exact ⟨by first|rfl|(simp;done)|(simp [*];done),by repeat (first|exact Drawn0.refl _|apply Drawn0.step)⟩
 rw [if_neg c3] at H
 have c3b0 : (a0 == 0) = false:=beq_eq_false_iff_ne.mpr c3
 have c3b1 : (a0 != 0) = true:=bne_iff_ne.mpr c3
 replace H:=Option.bind_eq_some_iff.mp H
 obtain ⟨⟨t101,t102⟩,A40,H⟩:=H
 replace H : ((zt.f k (wrap64 (a0 - 1)) t101).bind fun t103=>((zM.f a0 (Go.bits .xor .u64 t102 t103) t101).bind fun t104=>(some t104))) = some r:=H
 have A4:=z4.mk A40
 clear A40
 replace H:=Option.bind_eq_some_iff.mp H
 obtain ⟨t103,A50,H⟩:=H
 replace H : ((zM.f a0 (Go.bits .xor .u64 t102 t103) t101).bind fun t104=>(some t104)) = some r:=H
 have A5:=z4.mk A50
 clear A50
 replace H:=Option.bind_eq_some_iff.mp H
 obtain ⟨t104,A60,H⟩:=H
 replace H : (some t104) = some r:=H
 have A6:=z4.mk A60
 clear A60
 obtain rfl:=Option.some.inj H
 go_enter Try.func83,Try.ntmps83
 go_wp2_with (first|((with_reducible refine zn (f:=96) rfl ?_);refine goesL_ (some 13) rfl rfl Try.func96 (by kernel_rfl) rfl #[.int .i64 a0,.int .u64 a1] rfl (by (try simp only [List.map_toArray,List.map_cons,List.map_nil]);first|done|rfl|(simp only [List.length_drop,List.length_take];rfl)) ?_;(with_reducible refine (zL.calls a0 a1 t101 t102 _ A4.out).mono ?_);rintro e w' ⟨rfl,⟨nd,rfl⟩⟩;refine ⟨_,rfl,?_⟩)|((with_reducible refine zn (f:=83) rfl ?_);refine goesL_ (some 21) rfl rfl Try.func83 (by kernel_rfl) rfl #[.int .i64 (wrap64 (a0 - 1)),.int .u64 t101] rfl (by (try simp only [List.map_toArray,List.map_cons,List.map_nil]);first|done|rfl|(simp only [List.length_drop,List.length_take];rfl)) ?_;(with_reducible refine (ih k (by omega) (wrap64 (a0 - 1)) t101 t103 _ A5.out).mono ?_);rintro e w' ⟨rfl,⟨nd,rfl⟩⟩;refine ⟨_,rfl,?_⟩)|((with_reducible refine zn (f:=97) rfl ?_);refine goesL_ (some 24) rfl rfl Try.func97 (by kernel_rfl) rfl #[.int .i64 a0,.int .u64 (Go.bits .xor .u64 t102 t103),.int .u64 t101] rfl (by (try simp only [List.map_toArray,List.map_cons,List.map_nil]);first|done|rfl|(simp only [List.length_drop,List.length_take];rfl)) ?_;(with_reducible refine (zM.calls a0 (Go.bits .xor .u64 t102 t103) t101 t104 _ A6.out).mono ?_);rintro e w' ⟨rfl,⟨nd,rfl⟩⟩;refine ⟨_,rfl,?_⟩))
 go_ret
 exact ⟨by first|rfl|(simp;done)|(simp [*];done),by repeat (first|exact Drawn0.refl _|apply Drawn0.step)⟩
end Go.Proofs.Ytngcaphdkgihmaa.P
namespace Go.Proofs.Ytngcaphdkgihmaa.P
open Go.RowKit Go.Proofs.YtngcaphdkgihmaaW.PrintWords Go.Proofs.YtngcaphdkgihmaaW.PrintLast Go.Proofs.YtngcaphdkgihmaaW.PrintMore
attribute [local go_sem] zF zH zP zQ zC zD zG zI   -- for this text's walks alone
set_option linter.unusedVariables false
set_option linter.unusedSimpArgs false
mutual
def zl.j0 : Nat → Int → Int → Int → Bool → Option (Int)
 | 0,_,_,_,_=>none
 | k + 1,x0,x1,x2,x23=>if x23 = true then (some (Go.bits .and .u64 (Go.bits .and .u64 x1 x2) 1)) else ((zL.f x0 x1).bind fun bt101=>((zL.f x0 x2).bind fun bt103=>((zl.f k (wrap64 (x0 - 1)) bt101.1 bt103.1).bind fun t105=>((zl.f k (wrap64 (x0 - 1)) bt101.2 bt103.2).bind fun t106=>((zl.f k (wrap64 (x0 - 1)) (Go.bits .xor .u64 bt101.1 bt101.2) (Go.bits .xor .u64 bt103.1 bt103.2)).bind fun t107=>((zt.f k (wrap64 (x0 - 1)) t105).bind fun t108=>((zM.f x0 (Go.bits .xor .u64 (Go.bits .xor .u64 (Go.bits .xor .u64 t107 t105) t106) t108) (Go.bits .xor .u64 t106 t105)).bind fun t109=>(some t109))))))))
def zl.f : Nat → Int → Int → Int → Option (Int)
 | 0,_,_,_=>none
 | k + 1,a0,a1,a2=>if a0 = 0 then (zl.j0 k a0 a1 a2 true) else (if a1 = 0 then (zl.j0 k a0 a1 a2 true) else (zl.j0 k a0 a1 a2 (a2 == 0)))
end
theorem zl.zR : ∀ k,(∀ y0 y1 y2,LeO (zl.f k y0 y1 y2) (zl.f (k + 1) y0 y1 y2)) ∧ (∀ y0 y1 y2 y3,LeO (zl.j0 k y0 y1 y2 y3) (zl.j0 (k + 1) y0 y1 y2 y3))
 | 0=>⟨fun _ _ _ r h=>by simp [zl.f] at h,fun _ _ _ _ r h=>by simp [zl.j0] at h⟩
 | k + 1=>by
  obtain ⟨ih0,ih1⟩:=zl.zR k
  refine ⟨?_,?_⟩
  · intro y0 y1 y2
    unfold zl.f
    repeat' first
    | (with_reducible exact ih0 _ _ _)
    | (with_reducible exact ih1 _ _ _ _)
    | (with_reducible exact zt.mono _ _ _)
    | (with_reducible exact LeO.refl _)
    | (with_reducible exact LeO.none _)
    | (with_reducible refine LeO.ite ?_ ?_)
    | (with_reducible refine LeO.bind ?_ (fun _=>?_))
    | exact ih0 _ _ _
    | exact ih1 _ _ _ _
    | exact zt.mono _ _ _
    | exact LeO.none _
    | refine LeO.ite ?_ ?_
    | refine LeO.bind ?_ (fun _=>?_)
  · intro y0 y1 y2 y3
    unfold zl.j0
    repeat' first
    | (with_reducible exact ih0 _ _ _)
    | (with_reducible exact ih1 _ _ _ _)
    | (with_reducible exact zt.mono _ _ _)
    | (with_reducible exact LeO.refl _)
    | (with_reducible exact LeO.none _)
    | (with_reducible refine LeO.ite ?_ ?_)
    | (with_reducible refine LeO.bind ?_ (fun _=>?_))
    | exact ih0 _ _ _
    | exact ih1 _ _ _ _
    | exact zt.mono _ _ _
    | exact LeO.none _
    | refine LeO.ite ?_ ?_
    | refine LeO.bind ?_ (fun _=>?_)
theorem zl.mono : ∀ a0 a1 a2 k,LeO (zl.f k a0 a1 a2) (zl.f (k + 1) a0 a1 a2):=by
 intro a0 a1 a2 k
 obtain ⟨ih0,ih1⟩:=zl.zR k
 exact ih0 a0 a1 a2
set_option maxHeartbeats 8000000 in
set_option maxRecDepth 100000 in
theorem zl.calls (k : Nat) : ∀ (a0 : Int) (a1 : Int) (a2 : Int) (r : Int) (w : World) (h : zl.f k a0 a1 a2 = some r),
 Calls Try.prog 82 #[.int .i64 a0,.int .u64 a1,.int .u64 a2] w fun e w'=>e = .returned (.int .u64 r) ∧ Drawn0 w w':=by
 induction k using Nat.strongRecOn with
 | _ k ih =>
 intro a0 a1 a2 r w h
 cases k with
 | zero=>exact absurd h (by simp [zl.f])
 | succ k =>
 simp only [zl.f] at h
 have H : (if a0 = 0 then (zl.j0 k a0 a1 a2 true) else (if a1 = 0 then (zl.j0 k a0 a1 a2 true) else (zl.j0 k a0 a1 a2 (a2 == 0)))) = some r:=h
 clear h
 have HC4:=z4.mk H
 clear H
 go_enter Try.func82,Try.ntmps82
 go_upto_region 1 with (fail)
 go_cut [23] (fun v23 wc=>∃ (kq : Nat) (x23_3 : Bool),v23 = .bool x23_3 ∧ z4 (zl.j0 kq a0 a1 a2 x23_3 = some r) ∧ z4 (kq ≤ k) ∧ Drawn0 w wc)
 case first =>
  have H:=HC4.out
  clear HC4
  by_cases c5 : a0 = 0
  · rw [if_pos c5] at H
    have c5b0 : (a0 == 0) = true:=beq_iff_eq.mpr c5
    have c5b1 : (a0 != 0) = false:=bne_eq_false_iff_eq.mpr c5
    clear c5
    (first|rw [c5b0]|(simp only [zJ,zS];rw [c5b0])|skip)
    have H':=z4.mk H
    clear H
    go_wp2
    go_meet
    case rel=>exact ⟨_,(true),(by first|rfl|(simp;done)|(simp [*];done)),H',⟨by first|omega|exact Nat.le_refl _⟩,by repeat (first|exact Drawn0.refl _|apply Drawn0.step)⟩
  rw [if_neg c5] at H
  have c5b0 : (a0 == 0) = false:=beq_eq_false_iff_ne.mpr c5
  have c5b1 : (a0 != 0) = true:=bne_iff_ne.mpr c5
  (first|rw [c5b0]|(simp only [zJ,zS];rw [c5b0])|skip)
  by_cases c6 : a1 = 0
  rotate_left
  · rw [if_neg c6] at H
    have c6b0 : (a1 == 0) = false:=beq_eq_false_iff_ne.mpr c6
    have c6b1 : (a1 != 0) = true:=bne_iff_ne.mpr c6
    have H':=z4.mk H
    clear H
    go_wp2
    go_meet
    case rel=>exact ⟨_,((a2 == 0)),(by first|rfl|(simp;done)|(simp [*];done)),H',⟨by first|omega|exact Nat.le_refl _⟩,by repeat (first|exact Drawn0.refl _|apply Drawn0.step)⟩
  rw [if_pos c6] at H
  have c6b0 : (a1 == 0) = true:=beq_iff_eq.mpr c6
  have c6b1 : (a1 != 0) = false:=bne_eq_false_iff_eq.mpr c6
  clear c6
  have H':=z4.mk H
  clear H
  go_wp2
  go_meet
  case rel=>exact ⟨_,(true),(by first|rfl|(simp;done)|(simp [*];done)),H',⟨by first|omega|exact Nat.le_refl _⟩,by repeat (first|exact Drawn0.refl _|apply Drawn0.step)⟩
 case rest =>
  clear HC4
  (try clear p2);(try clear c5);(try clear c5b0);(try clear c5b1);(try clear c6);(try clear c6b0);(try clear c6b1)
  obtain ⟨kq,x23_3,rfl,HA,HJ3,⟨mc3,rfl⟩⟩:=hcut
  cases kq with
  | zero=>exact absurd HA.out (by simp [zl.j0])
  | succ kj3 =>
   have H:=HA.out
   clear HA
   simp only [zl.j0] at H
   by_cases c7 : x23_3 = true
   · subst c7
     have H1 : (some (Go.bits .and .u64 (Go.bits .and .u64 a1 a2) 1)) = some r:=by rw [if_pos rfl] at H;exact H
     clear H
     have H:=H1
     clear H1
     obtain rfl:=Option.some.inj H
     go_wp2
     go_ret
     exact ⟨by first|rfl|(simp;done)|(simp [*];done),by repeat (first|exact Drawn0.refl _|apply Drawn0.step)⟩
   replace c7:=Bool.eq_false_iff.mpr c7
   subst c7
   have H1 : ((zL.f a0 a1).bind fun bt101=>((zL.f a0 a2).bind fun bt103=>((zl.f kj3 (wrap64 (a0 - 1)) bt101.1 bt103.1).bind fun t105=>((zl.f kj3 (wrap64 (a0 - 1)) bt101.2 bt103.2).bind fun t106=>((zl.f kj3 (wrap64 (a0 - 1)) (Go.bits .xor .u64 bt101.1 bt101.2) (Go.bits .xor .u64 bt103.1 bt103.2)).bind fun t107=>((zt.f kj3 (wrap64 (a0 - 1)) t105).bind fun t108=>((zM.f a0 (Go.bits .xor .u64 (Go.bits .xor .u64 (Go.bits .xor .u64 t107 t105) t106) t108) (Go.bits .xor .u64 t106 t105)).bind fun t109=>(some t109)))))))) = some r:=by rw [if_neg (show ¬ (false = true) by decide)] at H;exact H
   clear H
   have H:=H1
   clear H1
   replace H:=Option.bind_eq_some_iff.mp H
   obtain ⟨⟨t101,t102⟩,A80,H⟩:=H
   replace H : ((zL.f a0 a2).bind fun bt103=>((zl.f kj3 (wrap64 (a0 - 1)) t101 bt103.1).bind fun t105=>((zl.f kj3 (wrap64 (a0 - 1)) t102 bt103.2).bind fun t106=>((zl.f kj3 (wrap64 (a0 - 1)) (Go.bits .xor .u64 t101 t102) (Go.bits .xor .u64 bt103.1 bt103.2)).bind fun t107=>((zt.f kj3 (wrap64 (a0 - 1)) t105).bind fun t108=>((zM.f a0 (Go.bits .xor .u64 (Go.bits .xor .u64 (Go.bits .xor .u64 t107 t105) t106) t108) (Go.bits .xor .u64 t106 t105)).bind fun t109=>(some t109))))))) = some r:=H
   have A8:=z4.mk A80
   clear A80
   replace H:=Option.bind_eq_some_iff.mp H
   obtain ⟨⟨t103,t104⟩,A90,H⟩:=H
   replace H : ((zl.f kj3 (wrap64 (a0 - 1)) t101 t103).bind fun t105=>((zl.f kj3 (wrap64 (a0 - 1)) t102 t104).bind fun t106=>((zl.f kj3 (wrap64 (a0 - 1)) (Go.bits .xor .u64 t101 t102) (Go.bits .xor .u64 t103 t104)).bind fun t107=>((zt.f kj3 (wrap64 (a0 - 1)) t105).bind fun t108=>((zM.f a0 (Go.bits .xor .u64 (Go.bits .xor .u64 (Go.bits .xor .u64 t107 t105) t106) t108) (Go.bits .xor .u64 t106 t105)).bind fun t109=>(some t109)))))) = some r:=H
   have A9:=z4.mk A90
   clear A90
   replace H:=Option.bind_eq_some_iff.mp H
   obtain ⟨t105,A100,H⟩:=H
   replace H : ((zl.f kj3 (wrap64 (a0 - 1)) t102 t104).bind fun t106=>((zl.f kj3 (wrap64 (a0 - 1)) (Go.bits .xor .u64 t101 t102) (Go.bits .xor .u64 t103 t104)).bind fun t107=>((zt.f kj3 (wrap64 (a0 - 1)) t105).bind fun t108=>((zM.f a0 (Go.bits .xor .u64 (Go.bits .xor .u64 (Go.bits .xor .u64 t107 t105) t106) t108) (Go.bits .xor .u64 t106 t105)).bind fun t109=>(some t109))))) = some r:=H
   have A10:=z4.mk A100
   clear A100
   replace H:=Option.bind_eq_some_iff.mp H
   obtain ⟨t106,A110,H⟩:=H
   replace H : ((zl.f kj3 (wrap64 (a0 - 1)) (Go.bits .xor .u64 t101 t102) (Go.bits .xor .u64 t103 t104)).bind fun t107=>((zt.f kj3 (wrap64 (a0 - 1)) t105).bind fun t108=>((zM.f a0 (Go.bits .xor .u64 (Go.bits .xor .u64 (Go.bits .xor .u64 t107 t105) t106) t108) (Go.bits .xor .u64 t106 t105)).bind fun t109=>(some t109)))) = some r:=H
   have A11:=z4.mk A110
   clear A110
   replace H:=Option.bind_eq_some_iff.mp H
   obtain ⟨t107,A120,H⟩:=H
   replace H : ((zt.f kj3 (wrap64 (a0 - 1)) t105).bind fun t108=>((zM.f a0 (Go.bits .xor .u64 (Go.bits .xor .u64 (Go.bits .xor .u64 t107 t105) t106) t108) (Go.bits .xor .u64 t106 t105)).bind fun t109=>(some t109))) = some r:=H
   have A12:=z4.mk A120
   clear A120
   replace H:=Option.bind_eq_some_iff.mp H
   obtain ⟨t108,A130,H⟩:=H
   replace H : ((zM.f a0 (Go.bits .xor .u64 (Go.bits .xor .u64 (Go.bits .xor .u64 t107 t105) t106) t108) (Go.bits .xor .u64 t106 t105)).bind fun t109=>(some t109)) = some r:=H
   have A13:=z4.mk A130
   clear A130
   replace H:=Option.bind_eq_some_iff.mp H
   obtain ⟨t109,A140,H⟩:=H
   replace H : (some t109) = some r:=H
   have A14:=z4.mk A140
   clear A140
   obtain rfl:=Option.some.inj H
   go_wp2_with (first|((with_reducible refine zn (f:=96) rfl ?_);refine goesL_ (some 31) rfl rfl Try.func96 (by kernel_rfl) rfl #[.int .i64 a0,.int .u64 a1] rfl (by (try simp only [List.map_toArray,List.map_cons,List.map_nil]);first|done|rfl|(simp only [List.length_drop,List.length_take];rfl)) ?_;(with_reducible refine (zL.calls a0 a1 t101 t102 _ A8.out).mono ?_);rintro e w' ⟨rfl,⟨nd,rfl⟩⟩;refine ⟨_,rfl,?_⟩)|((with_reducible refine zn (f:=96) rfl ?_);refine goesL_ (some 37) rfl rfl Try.func96 (by kernel_rfl) rfl #[.int .i64 a0,.int .u64 a2] rfl (by (try simp only [List.map_toArray,List.map_cons,List.map_nil]);first|done|rfl|(simp only [List.length_drop,List.length_take];rfl)) ?_;(with_reducible refine (zL.calls a0 a2 t103 t104 _ A9.out).mono ?_);rintro e w' ⟨rfl,⟨nd,rfl⟩⟩;refine ⟨_,rfl,?_⟩)|((with_reducible refine zn (f:=82) rfl ?_);refine goesL_ (some 44) rfl rfl Try.func82 (by kernel_rfl) rfl #[.int .i64 (wrap64 (a0 - 1)),.int .u64 t101,.int .u64 t103] rfl (by (try simp only [List.map_toArray,List.map_cons,List.map_nil]);first|done|rfl|(simp only [List.length_drop,List.length_take];rfl)) ?_;(with_reducible refine (ih kj3 (by have:=HJ3.out;omega) (wrap64 (a0 - 1)) t101 t103 t105 _ A10.out).mono ?_);rintro e w' ⟨rfl,⟨nd,rfl⟩⟩;refine ⟨_,rfl,?_⟩)|((with_reducible refine zn (f:=82) rfl ?_);refine goesL_ (some 49) rfl rfl Try.func82 (by kernel_rfl) rfl #[.int .i64 (wrap64 (a0 - 1)),.int .u64 t102,.int .u64 t104] rfl (by (try simp only [List.map_toArray,List.map_cons,List.map_nil]);first|done|rfl|(simp only [List.length_drop,List.length_take];rfl)) ?_;(with_reducible refine (ih kj3 (by have:=HJ3.out;omega) (wrap64 (a0 - 1)) t102 t104 t106 _ A11.out).mono ?_);rintro e w' ⟨rfl,⟨nd,rfl⟩⟩;refine ⟨_,rfl,?_⟩)|((with_reducible refine zn (f:=82) rfl ?_);refine goesL_ (some 58) rfl rfl Try.func82 (by kernel_rfl) rfl #[.int .i64 (wrap64 (a0 - 1)),.int .u64 (Go.bits .xor .u64 t101 t102),.int .u64 (Go.bits .xor .u64 t103 t104)] rfl (by (try simp only [List.map_toArray,List.map_cons,List.map_nil]);first|done|rfl|(simp only [List.length_drop,List.length_take];rfl)) ?_;(with_reducible refine (ih kj3 (by have:=HJ3.out;omega) (wrap64 (a0 - 1)) (Go.bits .xor .u64 t101 t102) (Go.bits .xor .u64 t103 t104) t107 _ A12.out).mono ?_);rintro e w' ⟨rfl,⟨nd,rfl⟩⟩;refine ⟨_,rfl,?_⟩)|((with_reducible refine zn (f:=83) rfl ?_);refine goesL_ (some 68) rfl rfl Try.func83 (by kernel_rfl) rfl #[.int .i64 (wrap64 (a0 - 1)),.int .u64 t105] rfl (by (try simp only [List.map_toArray,List.map_cons,List.map_nil]);first|done|rfl|(simp only [List.length_drop,List.length_take];rfl)) ?_;(with_reducible refine (zt.calls kj3 (wrap64 (a0 - 1)) t105 t108 _ A13.out).mono ?_);rintro e w' ⟨rfl,⟨nd,rfl⟩⟩;refine ⟨_,rfl,?_⟩)|((with_reducible refine zn (f:=97) rfl ?_);refine goesL_ (some 73) rfl rfl Try.func97 (by kernel_rfl) rfl #[.int .i64 a0,.int .u64 (Go.bits .xor .u64 (Go.bits .xor .u64 (Go.bits .xor .u64 t107 t105) t106) t108),.int .u64 (Go.bits .xor .u64 t106 t105)] rfl (by (try simp only [List.map_toArray,List.map_cons,List.map_nil]);first|done|rfl|(simp only [List.length_drop,List.length_take];rfl)) ?_;(with_reducible refine (zM.calls a0 (Go.bits .xor .u64 (Go.bits .xor .u64 (Go.bits .xor .u64 t107 t105) t106) t108) (Go.bits .xor .u64 t106 t105) t109 _ A14.out).mono ?_);rintro e w' ⟨rfl,⟨nd,rfl⟩⟩;refine ⟨_,rfl,?_⟩))
   go_ret
   exact ⟨by first|rfl|(simp;done)|(simp [*];done),by repeat (first|exact Drawn0.refl _|apply Drawn0.step)⟩
end Go.Proofs.Ytngcaphdkgihmaa.P
namespace Go.Proofs.Ytngcaphdkgihmaa.P
open Go.RowKit Go.Proofs.YtngcaphdkgihmaaW.PrintWords Go.Proofs.YtngcaphdkgihmaaW.PrintLast Go.Proofs.YtngcaphdkgihmaaW.PrintMore
attribute [local go_sem] zF zH zP zQ zC zD zG zI   -- for this text's walks alone
set_option linter.unusedVariables false
set_option linter.unusedSimpArgs false
def zy.j0 : Nat → Int → Bool → Int → Int → Int → Int → Option (Int × Int)
 | 0,_,_,_,_,_,_=>none
 | k + 1,x0,x10,x102000,x102001,x103000,x103001=>if x10 = true then (some (0,0)) else (if x0 ≤ 6 then ((zl.f k x0 x102001 x103001).bind fun t106=>(some (0,t106))) else ((zl.f k 6 x102000 x103000).bind fun t107=>((zl.f k 6 x102001 x103001).bind fun t108=>((zl.f k 6 (Go.bits .xor .u64 x102000 x102001) (Go.bits .xor .u64 x103000 x103001)).bind fun t109=>((zt.f k 6 t107).bind fun t110=>(some (Go.bits .xor .u64 (Go.bits .xor .u64 (Go.bits .xor .u64 t109 t107) t108) t110,Go.bits .xor .u64 t108 t107)))))))
def zy.f (k : Nat) (a0 : Int) (a1_0 : Int) (a1_1 : Int) (a2_0 : Int) (a2_1 : Int) : Option (Int × Int):=(zu.f k a0 a1_0 a1_1).bind fun t104=>(if t104 = true then ((zu.f k a0 a2_0 a2_1).bind fun t105=>(zy.j0 k a0 (!t105) a1_0 a1_1 a2_0 a2_1)) else (zy.j0 k a0 true a1_0 a1_1 a2_0 a2_1))
theorem zy.zR : ∀ k,(∀ y0 y1 y2 y3 y4 y5,LeO (zy.j0 k y0 y1 y2 y3 y4 y5) (zy.j0 (k + 1) y0 y1 y2 y3 y4 y5))
 | 0=>fun _ _ _ _ _ _ r h=>by simp [zy.j0] at h
 | k + 1=>by
  have ih0:=zy.zR k
  · intro y0 y1 y2 y3 y4 y5
    unfold zy.j0
    repeat' first
    | (with_reducible exact ih0 _ _ _ _ _ _)
    | (with_reducible exact zu.mono _ _ _ _)
    | (with_reducible exact zl.mono _ _ _ _)
    | (with_reducible exact zt.mono _ _ _)
    | (with_reducible exact LeO.refl _)
    | (with_reducible exact LeO.none _)
    | (with_reducible refine LeO.ite ?_ ?_)
    | (with_reducible refine LeO.bind ?_ (fun _=>?_))
    | exact ih0 _ _ _ _ _ _
    | exact zu.mono _ _ _ _
    | exact zl.mono _ _ _ _
    | exact zt.mono _ _ _
    | exact LeO.none _
    | refine LeO.ite ?_ ?_
    | refine LeO.bind ?_ (fun _=>?_)
theorem zy.mono : ∀ a0 a1 a2 a3 a4 k,LeO (zy.f k a0 a1 a2 a3 a4) (zy.f (k + 1) a0 a1 a2 a3 a4):=by
 intro a0 a1 a2 a3 a4 k
 have ih0:=zy.zR k
 unfold zy.f
 repeat' first
  | (with_reducible exact ih0 _ _ _ _ _ _)
  | (with_reducible exact zu.mono _ _ _ _)
  | (with_reducible exact zl.mono _ _ _ _)
  | (with_reducible exact zt.mono _ _ _)
  | (with_reducible exact LeO.refl _)
  | (with_reducible exact LeO.none _)
  | (with_reducible refine LeO.ite ?_ ?_)
  | (with_reducible refine LeO.bind ?_ (fun _=>?_))
  | exact ih0 _ _ _ _ _ _
  | exact zu.mono _ _ _ _
  | exact zl.mono _ _ _ _
  | exact zt.mono _ _ _
  | exact LeO.none _
  | refine LeO.ite ?_ ?_
  | refine LeO.bind ?_ (fun _=>?_)
set_option maxHeartbeats 8000000 in
set_option maxRecDepth 100000 in
theorem zy.calls (k : Nat) (a0 : Int) (a1_0 : Int) (a1_1 : Int) (a2_0 : Int) (a2_1 : Int) (r1 : Int) (r2 : Int) (w : World) (h : zy.f k a0 a1_0 a1_1 a2_0 a2_1 = some (r1,r2)) :
 Calls Try.prog 41 #[.int .i64 a0,.agg #[.int .u64 a1_0,.int .u64 a1_1],.agg #[.int .u64 a2_0,.int .u64 a2_1]] w fun e w'=>e = .returned (.agg #[.int .u64 r1,.int .u64 r2]) ∧ Below w.heap.size w w':=by
 have hu51:=Try.underlying51
 have HB:=z4.mk (Below.refl w.heap.size w)
 have H : ((zu.f k a0 a1_0 a1_1).bind fun t104=>(if t104 = true then ((zu.f k a0 a2_0 a2_1).bind fun t105=>(zy.j0 k a0 (!t105) a1_0 a1_1 a2_0 a2_1)) else (zy.j0 k a0 true a1_0 a1_1 a2_0 a2_1))) = some (r1,r2):=h
 clear h
 have HC4:=z4.mk H
 clear H
 go_enter Try.func41,Try.ntmps41
 go_upto_region 1 with (first|((with_reducible refine zz (N:=4) rfl ?_);refine zA ?hg (N:=4) ?hd (cs:=#[.int .u64 a1_0,.int .u64 a1_1]) (t:=51) ?hr ?_;(case hd=>rfl);(case hg=>rfl);(case hr=>first|(go_simp;done)|(go_simp;rfl));intro gb101 hg w5 hbox hb;have n0_:=z4.mk (zc (by repeat (first|(with_reducible first|exact HB.out|apply z2|apply z1|apply z3)|exact HB.out)) hb);have n1_:=z4.mk (hbox);have n2_:=z4.mk ((by rw [hg];exact (zb (by repeat (first|(with_reducible first|exact HB.out|apply z2|apply z1|apply z3)|exact HB.out))) : w.heap.size ≤ gb101));have n3_:=z4.mk ((by rw [hg];exact (zb (by repeat (first|(with_reducible first|exact HB.out|apply z2|apply z1|apply z3)|exact HB.out))) : w.heap.size ≤ gb101));clear HB;have HB:=n0_;have BK101:=n1_;have GW101:=n2_;have GE101:=n3_;clear n0_ n1_ n2_ n3_;clear hb hbox hg)|((with_reducible refine zz (N:=5) rfl ?_);refine zA ?hg (N:=5) ?hd (cs:=#[.int .u64 a2_0,.int .u64 a2_1]) (t:=51) ?hr ?_;(case hd=>rfl);(case hg=>rfl);(case hr=>first|(go_simp;done)|(go_simp;rfl));intro gb102 hg w6 hbox hb;have n0_:=z4.mk (zr (g:=gb101) (o:=.cells #[.int .u64 a1_0,.int .u64 a1_1] 51 (0,0)) (by (with_reducible repeat (first|refine z8 ?_ _|refine za ?_|refine z7 ?_ _));exact BK101.out) hb);have n1_:=z4.mk (zc (by repeat (first|(with_reducible first|exact HB.out|apply z2|apply z1|apply z3|refine z6 ?_ GE101.out)|exact HB.out)) hb);have n2_:=z4.mk (hbox);have n3_:=z4.mk ((by rw [hg];exact (zb (by repeat (first|(with_reducible first|exact HB.out|apply z2|apply z1|apply z3|refine z6 ?_ GE101.out)|exact HB.out))) : w.heap.size ≤ gb102));have n4_:=z4.mk ((by rw [hg];exact (zb (by repeat (first|(with_reducible first|exact HB.out|apply z2|apply z1|apply z3|refine z6 ?_ GE101.out)|exact HB.out))) : w.heap.size ≤ gb102));have n5_:=z4.mk ((by rw [hg];exact Nat.ne_of_lt (zO (g:=gb101) (o:=.cells #[.int .u64 a1_0,.int .u64 a1_1] 51 (0,0)) (by (with_reducible repeat (first|refine z8 ?_ _|refine za ?_|refine z7 ?_ _));exact BK101.out)) : gb101 ≠ gb102));have n6_:=z4.mk ((by rw [hg];exact Nat.ne_of_gt (zO (g:=gb101) (o:=.cells #[.int .u64 a1_0,.int .u64 a1_1] 51 (0,0)) (by (with_reducible repeat (first|refine z8 ?_ _|refine za ?_|refine z7 ?_ _));exact BK101.out)) : gb102 ≠ gb101));clear BK101;clear HB;have BK101:=n0_;have HB:=n1_;have BK102:=n2_;have GW102:=n3_;have GE102:=n4_;have NB101_102:=n5_;have NB102_101:=n6_;clear n0_ n1_ n2_ n3_ n4_ n5_ n6_;clear hb hbox hg)|((with_reducible refine zz (N:=6) rfl ?_);refine zA ?hg (N:=6) ?hd (cs:=#[.int .u64 0,.int .u64 0]) (t:=51) ?hr ?_;(case hd=>rfl);(case hg=>rfl);(case hr=>first|(go_simp;done)|(go_simp;rfl));intro gb103 hg w7 hbox hb;have n0_:=z4.mk (zr (g:=gb101) (o:=.cells #[.int .u64 a1_0,.int .u64 a1_1] 51 (0,0)) (by (with_reducible repeat (first|refine z8 ?_ _|refine za ?_|refine z7 ?_ _));exact BK101.out) hb);have n1_:=z4.mk (zr (g:=gb102) (o:=.cells #[.int .u64 a2_0,.int .u64 a2_1] 51 (0,0)) (by (with_reducible repeat (first|refine z8 ?_ _|refine za ?_|refine z7 ?_ _));exact BK102.out) hb);have n2_:=z4.mk (zc (by repeat (first|(with_reducible first|exact HB.out|apply z2|apply z1|apply z3|refine z6 ?_ GE101.out|refine z6 ?_ GE102.out)|exact HB.out)) hb);have n3_:=z4.mk (hbox);have n4_:=z4.mk ((by rw [hg];exact (zb (by repeat (first|(with_reducible first|exact HB.out|apply z2|apply z1|apply z3|refine z6 ?_ GE101.out|refine z6 ?_ GE102.out)|exact HB.out))) : w.heap.size ≤ gb103));have n5_:=z4.mk ((by rw [hg];exact (zb (by repeat (first|(with_reducible first|exact HB.out|apply z2|apply z1|apply z3|refine z6 ?_ GE101.out|refine z6 ?_ GE102.out)|exact HB.out))) : w.heap.size ≤ gb103));have n6_:=z4.mk ((by rw [hg];exact Nat.ne_of_lt (zO (g:=gb101) (o:=.cells #[.int .u64 a1_0,.int .u64 a1_1] 51 (0,0)) (by (with_reducible repeat (first|refine z8 ?_ _|refine za ?_|refine z7 ?_ _));exact BK101.out)) : gb101 ≠ gb103));have n7_:=z4.mk ((by rw [hg];exact Nat.ne_of_gt (zO (g:=gb101) (o:=.cells #[.int .u64 a1_0,.int .u64 a1_1] 51 (0,0)) (by (with_reducible repeat (first|refine z8 ?_ _|refine za ?_|refine z7 ?_ _));exact BK101.out)) : gb103 ≠ gb101));have n8_:=z4.mk ((by rw [hg];exact Nat.ne_of_lt (zO (g:=gb102) (o:=.cells #[.int .u64 a2_0,.int .u64 a2_1] 51 (0,0)) (by (with_reducible repeat (first|refine z8 ?_ _|refine za ?_|refine z7 ?_ _));exact BK102.out)) : gb102 ≠ gb103));have n9_:=z4.mk ((by rw [hg];exact Nat.ne_of_gt (zO (g:=gb102) (o:=.cells #[.int .u64 a2_0,.int .u64 a2_1] 51 (0,0)) (by (with_reducible repeat (first|refine z8 ?_ _|refine za ?_|refine z7 ?_ _));exact BK102.out)) : gb103 ≠ gb102));clear BK101;clear BK102;clear HB;have BK101:=n0_;have BK102:=n1_;have HB:=n2_;have BK103:=n3_;have GW103:=n4_;have GE103:=n5_;have NB101_103:=n6_;have NB103_101:=n7_;have NB102_103:=n8_;have NB103_102:=n9_;clear n0_ n1_ n2_ n3_ n4_ n5_ n6_ n7_ n8_ n9_;clear hb hbox hg))
 repeat (go_quiet (first|((with_reducible refine zz (N:=4) rfl ?_);refine zA ?hg (N:=4) ?hd (cs:=#[.int .u64 a1_0,.int .u64 a1_1]) (t:=51) ?hr ?_;(case hd=>rfl);(case hg=>rfl);(case hr=>first|(go_simp;done)|(go_simp;rfl));intro gb101 hg w5 hbox hb;have n0_:=z4.mk (zc (by repeat (first|(with_reducible first|exact HB.out|apply z2|apply z1|apply z3)|exact HB.out)) hb);have n1_:=z4.mk (hbox);have n2_:=z4.mk ((by rw [hg];exact (zb (by repeat (first|(with_reducible first|exact HB.out|apply z2|apply z1|apply z3)|exact HB.out))) : w.heap.size ≤ gb101));have n3_:=z4.mk ((by rw [hg];exact (zb (by repeat (first|(with_reducible first|exact HB.out|apply z2|apply z1|apply z3)|exact HB.out))) : w.heap.size ≤ gb101));clear HB;have HB:=n0_;have BK101:=n1_;have GW101:=n2_;have GE101:=n3_;clear n0_ n1_ n2_ n3_;clear hb hbox hg)|((with_reducible refine zz (N:=5) rfl ?_);refine zA ?hg (N:=5) ?hd (cs:=#[.int .u64 a2_0,.int .u64 a2_1]) (t:=51) ?hr ?_;(case hd=>rfl);(case hg=>rfl);(case hr=>first|(go_simp;done)|(go_simp;rfl));intro gb102 hg w6 hbox hb;have n0_:=z4.mk (zr (g:=gb101) (o:=.cells #[.int .u64 a1_0,.int .u64 a1_1] 51 (0,0)) (by (with_reducible repeat (first|refine z8 ?_ _|refine za ?_|refine z7 ?_ _));exact BK101.out) hb);have n1_:=z4.mk (zc (by repeat (first|(with_reducible first|exact HB.out|apply z2|apply z1|apply z3|refine z6 ?_ GE101.out)|exact HB.out)) hb);have n2_:=z4.mk (hbox);have n3_:=z4.mk ((by rw [hg];exact (zb (by repeat (first|(with_reducible first|exact HB.out|apply z2|apply z1|apply z3|refine z6 ?_ GE101.out)|exact HB.out))) : w.heap.size ≤ gb102));have n4_:=z4.mk ((by rw [hg];exact (zb (by repeat (first|(with_reducible first|exact HB.out|apply z2|apply z1|apply z3|refine z6 ?_ GE101.out)|exact HB.out))) : w.heap.size ≤ gb102));have n5_:=z4.mk ((by rw [hg];exact Nat.ne_of_lt (zO (g:=gb101) (o:=.cells #[.int .u64 a1_0,.int .u64 a1_1] 51 (0,0)) (by (with_reducible repeat (first|refine z8 ?_ _|refine za ?_|refine z7 ?_ _));exact BK101.out)) : gb101 ≠ gb102));have n6_:=z4.mk ((by rw [hg];exact Nat.ne_of_gt (zO (g:=gb101) (o:=.cells #[.int .u64 a1_0,.int .u64 a1_1] 51 (0,0)) (by (with_reducible repeat (first|refine z8 ?_ _|refine za ?_|refine z7 ?_ _));exact BK101.out)) : gb102 ≠ gb101));clear BK101;clear HB;have BK101:=n0_;have HB:=n1_;have BK102:=n2_;have GW102:=n3_;have GE102:=n4_;have NB101_102:=n5_;have NB102_101:=n6_;clear n0_ n1_ n2_ n3_ n4_ n5_ n6_;clear hb hbox hg)|((with_reducible refine zz (N:=6) rfl ?_);refine zA ?hg (N:=6) ?hd (cs:=#[.int .u64 0,.int .u64 0]) (t:=51) ?hr ?_;(case hd=>rfl);(case hg=>rfl);(case hr=>first|(go_simp;done)|(go_simp;rfl));intro gb103 hg w7 hbox hb;have n0_:=z4.mk (zr (g:=gb101) (o:=.cells #[.int .u64 a1_0,.int .u64 a1_1] 51 (0,0)) (by (with_reducible repeat (first|refine z8 ?_ _|refine za ?_|refine z7 ?_ _));exact BK101.out) hb);have n1_:=z4.mk (zr (g:=gb102) (o:=.cells #[.int .u64 a2_0,.int .u64 a2_1] 51 (0,0)) (by (with_reducible repeat (first|refine z8 ?_ _|refine za ?_|refine z7 ?_ _));exact BK102.out) hb);have n2_:=z4.mk (zc (by repeat (first|(with_reducible first|exact HB.out|apply z2|apply z1|apply z3|refine z6 ?_ GE101.out|refine z6 ?_ GE102.out)|exact HB.out)) hb);have n3_:=z4.mk (hbox);have n4_:=z4.mk ((by rw [hg];exact (zb (by repeat (first|(with_reducible first|exact HB.out|apply z2|apply z1|apply z3|refine z6 ?_ GE101.out|refine z6 ?_ GE102.out)|exact HB.out))) : w.heap.size ≤ gb103));have n5_:=z4.mk ((by rw [hg];exact (zb (by repeat (first|(with_reducible first|exact HB.out|apply z2|apply z1|apply z3|refine z6 ?_ GE101.out|refine z6 ?_ GE102.out)|exact HB.out))) : w.heap.size ≤ gb103));have n6_:=z4.mk ((by rw [hg];exact Nat.ne_of_lt (zO (g:=gb101) (o:=.cells #[.int .u64 a1_0,.int .u64 a1_1] 51 (0,0)) (by (with_reducible repeat (first|refine z8 ?_ _|refine za ?_|refine z7 ?_ _));exact BK101.out)) : gb101 ≠ gb103));have n7_:=z4.mk ((by rw [hg];exact Nat.ne_of_gt (zO (g:=gb101) (o:=.cells #[.int .u64 a1_0,.int .u64 a1_1] 51 (0,0)) (by (with_reducible repeat (first|refine z8 ?_ _|refine za ?_|refine z7 ?_ _));exact BK101.out)) : gb103 ≠ gb101));have n8_:=z4.mk ((by rw [hg];exact Nat.ne_of_lt (zO (g:=gb102) (o:=.cells #[.int .u64 a2_0,.int .u64 a2_1] 51 (0,0)) (by (with_reducible repeat (first|refine z8 ?_ _|refine za ?_|refine z7 ?_ _));exact BK102.out)) : gb102 ≠ gb103));have n9_:=z4.mk ((by rw [hg];exact Nat.ne_of_gt (zO (g:=gb102) (o:=.cells #[.int .u64 a2_0,.int .u64 a2_1] 51 (0,0)) (by (with_reducible repeat (first|refine z8 ?_ _|refine za ?_|refine z7 ?_ _));exact BK102.out)) : gb103 ≠ gb102));clear BK101;clear BK102;clear HB;have BK101:=n0_;have BK102:=n1_;have HB:=n2_;have BK103:=n3_;have GW103:=n4_;have GE103:=n5_;have NB101_103:=n6_;have NB103_101:=n7_;have NB102_103:=n8_;have NB103_102:=n9_;clear n0_ n1_ n2_ n3_ n4_ n5_ n6_ n7_ n8_ n9_;clear hb hbox hg));go_upto_region 1 with (first|((with_reducible refine zz (N:=4) rfl ?_);refine zA ?hg (N:=4) ?hd (cs:=#[.int .u64 a1_0,.int .u64 a1_1]) (t:=51) ?hr ?_;(case hd=>rfl);(case hg=>rfl);(case hr=>first|(go_simp;done)|(go_simp;rfl));intro gb101 hg w5 hbox hb;have n0_:=z4.mk (zc (by repeat (first|(with_reducible first|exact HB.out|apply z2|apply z1|apply z3)|exact HB.out)) hb);have n1_:=z4.mk (hbox);have n2_:=z4.mk ((by rw [hg];exact (zb (by repeat (first|(with_reducible first|exact HB.out|apply z2|apply z1|apply z3)|exact HB.out))) : w.heap.size ≤ gb101));have n3_:=z4.mk ((by rw [hg];exact (zb (by repeat (first|(with_reducible first|exact HB.out|apply z2|apply z1|apply z3)|exact HB.out))) : w.heap.size ≤ gb101));clear HB;have HB:=n0_;have BK101:=n1_;have GW101:=n2_;have GE101:=n3_;clear n0_ n1_ n2_ n3_;clear hb hbox hg)|((with_reducible refine zz (N:=5) rfl ?_);refine zA ?hg (N:=5) ?hd (cs:=#[.int .u64 a2_0,.int .u64 a2_1]) (t:=51) ?hr ?_;(case hd=>rfl);(case hg=>rfl);(case hr=>first|(go_simp;done)|(go_simp;rfl));intro gb102 hg w6 hbox hb;have n0_:=z4.mk (zr (g:=gb101) (o:=.cells #[.int .u64 a1_0,.int .u64 a1_1] 51 (0,0)) (by (with_reducible repeat (first|refine z8 ?_ _|refine za ?_|refine z7 ?_ _));exact BK101.out) hb);have n1_:=z4.mk (zc (by repeat (first|(with_reducible first|exact HB.out|apply z2|apply z1|apply z3|refine z6 ?_ GE101.out)|exact HB.out)) hb);have n2_:=z4.mk (hbox);have n3_:=z4.mk ((by rw [hg];exact (zb (by repeat (first|(with_reducible first|exact HB.out|apply z2|apply z1|apply z3|refine z6 ?_ GE101.out)|exact HB.out))) : w.heap.size ≤ gb102));have n4_:=z4.mk ((by rw [hg];exact (zb (by repeat (first|(with_reducible first|exact HB.out|apply z2|apply z1|apply z3|refine z6 ?_ GE101.out)|exact HB.out))) : w.heap.size ≤ gb102));have n5_:=z4.mk ((by rw [hg];exact Nat.ne_of_lt (zO (g:=gb101) (o:=.cells #[.int .u64 a1_0,.int .u64 a1_1] 51 (0,0)) (by (with_reducible repeat (first|refine z8 ?_ _|refine za ?_|refine z7 ?_ _));exact BK101.out)) : gb101 ≠ gb102));have n6_:=z4.mk ((by rw [hg];exact Nat.ne_of_gt (zO (g:=gb101) (o:=.cells #[.int .u64 a1_0,.int .u64 a1_1] 51 (0,0)) (by (with_reducible repeat (first|refine z8 ?_ _|refine za ?_|refine z7 ?_ _));exact BK101.out)) : gb102 ≠ gb101));clear BK101;clear HB;have BK101:=n0_;have HB:=n1_;have BK102:=n2_;have GW102:=n3_;have GE102:=n4_;have NB101_102:=n5_;have NB102_101:=n6_;clear n0_ n1_ n2_ n3_ n4_ n5_ n6_;clear hb hbox hg)|((with_reducible refine zz (N:=6) rfl ?_);refine zA ?hg (N:=6) ?hd (cs:=#[.int .u64 0,.int .u64 0]) (t:=51) ?hr ?_;(case hd=>rfl);(case hg=>rfl);(case hr=>first|(go_simp;done)|(go_simp;rfl));intro gb103 hg w7 hbox hb;have n0_:=z4.mk (zr (g:=gb101) (o:=.cells #[.int .u64 a1_0,.int .u64 a1_1] 51 (0,0)) (by (with_reducible repeat (first|refine z8 ?_ _|refine za ?_|refine z7 ?_ _));exact BK101.out) hb);have n1_:=z4.mk (zr (g:=gb102) (o:=.cells #[.int .u64 a2_0,.int .u64 a2_1] 51 (0,0)) (by (with_reducible repeat (first|refine z8 ?_ _|refine za ?_|refine z7 ?_ _));exact BK102.out) hb);have n2_:=z4.mk (zc (by repeat (first|(with_reducible first|exact HB.out|apply z2|apply z1|apply z3|refine z6 ?_ GE101.out|refine z6 ?_ GE102.out)|exact HB.out)) hb);have n3_:=z4.mk (hbox);have n4_:=z4.mk ((by rw [hg];exact (zb (by repeat (first|(with_reducible first|exact HB.out|apply z2|apply z1|apply z3|refine z6 ?_ GE101.out|refine z6 ?_ GE102.out)|exact HB.out))) : w.heap.size ≤ gb103));have n5_:=z4.mk ((by rw [hg];exact (zb (by repeat (first|(with_reducible first|exact HB.out|apply z2|apply z1|apply z3|refine z6 ?_ GE101.out|refine z6 ?_ GE102.out)|exact HB.out))) : w.heap.size ≤ gb103));have n6_:=z4.mk ((by rw [hg];exact Nat.ne_of_lt (zO (g:=gb101) (o:=.cells #[.int .u64 a1_0,.int .u64 a1_1] 51 (0,0)) (by (with_reducible repeat (first|refine z8 ?_ _|refine za ?_|refine z7 ?_ _));exact BK101.out)) : gb101 ≠ gb103));have n7_:=z4.mk ((by rw [hg];exact Nat.ne_of_gt (zO (g:=gb101) (o:=.cells #[.int .u64 a1_0,.int .u64 a1_1] 51 (0,0)) (by (with_reducible repeat (first|refine z8 ?_ _|refine za ?_|refine z7 ?_ _));exact BK101.out)) : gb103 ≠ gb101));have n8_:=z4.mk ((by rw [hg];exact Nat.ne_of_lt (zO (g:=gb102) (o:=.cells #[.int .u64 a2_0,.int .u64 a2_1] 51 (0,0)) (by (with_reducible repeat (first|refine z8 ?_ _|refine za ?_|refine z7 ?_ _));exact BK102.out)) : gb102 ≠ gb103));have n9_:=z4.mk ((by rw [hg];exact Nat.ne_of_gt (zO (g:=gb102) (o:=.cells #[.int .u64 a2_0,.int .u64 a2_1] 51 (0,0)) (by (with_reducible repeat (first|refine z8 ?_ _|refine za ?_|refine z7 ?_ _));exact BK102.out)) : gb103 ≠ gb102));clear BK101;clear BK102;clear HB;have BK101:=n0_;have BK102:=n1_;have HB:=n2_;have BK103:=n3_;have GW103:=n4_;have GE103:=n5_;have NB101_103:=n6_;have NB103_101:=n7_;have NB102_103:=n8_;have NB103_102:=n9_;clear n0_ n1_ n2_ n3_ n4_ n5_ n6_ n7_ n8_ n9_;clear hb hbox hg)))
 (try simp only [Act.put,List.setIfInBounds_toArray,List.set_cons_zero,List.set_cons_succ])
 go_cut [10] (fun v10 wc=>∃ (kq : Nat) (x10_3 : Bool),v10 = .bool x10_3 ∧ z4 (zy.j0 kq a0 x10_3 a1_0 a1_1 a2_0 a2_1 = some (r1,r2)) ∧ z4 (kq ≤ k) ∧ z4 (wc.heap[gb101]? = some (.cells #[.int .u64 a1_0,.int .u64 a1_1] 51 (0,0))) ∧ z4 (wc.heap[gb102]? = some (.cells #[.int .u64 a2_0,.int .u64 a2_1] 51 (0,0))) ∧ z4 (wc.heap[gb103]? = some (.cells #[.int .u64 0,.int .u64 0] 51 (0,0))) ∧ z4 (Below w.heap.size w wc))
 case first =>
  have H:=HC4.out
  clear HC4
  replace H:=Option.bind_eq_some_iff.mp H
  obtain ⟨t104,A80,H⟩:=H
  replace H : (if t104 = true then ((zu.f k a0 a2_0 a2_1).bind fun t105=>(zy.j0 k a0 (!t105) a1_0 a1_1 a2_0 a2_1)) else (zy.j0 k a0 true a1_0 a1_1 a2_0 a2_1)) = some (r1,r2):=H
  have A8:=z4.mk A80
  clear A80
  by_cases c9 : t104 = true
  rotate_left
  · replace c9:=Bool.eq_false_iff.mpr c9
    subst c9
    have H1 : (zy.j0 k a0 true a1_0 a1_1 a2_0 a2_1) = some (r1,r2):=by rw [if_neg (show ¬ (false = true) by decide)] at H;exact H
    clear H
    have H:=H1
    clear H1
    have H':=z4.mk H
    clear H
    have hnb18:=NB101_102.out
    have hnc18:=NB102_101.out
    have hnb19:=NB101_103.out
    have hnc19:=NB103_101.out
    have hcz20_0 : w7.cell? ⟨gb101,0,none⟩ = some (.int .u64 a1_0):=(zm BK101.out 0).trans rfl
    have hcz20_1 : w7.cell? ⟨gb101,1,none⟩ = some (.int .u64 a1_1):=(zm BK101.out 1).trans rfl
    have hfz20_0:=zg BK101.out 0
    have hfz20_1:=zg BK101.out 1
    go_wp2_with (first|(go_at_call 67;(with_reducible refine (zu.calls k a0 a1_0 a1_1 false _ A8.out).mono ?_);rintro e w21 ⟨rfl,hb⟩;have n0_:=z4.mk (zr (g:=gb101) (o:=.cells #[.int .u64 a1_0,.int .u64 a1_1] 51 (0,0)) (by (with_reducible repeat (first|refine z8 ?_ _|refine za ?_|refine z7 ?_ _));exact BK101.out) hb);have n1_:=z4.mk (zr (g:=gb102) (o:=.cells #[.int .u64 a2_0,.int .u64 a2_1] 51 (0,0)) (by (with_reducible repeat (first|refine z8 ?_ _|refine za ?_|refine z7 ?_ _));exact BK102.out) hb);have n2_:=z4.mk (zr (g:=gb103) (o:=.cells #[.int .u64 0,.int .u64 0] 51 (0,0)) (by (with_reducible repeat (first|refine z8 ?_ _|refine za ?_|refine z7 ?_ _));exact BK103.out) hb);have n3_:=z4.mk (zc (by repeat (first|(with_reducible first|exact HB.out|apply z2|apply z1|apply z3|refine z6 ?_ GE101.out|refine z6 ?_ GE102.out|refine z6 ?_ GE103.out)|exact HB.out)) hb);clear BK101;clear BK102;clear BK103;clear HB;have BK101:=n0_;have BK102:=n1_;have BK103:=n2_;have HB:=n3_;clear n0_ n1_ n2_ n3_;(try clear hb);(try clear hb2);(try clear hk);(try clear hi)))
    repeat (go_quiet (first|(go_at_call 67;(with_reducible refine (zu.calls k a0 a1_0 a1_1 false _ A8.out).mono ?_);rintro e w21 ⟨rfl,hb⟩;have n0_:=z4.mk (zr (g:=gb101) (o:=.cells #[.int .u64 a1_0,.int .u64 a1_1] 51 (0,0)) (by (with_reducible repeat (first|refine z8 ?_ _|refine za ?_|refine z7 ?_ _));exact BK101.out) hb);have n1_:=z4.mk (zr (g:=gb102) (o:=.cells #[.int .u64 a2_0,.int .u64 a2_1] 51 (0,0)) (by (with_reducible repeat (first|refine z8 ?_ _|refine za ?_|refine z7 ?_ _));exact BK102.out) hb);have n2_:=z4.mk (zr (g:=gb103) (o:=.cells #[.int .u64 0,.int .u64 0] 51 (0,0)) (by (with_reducible repeat (first|refine z8 ?_ _|refine za ?_|refine z7 ?_ _));exact BK103.out) hb);have n3_:=z4.mk (zc (by repeat (first|(with_reducible first|exact HB.out|apply z2|apply z1|apply z3|refine z6 ?_ GE101.out|refine z6 ?_ GE102.out|refine z6 ?_ GE103.out)|exact HB.out)) hb);clear BK101;clear BK102;clear BK103;clear HB;have BK101:=n0_;have BK102:=n1_;have BK103:=n2_;have HB:=n3_;clear n0_ n1_ n2_ n3_;(try clear hb);(try clear hb2);(try clear hk);(try clear hi)));try go_wp2_with (first|(go_at_call 67;(with_reducible refine (zu.calls k a0 a1_0 a1_1 false _ A8.out).mono ?_);rintro e w21 ⟨rfl,hb⟩;have n0_:=z4.mk (zr (g:=gb101) (o:=.cells #[.int .u64 a1_0,.int .u64 a1_1] 51 (0,0)) (by (with_reducible repeat (first|refine z8 ?_ _|refine za ?_|refine z7 ?_ _));exact BK101.out) hb);have n1_:=z4.mk (zr (g:=gb102) (o:=.cells #[.int .u64 a2_0,.int .u64 a2_1] 51 (0,0)) (by (with_reducible repeat (first|refine z8 ?_ _|refine za ?_|refine z7 ?_ _));exact BK102.out) hb);have n2_:=z4.mk (zr (g:=gb103) (o:=.cells #[.int .u64 0,.int .u64 0] 51 (0,0)) (by (with_reducible repeat (first|refine z8 ?_ _|refine za ?_|refine z7 ?_ _));exact BK103.out) hb);have n3_:=z4.mk (zc (by repeat (first|(with_reducible first|exact HB.out|apply z2|apply z1|apply z3|refine z6 ?_ GE101.out|refine z6 ?_ GE102.out|refine z6 ?_ GE103.out)|exact HB.out)) hb);clear BK101;clear BK102;clear BK103;clear HB;have BK101:=n0_;have BK102:=n1_;have BK103:=n2_;have HB:=n3_;clear n0_ n1_ n2_ n3_;(try clear hb);(try clear hb2);(try clear hk);(try clear hi))))
    go_meet
    case rel=>exact ⟨_,(true),(by first|rfl|(simp;done)|(simp [*];done)),H',⟨by first|omega|exact Nat.le_refl _⟩,⟨by (with_reducible repeat (first|refine z8 ?_ _|refine za ?_|refine z7 ?_ _));exact BK101.out⟩,⟨by (with_reducible repeat (first|refine z8 ?_ _|refine za ?_|refine z7 ?_ _));exact BK102.out⟩,⟨by (with_reducible repeat (first|refine z8 ?_ _|refine za ?_|refine z7 ?_ _));exact BK103.out⟩,⟨by repeat (first|(with_reducible first|exact HB.out|apply z2|apply z1|apply z3|refine z6 ?_ GE101.out|refine z6 ?_ GE102.out|refine z6 ?_ GE103.out)|exact HB.out)⟩⟩
  subst c9
  have H1 : ((zu.f k a0 a2_0 a2_1).bind fun t105=>(zy.j0 k a0 (!t105) a1_0 a1_1 a2_0 a2_1)) = some (r1,r2):=by rw [if_pos rfl] at H;exact H
  clear H
  have H:=H1
  clear H1
  replace H:=Option.bind_eq_some_iff.mp H
  obtain ⟨t105,A100,H⟩:=H
  replace H : (zy.j0 k a0 (!t105) a1_0 a1_1 a2_0 a2_1) = some (r1,r2):=H
  have A10:=z4.mk A100
  clear A100
  have H':=z4.mk H
  clear H
  have hnb11:=NB101_102.out
  have hnc11:=NB102_101.out
  have hnb12:=NB101_103.out
  have hnc12:=NB103_101.out
  have hcz13_0 : w7.cell? ⟨gb101,0,none⟩ = some (.int .u64 a1_0):=(zm BK101.out 0).trans rfl
  have hcz13_1 : w7.cell? ⟨gb101,1,none⟩ = some (.int .u64 a1_1):=(zm BK101.out 1).trans rfl
  have hfz13_0:=zg BK101.out 0
  have hfz13_1:=zg BK101.out 1
  go_wp2_with (first|(go_at_call 67;(with_reducible refine (zu.calls k a0 a1_0 a1_1 true _ A8.out).mono ?_);rintro e w14 ⟨rfl,hb⟩;have n0_:=z4.mk (zr (g:=gb101) (o:=.cells #[.int .u64 a1_0,.int .u64 a1_1] 51 (0,0)) (by (with_reducible repeat (first|refine z8 ?_ _|refine za ?_|refine z7 ?_ _));exact BK101.out) hb);have n1_:=z4.mk (zr (g:=gb102) (o:=.cells #[.int .u64 a2_0,.int .u64 a2_1] 51 (0,0)) (by (with_reducible repeat (first|refine z8 ?_ _|refine za ?_|refine z7 ?_ _));exact BK102.out) hb);have n2_:=z4.mk (zr (g:=gb103) (o:=.cells #[.int .u64 0,.int .u64 0] 51 (0,0)) (by (with_reducible repeat (first|refine z8 ?_ _|refine za ?_|refine z7 ?_ _));exact BK103.out) hb);have n3_:=z4.mk (zc (by repeat (first|(with_reducible first|exact HB.out|apply z2|apply z1|apply z3|refine z6 ?_ GE101.out|refine z6 ?_ GE102.out|refine z6 ?_ GE103.out)|exact HB.out)) hb);clear BK101;clear BK102;clear BK103;clear HB;have BK101:=n0_;have BK102:=n1_;have BK103:=n2_;have HB:=n3_;clear n0_ n1_ n2_ n3_;(try clear hb);(try clear hb2);(try clear hk);(try clear hi);have hnb15:=NB102_103.out;have hnc15:=NB103_102.out;have hcz16_0 : w14.cell? ⟨gb102,0,none⟩ = some (.int .u64 a2_0):=(zm BK102.out 0).trans rfl;have hcz16_1 : w14.cell? ⟨gb102,1,none⟩ = some (.int .u64 a2_1):=(zm BK102.out 1).trans rfl;have hfz16_0:=zg BK102.out 0;have hfz16_1:=zg BK102.out 1)|(go_at_call 67;(with_reducible refine (zu.calls k a0 a2_0 a2_1 t105 _ A10.out).mono ?_);rintro e w17 ⟨rfl,hb⟩;have n0_:=z4.mk (zr (g:=gb101) (o:=.cells #[.int .u64 a1_0,.int .u64 a1_1] 51 (0,0)) (by (with_reducible repeat (first|refine z8 ?_ _|refine za ?_|refine z7 ?_ _));exact BK101.out) hb);have n1_:=z4.mk (zr (g:=gb102) (o:=.cells #[.int .u64 a2_0,.int .u64 a2_1] 51 (0,0)) (by (with_reducible repeat (first|refine z8 ?_ _|refine za ?_|refine z7 ?_ _));exact BK102.out) hb);have n2_:=z4.mk (zr (g:=gb103) (o:=.cells #[.int .u64 0,.int .u64 0] 51 (0,0)) (by (with_reducible repeat (first|refine z8 ?_ _|refine za ?_|refine z7 ?_ _));exact BK103.out) hb);have n3_:=z4.mk (zc (by repeat (first|(with_reducible first|exact HB.out|apply z2|apply z1|apply z3|refine z6 ?_ GE101.out|refine z6 ?_ GE102.out|refine z6 ?_ GE103.out)|exact HB.out)) hb);clear BK101;clear BK102;clear BK103;clear HB;have BK101:=n0_;have BK102:=n1_;have BK103:=n2_;have HB:=n3_;clear n0_ n1_ n2_ n3_;(try clear hb);(try clear hb2);(try clear hk);(try clear hi)))
  repeat (go_quiet (first|(go_at_call 67;(with_reducible refine (zu.calls k a0 a1_0 a1_1 true _ A8.out).mono ?_);rintro e w14 ⟨rfl,hb⟩;have n0_:=z4.mk (zr (g:=gb101) (o:=.cells #[.int .u64 a1_0,.int .u64 a1_1] 51 (0,0)) (by (with_reducible repeat (first|refine z8 ?_ _|refine za ?_|refine z7 ?_ _));exact BK101.out) hb);have n1_:=z4.mk (zr (g:=gb102) (o:=.cells #[.int .u64 a2_0,.int .u64 a2_1] 51 (0,0)) (by (with_reducible repeat (first|refine z8 ?_ _|refine za ?_|refine z7 ?_ _));exact BK102.out) hb);have n2_:=z4.mk (zr (g:=gb103) (o:=.cells #[.int .u64 0,.int .u64 0] 51 (0,0)) (by (with_reducible repeat (first|refine z8 ?_ _|refine za ?_|refine z7 ?_ _));exact BK103.out) hb);have n3_:=z4.mk (zc (by repeat (first|(with_reducible first|exact HB.out|apply z2|apply z1|apply z3|refine z6 ?_ GE101.out|refine z6 ?_ GE102.out|refine z6 ?_ GE103.out)|exact HB.out)) hb);clear BK101;clear BK102;clear BK103;clear HB;have BK101:=n0_;have BK102:=n1_;have BK103:=n2_;have HB:=n3_;clear n0_ n1_ n2_ n3_;(try clear hb);(try clear hb2);(try clear hk);(try clear hi);have hnb15:=NB102_103.out;have hnc15:=NB103_102.out;have hcz16_0 : w14.cell? ⟨gb102,0,none⟩ = some (.int .u64 a2_0):=(zm BK102.out 0).trans rfl;have hcz16_1 : w14.cell? ⟨gb102,1,none⟩ = some (.int .u64 a2_1):=(zm BK102.out 1).trans rfl;have hfz16_0:=zg BK102.out 0;have hfz16_1:=zg BK102.out 1)|(go_at_call 67;(with_reducible refine (zu.calls k a0 a2_0 a2_1 t105 _ A10.out).mono ?_);rintro e w17 ⟨rfl,hb⟩;have n0_:=z4.mk (zr (g:=gb101) (o:=.cells #[.int .u64 a1_0,.int .u64 a1_1] 51 (0,0)) (by (with_reducible repeat (first|refine z8 ?_ _|refine za ?_|refine z7 ?_ _));exact BK101.out) hb);have n1_:=z4.mk (zr (g:=gb102) (o:=.cells #[.int .u64 a2_0,.int .u64 a2_1] 51 (0,0)) (by (with_reducible repeat (first|refine z8 ?_ _|refine za ?_|refine z7 ?_ _));exact BK102.out) hb);have n2_:=z4.mk (zr (g:=gb103) (o:=.cells #[.int .u64 0,.int .u64 0] 51 (0,0)) (by (with_reducible repeat (first|refine z8 ?_ _|refine za ?_|refine z7 ?_ _));exact BK103.out) hb);have n3_:=z4.mk (zc (by repeat (first|(with_reducible first|exact HB.out|apply z2|apply z1|apply z3|refine z6 ?_ GE101.out|refine z6 ?_ GE102.out|refine z6 ?_ GE103.out)|exact HB.out)) hb);clear BK101;clear BK102;clear BK103;clear HB;have BK101:=n0_;have BK102:=n1_;have BK103:=n2_;have HB:=n3_;clear n0_ n1_ n2_ n3_;(try clear hb);(try clear hb2);(try clear hk);(try clear hi)));try go_wp2_with (first|(go_at_call 67;(with_reducible refine (zu.calls k a0 a1_0 a1_1 true _ A8.out).mono ?_);rintro e w14 ⟨rfl,hb⟩;have n0_:=z4.mk (zr (g:=gb101) (o:=.cells #[.int .u64 a1_0,.int .u64 a1_1] 51 (0,0)) (by (with_reducible repeat (first|refine z8 ?_ _|refine za ?_|refine z7 ?_ _));exact BK101.out) hb);have n1_:=z4.mk (zr (g:=gb102) (o:=.cells #[.int .u64 a2_0,.int .u64 a2_1] 51 (0,0)) (by (with_reducible repeat (first|refine z8 ?_ _|refine za ?_|refine z7 ?_ _));exact BK102.out) hb);have n2_:=z4.mk (zr (g:=gb103) (o:=.cells #[.int .u64 0,.int .u64 0] 51 (0,0)) (by (with_reducible repeat (first|refine z8 ?_ _|refine za ?_|refine z7 ?_ _));exact BK103.out) hb);have n3_:=z4.mk (zc (by repeat (first|(with_reducible first|exact HB.out|apply z2|apply z1|apply z3|refine z6 ?_ GE101.out|refine z6 ?_ GE102.out|refine z6 ?_ GE103.out)|exact HB.out)) hb);clear BK101;clear BK102;clear BK103;clear HB;have BK101:=n0_;have BK102:=n1_;have BK103:=n2_;have HB:=n3_;clear n0_ n1_ n2_ n3_;(try clear hb);(try clear hb2);(try clear hk);(try clear hi);have hnb15:=NB102_103.out;have hnc15:=NB103_102.out;have hcz16_0 : w14.cell? ⟨gb102,0,none⟩ = some (.int .u64 a2_0):=(zm BK102.out 0).trans rfl;have hcz16_1 : w14.cell? ⟨gb102,1,none⟩ = some (.int .u64 a2_1):=(zm BK102.out 1).trans rfl;have hfz16_0:=zg BK102.out 0;have hfz16_1:=zg BK102.out 1)|(go_at_call 67;(with_reducible refine (zu.calls k a0 a2_0 a2_1 t105 _ A10.out).mono ?_);rintro e w17 ⟨rfl,hb⟩;have n0_:=z4.mk (zr (g:=gb101) (o:=.cells #[.int .u64 a1_0,.int .u64 a1_1] 51 (0,0)) (by (with_reducible repeat (first|refine z8 ?_ _|refine za ?_|refine z7 ?_ _));exact BK101.out) hb);have n1_:=z4.mk (zr (g:=gb102) (o:=.cells #[.int .u64 a2_0,.int .u64 a2_1] 51 (0,0)) (by (with_reducible repeat (first|refine z8 ?_ _|refine za ?_|refine z7 ?_ _));exact BK102.out) hb);have n2_:=z4.mk (zr (g:=gb103) (o:=.cells #[.int .u64 0,.int .u64 0] 51 (0,0)) (by (with_reducible repeat (first|refine z8 ?_ _|refine za ?_|refine z7 ?_ _));exact BK103.out) hb);have n3_:=z4.mk (zc (by repeat (first|(with_reducible first|exact HB.out|apply z2|apply z1|apply z3|refine z6 ?_ GE101.out|refine z6 ?_ GE102.out|refine z6 ?_ GE103.out)|exact HB.out)) hb);clear BK101;clear BK102;clear BK103;clear HB;have BK101:=n0_;have BK102:=n1_;have BK103:=n2_;have HB:=n3_;clear n0_ n1_ n2_ n3_;(try clear hb);(try clear hb2);(try clear hk);(try clear hi))))
  go_meet
  case rel=>exact ⟨_,(!t105),(by first|rfl|(simp;done)|(simp [*];done)),H',⟨by first|omega|exact Nat.le_refl _⟩,⟨by (with_reducible repeat (first|refine z8 ?_ _|refine za ?_|refine z7 ?_ _));exact BK101.out⟩,⟨by (with_reducible repeat (first|refine z8 ?_ _|refine za ?_|refine z7 ?_ _));exact BK102.out⟩,⟨by (with_reducible repeat (first|refine z8 ?_ _|refine za ?_|refine z7 ?_ _));exact BK103.out⟩,⟨by repeat (first|(with_reducible first|exact HB.out|apply z2|apply z1|apply z3|refine z6 ?_ GE101.out|refine z6 ?_ GE102.out|refine z6 ?_ GE103.out)|exact HB.out)⟩⟩
 case rest =>
  clear HC4
  (try clear c1);(try clear p2);(try clear c4);(try clear c9);(try clear c11);(try clear c12);(try clear c15);(try clear c18);(try clear c19);(try clear hcz13_0);(try clear hcz13_1);(try clear hcz16_0);(try clear hcz16_1);(try clear hcz20_0);(try clear hcz20_1);(try clear hfz13_0);(try clear hfz13_1);(try clear hfz16_0);(try clear hfz16_1);(try clear hfz20_0);(try clear hfz20_1)
  obtain ⟨kq,x10_3,rfl,HA,HJ3,BK101,BK102,BK103,HB⟩:=hcut
  cases kq with
  | zero=>exact absurd HA.out (by simp [zy.j0])
  | succ kj3 =>
   have H:=HA.out
   clear HA
   simp only [zy.j0] at H
   by_cases c22 : x10_3 = true
   · subst c22
     have H1 : (some (0,0)) = some (r1,r2):=by rw [if_pos rfl] at H;exact H
     clear H
     have H:=H1
     clear H1
     simp only [Option.some.injEq,Prod.mk.injEq] at H
     obtain ⟨rfl,rfl⟩:=H
     have hnb23:=NB103_101.out
     have hnc23:=NB101_103.out
     have hnb24:=NB103_102.out
     have hnc24:=NB102_103.out
     have hcz25_0 : wc.cell? ⟨gb103,0,none⟩ = some (.int .u64 0):=(zm BK103.out 0).trans rfl
     have hcz25_1 : wc.cell? ⟨gb103,1,none⟩ = some (.int .u64 0):=(zm BK103.out 1).trans rfl
     have hfz25_0:=zg BK103.out 0
     have hfz25_1:=zg BK103.out 1
     go_wp2
     repeat (go_quiet (fail);try go_wp2)
     refine bodyPost_ret (results_cell_row rfl _ _ gb103 51 #[.int .u64 0,.int .u64 0] (0,0) _ rfl (by (with_reducible repeat (first|refine z8 ?_ _|refine za ?_|refine z7 ?_ _));refine z11 (cs:=#[.int .u64 0,.int .u64 0]) ?_ 1 _ rfl;(with_reducible repeat (first|refine z8 ?_ _|refine za ?_|refine z7 ?_ _));refine z11 (cs:=#[.int .u64 0,.int .u64 0]) ?_ 0 _ rfl;(with_reducible repeat (first|refine z8 ?_ _|refine za ?_|refine z7 ?_ _));exact BK103.out) Try.underlying51 rfl (by kernel_rfl)) rfl ?_
     exact ⟨by first|rfl|(simp [ze,zf] <;> rfl)|(simp [*,ze,zf] <;> rfl),by repeat (first|(with_reducible first|exact HB.out|apply z2|apply z1|apply z3|refine z6 ?_ GE101.out|refine z6 ?_ GE102.out|refine z6 ?_ GE103.out)|exact HB.out)⟩
   replace c22:=Bool.eq_false_iff.mpr c22
   subst c22
   have H1 : (if a0 ≤ 6 then ((zl.f kj3 a0 a1_1 a2_1).bind fun t106=>(some (0,t106))) else ((zl.f kj3 6 a1_0 a2_0).bind fun t107=>((zl.f kj3 6 a1_1 a2_1).bind fun t108=>((zl.f kj3 6 (Go.bits .xor .u64 a1_0 a1_1) (Go.bits .xor .u64 a2_0 a2_1)).bind fun t109=>((zt.f kj3 6 t107).bind fun t110=>(some (Go.bits .xor .u64 (Go.bits .xor .u64 (Go.bits .xor .u64 t109 t107) t108) t110,Go.bits .xor .u64 t108 t107))))))) = some (r1,r2):=by rw [if_neg (show ¬ (false = true) by decide)] at H;exact H
   clear H
   have H:=H1
   clear H1
   by_cases c26 : a0 ≤ 6
   · rw [if_pos c26] at H
     have c26b0 : decide (a0 ≤ 6) = true:=decide_eq_true c26
     clear c26
     replace H:=Option.bind_eq_some_iff.mp H
     obtain ⟨t106,A270,H⟩:=H
     replace H : (some (0,t106)) = some (r1,r2):=H
     have A27:=z4.mk A270
     clear A270
     simp only [Option.some.injEq,Prod.mk.injEq] at H
     obtain ⟨rfl,rfl⟩:=H
     have hnb28:=NB101_102.out
     have hnc28:=NB102_101.out
     have hnb29:=NB101_103.out
     have hnc29:=NB103_101.out
     have hcz30_0 : wc.cell? ⟨gb101,0,none⟩ = some (.int .u64 a1_0):=(zm BK101.out 0).trans rfl
     have hcz30_1 : wc.cell? ⟨gb101,1,none⟩ = some (.int .u64 a1_1):=(zm BK101.out 1).trans rfl
     have hfz30_0:=zg BK101.out 0
     have hfz30_1:=zg BK101.out 1
     have hnb31:=NB102_103.out
     have hnc31:=NB103_102.out
     have hcz32_0 : wc.cell? ⟨gb102,0,none⟩ = some (.int .u64 a2_0):=(zm BK102.out 0).trans rfl
     have hcz32_1 : wc.cell? ⟨gb102,1,none⟩ = some (.int .u64 a2_1):=(zm BK102.out 1).trans rfl
     have hfz32_0:=zg BK102.out 0
     have hfz32_1:=zg BK102.out 1
     go_wp2_with (first|(go_at_call 82;(with_reducible refine (zl.calls kj3 a0 a1_1 a2_1 t106 _ A27.out).mono ?_);rintro e w' ⟨rfl,⟨nd,rfl⟩⟩;(try first|exact ⟨rfl,_,World.drewN_drewN _ _ _⟩|exact ⟨rfl,_,Eq.trans (World.drewN_drewN _ _ _) (congrArg (World.drewN _) (Nat.add_assoc _ _ _))⟩);have hcz33_0 : wc.cell? ⟨gb103,0,none⟩ = some (.int .u64 0):=(zm BK103.out 0).trans rfl;have hcz33_1 : wc.cell? ⟨gb103,1,none⟩ = some (.int .u64 0):=(zm BK103.out 1).trans rfl;have hfz33_0:=zg BK103.out 0;have hfz33_1:=zg BK103.out 1))
     repeat (go_quiet (first|(go_at_call 82;(with_reducible refine (zl.calls kj3 a0 a1_1 a2_1 t106 _ A27.out).mono ?_);rintro e w' ⟨rfl,⟨nd,rfl⟩⟩;(try first|exact ⟨rfl,_,World.drewN_drewN _ _ _⟩|exact ⟨rfl,_,Eq.trans (World.drewN_drewN _ _ _) (congrArg (World.drewN _) (Nat.add_assoc _ _ _))⟩);have hcz33_0 : wc.cell? ⟨gb103,0,none⟩ = some (.int .u64 0):=(zm BK103.out 0).trans rfl;have hcz33_1 : wc.cell? ⟨gb103,1,none⟩ = some (.int .u64 0):=(zm BK103.out 1).trans rfl;have hfz33_0:=zg BK103.out 0;have hfz33_1:=zg BK103.out 1));try go_wp2_with (first|(go_at_call 82;(with_reducible refine (zl.calls kj3 a0 a1_1 a2_1 t106 _ A27.out).mono ?_);rintro e w' ⟨rfl,⟨nd,rfl⟩⟩;(try first|exact ⟨rfl,_,World.drewN_drewN _ _ _⟩|exact ⟨rfl,_,Eq.trans (World.drewN_drewN _ _ _) (congrArg (World.drewN _) (Nat.add_assoc _ _ _))⟩);have hcz33_0 : wc.cell? ⟨gb103,0,none⟩ = some (.int .u64 0):=(zm BK103.out 0).trans rfl;have hcz33_1 : wc.cell? ⟨gb103,1,none⟩ = some (.int .u64 0):=(zm BK103.out 1).trans rfl;have hfz33_0:=zg BK103.out 0;have hfz33_1:=zg BK103.out 1)))
     refine bodyPost_ret (results_cell_row rfl _ _ gb103 51 #[.int .u64 0,.int .u64 t106] (0,0) _ rfl (by (with_reducible repeat (first|refine z8 ?_ _|refine za ?_|refine z7 ?_ _));refine z11 (cs:=#[.int .u64 0,.int .u64 0]) ?_ 1 _ rfl;(with_reducible repeat (first|refine z8 ?_ _|refine za ?_|refine z7 ?_ _));refine z11 (cs:=#[.int .u64 0,.int .u64 0]) ?_ 0 _ rfl;(with_reducible repeat (first|refine z8 ?_ _|refine za ?_|refine z7 ?_ _));exact BK103.out) Try.underlying51 rfl (by kernel_rfl)) rfl ?_
     exact ⟨by first|rfl|(simp [ze,zf] <;> rfl)|(simp [*,ze,zf] <;> rfl),by repeat (first|(with_reducible first|exact HB.out|apply z2|apply z1|apply z3|refine z6 ?_ GE101.out|refine z6 ?_ GE102.out|refine z6 ?_ GE103.out)|exact HB.out)⟩
   rw [if_neg c26] at H
   have c26b0 : decide (a0 ≤ 6) = false:=decide_eq_false c26
   clear c26
   replace H:=Option.bind_eq_some_iff.mp H
   obtain ⟨t107,A340,H⟩:=H
   replace H : ((zl.f kj3 6 a1_1 a2_1).bind fun t108=>((zl.f kj3 6 (Go.bits .xor .u64 a1_0 a1_1) (Go.bits .xor .u64 a2_0 a2_1)).bind fun t109=>((zt.f kj3 6 t107).bind fun t110=>(some (Go.bits .xor .u64 (Go.bits .xor .u64 (Go.bits .xor .u64 t109 t107) t108) t110,Go.bits .xor .u64 t108 t107))))) = some (r1,r2):=H
   have A34:=z4.mk A340
   clear A340
   replace H:=Option.bind_eq_some_iff.mp H
   obtain ⟨t108,A350,H⟩:=H
   replace H : ((zl.f kj3 6 (Go.bits .xor .u64 a1_0 a1_1) (Go.bits .xor .u64 a2_0 a2_1)).bind fun t109=>((zt.f kj3 6 t107).bind fun t110=>(some (Go.bits .xor .u64 (Go.bits .xor .u64 (Go.bits .xor .u64 t109 t107) t108) t110,Go.bits .xor .u64 t108 t107)))) = some (r1,r2):=H
   have A35:=z4.mk A350
   clear A350
   replace H:=Option.bind_eq_some_iff.mp H
   obtain ⟨t109,A360,H⟩:=H
   replace H : ((zt.f kj3 6 t107).bind fun t110=>(some (Go.bits .xor .u64 (Go.bits .xor .u64 (Go.bits .xor .u64 t109 t107) t108) t110,Go.bits .xor .u64 t108 t107))) = some (r1,r2):=H
   have A36:=z4.mk A360
   clear A360
   replace H:=Option.bind_eq_some_iff.mp H
   obtain ⟨t110,A370,H⟩:=H
   replace H : (some (Go.bits .xor .u64 (Go.bits .xor .u64 (Go.bits .xor .u64 t109 t107) t108) t110,Go.bits .xor .u64 t108 t107)) = some (r1,r2):=H
   have A37:=z4.mk A370
   clear A370
   simp only [Option.some.injEq,Prod.mk.injEq] at H
   obtain ⟨rfl,rfl⟩:=H
   have hnb38:=NB101_102.out
   have hnc38:=NB102_101.out
   have hnb39:=NB101_103.out
   have hnc39:=NB103_101.out
   have hcz40_0 : wc.cell? ⟨gb101,0,none⟩ = some (.int .u64 a1_0):=(zm BK101.out 0).trans rfl
   have hcz40_1 : wc.cell? ⟨gb101,1,none⟩ = some (.int .u64 a1_1):=(zm BK101.out 1).trans rfl
   have hfz40_0:=zg BK101.out 0
   have hfz40_1:=zg BK101.out 1
   have hnb41:=NB102_103.out
   have hnc41:=NB103_102.out
   have hcz42_0 : wc.cell? ⟨gb102,0,none⟩ = some (.int .u64 a2_0):=(zm BK102.out 0).trans rfl
   have hcz42_1 : wc.cell? ⟨gb102,1,none⟩ = some (.int .u64 a2_1):=(zm BK102.out 1).trans rfl
   have hfz42_0:=zg BK102.out 0
   have hfz42_1:=zg BK102.out 1
   go_wp2_with (first|(go_at_call 82;(with_reducible refine (zl.calls kj3 6 a1_0 a2_0 t107 _ A34.out).mono ?_);rintro e w' ⟨rfl,⟨nd,rfl⟩⟩;(try first|exact ⟨rfl,_,World.drewN_drewN _ _ _⟩|exact ⟨rfl,_,Eq.trans (World.drewN_drewN _ _ _) (congrArg (World.drewN _) (Nat.add_assoc _ _ _))⟩))|(go_at_call 82;(with_reducible refine (zl.calls kj3 6 a1_1 a2_1 t108 _ A35.out).mono ?_);rintro e w' ⟨rfl,⟨nd,rfl⟩⟩;(try first|exact ⟨rfl,_,World.drewN_drewN _ _ _⟩|exact ⟨rfl,_,Eq.trans (World.drewN_drewN _ _ _) (congrArg (World.drewN _) (Nat.add_assoc _ _ _))⟩))|(go_at_call 82;(with_reducible refine (zl.calls kj3 6 (Go.bits .xor .u64 a1_0 a1_1) (Go.bits .xor .u64 a2_0 a2_1) t109 _ A36.out).mono ?_);rintro e w' ⟨rfl,⟨nd,rfl⟩⟩;(try first|exact ⟨rfl,_,World.drewN_drewN _ _ _⟩|exact ⟨rfl,_,Eq.trans (World.drewN_drewN _ _ _) (congrArg (World.drewN _) (Nat.add_assoc _ _ _))⟩))|(go_at_call 83;(with_reducible refine (zt.calls kj3 6 t107 t110 _ A37.out).mono ?_);rintro e w' ⟨rfl,⟨nd,rfl⟩⟩;(try first|exact ⟨rfl,_,World.drewN_drewN _ _ _⟩|exact ⟨rfl,_,Eq.trans (World.drewN_drewN _ _ _) (congrArg (World.drewN _) (Nat.add_assoc _ _ _))⟩);have hcz43_0 : wc.cell? ⟨gb103,0,none⟩ = some (.int .u64 0):=(zm BK103.out 0).trans rfl;have hcz43_1 : wc.cell? ⟨gb103,1,none⟩ = some (.int .u64 0):=(zm BK103.out 1).trans rfl;have hfz43_0:=zg BK103.out 0;have hfz43_1:=zg BK103.out 1))
   repeat (go_quiet (first|(go_at_call 82;(with_reducible refine (zl.calls kj3 6 a1_0 a2_0 t107 _ A34.out).mono ?_);rintro e w' ⟨rfl,⟨nd,rfl⟩⟩;(try first|exact ⟨rfl,_,World.drewN_drewN _ _ _⟩|exact ⟨rfl,_,Eq.trans (World.drewN_drewN _ _ _) (congrArg (World.drewN _) (Nat.add_assoc _ _ _))⟩))|(go_at_call 82;(with_reducible refine (zl.calls kj3 6 a1_1 a2_1 t108 _ A35.out).mono ?_);rintro e w' ⟨rfl,⟨nd,rfl⟩⟩;(try first|exact ⟨rfl,_,World.drewN_drewN _ _ _⟩|exact ⟨rfl,_,Eq.trans (World.drewN_drewN _ _ _) (congrArg (World.drewN _) (Nat.add_assoc _ _ _))⟩))|(go_at_call 82;(with_reducible refine (zl.calls kj3 6 (Go.bits .xor .u64 a1_0 a1_1) (Go.bits .xor .u64 a2_0 a2_1) t109 _ A36.out).mono ?_);rintro e w' ⟨rfl,⟨nd,rfl⟩⟩;(try first|exact ⟨rfl,_,World.drewN_drewN _ _ _⟩|exact ⟨rfl,_,Eq.trans (World.drewN_drewN _ _ _) (congrArg (World.drewN _) (Nat.add_assoc _ _ _))⟩))|(go_at_call 83;(with_reducible refine (zt.calls kj3 6 t107 t110 _ A37.out).mono ?_);rintro e w' ⟨rfl,⟨nd,rfl⟩⟩;(try first|exact ⟨rfl,_,World.drewN_drewN _ _ _⟩|exact ⟨rfl,_,Eq.trans (World.drewN_drewN _ _ _) (congrArg (World.drewN _) (Nat.add_assoc _ _ _))⟩);have hcz43_0 : wc.cell? ⟨gb103,0,none⟩ = some (.int .u64 0):=(zm BK103.out 0).trans rfl;have hcz43_1 : wc.cell? ⟨gb103,1,none⟩ = some (.int .u64 0):=(zm BK103.out 1).trans rfl;have hfz43_0:=zg BK103.out 0;have hfz43_1:=zg BK103.out 1));try go_wp2_with (first|(go_at_call 82;(with_reducible refine (zl.calls kj3 6 a1_0 a2_0 t107 _ A34.out).mono ?_);rintro e w' ⟨rfl,⟨nd,rfl⟩⟩;(try first|exact ⟨rfl,_,World.drewN_drewN _ _ _⟩|exact ⟨rfl,_,Eq.trans (World.drewN_drewN _ _ _) (congrArg (World.drewN _) (Nat.add_assoc _ _ _))⟩))|(go_at_call 82;(with_reducible refine (zl.calls kj3 6 a1_1 a2_1 t108 _ A35.out).mono ?_);rintro e w' ⟨rfl,⟨nd,rfl⟩⟩;(try first|exact ⟨rfl,_,World.drewN_drewN _ _ _⟩|exact ⟨rfl,_,Eq.trans (World.drewN_drewN _ _ _) (congrArg (World.drewN _) (Nat.add_assoc _ _ _))⟩))|(go_at_call 82;(with_reducible refine (zl.calls kj3 6 (Go.bits .xor .u64 a1_0 a1_1) (Go.bits .xor .u64 a2_0 a2_1) t109 _ A36.out).mono ?_);rintro e w' ⟨rfl,⟨nd,rfl⟩⟩;(try first|exact ⟨rfl,_,World.drewN_drewN _ _ _⟩|exact ⟨rfl,_,Eq.trans (World.drewN_drewN _ _ _) (congrArg (World.drewN _) (Nat.add_assoc _ _ _))⟩))|(go_at_call 83;(with_reducible refine (zt.calls kj3 6 t107 t110 _ A37.out).mono ?_);rintro e w' ⟨rfl,⟨nd,rfl⟩⟩;(try first|exact ⟨rfl,_,World.drewN_drewN _ _ _⟩|exact ⟨rfl,_,Eq.trans (World.drewN_drewN _ _ _) (congrArg (World.drewN _) (Nat.add_assoc _ _ _))⟩);have hcz43_0 : wc.cell? ⟨gb103,0,none⟩ = some (.int .u64 0):=(zm BK103.out 0).trans rfl;have hcz43_1 : wc.cell? ⟨gb103,1,none⟩ = some (.int .u64 0):=(zm BK103.out 1).trans rfl;have hfz43_0:=zg BK103.out 0;have hfz43_1:=zg BK103.out 1)))
   refine bodyPost_ret (results_cell_row rfl _ _ gb103 51 #[.int .u64 (Go.bits .xor .u64 (Go.bits .xor .u64 (Go.bits .xor .u64 t109 t107) t108) t110),.int .u64 (Go.bits .xor .u64 t108 t107)] (0,0) _ rfl (by (with_reducible repeat (first|refine z8 ?_ _|refine za ?_|refine z7 ?_ _));refine z11 (cs:=#[.int .u64 (Go.bits .xor .u64 (Go.bits .xor .u64 (Go.bits .xor .u64 t109 t107) t108) t110),.int .u64 0]) ?_ 1 _ rfl;(with_reducible repeat (first|refine z8 ?_ _|refine za ?_|refine z7 ?_ _));refine z11 (cs:=#[.int .u64 0,.int .u64 0]) ?_ 0 _ rfl;(with_reducible repeat (first|refine z8 ?_ _|refine za ?_|refine z7 ?_ _));exact BK103.out) Try.underlying51 rfl (by kernel_rfl)) rfl ?_
   exact ⟨by first|rfl|(simp [ze,zf] <;> rfl)|(simp [*,ze,zf] <;> rfl),by repeat (first|(with_reducible first|exact HB.out|apply z2|apply z1|apply z3|refine z6 ?_ GE101.out|refine z6 ?_ GE102.out|refine z6 ?_ GE103.out)|exact HB.out)⟩
end Go.Proofs.Ytngcaphdkgihmaa.P
/- What the functions of layers 1 and 2 on elements tell. Own text. -/
namespace Go.Proofs.Ytngcaphdkgihmaa.Sp
open Go.RowKit Go.Proofs.YtngcaphdkgihmaaW.PrintWords Go.Proofs.YtngcaphdkgihmaaW.PrintMore Go.Proofs.Ytngcaphdkgihmaa.P Go.Proofs.Ytngcaphdkgihmaa.Ar Go.Proofs.Ytngcaphdkgihmaa.Tw
set_option linter.unusedVariables false
set_option linter.unusedSimpArgs false
theorem z2o {n : Nat} (h : n ≤ 6) : Q n ≤ 2 ^ 64 := z36 h
theorem Q_dvd {n : Nat} : Q n = 2 ^ 2 ^ n := rfl
theorem z1q {n : Nat} (h : n ≤ 5) : 2 ^ n ≤ 32 := Nat.pow_le_pow_right (n := 2) (by decide) h
theorem z2j {l : Nat} (h : l + 1 ≤ 1000) : wrap64 (((l + 1 : Nat) : Int) - 1) = (l : Int) := by rw [z2F (by omega) (by omega)]; omega
theorem z2Q {n : Nat} (h : n ≤ 5) : Q n < 2 ^ 64 := Nat.pow_lt_pow_right (by decide) (by have := z1q h; omega)
theorem z2s {l : Nat} (hl : l ≤ 5) (x : Nat) (hx : x < 2 ^ 64) : zL.f ((l + 1 : Nat) : Int) (x : Int) = some (((x / Q l : Nat) : Int), ((x % Q l : Nat) : Int)) := by
  unfold zL.f
  have h32 := z1q hl
  have hQ := z2Q hl
  have hm : IntKind.u64.wrap (((2 ^ 2 ^ l : Nat) : Int) - 1) = ((2 ^ 2 ^ l - 1 : Nat) : Int) := by
    have := Nat.two_pow_pos (2 ^ l)
    unfold Q at hQ
    generalize 2 ^ 2 ^ l = q at *
    rw [z2c (by omega) (by omega)]; omega
  rw [z2j (by omega), if_pos (Int.natCast_nonneg _), z4B l (by omega), if_pos (Int.natCast_nonneg _), z3y x (2 ^ l) (by omega), z3x (2 ^ l) (by omega), hm]
  rw [z2T x _ hx (by have := Nat.two_pow_pos (2 ^ l); unfold Q at hQ; omega), Nat.and_two_pow_sub_one_eq_mod]
  rfl
theorem z4j {l : Nat} (hl : l ≤ 5) (h x : Nat) (hh : h < Q l) (hx : x < Q l) : zM.f ((l + 1 : Nat) : Int) (h : Int) (x : Int) = some ((h * Q l + x : Nat) : Int) := by
  unfold zM.f
  have h32 := z1q hl
  have hQ := z2Q hl
  have h6 : Q (l + 1) ≤ 2 ^ 64 := z2o (by omega)
  have hhx : h * Q l + Q l ≤ Q (l + 1) := by
    rw [z2p]
    have := Nat.mul_le_mul_right (Q l) hh
    rw [Nat.succ_mul] at this; exact this
  have hs : shl .u64 (h : Int) (((2 ^ l : Nat) : Int)) = ((h * Q l : Nat) : Int) := by
    unfold shl
    have h64 : IntKind.u64.bits = 64 := rfl
    rw [h64, Int.toNat_natCast, Nat.min_eq_left (by omega)]
    have hc : ((h : Int) * 2 ^ 2 ^ l) = ((h * Q l : Nat) : Int) := by unfold Q; simp
    rw [hc]
    have : h * Q l < 2 ^ 64 := by omega
    generalize h * Q l = z at *
    exact z2c (by omega) (by omega)
  rw [z2j (by omega), if_pos (by omega), z3x l (by omega), hs, or_u64 _ _ (by omega) (by omega)]
  congr 2
  unfold Q at *
  rw [Nat.mul_comm, ← Nat.two_pow_add_eq_or_of_lt hx]
theorem z4o : ∀ (l : Nat), l ≤ 6 → ∀ (x : Nat), x < Q l → Ev (fun k => zt.f k (l : Int) (x : Int)) ((val (gen l * of l x) : Nat) : Int) := by
  intro l
  induction l with
  | zero =>
    intro _ x hx
    refine Ev.step (fun k => by rw [zt.f]) (Ev.pos (by rfl) (Ev.ret' ?_))
    rw [gen_zero, one_mul, z1G 0 x hx]
  | succ l ih =>
    intro hl x hx
    have hx64 : x < 2 ^ 64 := Nat.lt_of_lt_of_le hx (z2o hl)
    have hd : x / Q l < Q l := Nat.div_lt_of_lt_mul (by rw [← z2p]; exact hx)
    have hm : x % Q l < Q l := Nat.mod_lt _ (z3o l)
    have hQ := z2Q (n := l) (by omega)
    refine Ev.step (fun k => by rw [zt.f]) (Ev.neg (by omega) (Ev.bnd0 (z2s (by omega) x hx64) ?_))
    simp only [z2j (show l + 1 ≤ 1000 by omega)]
    refine Ev.bnd (ih (by omega) _ hd) ?_
    have hv := zV (gen l * of l (x / Q l))
    simp only [z1h _ _ (Nat.lt_trans hm hQ) (Nat.lt_trans hv hQ)]
    refine Ev.bnd0 (z4j (by omega) _ _ (z1w hm hv) hd) (Ev.ret' ?_)
    congr 1
    rw [z1c (gen (l + 1) * of (l + 1) x)]
    congr 1
    · congr 1
      have e : (gen (l + 1) * of (l + 1) x).1 = of l (x % Q l) + gen l * of l (x / Q l) := by
        rw [z1x, z4f, z4g, one_mul, zero_mul, one_mul, add_zero]; rfl
      rw [e, z17, z1G _ _ hm]
    · have e : (gen (l + 1) * of (l + 1) x).2 = of l (x / Q l) := by
        rw [z1y, z4f, z4g, one_mul, zero_mul, zero_add]; rfl
      rw [e, z1G _ _ hd]
theorem karatsuba {n : Nat} (a1 a0 b1 b0 z : T n) : (a1 + a0) * (b1 + b0) + a1 * b1 + a0 * b0 + z = (a1 * b0 + a0 * b1) + z := by
  have : (a1 + a0) * (b1 + b0) + a1 * b1 + a0 * b0 = a1 * b0 + a0 * b1 := by
    simp only [mul_add, add_mul]
    have : ∀ p q r s : T n, p + q + (r + s) + p + s = q + r := fun p q r s => by
      rw [add_comm p q, add_assoc, add_assoc, add_assoc]
      rw [show p + (r + s + (p + s)) = (p + p) + (r + (s + s)) by simp only [add_assoc, z1j, add_comm]]
      rw [z1u, z1u, zero_add, add_zero]
    rw [show a1 * b1 + a0 * b1 + (a1 * b0 + a0 * b0) = a1 * b1 + a0 * b1 + (a1 * b0 + a0 * b0) from rfl, this, add_comm]
  rw [this]
theorem z3M : ∀ (l : Nat), l ≤ 6 → ∀ (x y : Nat), x < Q l → y < Q l → Ev (fun k => zl.f k (l : Int) (x : Int) (y : Int)) ((val (of l x * of l y) : Nat) : Int) := by
  intro l
  have hz : ∀ (l : Nat), l ≤ 6 → ∀ (x y : Nat), x < Q l → y < Q l → (l = 0 ∨ x = 0 ∨ y = 0) → Ev (fun k => zl.j0 k (l : Int) (x : Int) (y : Int) true) ((val (of l x * of l y) : Nat) : Int) := by
    intro l hl x y hx hy h
    have hQ := z2o hl
    refine Ev.step (fun k => by rw [zl.j0]) (Ev.pos rfl (Ev.ret' ?_))
    rw [z2T x y (by omega) (by omega)]
    have hxy : x &&& y < 2 ^ 64 := Nat.and_lt_two_pow _ (by omega)
    rw [show (1 : Int) = ((1 : Nat) : Int) from rfl, z2T _ 1 hxy (by decide)]
    congr 1
    rcases h with rfl | rfl | rfl
    · have h1 : x < 2 := hx
      have h2 : y < 2 := hy
      rcases (by omega : x = 0 ∨ x = 1) with rfl | rfl <;> rcases (by omega : y = 0 ∨ y = 1) with rfl | rfl <;> rfl
    · rw [z3u, zero_mul, z1d]; simp
    · rw [z3u, z2X, z1d]; simp
  induction l with
  | zero =>
    intro hl x y hx hy
    exact Ev.step (fun k => by rw [zl.f]) (Ev.pos (by rfl) (hz 0 hl x y hx hy (Or.inl rfl)))
  | succ l ih =>
    intro hl x y hx hy
    refine Ev.step (fun k => by rw [zl.f]) (Ev.neg (by omega) ?_)
    by_cases hx0 : x = 0
    · exact Ev.pos (by omega) (hz (l + 1) hl x y hx hy (Or.inr (Or.inl hx0)))
    refine Ev.neg (by omega) ?_
    by_cases hy0 : y = 0
    · rw [show ((y : Int) == 0) = true by simp [hy0]]
      exact hz (l + 1) hl x y hx hy (Or.inr (Or.inr hy0))
    rw [show ((y : Int) == 0) = false by simp [hy0]]
    have hQ := z2Q (n := l) (by omega)
    have hx64 : x < 2 ^ 64 := Nat.lt_of_lt_of_le hx (z2o hl)
    have hy64 : y < 2 ^ 64 := Nat.lt_of_lt_of_le hy (z2o hl)
    have hxd : x / Q l < Q l := Nat.div_lt_of_lt_mul (by rw [← z2p]; exact hx)
    have hxm : x % Q l < Q l := Nat.mod_lt _ (z3o l)
    have hyd : y / Q l < Q l := Nat.div_lt_of_lt_mul (by rw [← z2p]; exact hy)
    have hym : y % Q l < Q l := Nat.mod_lt _ (z3o l)
    have hl5 : l ≤ 5 := by omega
    refine Ev.step (fun k => by rw [zl.j0]) (Ev.neg (by decide) (Ev.bnd0 (z2s hl5 x hx64) (Ev.bnd0 (z2s hl5 y hy64) ?_)))
    simp only [z2j (show l + 1 ≤ 1000 by omega)]
    refine Ev.bnd (ih (by omega) _ _ hxd hyd) (Ev.bnd (ih (by omega) _ _ hxm hym) ?_)
    simp only [z1h _ _ (Nat.lt_trans hxd hQ) (Nat.lt_trans hxm hQ), z1h _ _ (Nat.lt_trans hyd hQ) (Nat.lt_trans hym hQ)]
    refine Ev.bnd (ih (by omega) _ _ (z1w hxd hxm) (z1w hyd hym)) ?_
    have v1 := zV (of l (x / Q l) * of l (y / Q l))
    have v2 := zV (of l (x % Q l) * of l (y % Q l))
    have v3 := zV (of l (x / Q l ^^^ x % Q l) * of l (y / Q l ^^^ y % Q l))
    refine Ev.bnd (z4o l (by omega) _ v1) ?_
    have v4 := zV (gen l * of l (val (of l (x / Q l) * of l (y / Q l))))
    simp only [z1h _ _ (Nat.lt_trans v3 hQ) (Nat.lt_trans v1 hQ), z1h _ _ (Nat.lt_trans (z1w v3 v1) hQ) (Nat.lt_trans v2 hQ), z1h _ _ (Nat.lt_trans (z1w (z1w v3 v1) v2) hQ) (Nat.lt_trans v4 hQ), z1h _ _ (Nat.lt_trans v2 hQ) (Nat.lt_trans v1 hQ)]
    refine Ev.bnd0 (z4j (by omega) _ _ (z1w (z1w (z1w v3 v1) v2) v4) (z1w v2 v1)) (Ev.ret' ?_)
    congr 1
    rw [z1c (of (l + 1) x * of (l + 1) y)]
    congr 1
    · congr 1
      rw [z1x, z1T, z1T, z2v, z2w, z2v, z2w, ← karatsuba, z17, z17, z17, of_xor hxd hxm, of_xor hyd hym, z1o]
    · rw [z1y, z1T, z1T, z2v, z2w, z2v, z2w, z17]
end Go.Proofs.Ytngcaphdkgihmaa.Sp
namespace Go.Proofs.Ytngcaphdkgihmaa.P
open Go.RowKit Go.Proofs.YtngcaphdkgihmaaW.PrintWords Go.Proofs.YtngcaphdkgihmaaW.PrintLast Go.Proofs.YtngcaphdkgihmaaW.PrintMore
attribute [local go_sem] zF zH zP zQ zC zD zG zI   -- for this text's walks alone
set_option linter.unusedVariables false
set_option linter.unusedSimpArgs false
def z22.f  : Option (Int × Int):=some (0,1)
set_option maxHeartbeats 8000000 in
set_option maxRecDepth 100000 in
theorem z22.calls  (r1 : Int) (r2 : Int) (w : World) (h : z22.f  = some (r1,r2)) :
 Calls Try.prog 66 #[] w fun e w'=>e = .returned (.agg #[.int .u64 r1,.int .u64 r2]) ∧ Below w.heap.size w w':=by
 have hu51:=Try.underlying51
 have HB:=z4.mk (Below.refl w.heap.size w)
 have H : (some (0,1)) = some (r1,r2):=h
 clear h
 simp only [Option.some.injEq,Prod.mk.injEq] at H
 obtain ⟨rfl,rfl⟩:=H
 go_enter Try.func66,Try.ntmps66
 go_wp2_with (first|((with_reducible refine zz (N:=0) rfl ?_);refine zA ?hg (N:=0) ?hd (cs:=#[.int .u64 0,.int .u64 0]) (t:=51) ?hr ?_;(case hd=>rfl);(case hg=>rfl);(case hr=>first|(go_simp;done)|(go_simp;rfl));intro gb101 hg w1 hbox hb;have n0_:=z4.mk (zc (by repeat (first|(with_reducible first|exact HB.out|apply z2|apply z1|apply z3)|exact HB.out)) hb);have n1_:=z4.mk (hbox);have n2_:=z4.mk ((by rw [hg];exact (zb (by repeat (first|(with_reducible first|exact HB.out|apply z2|apply z1|apply z3)|exact HB.out))) : w.heap.size ≤ gb101));have n3_:=z4.mk ((by rw [hg];exact (zb (by repeat (first|(with_reducible first|exact HB.out|apply z2|apply z1|apply z3)|exact HB.out))) : w.heap.size ≤ gb101));clear HB;have HB:=n0_;have BK101:=n1_;have GW101:=n2_;have GE101:=n3_;clear n0_ n1_ n2_ n3_;clear hb hbox hg;have hcz2_0 : w1.cell? ⟨gb101,0,none⟩ = some (.int .u64 0):=(zm BK101.out 0).trans rfl;have hcz2_1 : w1.cell? ⟨gb101,1,none⟩ = some (.int .u64 0):=(zm BK101.out 1).trans rfl;have hfz2_0:=zg BK101.out 0;have hfz2_1:=zg BK101.out 1))
 refine bodyPost_ret (results_cell_row rfl _ _ gb101 51 #[.int .u64 0,.int .u64 1] (0,0) _ rfl (by (with_reducible repeat (first|refine z8 ?_ _|refine za ?_|refine z7 ?_ _));refine z11 (cs:=#[.int .u64 0,.int .u64 0]) ?_ 1 _ rfl;(with_reducible repeat (first|refine z8 ?_ _|refine za ?_|refine z7 ?_ _));refine z11 (cs:=#[.int .u64 0,.int .u64 0]) ?_ 0 _ rfl;(with_reducible repeat (first|refine z8 ?_ _|refine za ?_|refine z7 ?_ _));exact BK101.out) Try.underlying51 rfl (by kernel_rfl)) rfl ?_
 exact ⟨by first|rfl|(simp [ze,zf] <;> rfl)|(simp [*,ze,zf] <;> rfl),by repeat (first|(with_reducible first|exact HB.out|apply z2|apply z1|apply z3|refine z6 ?_ GE101.out)|exact HB.out)⟩
end Go.Proofs.Ytngcaphdkgihmaa.P
namespace Go.Proofs.Ytngcaphdkgihmaa.P
open Go.RowKit Go.Proofs.YtngcaphdkgihmaaW.PrintWords Go.Proofs.YtngcaphdkgihmaaW.PrintLast Go.Proofs.YtngcaphdkgihmaaW.PrintMore
attribute [local go_sem] zF zH zP zQ zC zD zG zI   -- for this text's walks alone
set_option linter.unusedVariables false
set_option linter.unusedSimpArgs false
def z1g.f (a0_0 : Int) (a0_1 : Int) (a1_0 : Int) (a1_1 : Int) : Option (Int × Int):=some (Go.bits .xor .u64 a0_0 a1_0,Go.bits .xor .u64 a0_1 a1_1)
set_option maxHeartbeats 8000000 in
set_option maxRecDepth 100000 in
theorem z1g.calls (a0_0 : Int) (a0_1 : Int) (a1_0 : Int) (a1_1 : Int) (r1 : Int) (r2 : Int) (w : World) (h : z1g.f a0_0 a0_1 a1_0 a1_1 = some (r1,r2)) :
 Calls Try.prog 74 #[.agg #[.int .u64 a0_0,.int .u64 a0_1],.agg #[.int .u64 a1_0,.int .u64 a1_1]] w fun e w'=>e = .returned (.agg #[.int .u64 r1,.int .u64 r2]) ∧ Below w.heap.size w w':=by
 have hu61:=Try.underlying61
 have HB:=z4.mk (Below.refl w.heap.size w)
 have H : (some (Go.bits .xor .u64 a0_0 a1_0,Go.bits .xor .u64 a0_1 a1_1)) = some (r1,r2):=h
 clear h
 simp only [Option.some.injEq,Prod.mk.injEq] at H
 obtain ⟨rfl,rfl⟩:=H
 go_enter Try.func74,Try.ntmps74
 go_wp2_with (first|((with_reducible refine zz (N:=2) rfl ?_);refine zA ?hg (N:=2) ?hd (cs:=#[.int .u64 a0_0,.int .u64 a0_1]) (t:=61) ?hr ?_;(case hd=>rfl);(case hg=>rfl);(case hr=>first|(go_simp;done)|(go_simp;rfl));intro gb101 hg w3 hbox hb;have n0_:=z4.mk (zc (by repeat (first|(with_reducible first|exact HB.out|apply z2|apply z1|apply z3)|exact HB.out)) hb);have n1_:=z4.mk (hbox);have n2_:=z4.mk ((by rw [hg];exact (zb (by repeat (first|(with_reducible first|exact HB.out|apply z2|apply z1|apply z3)|exact HB.out))) : w.heap.size ≤ gb101));have n3_:=z4.mk ((by rw [hg];exact (zb (by repeat (first|(with_reducible first|exact HB.out|apply z2|apply z1|apply z3)|exact HB.out))) : w.heap.size ≤ gb101));clear HB;have HB:=n0_;have BK101:=n1_;have GW101:=n2_;have GE101:=n3_;clear n0_ n1_ n2_ n3_;clear hb hbox hg)|((with_reducible refine zz (N:=3) rfl ?_);refine zA ?hg (N:=3) ?hd (cs:=#[.int .u64 a1_0,.int .u64 a1_1]) (t:=61) ?hr ?_;(case hd=>rfl);(case hg=>rfl);(case hr=>first|(go_simp;done)|(go_simp;rfl));intro gb102 hg w4 hbox hb;have n0_:=z4.mk (zr (g:=gb101) (o:=.cells #[.int .u64 a0_0,.int .u64 a0_1] 61 (0,0)) (by (with_reducible repeat (first|refine z8 ?_ _|refine za ?_|refine z7 ?_ _));exact BK101.out) hb);have n1_:=z4.mk (zc (by repeat (first|(with_reducible first|exact HB.out|apply z2|apply z1|apply z3|refine z6 ?_ GE101.out)|exact HB.out)) hb);have n2_:=z4.mk (hbox);have n3_:=z4.mk ((by rw [hg];exact (zb (by repeat (first|(with_reducible first|exact HB.out|apply z2|apply z1|apply z3|refine z6 ?_ GE101.out)|exact HB.out))) : w.heap.size ≤ gb102));have n4_:=z4.mk ((by rw [hg];exact (zb (by repeat (first|(with_reducible first|exact HB.out|apply z2|apply z1|apply z3|refine z6 ?_ GE101.out)|exact HB.out))) : w.heap.size ≤ gb102));have n5_:=z4.mk ((by rw [hg];exact Nat.ne_of_lt (zO (g:=gb101) (o:=.cells #[.int .u64 a0_0,.int .u64 a0_1] 61 (0,0)) (by (with_reducible repeat (first|refine z8 ?_ _|refine za ?_|refine z7 ?_ _));exact BK101.out)) : gb101 ≠ gb102));have n6_:=z4.mk ((by rw [hg];exact Nat.ne_of_gt (zO (g:=gb101) (o:=.cells #[.int .u64 a0_0,.int .u64 a0_1] 61 (0,0)) (by (with_reducible repeat (first|refine z8 ?_ _|refine za ?_|refine z7 ?_ _));exact BK101.out)) : gb102 ≠ gb101));clear BK101;clear HB;have BK101:=n0_;have HB:=n1_;have BK102:=n2_;have GW102:=n3_;have GE102:=n4_;have NB101_102:=n5_;have NB102_101:=n6_;clear n0_ n1_ n2_ n3_ n4_ n5_ n6_;clear hb hbox hg)|((with_reducible refine zz (N:=4) rfl ?_);refine zA ?hg (N:=4) ?hd (cs:=#[.int .u64 0,.int .u64 0]) (t:=61) ?hr ?_;(case hd=>rfl);(case hg=>rfl);(case hr=>first|(go_simp;done)|(go_simp;rfl));intro gb103 hg w5 hbox hb;have n0_:=z4.mk (zr (g:=gb101) (o:=.cells #[.int .u64 a0_0,.int .u64 a0_1] 61 (0,0)) (by (with_reducible repeat (first|refine z8 ?_ _|refine za ?_|refine z7 ?_ _));exact BK101.out) hb);have n1_:=z4.mk (zr (g:=gb102) (o:=.cells #[.int .u64 a1_0,.int .u64 a1_1] 61 (0,0)) (by (with_reducible repeat (first|refine z8 ?_ _|refine za ?_|refine z7 ?_ _));exact BK102.out) hb);have n2_:=z4.mk (zc (by repeat (first|(with_reducible first|exact HB.out|apply z2|apply z1|apply z3|refine z6 ?_ GE101.out|refine z6 ?_ GE102.out)|exact HB.out)) hb);have n3_:=z4.mk (hbox);have n4_:=z4.mk ((by rw [hg];exact (zb (by repeat (first|(with_reducible first|exact HB.out|apply z2|apply z1|apply z3|refine z6 ?_ GE101.out|refine z6 ?_ GE102.out)|exact HB.out))) : w.heap.size ≤ gb103));have n5_:=z4.mk ((by rw [hg];exact (zb (by repeat (first|(with_reducible first|exact HB.out|apply z2|apply z1|apply z3|refine z6 ?_ GE101.out|refine z6 ?_ GE102.out)|exact HB.out))) : w.heap.size ≤ gb103));have n6_:=z4.mk ((by rw [hg];exact Nat.ne_of_lt (zO (g:=gb101) (o:=.cells #[.int .u64 a0_0,.int .u64 a0_1] 61 (0,0)) (by (with_reducible repeat (first|refine z8 ?_ _|refine za ?_|refine z7 ?_ _));exact BK101.out)) : gb101 ≠ gb103));have n7_:=z4.mk ((by rw [hg];exact Nat.ne_of_gt (zO (g:=gb101) (o:=.cells #[.int .u64 a0_0,.int .u64 a0_1] 61 (0,0)) (by (with_reducible repeat (first|refine z8 ?_ _|refine za ?_|refine z7 ?_ _));exact BK101.out)) : gb103 ≠ gb101));have n8_:=z4.mk ((by rw [hg];exact Nat.ne_of_lt (zO (g:=gb102) (o:=.cells #[.int .u64 a1_0,.int .u64 a1_1] 61 (0,0)) (by (with_reducible repeat (first|refine z8 ?_ _|refine za ?_|refine z7 ?_ _));exact BK102.out)) : gb102 ≠ gb103));have n9_:=z4.mk ((by rw [hg];exact Nat.ne_of_gt (zO (g:=gb102) (o:=.cells #[.int .u64 a1_0,.int .u64 a1_1] 61 (0,0)) (by (with_reducible repeat (first|refine z8 ?_ _|refine za ?_|refine z7 ?_ _));exact BK102.out)) : gb103 ≠ gb102));clear BK101;clear BK102;clear HB;have BK101:=n0_;have BK102:=n1_;have HB:=n2_;have BK103:=n3_;have GW103:=n4_;have GE103:=n5_;have NB101_103:=n6_;have NB103_101:=n7_;have NB102_103:=n8_;have NB103_102:=n9_;clear n0_ n1_ n2_ n3_ n4_ n5_ n6_ n7_ n8_ n9_;clear hb hbox hg;have hnb6:=NB101_102.out;have hnc6:=NB102_101.out;have hnb7:=NB101_103.out;have hnc7:=NB103_101.out;have hcz8_0 : w5.cell? ⟨gb101,0,none⟩ = some (.int .u64 a0_0):=(zm BK101.out 0).trans rfl;have hcz8_1 : w5.cell? ⟨gb101,1,none⟩ = some (.int .u64 a0_1):=(zm BK101.out 1).trans rfl;have hfz8_0:=zg BK101.out 0;have hfz8_1:=zg BK101.out 1;have hnb9:=NB102_103.out;have hnc9:=NB103_102.out;have hcz10_0 : w5.cell? ⟨gb102,0,none⟩ = some (.int .u64 a1_0):=(zm BK102.out 0).trans rfl;have hcz10_1 : w5.cell? ⟨gb102,1,none⟩ = some (.int .u64 a1_1):=(zm BK102.out 1).trans rfl;have hfz10_0:=zg BK102.out 0;have hfz10_1:=zg BK102.out 1;have hcz11_0 : w5.cell? ⟨gb103,0,none⟩ = some (.int .u64 0):=(zm BK103.out 0).trans rfl;have hcz11_1 : w5.cell? ⟨gb103,1,none⟩ = some (.int .u64 0):=(zm BK103.out 1).trans rfl;have hfz11_0:=zg BK103.out 0;have hfz11_1:=zg BK103.out 1))
 refine bodyPost_ret (results_cell_row rfl _ _ gb103 61 #[.int .u64 (Go.bits .xor .u64 a0_0 a1_0),.int .u64 (Go.bits .xor .u64 a0_1 a1_1)] (0,0) _ rfl (by (with_reducible repeat (first|refine z8 ?_ _|refine za ?_|refine z7 ?_ _));refine z11 (cs:=#[.int .u64 (Go.bits .xor .u64 a0_0 a1_0),.int .u64 0]) ?_ 1 _ rfl;(with_reducible repeat (first|refine z8 ?_ _|refine za ?_|refine z7 ?_ _));refine z11 (cs:=#[.int .u64 0,.int .u64 0]) ?_ 0 _ rfl;(with_reducible repeat (first|refine z8 ?_ _|refine za ?_|refine z7 ?_ _));exact BK103.out) Try.underlying61 rfl (by kernel_rfl)) rfl ?_
 exact ⟨by first|rfl|(simp [ze,zf] <;> rfl)|(simp [*,ze,zf] <;> rfl),by repeat (first|(with_reducible first|exact HB.out|apply z2|apply z1|apply z3|refine z6 ?_ GE101.out|refine z6 ?_ GE102.out|refine z6 ?_ GE103.out)|exact HB.out)⟩
end Go.Proofs.Ytngcaphdkgihmaa.P
/- Elements of the greatest level, as the program and the document hold them: two words. Own text. -/
namespace Go.Proofs.Ytngcaphdkgihmaa.Sp
open Go.RowKit Go.Proofs.YtngcaphdkgihmaaW.PrintWords Go.Proofs.YtngcaphdkgihmaaW.PrintMore Go.Proofs.Ytngcaphdkgihmaa.P Go.Proofs.Ytngcaphdkgihmaa.Ar Go.Proofs.Ytngcaphdkgihmaa.Tw
set_option linter.unusedVariables false
set_option linter.unusedSimpArgs false
abbrev E := T 7
/-- The higher and the lower word. -/
def hi (x : E) : Int := ((val x.1 : Nat) : Int)
def lo (x : E) : Int := ((val x.2 : Nat) : Int)
def el (h l : Int) : E := mk (of 6 h.toNat) (of 6 l.toNat)
theorem hi_el {h l : Int} (h0 : 0 ≤ h) (h1 : h < 18446744073709551616) : hi (el h l) = h := by
  unfold hi el; rw [z2v, z1G 6 _ (by rw [z3R]; omega)]; omega
theorem lo_el {h l : Int} (h0 : 0 ≤ l) (h1 : l < 18446744073709551616) : lo (el h l) = l := by
  unfold lo el; rw [z2w, z1G 6 _ (by rw [z3R]; omega)]; omega
theorem z3J {x y : E} (h : hi x = hi y) (l : lo x = lo y) : x = y := by
  unfold hi lo at *; exact ext (z1U (by omega)) (z1U (by omega))
theorem z2t : hi 0 = 0 := by unfold hi; rw [z2k, z1d]; rfl
theorem z2u : lo 0 = 0 := by unfold lo; rw [z2l, z1d]; rfl
theorem hi_one : hi 1 = 0 := by unfold hi; rw [z2Y, z1d]; rfl
theorem lo_one : lo 1 = 1 := by unfold lo; rw [z2Z, z27]; rfl
theorem hi_bd (x : E) : 0 ≤ hi x ∧ hi x < 18446744073709551616 := by
  unfold hi; have := zV x.1; rw [z3R] at this; omega
theorem z4n (x : E) : 0 ≤ lo x ∧ lo x < 18446744073709551616 := by
  unfold lo; have := zV x.2; rw [z3R] at this; omega
theorem z2P (x : E) : val x = (hi x).toNat * 18446744073709551616 + (lo x).toNat := by
  unfold hi lo; rw [z1c, z3R]; simp
theorem eq_zero_iff (x : E) : x = 0 ↔ hi x = 0 ∧ lo x = 0 := ⟨fun h => by rw [h]; exact ⟨z2t, z2u⟩, fun h => z3J (h.1.trans z2t.symm) (h.2.trans z2u.symm)⟩
theorem xor_hi (x y : E) : Go.bits .xor .u64 (hi x) (hi y) = hi (x + y) := by
  unfold hi; rw [z1h _ _ (zV x.1) (zV y.1), z2q, z17]
theorem xor_lo (x y : E) : Go.bits .xor .u64 (lo x) (lo y) = lo (x + y) := by
  unfold lo; rw [z1h _ _ (zV x.2) (zV y.2), z2S, z17]
/-- Of a level. -/
def InL (l : Nat) (x : E) : Prop := val x < Q l
instance (l : Nat) (x : E) : Decidable (InL l x) := by unfold InL; infer_instance
def OfS (L : Int) (x : E) : Prop := 0 ≤ L ∧ L ≤ 7 ∧ InL L.toNat x
instance (L : Int) (x : E) : Decidable (OfS L x) := by unfold OfS; infer_instance
theorem z4h (x : E) : InL 7 x := zV x
theorem inL_zero (l : Nat) : InL l 0 := by unfold InL; rw [z1d]; exact z3o l
theorem inL_one (l : Nat) : InL l 1 := by unfold InL; rw [z27]; exact Nat.lt_of_lt_of_le (by decide : 1 < Q 0) (z36 (Nat.zero_le _))
theorem inL_mono {l m : Nat} (h : l ≤ m) {x : E} (hx : InL l x) : InL m x := Nat.lt_of_lt_of_le hx (z36 h)
theorem inL_add {l : Nat} {x y : E} (hx : InL l x) (hy : InL l y) : InL l (x + y) := by
  unfold InL at *; rw [z17]; exact z1w hx hy
theorem inL_mul {l : Nat} (hl : l ≤ 7) {x y : E} (hx : InL l x) (hy : InL l y) : InL l (x * y) := by
  unfold InL at *; have := z3Y hl hx hy; rwa [z1o, z1o] at this
theorem z4i {x : E} : InL 6 x ↔ hi x = 0 := by
  unfold InL; have h := z2P x; have h1 := hi_bd x; have h2 := z4n x
  rw [z3R, h]; constructor <;> intro g <;> omega
theorem z2V {l : Nat} (hl : l ≤ 6) {x : E} : InL l x ↔ hi x = 0 ∧ (lo x).toNat < Q l := by
  constructor
  · intro h
    have h6 := z4i.1 (inL_mono hl h)
    refine ⟨h6, ?_⟩
    unfold InL at h; rw [z2P, h6] at h; simpa using h
  · rintro ⟨h1, h2⟩
    unfold InL; rw [z2P, h1]; simpa using h2
theorem of_ev (L : Int) (x : E) : Ev (fun k => zu.f k L (hi x) (lo x)) (decide (OfS L x)) := by
  unfold zu.f
  by_cases h0 : L < 0
  · refine Ev.pos h0 (Ev.step (fun k => by rw [zu.j0]) (Ev.pos rfl (Ev.ret' ?_)))
    symm; rw [decide_eq_false_iff_not]; rintro ⟨h, _⟩; omega
  refine Ev.neg h0 ?_
  by_cases h7 : L > 7
  · rw [decide_eq_true h7]
    refine Ev.step (fun k => by rw [zu.j0]) (Ev.pos rfl (Ev.ret' ?_))
    symm; rw [decide_eq_false_iff_not]; rintro ⟨_, h, _⟩; omega
  rw [decide_eq_false h7]
  refine Ev.step (fun k => by rw [zu.j0]) (Ev.neg (by decide) ?_)
  obtain ⟨l, rfl⟩ := Int.eq_ofNat_of_zero_le (show 0 ≤ L by omega)
  have hS : OfS (l : Int) x ↔ InL l x := by
    unfold OfS; rw [Int.toNat_natCast]; exact ⟨fun h => h.2.2, fun h => ⟨by omega, by omega, h⟩⟩
  by_cases c7 : (l : Int) = 7
  · refine Ev.pos c7 (Ev.ret' ?_)
    have : l = 7 := by omega
    subst this
    symm; rw [decide_eq_true_eq, hS]; exact z4h x
  refine Ev.neg c7 ?_
  by_cases c6 : (l : Int) = 6
  · refine Ev.pos c6 (Ev.ret' ?_)
    have : l = 6 := by omega
    subst this
    rw [Bool.eq_iff_iff, beq_iff_eq, decide_eq_true_eq, hS]; exact z4i.symm
  refine Ev.neg c6 ?_
  have hl5 : l ≤ 5 := by omega
  have hl := z2V (l := l) (by omega) (x := x)
  by_cases c0 : hi x = 0
  · refine Ev.pos c0 (Ev.pos (Int.natCast_nonneg _) (Ev.ret' ?_))
    have h32 := z1q hl5
    have hlo : lo x = (((lo x).toNat : Nat) : Int) := by have := z4n x; omega
    rw [z3x l (by omega), hlo, z3y _ (2 ^ l) (by omega)]
    rw [Bool.eq_iff_iff, beq_iff_eq, decide_eq_true_eq, hS, hl]
    have hq : (lo x).toNat / 2 ^ 2 ^ l = 0 ↔ (lo x).toNat < Q l := by
      rw [Nat.div_eq_zero_iff]; unfold Q
      have := Nat.two_pow_pos (2 ^ l)
      omega
    constructor
    · intro h; exact ⟨c0, hq.1 (by exact_mod_cast h)⟩
    · rintro ⟨_, h⟩; exact_mod_cast hq.2 h
  · refine Ev.neg c0 (Ev.ret' ?_)
    symm; rw [decide_eq_false_iff_not, hS, hl]; exact fun h => c0 h.1
theorem Add_eq (x y : E) : z13.f (hi x) (lo x) (hi y) (lo y) = some (hi (x + y), lo (x + y)) := by
  unfold z13.f; rw [xor_hi, xor_lo]
theorem refAdd_eq (x y : E) : z1g.f (hi x) (lo x) (hi y) (lo y) = some (hi (x + y), lo (x + y)) := by
  unfold z1g.f; rw [xor_hi, xor_lo]
theorem One_eq : z22.f = some (hi 1, lo 1) := by unfold z22.f; rw [hi_one, lo_one]
theorem Mul_out {L : Int} {x y : E} (h : ¬ (OfS L x ∧ OfS L y)) : Ev (fun k => zy.f k L (hi x) (lo x) (hi y) (lo y)) (0, 0) := by
  unfold zy.f
  refine Ev.bnd (of_ev L x) ?_
  by_cases c : OfS L x
  · refine Ev.pos (decide_eq_true c) (Ev.bnd (of_ev L y) ?_)
    rw [decide_eq_false (fun g => h ⟨c, g⟩)]
    exact Ev.step (fun k => by rw [zy.j0]) (Ev.pos (by rfl) (Ev.ret _))
  · exact Ev.neg (by simpa using c) (Ev.step (fun k => by rw [zy.j0]) (Ev.pos rfl (Ev.ret _)))
theorem Mul_ev {l : Nat} (hl : l ≤ 7) {x y : E} (hx : InL l x) (hy : InL l y) : Ev (fun k => zy.f k (l : Int) (hi x) (lo x) (hi y) (lo y)) (hi (x * y), lo (x * y)) := by
  unfold zy.f
  have hS : ∀ z, InL l z → OfS (l : Int) z := fun z hz => ⟨by omega, by omega, by rw [Int.toNat_natCast]; exact hz⟩
  refine Ev.bnd (of_ev (l : Int) x) (Ev.pos (decide_eq_true (hS x hx)) (Ev.bnd (of_ev (l : Int) y) ?_))
  rw [decide_eq_true (hS y hy)]
  refine Ev.step (fun k => by rw [zy.j0]) (Ev.neg (by decide) ?_)
  by_cases c : l ≤ 6
  · refine Ev.pos (by omega) ?_
    have ex := (z2V c).1 hx
    have ey := (z2V c).1 hy
    have e1 : lo x = (((lo x).toNat : Nat) : Int) := by have := z4n x; omega
    have e2 : lo y = (((lo y).toNat : Nat) : Int) := by have := z4n y; omega
    have ev := z3M l c (lo x).toNat (lo y).toNat ex.2 ey.2
    rw [← e1, ← e2] at ev
    refine Ev.bnd ev (Ev.ret' ?_)
    have hz := (z2V c).1 (inL_mul hl hx hy)
    have e3 : lo (x * y) = (((lo (x * y)).toNat : Nat) : Int) := by have := z4n (x * y); omega
    rw [hz.1, e3]
    congr 2
    have vx : val x = (lo x).toNat := by rw [z2P, ex.1]; simp
    have vy : val y = (lo y).toNat := by rw [z2P, ey.1]; simp
    have vz : val (x * y) = (lo (x * y)).toNat := by rw [z2P, hz.1]; simp
    rw [← vz, ← vx, ← vy, ← z24 hl hx hy, z1o, z1o]
  · have : l = 7 := by omega
    subst this
    refine Ev.neg (by decide) ?_
    have v1 := zV x.1
    have v2 := zV x.2
    have v3 := zV y.1
    have v4 := zV y.2
    have m1 := z3M 6 (by decide) _ _ v1 v3
    have m2 := z3M 6 (by decide) _ _ v2 v4
    have m3 := z3M 6 (by decide) _ _ (z1w v1 v2) (z1w v3 v4)
    rw [z1o, z1o] at m1 m2
    rw [← z17, ← z17, z1o, z1o] at m3
    have m4 := z4o 6 (by decide) _ (zV (x.1 * y.1))
    rw [z1o] at m4
    refine Ev.bnd m1 (Ev.bnd m2 ?_)
    have e1 : Go.bits .xor .u64 (hi x) (lo x) = ((val (x.1 + x.2) : Nat) : Int) := by unfold hi lo; rw [z1h _ _ v1 v2, z17]
    have e2 : Go.bits .xor .u64 (hi y) (lo y) = ((val (y.1 + y.2) : Nat) : Int) := by unfold hi lo; rw [z1h _ _ v3 v4, z17]
    simp only [e1, e2]
    refine Ev.bnd m3 (Ev.bnd m4 (Ev.ret' ?_))
    rw [z1h _ _ (zV _) (zV _), ← z17, z1h _ _ (zV _) (zV _), ← z17, z1h _ _ (zV _) (zV _), ← z17, z1h _ _ (zV _) (zV _), ← z17, karatsuba]
    rfl
/-- The program's element, the document's. -/
def toS (x : E) : S51 := ⟨hi x, lo x⟩
def toR (x : E) : S61 := ⟨hi x, lo x⟩
def WfS (e : S51) : Prop := (0 ≤ e.f0 ∧ e.f0 < 18446744073709551616) ∧ (0 ≤ e.f1 ∧ e.f1 < 18446744073709551616)
theorem toS_f0 (x : E) : (toS x).f0 = hi x := rfl
theorem toS_f1 (x : E) : (toS x).f1 = lo x := rfl
theorem toR_f0 (x : E) : (toR x).f0 = hi x := rfl
theorem toR_f1 (x : E) : (toR x).f1 = lo x := rfl
theorem toS_zero : toS 0 = z51 := by unfold toS; rw [z2t, z2u]; rfl
theorem toR_zero : toR 0 = z61 := by unfold toR; rw [z2t, z2u]; rfl
theorem toS_el (e : S51) (h : WfS e) : toS (el e.f0 e.f1) = e := by unfold toS; rw [hi_el h.1.1 h.1.2, lo_el h.2.1 h.2.2]
theorem toS_inj {x y : E} (h : toS x = toS y) : x = y := by
  unfold toS at h; injection h with h1 h2; exact z3J h1 h2
theorem wf_of {e : S51} (h : (Lit.int .u64 e.f0).wf = true ∧ (Lit.int .u64 e.f1).wf = true) : WfS e := ⟨wf_u64 h.1, wf_u64 h.2⟩
/-- A list that came in is a list of elements. -/
theorem list_of (l : List S51) (h : ∀ e ∈ l, ((Lit.int .u64 e.f0).wf = true) ∧ ((Lit.int .u64 e.f1).wf = true)) : ∃ X : List E, l = X.map toS := by
  refine ⟨l.map fun e => el e.f0 e.f1, ?_⟩
  rw [List.map_map]
  conv => lhs; rw [← List.map_id l]
  apply List.map_congr_left
  intro e he
  exact (toS_el e (wf_of (h e he))).symm
theorem elem_of (e : S51) (h : ((Lit.int .u64 e.f0).wf = true) ∧ ((Lit.int .u64 e.f1).wf = true)) : ∃ x : E, e = toS x := ⟨_, (toS_el e (wf_of h)).symm⟩
theorem rdS (X : List E) (i : Nat) : zo (X.map toS) (i : Int) = toS (X.getD i 0) := by
  unfold zo; rw [Int.toNat_natCast, ← toS_zero, List.getD_eq_getElem?_getD, List.getD_eq_getElem?_getD, List.getElem?_map]
  cases X[i]? <;> rfl
theorem rdR (X : List E) (i : Nat) : z1f (X.map toR) (i : Int) = toR (X.getD i 0) := by
  unfold z1f; rw [Int.toNat_natCast, ← toR_zero, List.getD_eq_getElem?_getD, List.getD_eq_getElem?_getD, List.getElem?_map]
  cases X[i]? <;> rfl
end Go.Proofs.Ytngcaphdkgihmaa.Sp
namespace Go.Proofs.Ytngcaphdkgihmaa.P
open Go.RowKit Go.Proofs.YtngcaphdkgihmaaW.PrintWords Go.Proofs.YtngcaphdkgihmaaW.PrintLast Go.Proofs.YtngcaphdkgihmaaW.PrintMore
attribute [local go_sem] zF zH zP zQ zC zD zG zI   -- for this text's walks alone
set_option linter.unusedVariables false
set_option linter.unusedSimpArgs false
def zZ.f (a0_0 : Int) (a0_1 : Int) (a1 : Int) : Option (Int):=if a1 ≥ 64 then (if 0 ≤ (IntKind.u64.wrap (wrap64 (a1 - 64))) then (some (Go.bits .and .u64 (shr .u64 a0_0 (IntKind.u64.wrap (wrap64 (a1 - 64)))) 1)) else (none)) else (if 0 ≤ (IntKind.u64.wrap (a1)) then (some (Go.bits .and .u64 (shr .u64 a0_1 (IntKind.u64.wrap (a1))) 1)) else (none))
set_option maxHeartbeats 8000000 in
set_option maxRecDepth 100000 in
theorem zZ.calls (a0_0 : Int) (a0_1 : Int) (a1 : Int) (r : Int) (w : World) (h : zZ.f a0_0 a0_1 a1 = some r) :
 Calls Try.prog 81 #[.agg #[.int .u64 a0_0,.int .u64 a0_1],.int .i64 a1] w fun e w'=>e = .returned (.int .u64 r) ∧ Below w.heap.size w w':=by
 have hu61:=Try.underlying61
 have HB:=z4.mk (Below.refl w.heap.size w)
 have H : (if a1 ≥ 64 then (if 0 ≤ (IntKind.u64.wrap (wrap64 (a1 - 64))) then (some (Go.bits .and .u64 (shr .u64 a0_0 (IntKind.u64.wrap (wrap64 (a1 - 64)))) 1)) else (none)) else (if 0 ≤ (IntKind.u64.wrap (a1)) then (some (Go.bits .and .u64 (shr .u64 a0_1 (IntKind.u64.wrap (a1))) 1)) else (none))) = some r:=h
 clear h
 by_cases c3 : a1 ≥ 64
 · rw [if_pos c3] at H
   have c3b0 : decide (64 ≤ a1) = true:=decide_eq_true c3
   clear c3
   obtain ⟨ji4,hji4⟩ : ∃ j_ : Int,(IntKind.u64.wrap (wrap64 (a1 - 64))) = j_:=⟨_,rfl⟩
   replace H : (if 0 ≤ (ji4) then (some (Go.bits .and .u64 (shr .u64 a0_0 (ji4)) 1)) else (none)) = some r:=by first|(rw [hji4] at H;exact H)|(simp only [hji4] at H ⊢;exact H)
   by_cases c5 : 0 ≤ (ji4)
   rotate_left
   · rw [if_neg c5] at H
     exact absurd H (by simp)
   rw [if_pos c5] at H
   have c5b0:=eq_true c5
   have c5b1 : decide (0 ≤ (ji4)) = true:=decide_eq_true c5
   clear c5
   obtain ⟨ji6,hji6⟩ : ∃ j_ : Int,(shr .u64 a0_0 (ji4)) = j_:=⟨_,rfl⟩
   replace H : (some (Go.bits .and .u64 (ji6) 1)) = some r:=by first|(rw [hji6] at H;exact H)|(simp only [hji6] at H ⊢;exact H)
   have hji6_ : (a0_0 / 2 ^ min (ji4).toNat 64) = ji6:=hji6
   have hji6z : (ji4) ≤ 64 → (a0_0 / 2 ^ (ji4).toNat) = ji6:=z1O hji6
   obtain rfl:=Option.some.inj H
   go_enter Try.func81,Try.ntmps81
   go_wp2_with (first|((with_reducible refine zz (N:=2) rfl ?_);refine zA ?hg (N:=2) ?hd (cs:=#[.int .u64 a0_0,.int .u64 a0_1]) (t:=61) ?hr ?_;(case hd=>rfl);(case hg=>rfl);(case hr=>first|(go_simp;done)|(go_simp;rfl));intro gb101 hg w7 hbox hb;have n0_:=z4.mk (zc (by repeat (first|(with_reducible first|exact HB.out|apply z2|apply z1|apply z3)|exact HB.out)) hb);have n1_:=z4.mk (hbox);have n2_:=z4.mk ((by rw [hg];exact (zb (by repeat (first|(with_reducible first|exact HB.out|apply z2|apply z1|apply z3)|exact HB.out))) : w.heap.size ≤ gb101));have n3_:=z4.mk ((by rw [hg];exact (zb (by repeat (first|(with_reducible first|exact HB.out|apply z2|apply z1|apply z3)|exact HB.out))) : w.heap.size ≤ gb101));clear HB;have HB:=n0_;have BK101:=n1_;have GW101:=n2_;have GE101:=n3_;clear n0_ n1_ n2_ n3_;clear hb hbox hg;have hcz8_0 : w7.cell? ⟨gb101,0,none⟩ = some (.int .u64 a0_0):=(zm BK101.out 0).trans rfl;have hcz8_1 : w7.cell? ⟨gb101,1,none⟩ = some (.int .u64 a0_1):=(zm BK101.out 1).trans rfl;have hfz8_0:=zg BK101.out 0;have hfz8_1:=zg BK101.out 1))
   go_ret
   exact ⟨by first|rfl|(simp [ze,zf] <;> rfl)|(simp only [← hji4,← hji6];first|rfl|(simp [ze,zf] <;> rfl))|(simp [*,ze,zf] <;> rfl),by repeat (first|(with_reducible first|exact HB.out|apply z2|apply z1|apply z3|refine z6 ?_ GE101.out)|exact HB.out)⟩
 rw [if_neg c3] at H
 have c3b0 : decide (64 ≤ a1) = false:=decide_eq_false c3
 clear c3
 obtain ⟨ji9,hji9⟩ : ∃ j_ : Int,(IntKind.u64.wrap (a1)) = j_:=⟨_,rfl⟩
 replace H : (if 0 ≤ (ji9) then (some (Go.bits .and .u64 (shr .u64 a0_1 (ji9)) 1)) else (none)) = some r:=by first|(rw [hji9] at H;exact H)|(simp only [hji9] at H ⊢;exact H)
 by_cases c10 : 0 ≤ (ji9)
 rotate_left
 · rw [if_neg c10] at H
   exact absurd H (by simp)
 rw [if_pos c10] at H
 have c10b0:=eq_true c10
 have c10b1 : decide (0 ≤ (ji9)) = true:=decide_eq_true c10
 clear c10
 obtain ⟨ji11,hji11⟩ : ∃ j_ : Int,(shr .u64 a0_1 (ji9)) = j_:=⟨_,rfl⟩
 replace H : (some (Go.bits .and .u64 (ji11) 1)) = some r:=by first|(rw [hji11] at H;exact H)|(simp only [hji11] at H ⊢;exact H)
 have hji11_ : (a0_1 / 2 ^ min (ji9).toNat 64) = ji11:=hji11
 have hji11z : (ji9) ≤ 64 → (a0_1 / 2 ^ (ji9).toNat) = ji11:=z1O hji11
 obtain rfl:=Option.some.inj H
 go_enter Try.func81,Try.ntmps81
 go_wp2_with (first|((with_reducible refine zz (N:=2) rfl ?_);refine zA ?hg (N:=2) ?hd (cs:=#[.int .u64 a0_0,.int .u64 a0_1]) (t:=61) ?hr ?_;(case hd=>rfl);(case hg=>rfl);(case hr=>first|(go_simp;done)|(go_simp;rfl));intro gb101 hg w12 hbox hb;have n0_:=z4.mk (zc (by repeat (first|(with_reducible first|exact HB.out|apply z2|apply z1|apply z3)|exact HB.out)) hb);have n1_:=z4.mk (hbox);have n2_:=z4.mk ((by rw [hg];exact (zb (by repeat (first|(with_reducible first|exact HB.out|apply z2|apply z1|apply z3)|exact HB.out))) : w.heap.size ≤ gb101));have n3_:=z4.mk ((by rw [hg];exact (zb (by repeat (first|(with_reducible first|exact HB.out|apply z2|apply z1|apply z3)|exact HB.out))) : w.heap.size ≤ gb101));clear HB;have HB:=n0_;have BK101:=n1_;have GW101:=n2_;have GE101:=n3_;clear n0_ n1_ n2_ n3_;clear hb hbox hg;have hcz13_0 : w12.cell? ⟨gb101,0,none⟩ = some (.int .u64 a0_0):=(zm BK101.out 0).trans rfl;have hcz13_1 : w12.cell? ⟨gb101,1,none⟩ = some (.int .u64 a0_1):=(zm BK101.out 1).trans rfl;have hfz13_0:=zg BK101.out 0;have hfz13_1:=zg BK101.out 1))
 go_ret
 exact ⟨by first|rfl|(simp [ze,zf] <;> rfl)|(simp only [← hji9,← hji11];first|rfl|(simp [ze,zf] <;> rfl))|(simp [*,ze,zf] <;> rfl),by repeat (first|(with_reducible first|exact HB.out|apply z2|apply z1|apply z3|refine z6 ?_ GE101.out)|exact HB.out)⟩
end Go.Proofs.Ytngcaphdkgihmaa.P
namespace Go.Proofs.Ytngcaphdkgihmaa.P
open Go.RowKit Go.Proofs.YtngcaphdkgihmaaW.PrintWords Go.Proofs.YtngcaphdkgihmaaW.PrintLast Go.Proofs.YtngcaphdkgihmaaW.PrintMore
attribute [local go_sem] zF zH zP zQ zC zD zG zI   -- for this text's walks alone
set_option linter.unusedVariables false
set_option linter.unusedSimpArgs false
mutual
def zd.j0 : Nat → Int → List Int → Bool → Int → Int → Option (Bool)
 | 0,_,_,_,_,_=>none
 | k + 1,x0,x5,x13,x102000,x102001=>if x13 = true then (some false) else (if 0 ≤ x0 then (if x0 < (x5.length : Int) then (zd.l0 k (rd x5 x0) x102000 x102001) else (none)) else (none))
def zd.l0 : Nat → Int → Int → Int → Option (Bool)
 | 0,_,_,_=>none
 | k + 1,x6,x102000,x102001=>if x6 < 128 then ((zZ.f x102000 x102001 x6).bind fun t106=>(if t106 = 1 then (some false) else (zd.l0 k (wrap64 (x6 + 1)) x102000 x102001))) else (some true)
end
def zd.f (k : Nat) (a0 : Int) (a1_0 : Int) (a1_1 : Int) : Option (Bool):=(some (([1,2,4,8,16,32,64,128] : List Int) : List Int)).bind fun y102=>(if a0 < 0 then (zd.j0 k a0 y102 true a1_0 a1_1) else (zd.j0 k a0 y102 (decide (a0 > 7)) a1_0 a1_1))
theorem zd.zR : ∀ k,(∀ y0 y1 y2 y3 y4,LeO (zd.j0 k y0 y1 y2 y3 y4) (zd.j0 (k + 1) y0 y1 y2 y3 y4)) ∧ (∀ y0 y1 y2,LeO (zd.l0 k y0 y1 y2) (zd.l0 (k + 1) y0 y1 y2))
 | 0=>⟨fun _ _ _ _ _ r h=>by simp [zd.j0] at h,fun _ _ _ r h=>by simp [zd.l0] at h⟩
 | k + 1=>by
  obtain ⟨ih0,ih1⟩:=zd.zR k
  refine ⟨?_,?_⟩
  · intro y0 y1 y2 y3 y4
    unfold zd.j0
    repeat' first
    | (with_reducible exact ih0 _ _ _ _ _)
    | (with_reducible exact ih1 _ _ _)
    | (with_reducible exact LeO.refl _)
    | (with_reducible exact LeO.none _)
    | (with_reducible refine LeO.ite ?_ ?_)
    | (with_reducible refine LeO.bind ?_ (fun _=>?_))
    | exact ih0 _ _ _ _ _
    | exact ih1 _ _ _
    | exact LeO.none _
    | refine LeO.ite ?_ ?_
    | refine LeO.bind ?_ (fun _=>?_)
  · intro y0 y1 y2
    unfold zd.l0
    repeat' first
    | (with_reducible exact ih0 _ _ _ _ _)
    | (with_reducible exact ih1 _ _ _)
    | (with_reducible exact LeO.refl _)
    | (with_reducible exact LeO.none _)
    | (with_reducible refine LeO.ite ?_ ?_)
    | (with_reducible refine LeO.bind ?_ (fun _=>?_))
    | exact ih0 _ _ _ _ _
    | exact ih1 _ _ _
    | exact LeO.none _
    | refine LeO.ite ?_ ?_
    | refine LeO.bind ?_ (fun _=>?_)
theorem zd.mono : ∀ a0 a1 a2 k,LeO (zd.f k a0 a1 a2) (zd.f (k + 1) a0 a1 a2):=by
 intro a0 a1 a2 k
 obtain ⟨ih0,ih1⟩:=zd.zR k
 unfold zd.f
 repeat' first
  | (with_reducible exact ih0 _ _ _ _ _)
  | (with_reducible exact ih1 _ _ _)
  | (with_reducible exact LeO.refl _)
  | (with_reducible exact LeO.none _)
  | (with_reducible refine LeO.ite ?_ ?_)
  | (with_reducible refine LeO.bind ?_ (fun _=>?_))
  | exact ih0 _ _ _ _ _
  | exact ih1 _ _ _
  | exact LeO.none _
  | refine LeO.ite ?_ ?_
  | refine LeO.bind ?_ (fun _=>?_)
set_option maxHeartbeats 8000000 in
set_option maxRecDepth 100000 in
theorem zd.calls (k : Nat) (a0 : Int) (a1_0 : Int) (a1_1 : Int) (r : Bool) (w : World) (h : zd.f k a0 a1_0 a1_1 = some r) :
 Calls Try.prog 39 #[.int .i64 a0,.agg #[.int .u64 a1_0,.int .u64 a1_1]] w fun e w'=>e = .returned (.bool r) ∧ Below w.heap.size w w':=by
 have hu61:=Try.underlying61
 have HB:=z4.mk (Below.refl w.heap.size w)
 have H : ((some (([1,2,4,8,16,32,64,128] : List Int) : List Int)).bind fun y102=>(if a0 < 0 then (zd.j0 k a0 y102 true a1_0 a1_1) else (zd.j0 k a0 y102 (decide (a0 > 7)) a1_0 a1_1))) = some r:=h
 clear h
 obtain ⟨y102,hy102⟩ : ∃ y_ : List Int,y_ = (([1,2,4,8,16,32,64,128] : List Int)):=⟨_,rfl⟩
 replace H : (if a0 < 0 then (zd.j0 k a0 y102 true a1_0 a1_1) else (zd.j0 k a0 y102 (decide (a0 > 7)) a1_0 a1_1)) = some r:=by first|(rw [hy102];with_reducible exact H)|(have H2_:=(Option.bind_some _ _).symm.trans H;rw [hy102];with_reducible exact H2_)|(have H2_:=(Option.bind_some _ _).symm.trans H;with_reducible exact H2_)|with_reducible exact H|(rw [hy102];exact H)|exact H
 have Ny102:=z4.mk hy102
 clear hy102
 have HC3:=z4.mk H
 clear H
 go_enter Try.func39,Try.ntmps39
 go_upto_region 2 with (first|((with_reducible refine zz (N:=3) rfl ?_);refine zA ?hg (N:=3) ?hd (cs:=#[.int .u64 a1_0,.int .u64 a1_1]) (t:=61) ?hr ?_;(case hd=>rfl);(case hg=>rfl);(case hr=>first|(go_simp;done)|(go_simp;rfl));intro gb101 hg w4 hbox hb;have n0_:=z4.mk (zc (by repeat (first|(with_reducible first|exact HB.out|apply z2|apply z1|apply z3)|exact HB.out)) hb);have n1_:=z4.mk (hbox);have n2_:=z4.mk ((by rw [hg];exact (zb (by repeat (first|(with_reducible first|exact HB.out|apply z2|apply z1|apply z3)|exact HB.out))) : w.heap.size ≤ gb101));have n3_:=z4.mk ((by rw [hg];exact (zb (by repeat (first|(with_reducible first|exact HB.out|apply z2|apply z1|apply z3)|exact HB.out))) : w.heap.size ≤ gb101));clear HB;have HB:=n0_;have BK101:=n1_;have GW101:=n2_;have GE101:=n3_;clear n0_ n1_ n2_ n3_;clear hb hbox hg)|((with_reducible refine zz (N:=7) rfl ?_);refine Kd.z3p (Kd.int .i64) _ 3 ?hg (N:=7) ?hd (xs:=([1,2,4,8,16,32,64,128] : List Int)) (inner:=[.int .i64 1,.int .i64 2,.int .i64 4,.int .i64 8,.int .i64 16,.int .i64 32,.int .i64 64,.int .i64 128]) (ok:=fun _=>True) (okp:=fun _=>True) ?hr ?hp (fun _ hk=>hk) trivial (Below.refl _ _) (Nat.le_refl _) (by simp) ?_;(case hd=>rfl);(case hg=>rfl);(case hr=>first|(go_simp;done)|(go_simp;rfl));(case hp=>exact (Reps.one (show Kd.M (Kd.int .i64) _ _ _ 1 [.int .i64 1] from rfl) (Reps.one (show Kd.M (Kd.int .i64) _ _ _ 2 [.int .i64 2] from rfl) (Reps.one (show Kd.M (Kd.int .i64) _ _ _ 4 [.int .i64 4] from rfl) (Reps.one (show Kd.M (Kd.int .i64) _ _ _ 8 [.int .i64 8] from rfl) (Reps.one (show Kd.M (Kd.int .i64) _ _ _ 16 [.int .i64 16] from rfl) (Reps.one (show Kd.M (Kd.int .i64) _ _ _ 32 [.int .i64 32] from rfl) (Reps.one (show Kd.M (Kd.int .i64) _ _ _ 64 [.int .i64 64] from rfl) (Reps.one (show Kd.M (Kd.int .i64) _ _ _ 128 [.int .i64 128] from rfl) (Reps.none _ _))))))))));intro v103 w5 ho6 hb hg_ hnew_;clear hg_ hnew_;(first|rw [← Ny102.out] at ho6|(simp only [Int.reduceToNat] at ho6;rw [← Ny102.out] at ho6));have n0_:=z4.mk (Kd.z1b ho6 (zb (by repeat (first|(with_reducible first|exact HB.out|apply z2|apply z1|apply z3|refine z6 ?_ GE101.out)|exact HB.out))));have n1_:=z4.mk (zr (g:=gb101) (o:=.cells #[.int .u64 a1_0,.int .u64 a1_1] 61 (0,0)) (by (with_reducible repeat (first|refine z8 ?_ _|refine za ?_|refine z7 ?_ _));exact BK101.out) hb);have n2_:=z4.mk (zc (by repeat (first|(with_reducible first|exact HB.out|apply z2|apply z1|apply z3|refine z6 ?_ GE101.out)|exact HB.out)) hb);clear BK101;clear HB;have HO104:=n0_;have BK101:=n1_;have HB:=n2_;clear n0_ n1_ n2_;clear hb ho6))
 (try simp only [Act.put,List.setIfInBounds_toArray,List.set_cons_zero,List.set_cons_succ])
 go_cut [13] (fun v13 wc=>∃ (kq : Nat) (x13_2 : Bool),v13 = .bool x13_2 ∧ z4 (zd.j0 kq a0 y102 x13_2 a1_0 a1_1 = some r) ∧ z4 (kq ≤ k) ∧ z4 (Kd.R (Kd.int .i64) 3 wc w.heap.size (fun _=>True) v103 y102) ∧ z4 (wc.heap[gb101]? = some (.cells #[.int .u64 a1_0,.int .u64 a1_1] 61 (0,0))) ∧ z4 (Below w.heap.size w wc))
 case first =>
  have H:=HC3.out
  clear HC3
  by_cases c7 : a0 < 0
  rotate_left
  · rw [if_neg c7] at H
    have c7b0 : decide (a0 < 0) = false:=decide_eq_false c7
    clear c7
    (first|rw [c7b0]|(simp only [zJ,zS];rw [c7b0])|skip)
    have H':=z4.mk H
    clear H
    go_wp2
    go_meet
    case rel=>exact ⟨_,(decide (a0 > 7)),(by first|rfl|(simp;done)|(simp [*];done)),H',⟨by first|omega|exact Nat.le_refl _⟩,⟨by (with_reducible repeat (first|apply Kd.zv|apply Kd.zw|apply Kd.zE));exact HO104.out⟩,⟨by (with_reducible repeat (first|refine z8 ?_ _|refine za ?_|refine z7 ?_ _));exact BK101.out⟩,⟨by repeat (first|(with_reducible first|exact HB.out|apply z2|apply z1|apply z3|refine z6 ?_ GE101.out)|exact HB.out)⟩⟩
  rw [if_pos c7] at H
  have c7b0 : decide (a0 < 0) = true:=decide_eq_true c7
  clear c7
  (first|rw [c7b0]|(simp only [zJ,zS];rw [c7b0])|skip)
  have H':=z4.mk H
  clear H
  go_wp2
  go_meet
  case rel=>exact ⟨_,(true),(by first|rfl|(simp;done)|(simp [*];done)),H',⟨by first|omega|exact Nat.le_refl _⟩,⟨by (with_reducible repeat (first|apply Kd.zv|apply Kd.zw|apply Kd.zE));exact HO104.out⟩,⟨by (with_reducible repeat (first|refine z8 ?_ _|refine za ?_|refine z7 ?_ _));exact BK101.out⟩,⟨by repeat (first|(with_reducible first|exact HB.out|apply z2|apply z1|apply z3|refine z6 ?_ GE101.out)|exact HB.out)⟩⟩
 case rest =>
  clear HC3
  (try clear p2);(try clear c3);(try clear c7);(try clear c7b0)
  obtain ⟨kq,x13_2,rfl,HA,HJ2,HO_5,BK101,HB⟩:=hcut
  cases kq with
  | zero=>exact absurd HA.out (by simp [zd.j0])
  | succ kj2 =>
   have H:=HA.out
   clear HA
   simp only [zd.j0] at H
   by_cases c8 : x13_2 = true
   · subst c8
     have H1 : (some false) = some r:=by rw [if_pos rfl] at H;exact H
     clear H
     have H:=H1
     clear H1
     obtain rfl:=Option.some.inj H
     go_wp2
     go_ret
     exact ⟨by first|rfl|(simp [ze,zf] <;> rfl)|(simp [*,ze,zf] <;> rfl),by repeat (first|(with_reducible first|exact HB.out|apply z2|apply z1|apply z3|refine z6 ?_ GE101.out)|exact HB.out)⟩
   replace c8:=Bool.eq_false_iff.mpr c8
   subst c8
   have H1 : (if 0 ≤ a0 then (if a0 < (y102.length : Int) then (zd.l0 kj2 (rd y102 a0) a1_0 a1_1) else (none)) else (none)) = some r:=by rw [if_neg (show ¬ (false = true) by decide)] at H;exact H
   clear H
   have H:=H1
   clear H1
   by_cases c9 : 0 ≤ a0
   rotate_left
   · rw [if_neg c9] at H
     exact absurd H (by simp)
   rw [if_pos c9] at H
   have c9b0 : decide (0 ≤ a0) = true:=decide_eq_true c9
   clear c9
   by_cases c10 : a0 < (y102.length : Int)
   rotate_left
   · rw [if_neg c10] at H
     exact absurd H (by simp)
   rw [if_pos c10] at H
   have c10b0 : decide (a0 < (y102.length : Int)) = true:=decide_eq_true c10
   clear c10
   have H':=z4.mk H
   clear H
   obtain ⟨Ao11,co11,eo11⟩:=Kd.z15 HO_5.out
   subst eo11
   have p105 : 0 ≤ (a0 : Int):=of_decide_eq_true (by first|(with_reducible assumption)|assumption)
   have q105 : a0 < (y102.length : Int):=of_decide_eq_true (by first|(with_reducible assumption)|assumption)
   obtain ⟨ad105,e105,hx105_0⟩:=Kd.at_int (Kd.zx HO_5.out).2.2 a0 p105 q105
   cases e105
   replace p105:=eq_true p105
   replace q105:=eq_true q105
   go_wp2
   go_loopg [6] kj2 (fun kq v6 w'=>∃ (x6_2 : Int),v6 = .int .i64 x6_2 ∧ z4 (zd.l0 kq x6_2 a1_0 a1_1 = some r) ∧ z4 (kq ≤ kj2) ∧ z4 (w'.heap[gb101]? = some (.cells #[.int .u64 a1_0,.int .u64 a1_1] 61 (0,0))) ∧ z4 (Below w.heap.size w w'))
   case atStart=>exact ⟨(rd y102 a0),(by first|rfl|(simp;done)|(simp [*];done)),H',⟨Nat.le_refl _⟩,⟨by (with_reducible repeat (first|refine z8 ?_ _|refine za ?_|refine z7 ?_ _));exact BK101.out⟩,⟨by repeat (first|(with_reducible first|exact HB.out|apply z2|apply z1|apply z3|refine z6 ?_ GE101.out)|exact HB.out)⟩⟩
   case round =>
    clear H'
    (try clear c1);(try clear p1);(try clear q1);(try clear hx1);(try clear p2);(try clear c3);(try clear c7);(try clear c7b0);(try clear c8);(try clear c9);(try clear c9b0);(try clear c10);(try clear c10b0);(try clear p10);(try clear q10);(try clear hx10);(try clear hx105_0);(try clear p105);(try clear p2);(try clear q105)
    obtain ⟨x6_2,rfl,HA,HK2,BK101,HB⟩:=hrel
    cases gk with
    | zero=>exact absurd HA.out (by simp [zd.l0])
    | succ k2 =>
     have H:=HA.out
     clear HA
     simp only [zd.l0] at H
     by_cases c12 : x6_2 < 128
     rotate_left
     · rw [if_neg c12] at H
       have c12b0 : decide (x6_2 < 128) = false:=decide_eq_false c12
       clear c12
       obtain rfl:=Option.some.inj H
       go_wp2
       go_ret
       exact ⟨by first|rfl|(simp [ze,zf] <;> rfl)|(simp [*,ze,zf] <;> rfl),by repeat (first|(with_reducible first|exact HB.out|apply z2|apply z1|apply z3|refine z6 ?_ GE101.out)|exact HB.out)⟩
     rw [if_pos c12] at H
     have c12b0 : decide (x6_2 < 128) = true:=decide_eq_true c12
     clear c12
     replace H:=Option.bind_eq_some_iff.mp H
     obtain ⟨t106,A130,H⟩:=H
     replace H : (if t106 = 1 then (some false) else (zd.l0 k2 (wrap64 (x6_2 + 1)) a1_0 a1_1)) = some r:=H
     have A13:=z4.mk A130
     clear A130
     by_cases c14 : t106 = 1
     · rw [if_pos c14] at H
       have c14b0 : (t106 == 1) = true:=beq_iff_eq.mpr c14
       have c14b1 : (t106 != 1) = false:=bne_eq_false_iff_eq.mpr c14
       clear c14
       obtain rfl:=Option.some.inj H
       have hcz15_0 : wr.cell? ⟨gb101,0,none⟩ = some (.int .u64 a1_0):=(zm BK101.out 0).trans rfl
       have hcz15_1 : wr.cell? ⟨gb101,1,none⟩ = some (.int .u64 a1_1):=(zm BK101.out 1).trans rfl
       have hfz15_0:=zg BK101.out 0
       have hfz15_1:=zg BK101.out 1
       go_wp2_with (first|((with_reducible refine zn (f:=81) rfl ?_);refine goesL_ (some 24) rfl rfl Try.func81 (by kernel_rfl) rfl #[.agg #[.int .u64 a1_0,.int .u64 a1_1],.int .i64 x6_2] rfl (by (try simp only [List.map_toArray,List.map_cons,List.map_nil]);first|done|rfl|(simp only [List.length_drop,List.length_take];rfl)) ?_;(with_reducible refine (zZ.calls a1_0 a1_1 x6_2 t106 _ A13.out).mono ?_);rintro e w16 ⟨rfl,hb⟩;refine ⟨_,rfl,?_⟩;have n0_:=z4.mk (zr (g:=gb101) (o:=.cells #[.int .u64 a1_0,.int .u64 a1_1] 61 (0,0)) (by (with_reducible repeat (first|refine z8 ?_ _|refine za ?_|refine z7 ?_ _));exact BK101.out) hb);have n1_:=z4.mk (zc (by repeat (first|(with_reducible first|exact HB.out|apply z2|apply z1|apply z3|refine z6 ?_ GE101.out)|exact HB.out)) hb);clear BK101;clear HB;have BK101:=n0_;have HB:=n1_;clear n0_ n1_;(try clear hb);(try clear hb2);(try clear hk);(try clear hi)))
       go_ret
       exact ⟨by first|rfl|(simp [ze,zf] <;> rfl)|(simp [*,ze,zf] <;> rfl),by repeat (first|(with_reducible first|exact HB.out|apply z2|apply z1|apply z3|refine z6 ?_ GE101.out)|exact HB.out)⟩
     rw [if_neg c14] at H
     have c14b0 : (t106 == 1) = false:=beq_eq_false_iff_ne.mpr c14
     have c14b1 : (t106 != 1) = true:=bne_iff_ne.mpr c14
     have H':=z4.mk H
     clear H
     have hcz17_0 : wr.cell? ⟨gb101,0,none⟩ = some (.int .u64 a1_0):=(zm BK101.out 0).trans rfl
     have hcz17_1 : wr.cell? ⟨gb101,1,none⟩ = some (.int .u64 a1_1):=(zm BK101.out 1).trans rfl
     have hfz17_0:=zg BK101.out 0
     have hfz17_1:=zg BK101.out 1
     go_wp2_with (first|((with_reducible refine zn (f:=81) rfl ?_);refine goesL_ (some 24) rfl rfl Try.func81 (by kernel_rfl) rfl #[.agg #[.int .u64 a1_0,.int .u64 a1_1],.int .i64 x6_2] rfl (by (try simp only [List.map_toArray,List.map_cons,List.map_nil]);first|done|rfl|(simp only [List.length_drop,List.length_take];rfl)) ?_;(with_reducible refine (zZ.calls a1_0 a1_1 x6_2 t106 _ A13.out).mono ?_);rintro e w18 ⟨rfl,hb⟩;refine ⟨_,rfl,?_⟩;have n0_:=z4.mk (zr (g:=gb101) (o:=.cells #[.int .u64 a1_0,.int .u64 a1_1] 61 (0,0)) (by (with_reducible repeat (first|refine z8 ?_ _|refine za ?_|refine z7 ?_ _));exact BK101.out) hb);have n1_:=z4.mk (zc (by repeat (first|(with_reducible first|exact HB.out|apply z2|apply z1|apply z3|refine z6 ?_ GE101.out)|exact HB.out)) hb);clear BK101;clear HB;have BK101:=n0_;have HB:=n1_;clear n0_ n1_;(try clear hb);(try clear hb2);(try clear hk);(try clear hi)))
     go_roundg k2
     case measure=>have:=HJ2.out;have:=HK2.out;omega
     case rel=>exact ⟨(wrap64 (x6_2 + 1)),(by first|rfl|(simp;done)|(simp [*];done)),H',⟨by have:=HJ2.out;have:=HK2.out;omega⟩,⟨by (with_reducible repeat (first|refine z8 ?_ _|refine za ?_|refine z7 ?_ _));exact BK101.out⟩,⟨by repeat (first|(with_reducible first|exact HB.out|apply z2|apply z1|apply z3|refine z6 ?_ GE101.out)|exact HB.out)⟩⟩
end Go.Proofs.Ytngcaphdkgihmaa.P
namespace Go.Proofs.Ytngcaphdkgihmaa.P
open Go.RowKit Go.Proofs.YtngcaphdkgihmaaW.PrintWords Go.Proofs.YtngcaphdkgihmaaW.PrintLast Go.Proofs.YtngcaphdkgihmaaW.PrintMore
attribute [local go_sem] zF zH zP zQ zC zD zG zI   -- for this text's walks alone
set_option linter.unusedVariables false
set_option linter.unusedSimpArgs false
def zq.l0 : Nat → Int → List (S61) → Int → Option (Bool)
 | 0,_,_,_=>none
 | k + 1,x0,x1,x5=>if x5 < (x1.length : Int) then (if 0 ≤ x5 then ((zd.f k x0 ((z1f x1 x5).f0) ((z1f x1 x5).f1)).bind fun t102=>(if t102 = true then (zq.l0 k x0 x1 (wrap64 (x5 + 1))) else (some false))) else (none)) else (some true)
def zq.f (k : Nat) (a0 : Int) (l1 : List (S61)) : Option (Bool):=zq.l0 k a0 l1 0
theorem zq.zR : ∀ k,(∀ y0 y1 y2,LeO (zq.l0 k y0 y1 y2) (zq.l0 (k + 1) y0 y1 y2))
 | 0=>fun _ _ _ r h=>by simp [zq.l0] at h
 | k + 1=>by
  have ih0:=zq.zR k
  · intro y0 y1 y2
    unfold zq.l0
    repeat' first
    | (with_reducible exact ih0 _ _ _)
    | (with_reducible exact zd.mono _ _ _ _)
    | (with_reducible exact LeO.refl _)
    | (with_reducible exact LeO.none _)
    | (with_reducible refine LeO.ite ?_ ?_)
    | (with_reducible refine LeO.bind ?_ (fun _=>?_))
    | exact ih0 _ _ _
    | exact zd.mono _ _ _ _
    | exact LeO.none _
    | refine LeO.ite ?_ ?_
    | refine LeO.bind ?_ (fun _=>?_)
theorem zq.mono : ∀ a0 a1 k,LeO (zq.f k a0 a1) (zq.f (k + 1) a0 a1):=by
 intro a0 a1 k
 have ih0:=zq.zR k
 unfold zq.f
 repeat' first
  | (with_reducible exact ih0 _ _ _)
  | (with_reducible exact zd.mono _ _ _ _)
  | (with_reducible exact LeO.refl _)
  | (with_reducible exact LeO.none _)
  | (with_reducible refine LeO.ite ?_ ?_)
  | (with_reducible refine LeO.bind ?_ (fun _=>?_))
  | exact ih0 _ _ _
  | exact zd.mono _ _ _ _
  | exact LeO.none _
  | refine LeO.ite ?_ ?_
  | refine LeO.bind ?_ (fun _=>?_)
set_option maxHeartbeats 8000000 in
set_option maxRecDepth 100000 in
theorem zq.calls (k : Nat) (a0 : Int) (A1 : Option Addr) (c1 : Nat) (l1 : List (S61)) (r : Bool) (w : World) (hr1 : Kd.C k61 w A1 l1.length l1) (hc1 : l1.length ≤ c1) (h : zq.f k a0 l1 = some r) :
 Calls Try.prog 46 #[.int .i64 a0,.slice A1 l1.length c1] w fun e w'=>e = .returned (.bool r) ∧ Below w.heap.size w w':=by
 have hu61:=Try.underlying61
 have HR1:=z4.mk hr1
 have HC1:=z4.mk hc1
 clear hr1 hc1
 have HB:=z4.mk (Below.refl w.heap.size w)
 have H : (zq.l0 k a0 l1 0) = some r:=h
 clear h
 have H':=z4.mk H
 clear H
 go_enter Try.func46,Try.ntmps46
 go_wp2
 go_loopg [5] k (fun kq v5 w'=>∃ (x5_1 : Int),v5 = .int .i64 x5_1 ∧ z4 (zq.l0 kq a0 l1 x5_1 = some r) ∧ z4 (kq ≤ k) ∧ z4 (Below w.heap.size w w'))
 case atStart=>exact ⟨(0),(by first|rfl|(simp;done)|(simp [*];done)),H',⟨Nat.le_refl _⟩,⟨by repeat (first|(with_reducible first|exact HB.out|apply z2|apply z1|apply z3)|exact HB.out)⟩⟩
 case round =>
  clear H'
  (try clear c1);(try clear p2)
  obtain ⟨x5_1,rfl,HA,HK1,HB⟩:=hrel
  cases gk with
  | zero=>exact absurd HA.out (by simp [zq.l0])
  | succ k1 =>
   have H:=HA.out
   clear HA
   simp only [zq.l0] at H
   by_cases c3 : x5_1 < (l1.length : Int)
   rotate_left
   · rw [if_neg c3] at H
     have c3b0 : decide (x5_1 < (l1.length : Int)) = false:=decide_eq_false c3
     clear c3
     obtain rfl:=Option.some.inj H
     go_wp2
     go_ret
     exact ⟨by first|rfl|(simp [ze,zf] <;> rfl)|(simp [*,ze,zf] <;> rfl),by repeat (first|(with_reducible first|exact HB.out|apply z2|apply z1|apply z3)|exact HB.out)⟩
   rw [if_pos c3] at H
   have c3b0 : decide (x5_1 < (l1.length : Int)) = true:=decide_eq_true c3
   clear c3
   by_cases c4 : 0 ≤ x5_1
   rotate_left
   · rw [if_neg c4] at H
     exact absurd H (by simp)
   rw [if_pos c4] at H
   have c4b0 : decide (0 ≤ x5_1) = true:=decide_eq_true c4
   clear c4
   replace H:=Option.bind_eq_some_iff.mp H
   obtain ⟨t102,A50,H⟩:=H
   replace H : (if t102 = true then (zq.l0 k1 a0 l1 (wrap64 (x5_1 + 1))) else (some false)) = some r:=H
   have A5:=z4.mk A50
   clear A50
   by_cases c6 : t102 = true
   rotate_left
   · replace c6:=Bool.eq_false_iff.mpr c6
     subst c6
     have H1 : (some false) = some r:=by rw [if_neg (show ¬ (false = true) by decide)] at H;exact H
     clear H
     have H:=H1
     clear H1
     obtain rfl:=Option.some.inj H
     have p101 : 0 ≤ (x5_1 : Int):=of_decide_eq_true (by first|(with_reducible assumption)|assumption)
     have q101 : x5_1 < (l1.length : Int):=of_decide_eq_true (by first|(with_reducible assumption)|assumption)
     obtain ⟨ad101,e101,hx101_0,hx101_1⟩:=z3G HR1.out x5_1 p101 q101
     cases e101
     replace hx101_0:=(HB.out.cell (World.block_lt_of_cell? w _ hx101_0)).trans hx101_0
     replace hx101_1:=(HB.out.cell (World.block_lt_of_cell? w _ hx101_1)).trans hx101_1
     replace p101:=eq_true p101
     replace q101:=eq_true q101
     go_wp2_with (first|((with_reducible refine zn (f:=39) rfl ?_);refine goesL_ (some 17) rfl rfl Try.func39 (by kernel_rfl) rfl #[.int .i64 a0,.agg #[.int .u64 ((z1f l1 x5_1).f0),.int .u64 ((z1f l1 x5_1).f1)]] rfl (by (try simp only [List.map_toArray,List.map_cons,List.map_nil]);first|done|rfl|(simp only [List.length_drop,List.length_take];rfl)) ?_;(with_reducible refine (zd.calls k1 a0 ((z1f l1 x5_1).f0) ((z1f l1 x5_1).f1) false _ A5.out).mono ?_);rintro e w8 ⟨rfl,hb⟩;refine ⟨_,rfl,?_⟩;have n0_:=z4.mk (zc (by repeat (first|(with_reducible first|exact HB.out|apply z2|apply z1|apply z3)|exact HB.out)) hb);clear HB;have HB:=n0_;clear n0_;(try clear hb);(try clear hb2);(try clear hk);(try clear hi)))
     go_ret
     exact ⟨by first|rfl|(simp [ze,zf] <;> rfl)|(simp [*,ze,zf] <;> rfl),by repeat (first|(with_reducible first|exact HB.out|apply z2|apply z1|apply z3)|exact HB.out)⟩
   subst c6
   have H1 : (zq.l0 k1 a0 l1 (wrap64 (x5_1 + 1))) = some r:=by rw [if_pos rfl] at H;exact H
   clear H
   have H:=H1
   clear H1
   have H':=z4.mk H
   clear H
   have p101 : 0 ≤ (x5_1 : Int):=of_decide_eq_true (by first|(with_reducible assumption)|assumption)
   have q101 : x5_1 < (l1.length : Int):=of_decide_eq_true (by first|(with_reducible assumption)|assumption)
   obtain ⟨ad101,e101,hx101_0,hx101_1⟩:=z3G HR1.out x5_1 p101 q101
   cases e101
   replace hx101_0:=(HB.out.cell (World.block_lt_of_cell? w _ hx101_0)).trans hx101_0
   replace hx101_1:=(HB.out.cell (World.block_lt_of_cell? w _ hx101_1)).trans hx101_1
   replace p101:=eq_true p101
   replace q101:=eq_true q101
   go_wp2_with (first|((with_reducible refine zn (f:=39) rfl ?_);refine goesL_ (some 17) rfl rfl Try.func39 (by kernel_rfl) rfl #[.int .i64 a0,.agg #[.int .u64 ((z1f l1 x5_1).f0),.int .u64 ((z1f l1 x5_1).f1)]] rfl (by (try simp only [List.map_toArray,List.map_cons,List.map_nil]);first|done|rfl|(simp only [List.length_drop,List.length_take];rfl)) ?_;(with_reducible refine (zd.calls k1 a0 ((z1f l1 x5_1).f0) ((z1f l1 x5_1).f1) true _ A5.out).mono ?_);rintro e w7 ⟨rfl,hb⟩;refine ⟨_,rfl,?_⟩;have n0_:=z4.mk (zc (by repeat (first|(with_reducible first|exact HB.out|apply z2|apply z1|apply z3)|exact HB.out)) hb);clear HB;have HB:=n0_;clear n0_;(try clear hb);(try clear hb2);(try clear hk);(try clear hi)))
   go_roundg k1
   case measure=>have:=HK1.out;omega
   case rel=>exact ⟨(wrap64 (x5_1 + 1)),(by first|rfl|(simp;done)|(simp [*];done)),H',⟨by have:=HK1.out;omega⟩,⟨by repeat (first|(with_reducible first|exact HB.out|apply z2|apply z1|apply z3)|exact HB.out)⟩⟩
end Go.Proofs.Ytngcaphdkgihmaa.P
/- Lists of elements: which are of a level, the same ones, the document's. Own text. -/
namespace Go.Proofs.Ytngcaphdkgihmaa.Sp
open Go.RowKit Go.Proofs.YtngcaphdkgihmaaW.PrintWords Go.Proofs.YtngcaphdkgihmaaW.PrintMore Go.Proofs.Ytngcaphdkgihmaa.P Go.Proofs.Ytngcaphdkgihmaa.Ar Go.Proofs.Ytngcaphdkgihmaa.Tw
set_option linter.unusedVariables false
set_option linter.unusedSimpArgs false
/-- Is there such a level? -/
def LvS (L : Int) : Prop := 0 ≤ L ∧ L ≤ 7
instance (L : Int) : Decidable (LvS L) := by unfold LvS; infer_instance
theorem wide_out {L : Int} (h : ¬ LvS L) : Ev (fun k => zs.f k L) 0 := by
  unfold zs.f
  by_cases h0 : L < 0
  · exact Ev.pos h0 (Ev.step (fun k => by rw [zs.j0]) (Ev.pos rfl (Ev.ret _)))
  · rw [decide_eq_true (show L > 7 by unfold LvS at h; omega)]
    exact Ev.neg h0 (Ev.step (fun k => by rw [zs.j0]) (Ev.pos rfl (Ev.ret _)))
theorem wide_in {L : Int} (h : LvS L) : ∃ v, v ≠ 0 ∧ Ev (fun k => zs.f k L) v := by
  obtain ⟨h0, h7⟩ := h
  obtain ⟨l, rfl⟩ := Int.eq_ofNat_of_zero_le h0
  have hstep : ∀ v, Ev (fun k => zs.j0 k (l : Int) false) v → Ev (fun k => zs.f k (l : Int)) v := by
    intro v hv
    unfold zs.f
    rw [decide_eq_false (show ¬ ((l : Int) > 7) by omega)]
    exact Ev.neg (by omega) hv
  by_cases c : (l : Int) ≤ 3
  · exact ⟨1, by decide, hstep 1 (Ev.step (fun k => by rw [zs.j0]) (Ev.neg (by decide) (Ev.pos c (Ev.ret _))))⟩
  · have e : wrap64 ((l : Int) - 3) = ((l - 3 : Nat) : Int) := by rw [z2F (by omega) (by omega)]; omega
    refine ⟨((2 ^ (l - 3) : Nat) : Int), by have := Nat.two_pow_pos (l - 3); omega, hstep _ (Ev.step (fun k => by rw [zs.j0]) (Ev.neg (by decide) (Ev.neg c ?_)))⟩
    rw [e]
    exact Ev.pos (Int.natCast_nonneg _) (Ev.ret' (z4B (l - 3) (by omega)))
theorem rdL (l : Nat) (h : l ≤ 7) : rd ([1, 2, 4, 8, 16, 32, 64, 128] : List Int) (l : Int) = ((2 ^ l : Nat) : Int) := by
  have : ∀ m, m ≤ 7 → rd ([1, 2, 4, 8, 16, 32, 64, 128] : List Int) ((m : Nat) : Int) = ((2 ^ m : Nat) : Int) := by decide
  exact this l h
theorem z2r (a n : Nat) (ha : a < 2 ^ 64) (hn : n ≤ 64) : Go.bits .and .u64 (shr .u64 (a : Int) (n : Int)) 1 = if a.testBit n then 1 else 0 := by
  rw [z3y a n hn]
  have hd : a / 2 ^ n < 2 ^ 64 := Nat.lt_of_le_of_lt (Nat.div_le_self _ _) ha
  rw [show (1 : Int) = ((1 : Nat) : Int) from rfl, z2T _ 1 hd (by decide), Nat.and_one_is_mod, Nat.testBit_eq_decide_div_mod_eq]
  by_cases c : a / 2 ^ n % 2 = 1
  · rw [c]; simp
  · rw [show a / 2 ^ n % 2 = 0 by omega]; simp
theorem z4x (x : E) (n : Nat) (hn : n < 128) : zZ.f (hi x) (lo x) (n : Int) = some (if (val x).testBit n then 1 else 0) := by
  have hx1 := zV x.1
  have hx2 := zV x.2
  have hQ : Q 6 = 2 ^ 64 := rfl
  rw [hQ] at hx1 hx2
  have hv : val x = 2 ^ 64 * val x.1 + val x.2 := by rw [z1c, hQ, Nat.mul_comm]
  unfold zZ.f
  rw [hv, Nat.testBit_two_pow_mul_add _ hx2]
  unfold hi lo
  by_cases c : n < 64
  · have e : IntKind.u64.wrap (n : Int) = (n : Int) := z2c (by omega) (by omega)
    rw [if_neg (by omega), e, if_pos (Int.natCast_nonneg _), z2r _ _ hx2 (by omega), if_pos c]
  · have e : IntKind.u64.wrap (wrap64 ((n : Int) - 64)) = ((n - 64 : Nat) : Int) := by
      rw [z2F (by omega) (by omega), z2c (by omega) (by omega)]; omega
    rw [if_pos (by omega), e, if_pos (Int.natCast_nonneg _), z2r _ _ hx1 (by omega), if_neg c]
theorem refOf_l0 (x : E) : ∀ (d n : Nat), n + d = 128 → Ev (fun k => zd.l0 k (n : Int) (hi x) (lo x)) (decide (val x < 2 ^ n)) := by
  intro d
  induction d with
  | zero =>
    intro n hn
    have : n = 128 := by omega
    subst this
    have := zV x; rw [Q_seven] at this
    rw [decide_eq_true this]
    exact Ev.step (fun k => by rw [zd.l0]) (Ev.neg (by decide) (Ev.ret _))
  | succ d ih =>
    intro n hn
    have hn' : n < 128 := by omega
    refine Ev.step (fun k => by rw [zd.l0]) (Ev.pos (by omega) (Ev.bnd0 (z4x x n hn') ?_))
    simp only [z1F hn' (show 128 ≤ 4611686018427387904 by decide)]
    cases c : (val x).testBit n with
    | true =>
      refine Ev.pos (by simp) (Ev.ret' ?_)
      symm; rw [decide_eq_false_iff_not]
      intro h; rw [Nat.testBit_lt_two_pow h] at c; cases c
    | false =>
      refine Ev.neg (by simp) ?_
      have hih := ih (n + 1) (by omega)
      have e : decide (val x < 2 ^ (n + 1)) = decide (val x < 2 ^ n) := by
        rw [decide_eq_decide]
        constructor
        · intro h
          apply Nat.lt_pow_two_of_testBit
          intro i hi
          by_cases e : i = n
          · rw [e]; exact c
          · exact Nat.testBit_lt_two_pow (Nat.lt_of_lt_of_le h (Nat.pow_le_pow_right (by decide) (by omega)))
        · intro h; exact Nat.lt_of_lt_of_le h (Nat.pow_le_pow_right (by decide) (by omega))
      rw [← e]; exact hih
theorem refOf_ev (L : Int) (x : E) : Ev (fun k => zd.f k L (hi x) (lo x)) (decide (OfS L x)) := by
  unfold zd.f
  refine Ev.bnd0 (a := ([1, 2, 4, 8, 16, 32, 64, 128] : List Int)) rfl ?_
  by_cases h0 : L < 0
  · refine Ev.pos h0 (Ev.step (fun k => by rw [zd.j0]) (Ev.pos rfl (Ev.ret' ?_)))
    symm; rw [decide_eq_false_iff_not]; rintro ⟨h, _⟩; omega
  refine Ev.neg h0 ?_
  by_cases h7 : L > 7
  · rw [decide_eq_true h7]
    refine Ev.step (fun k => by rw [zd.j0]) (Ev.pos rfl (Ev.ret' ?_))
    symm; rw [decide_eq_false_iff_not]; rintro ⟨_, h, _⟩; omega
  rw [decide_eq_false h7]
  obtain ⟨l, rfl⟩ := Int.eq_ofNat_of_zero_le (show 0 ≤ L by omega)
  refine Ev.step (fun k => by rw [zd.j0]) (Ev.neg (by decide) (Ev.pos (Int.natCast_nonneg _) (Ev.pos (by simp; omega) ?_)))
  rw [rdL l (by omega)]
  have hp : 2 ^ l ≤ 128 := Nat.pow_le_pow_right (n := 2) (by decide) (show l ≤ 7 by omega)
  have := refOf_l0 x (128 - 2 ^ l) (2 ^ l) (by omega)
  have e : decide (val x < 2 ^ 2 ^ l) = decide (OfS (l : Int) x) := by
    rw [decide_eq_decide]; unfold OfS InL Q; rw [Int.toNat_natCast]
    exact ⟨fun h => ⟨by omega, by omega, h⟩, fun h => h.2.2⟩
  rw [← e]; exact this
/-- All of a level. -/
def AllS (L : Int) (X : List E) : Prop := ∀ x ∈ X, OfS L x
instance (L : Int) (X : List E) : Decidable (AllS L X) := by unfold AllS; infer_instance
theorem z43 {L : Int} {X : List E} {i : Nat} (h : i < X.length) : AllS L (X.drop i) ↔ OfS L (X.getD i 0) ∧ AllS L (X.drop (i + 1)) := by
  rw [List.drop_eq_getElem_cons h]
  have : X.getD i 0 = X[i] := by rw [List.getD_eq_getElem?_getD, List.getElem?_eq_getElem h]; rfl
  rw [this]
  exact List.forall_mem_cons
theorem All_l0 (L : Int) (X : List E) (hX : X.length ≤ 1000000) : ∀ (d i : Nat), i + d = X.length → Ev (fun k => zq.l0 k L (X.map toR) (i : Int)) (decide (AllS L (X.drop i))) := by
  intro d
  induction d with
  | zero =>
    intro i hi
    refine Ev.step (fun k => by rw [zq.l0]) (Ev.neg (by rw [List.length_map]; omega) (Ev.ret' ?_))
    symm; rw [decide_eq_true_eq, List.drop_eq_nil_of_le (by omega)]
    intro x hx; cases hx
  | succ d ih =>
    intro i hi
    have hi' : i < X.length := by omega
    refine Ev.step (fun k => by rw [zq.l0]) (Ev.pos (by rw [List.length_map]; omega) (Ev.pos (Int.natCast_nonneg _) ?_))
    simp only [rdR, toR_f0, toR_f1, z1F hi' (show X.length ≤ 4611686018427387904 by omega)]
    refine Ev.bnd (refOf_ev L _) ?_
    have hd := z43 (L := L) hi'
    by_cases c : OfS L (X.getD i 0)
    · refine Ev.pos (decide_eq_true c) ((ih (i + 1) (by omega)).eqn ?_)
      rw [decide_eq_decide, hd]; exact ⟨fun h => ⟨c, h⟩, fun h => h.2⟩
    · refine Ev.neg (by simpa using c) (Ev.ret' ?_)
      symm; rw [decide_eq_false_iff_not, hd]; exact fun h => c h.1
theorem All_ev (L : Int) (X : List E) (hX : X.length ≤ 1000000) : Ev (fun k => zq.f k L (X.map toR)) (decide (AllS L X)) := All_l0 L X hX X.length 0 (by omega)
theorem z2W {α β : Type} (f : α → β) (X : List α) (d : α) (i : Nat) (h : i < X.length) : (X.take (i + 1)).map f = (X.take i).map f ++ [f (X.getD i d)] := by
  rw [List.take_succ_eq_append_getElem h, List.map_append]
  have : X.getD i d = X[i] := by rw [List.getD_eq_getElem?_getD, List.getElem?_eq_getElem h]; rfl
  rw [this]; rfl
theorem Ref_l0 (X : List E) (hX : X.length ≤ 1000000) : ∀ (d i : Nat), i + d = X.length → Ev (fun k => zj.l0 k (X.map toS) ((X.take i).map toR) (i : Int)) (X.map toR) := by
  intro d
  induction d with
  | zero =>
    intro i hi
    refine Ev.step (fun k => by rw [zj.l0]) (Ev.neg (by rw [List.length_map]; omega) (Ev.ret' ?_))
    rw [List.take_of_length_le (by omega)]
  | succ d ih =>
    intro i hi
    have hi' : i < X.length := by omega
    refine Ev.step (fun k => by rw [zj.l0]) (Ev.pos (by rw [List.length_map]; omega) (Ev.pos (Int.natCast_nonneg _) (Ev.pos (by rw [List.length_map, List.length_take]; omega) ?_)))
    simp only [rdS, toS_f0, toS_f1, z1F hi' (show X.length ≤ 4611686018427387904 by omega)]
    have hih := ih (i + 1) (by omega)
    rw [z2W toR X 0 i hi'] at hih
    exact hih
theorem Ref_ev (X : List E) (hX : X.length ≤ 1000000) : Ev (fun k => zj.f k (X.map toS)) (X.map toR) := Ref_l0 X hX X.length 0 (by omega)
theorem Same_l0 (X Y : List E) (hl : X.length = Y.length) (hX : X.length ≤ 1000000) : ∀ (d i : Nat), i + d = X.length → (∀ j, j < i → X.getD j 0 = Y.getD j 0) → Ev (fun k => zh.l0 k (X.map toS) (Y.map toR) (i : Int)) (decide (X = Y)) := by
  intro d
  induction d with
  | zero =>
    intro i hi h
    refine Ev.step (fun k => by rw [zh.l0]) (Ev.neg (by rw [List.length_map]; omega) (Ev.ret' ?_))
    symm; rw [decide_eq_true_eq]
    apply List.ext_getElem hl
    intro j h1 h2
    have := h j (by omega)
    simpa [List.getD_eq_getElem?_getD, h1, h2] using this
  | succ d ih =>
    intro i hid h
    have hi' : i < X.length := by omega
    refine Ev.step (fun k => by rw [zh.l0]) (Ev.pos (by rw [List.length_map]; omega) (Ev.pos (Int.natCast_nonneg _) (Ev.pos (by rw [List.length_map]; omega) ?_)))
    simp only [rdS, rdR, toS_f0, toS_f1, toR_f0, toR_f1, z1F hi' (show X.length ≤ 4611686018427387904 by omega)]
    by_cases c : X.getD i 0 = Y.getD i 0
    · refine Ev.neg (by rw [c]; simp) (ih (i + 1) (by omega) (fun j hj => ?_))
      by_cases e : j = i
      · rw [e]; exact c
      · exact h j (by omega)
    · refine Ev.pos ?_ (Ev.ret' ?_)
      · simp only [Bool.or_eq_true, Bool.not_eq_true', beq_eq_false_iff_ne]
        by_cases e : hi (X.getD i 0) = hi (Y.getD i 0)
        · right; intro e2; exact c (z3J e e2)
        · left; exact e
      · symm; rw [decide_eq_false_iff_not]
        rintro rfl; exact c rfl
theorem Same_ev (X Y : List E) (hX : X.length ≤ 1000000) : Ev (fun k => zh.f k (X.map toS) (Y.map toR)) (decide (X = Y)) := by
  unfold zh.f
  by_cases h : X.length = Y.length
  · exact Ev.pos (by rw [List.length_map, List.length_map]; omega) (Same_l0 X Y h hX X.length 0 (by omega) (fun j hj => by omega))
  · refine Ev.neg (by rw [List.length_map, List.length_map]; omega) (Ev.ret' ?_)
    symm; rw [decide_eq_false_iff_not]
    rintro rfl; exact h rfl
/-- The same element? as the program asks. -/
theorem eq_pair (x y : E) : (hi x == hi y && (lo x == lo y)) = decide (x = y) := by
  rw [Bool.eq_iff_iff, Bool.and_eq_true, beq_iff_eq, beq_iff_eq, decide_eq_true_eq]
  exact ⟨fun h => z3J h.1 h.2, fun h => by rw [h]; exact ⟨rfl, rfl⟩⟩
theorem eq_none (x : E) : (hi x == 0 && (lo x == 0)) = decide (x = 0) := by
  rw [← eq_pair, z2t, z2u]
end Go.Proofs.Ytngcaphdkgihmaa.Sp
namespace Go.Proofs.Ytngcaphdkgihmaa.Sp
open Go.RowKit Go.Proofs.YtngcaphdkgihmaaW.PrintWords Go.Proofs.YtngcaphdkgihmaaW.PrintMore Go.Proofs.Ytngcaphdkgihmaa.P Go.Proofs.Ytngcaphdkgihmaa.Ar Go.Proofs.Ytngcaphdkgihmaa.Tw
set_option linter.unusedVariables false
set_option linter.unusedSimpArgs false
theorem z1A : Ev (fun k => zk.f k) true := Ev.of zk.mono (k := 60) (by decide +kernel)
variable {Z : List S51} {w G : Nat}
/-- A row of a list. -/
def rowOf (Z : List S51) (w g : Nat) : List S51 := (Z.take (g * w + w)).drop (g * w)
def rowsOf (Z : List S51) (w G : Nat) : List (List S51) := (List.range G).map (rowOf Z w)
theorem z1e (Z : List S51) (w G : Nat) : (rowsOf Z w G).length = G := by unfold rowsOf; rw [List.length_map, List.length_range]
theorem z3w (Z : List S51) (w G : Nat) : rowsOf Z w (G + 1) = rowsOf Z w G ++ [rowOf Z w G] := by unfold rowsOf; rw [List.range_succ, List.map_append]; rfl
theorem z1L {g : Nat} (h : g * w + w ≤ Z.length) : (rowOf Z w g).length = w := by unfold rowOf; rw [List.length_drop, List.length_take]; omega
theorem take_row (g : Nat) : Z.take (g * w) ++ rowOf Z w g = Z.take (g * w + w) := by
  unfold rowOf
  conv => rhs; rw [← List.take_append_drop (g * w) (Z.take (g * w + w))]
  rw [List.take_take, Nat.min_eq_left (Nat.le_add_right _ _)]
theorem z3v {g : Nat} (h : g < G) : z1p (rowsOf Z w G) (g : Int) = rowOf Z w g := by
  unfold z1p rowsOf
  rw [Int.toNat_natCast, List.getD_eq_getElem?_getD]; simp [h]
theorem room {g : Nat} (hG : Z.length = G * w) (h : g < G) : g * w + w ≤ Z.length := by
  have : (g + 1) * w ≤ G * w := Nat.mul_le_mul_right _ h
  rw [Nat.succ_mul] at this; omega
theorem z32 (hw : 0 < w) (hG : Z.length = G * w) : G ≤ Z.length := by
  have : G * 1 ≤ G * w := Nat.mul_le_mul_left _ hw
  omega
theorem cut_l0 (hZ : Z.length ≤ 1000) (hw : 0 < w) (hG : Z.length = G * w) : ∀ (d g gw : Nat), g + d = G → gw = g * w → Ev (fun q => zp.l0 q (w : Int) Z (rowsOf Z w g) (gw : Int)) (rowsOf Z w G, 0) := by
  have hGl := z32 hw hG
  intro d
  induction d with
  | zero =>
    intro g gw hg hgw
    have : g = G := by omega
    subst this
    exact Ev.step (fun q => by rw [zp.l0]) (Ev.neg (by omega) (Ev.ret _))
  | succ d ih =>
    intro g gw hg hgw
    have hr := room hG (show g < G by omega)
    rw [← hgw] at hr
    have hih := ih (g + 1) (gw + w) (by omega) (by rw [hgw, Nat.succ_mul])
    rw [z3w] at hih
    have hl := z1e Z w g
    have c1 : (gw : Int) < (Z.length : Int) := by omega
    have c2 : (gw : Int) ≤ ((gw + w : Nat) : Int) := by omega
    have c3 : ((gw + w : Nat) : Int) ≤ (Z.length : Int) := by omega
    have c4 : (rowsOf Z w g).length < 5864062014805 := by omega
    have e1 : wrap64 ((gw : Int) + (w : Int)) = ((gw + w : Nat) : Int) := z4E (by omega) (by omega)
    refine Ev.step (fun q => by rw [zp.l0]) (Ev.pos c1 (Ev.pos (Int.natCast_nonneg _) ?_))
    simp only [e1, Int.toNat_natCast]
    refine Ev.pos c2 (Ev.pos c3 (Ev.pos c4 ?_))
    have er : (Z.take (gw + w)).drop gw = rowOf Z w g := by rw [hgw]; rfl
    rw [er]
    exact hih
theorem z4c (hZ : Z.length ≤ 1000) (hw : 0 < w) (hG : Z.length = G * w) : ∀ (d g : Nat), g + d = G → Ev (fun q => z9.l1 q (Z.take (g * w)) (rowsOf Z w G) ((G : Nat) : Int) (g : Int)) Z := by
  have hGl := z32 hw hG
  have hl := z1e Z w G
  intro d
  induction d with
  | zero =>
    intro g hg
    have : g = G := by omega
    subst this
    refine Ev.step (fun q => by rw [z9.l1]) (Ev.neg (by omega) (Ev.ret' ?_))
    rw [← hG]; exact List.take_length
  | succ d ih =>
    intro g hg
    have hg' : g < G := by omega
    have hr := room hG hg'
    have hih := ih (g + 1) (by omega)
    rw [Nat.succ_mul, ← take_row] at hih
    have hrl := z1L hr
    refine Ev.step (fun q => by rw [z9.l1]) (Ev.pos (by omega) (Ev.pos (Int.natCast_nonneg _) (Ev.pos (by omega) ?_)))
    simp only [z3v hg', z1F hg' (show G ≤ 4611686018427387904 by omega)]
    exact Ev.pos (by rw [List.length_take, hrl]; omega) hih
theorem z4b (hZ : Z.length ≤ 1000) (hw : 0 < w) (hG : Z.length = G * w) : ∀ (d g gw : Nat), g + d = G → gw = g * w → Ev (fun q => z9.l0 q (rowsOf Z w G) (gw : Int) (rowsOf Z w G) ((G : Nat) : Int) (g : Int)) Z := by
  have hGl := z32 hw hG
  have hl := z1e Z w G
  intro d
  induction d with
  | zero =>
    intro g gw hg hgw
    have : g = G := by omega
    subst this
    refine Ev.step (fun q => by rw [z9.l0]) (Ev.neg (by omega) (Ev.pos (Int.natCast_nonneg _) (Ev.pos (by omega) ?_)))
    rw [hl]
    have := z4c hZ hw hG g 0 (Nat.zero_add _)
    rw [Nat.zero_mul] at this
    exact this
  | succ d ih =>
    intro g gw hg hgw
    have hg' : g < G := by omega
    have hr := room hG hg'
    have hih := ih (g + 1) (gw + w) (by omega) (by rw [hgw, Nat.succ_mul])
    have hrl := z1L hr
    rw [← hgw] at hr
    have c1 : (g : Int) < (G : Int) := by omega
    have c2 : (g : Int) < ((rowsOf Z w G).length : Int) := by omega
    have c3 : ¬ (((gw + w : Nat) : Int) < 0) := by omega
    obtain ⟨e1, e2⟩ : wrap64 ((gw : Int) + (w : Int)) = ((gw + w : Nat) : Int) ∧ wrap64 ((g : Int) + 1) = ((g + 1 : Nat) : Int) := ⟨z4E (by omega) (by omega), z1F hg' (by omega)⟩
    refine Ev.step (fun q => by rw [z9.l0]) (Ev.pos c1 (Ev.pos (Int.natCast_nonneg _) (Ev.pos c2 ?_)))
    simp only [z3v hg', hrl, e1, e2]
    exact Ev.neg c3 hih
theorem join_ev (hZ : Z.length ≤ 1000) (hw : 0 < w) (hG : Z.length = G * w) : Ev (fun q => zN.f q (rowsOf Z w G)) Z := by
  unfold zN.f z9.f
  rw [z1e]
  have := z4b hZ hw hG G 0 0 (Nat.zero_add _) (Nat.zero_mul _).symm
  exact Ev.bnd this (Ev.ret _)
theorem cuts_l0 (hZ : Z.length ≤ 1000) (hw : 0 < w) (hG : Z.length = G * w) : ∀ (d g : Nat), g + d = G → Ev (fun q => z5.l0 q (w : Int) (rowsOf Z w G) (g : Int)) true := by
  have hGl := z32 hw hG
  have hl := z1e Z w G
  intro d
  induction d with
  | zero =>
    intro g hg
    exact Ev.step (fun q => by rw [z5.l0]) (Ev.neg (by omega) (Ev.bnd z1A (Ev.ret _)))
  | succ d ih =>
    intro g hg
    have hg' : g < G := by omega
    have hrl := z1L (room hG hg')
    refine Ev.step (fun q => by rw [z5.l0]) (Ev.pos (by omega) (Ev.pos (Int.natCast_nonneg _) ?_))
    simp only [z3v hg', hrl, z1F hg' (show G ≤ 4611686018427387904 by omega)]
    exact Ev.pos trivial (ih (g + 1) (by omega))
end Go.Proofs.Ytngcaphdkgihmaa.Sp
namespace Go.Proofs.Ytngcaphdkgihmaa.Pure
open Go.RowKit Go.Proofs.YtngcaphdkgihmaaW.PrintWords Go.Proofs.YtngcaphdkgihmaaW.PrintMore Go.Proofs.Ytngcaphdkgihmaa.P Go.Proofs.Ytngcaphdkgihmaa.Ar Go.Proofs.Ytngcaphdkgihmaa.Tw Go.Proofs.Ytngcaphdkgihmaa.Sp
theorem WeaveCuts : Stated.weaveCuts.Pure := by
  intro l1 W h1 h2
  obtain ⟨X, rfl⟩ := list_of l1 h1.1
  refine Ev.rounds (g := fun k => z5.f k (X.map toS) W) ?_
  have hZl : (X.map toS).length = X.length := List.length_map _
  have hRef := fun h => Ref_ev X h
  have hSame := fun h => Same_ev X X h
  generalize hz : X.map toS = Z at *
  unfold z5.f
  by_cases c1 : (Z.length : Int) > 100
  · exact Ev.pos c1 (Ev.bnd z1A (Ev.ret _))
  refine Ev.neg c1 ?_
  by_cases c2 : W < 1
  · have hcut : Ev (fun q => zp.f q Z W) ([], 1) := by unfold zp.f; exact Ev.pos c2 (Ev.ret _)
    exact Ev.bnd hcut (Ev.pos c2 (Ev.bnd z1A (Ev.pos rfl (Ev.pos rfl (Ev.ret _)))))
  obtain ⟨w, rfl⟩ := Int.eq_ofNat_of_zero_le (show 0 ≤ W by omega)
  have hw : 0 < w := by omega
  by_cases c3 : Z.length % w = 0
  · have hG : Z.length = Z.length / w * w := by
      have := Nat.div_add_mod Z.length w
      rw [c3, Nat.add_zero, Nat.mul_comm] at this; exact this.symm
    have hle : Z.length / w ≤ Z.length := Nat.div_le_self _ _
    have ediv : (Z.length : Int) / (w : Int) = ((Z.length / w : Nat) : Int) := (Int.natCast_ediv _ _).symm
    have emod : (Z.length : Int) % (w : Int) = 0 := by rw [← Int.natCast_emod, c3]; rfl
    have hZ : Z.length ≤ 1000 := by clear ediv emod; omega
    have hX : X.length ≤ 1000000 := by clear ediv emod; omega
    have hw0 : ¬ ((w : Int) = 0) := by clear ediv emod; omega
    generalize hg : Z.length / w = G at *
    have e1 : wrap64 (G : Int) = (G : Int) := by clear ediv emod; exact z2F (by omega) (by omega)
    have hc8 : Z.length < 8796093022208 := by clear ediv emod e1; omega
    have hcl : zK.f Z = some Z := by unfold zK.f; rw [if_pos hc8]
    have hcut : Ev (fun q => zp.f q Z (w : Int)) (rowsOf Z w G, 0) := by
      unfold zp.f
      exact Ev.neg c2 (Ev.neg hw0 (Ev.pos emod (Ev.bnd0 hcl (cut_l0 hZ hw hG G 0 0 (Nat.zero_add _) (Nat.zero_mul _).symm))))
    refine Ev.bnd hcut (Ev.neg c2 (Ev.neg hw0 (Ev.pos emod (Ev.pos rfl ?_))))
    refine Ev.pos (by rw [ediv, e1, z1e]) ?_
    refine Ev.bnd (join_ev hZ hw hG) (Ev.bnd (hRef hX) (Ev.bnd (hSame hX) ?_))
    rw [decide_eq_true (rfl : X = X)]
    refine Ev.step (fun q => by rw [z5.j0]) ?_
    refine Ev.neg (by decide) ?_
    exact cuts_l0 hZ hw hG G 0 (Nat.zero_add _)
  · have emod : ¬ ((Z.length : Int) % (w : Int) = 0) := by rw [← Int.natCast_emod]; intro h; exact c3 (by omega)
    have hw0 : ¬ ((w : Int) = 0) := by clear emod; omega
    have hcut : Ev (fun q => zp.f q Z (w : Int)) ([], 6) := by
      unfold zp.f
      exact Ev.neg c2 (Ev.neg hw0 (Ev.neg emod (Ev.ret _)))
    exact Ev.bnd hcut (Ev.neg c2 (Ev.neg hw0 (Ev.neg emod (Ev.bnd z1A (Ev.pos rfl (Ev.pos rfl (Ev.ret _)))))))
end Go.Proofs.Ytngcaphdkgihmaa.Pure
-- Own text, written by wip/tools/gen.py: the row of the law WeaveCuts, out of its pure statement (PureWeaveCuts) and the walk.
namespace Go.Proofs.Ytngcaphdkgihmaa.weaveCuts
open Go.ChangeShapes Go.WideShapes Go.ChangeAt Go.RowKit Go.Proofs.YtngcaphdkgihmaaW.PrintWords Go.Proofs.Ytngcaphdkgihmaa.P Go.Proofs.Ytngcaphdkgihmaa.Reads
set_option linter.unusedVariables false
set_option linter.unusedSimpArgs false
theorem own : ownKnob Try.prog.godebug = none := by kernel_rfl
theorem laidOut : laidOutB Try.prog = true := by kernel_rfl
theorem op51 : ReadsAs Try.prog 51 k51 (fun x => ((Lit.int .u64 x.f0).wf = true) ∧ ((Lit.int .u64 x.f1).wf = true)) :=
  (z4r (fun x : S51 => (x.f0, x.f1)) (fun a => ⟨⟨a.1, a.2⟩, rfl⟩) Try.underlying51 rfl (by kernel_rfl) (z4s (by kernel_rfl) (by kernel_rfl) (z4q Try.underlying49) (z4t (by kernel_rfl) (by kernel_rfl) (z4q Try.underlying49)) (by intro g hg; simp only [List.mem_cons, List.not_mem_nil, or_false] at hg; rcases hg with rfl <;> exact of_decide_eq_true (by kernel_rfl))))
theorem op37 : ReadsAs Try.prog 37 (Kd.slice 51 k51) (fun l => (∀ x_ ∈ l, ((Lit.int .u64 x_.f0).wf = true) ∧ ((Lit.int .u64 x_.f1).wf = true)) ∧ l.length ≤ maxLen) := op_slice Try.underlying37 (by kernel_rfl) op51
set_option maxRecDepth 100000 in
theorem lifted (os : Os) (started : os.Started) (H : Type) (enc : TypeId × Value → H) :
    ReturnsInHanded {} Try.checked os 5 .any (Rows.weaveCutsSpec.pre6 enc Try.prog Try.f5 Rows.weaveCutsRow.domain false) (Rows.weaveCutsSpec.post enc Try.prog Try.f5 false true false false) := by
  refine returnsInHanded_of_change_sized (C := Try.checked) own started (by kernel_rfl) Try.func5
    (ChangeSpec.witness6 (enc := enc) (C := Try.checked) false ⟨#[], #[.slice none 0 0, .int .i64 0], []⟩ 8 (by kernel_rfl) (by kernel_rfl) (by kernel_rfl) (by kernel_rfl)) ?_
  intro W base args ds gs before hval0 hW hcnd hsz0 _
  have hval : ∀ (j : Nat) t v, Try.f5.params[j]? = some t → args[j]? = some v → Value.okWide Try.prog W .any base t v := hval0
  have hW' := hW
  obtain ⟨p, q, hA0, hV, rfl, hfz, hnd⟩ := hW
  have hA : DataW.TrodAll enc Try.prog W 0 (fun _ => true) true Try.f5.params.toList args.toList ds p := hA0
  rw [Try.params5] at hA hval
  obtain ⟨v0, vs0, d0, ds0, p0, q0, hargs, rfl, rfl, h0, r0⟩ := trodAll_cons hA
  obtain ⟨v1, vs1, d1, ds1, p1, q1, rfl, rfl, rfl, h1, r1⟩ := trodAll_cons r0
  obtain ⟨rfl, rfl, rfl⟩ := trodAll_nil r1
  obtain rfl : args = #[v0, v1] := by cases args; simp_all
  obtain ⟨rfl, rfl⟩ := trodVars_none hV
  have k0 := h0
  have lt0 : ∀ x ∈ p0, x.block < W.heap.size := by obtain ⟨m, hm⟩ := k0; exact DataW.trod_lt m _ _ _ hm
  obtain ⟨x0, A0, c0, rfl, hc0, hr0, g0⟩ := z44 op37 Try.underlying37 (hval 0 37 v0 rfl rfl) h0
  have k1 := h1
  have lt1 : ∀ x ∈ p1, x.block < W.heap.size := by obtain ⟨m, hm⟩ := k1; exact DataW.trod_lt m _ _ _ hm
  obtain ⟨x1, rfl, g1⟩ := arg_int Try.underlying3 (hval 1 3 v1 rfl rfl) h1
  clear hA0 hval0 hsz0
  obtain ⟨k, hpure⟩ := Pure.WeaveCuts x0 x1 g0 g1
  refine (z5.calls k _ _ x0 x1 true W hr0 hc0 hpure).mono fun e W' hh => ?_
  obtain ⟨rfl, bel0⟩ := hh
  have bel : Below W.heap.size W W' := bel0
  exact ⟨_, rfl, _, _, _, [], _, [], hW', trodAll_mk1 (shut_bool Try.underlying4 _), (trodAll_cons_mk (Below.trod laidOut (by kernel_rfl) (of_decide_eq_true (by kernel_rfl)) k0 bel lt0) (trodAll_cons_mk (Below.trod laidOut (by kernel_rfl) (of_decide_eq_true (by kernel_rfl)) k1 bel lt1) trodAll_mk0)), rfl, bel.frame _, fun h => by cases h⟩
theorem over : Rows.weaveCutsRow.holds Try.pinned (OpenSpec.ofChange Rows.weaveCutsSpec) :=
  OpenClaim.holds_of_wide 5 Try.f5 rfl rfl rfl rfl rfl rfl rfl ⟨rfl, rfl, rfl, rfl, rfl⟩ rfl rfl rfl rfl rfl (by kernel_rfl) Try.func5 (by kernel_rfl)
    (of_decide_eq_true (by kernel_rfl)) (by unfold Func.isWrapper; first | (rw [if_pos (by decide +kernel)]; kernel_rfl) | (rw [if_neg (by decide +kernel)]; exact ⟨rfl, rfl⟩))
    (fun os started H enc _ => lifted os started H enc)
theorem proved : Rows.WeaveCutsSaid := over
#print axioms proved
end Go.Proofs.Ytngcaphdkgihmaa.weaveCuts
namespace Go.Proofs.Ytngcaphdkgihmaa
/-- The row, under a short name, for the claim. -/
theorem weaveCuts_holds : Rows.WeaveCutsSaid := weaveCuts.proved
end Go.Proofs.Ytngcaphdkgihmaa

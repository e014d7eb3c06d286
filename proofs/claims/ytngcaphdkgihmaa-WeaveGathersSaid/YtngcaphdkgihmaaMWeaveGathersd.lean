/- Own text: merged by wip/tools/pack.py out of what the law WeaveGathers reaches. -/
import Derived.Deep.Slices
import Derived.OpenShut
import Derived.ProofKit
import Derived.Laws.BitsLemmas
import Derived.Test.YtngcaphdkgihmaaMWeaveGathersa
import Derived.Test.YtngcaphdkgihmaaMWeaveGathersb
import Derived.Test.YtngcaphdkgihmaaMWeaveGathersc
namespace Go.Proofs.Ytngcaphdkgihmaa.P
open Go.RowKit Go.Proofs.YtngcaphdkgihmaaW.PrintWords Go.Proofs.YtngcaphdkgihmaaW.PrintLast Go.Proofs.YtngcaphdkgihmaaW.PrintMore
attribute [local go_sem] zW zY z15 z16 zQ zR zX zZ   -- for this text's walks alone
set_option linter.unusedVariables false
set_option linter.unusedSimpArgs false
mutual
def z7.j0 : Nat → Int → Int → List (S51) → List (S51) → Int → List (S51) → Int → Bool → Option (Bool)
 | 0,_,_,_,_,_,_,_,_=>none
 | k + 1,x0,x1,x2,x7,x8,x11,x12,x72=>if x72 = true then (some false) else (if x8 = 0 then ((zk.f k x0 x1 x7).bind fun bt126=>(if bt126.2 = 0 then ((zq.f k x2).bind fun t130=>((zf.f k bt126.1 t130).bind fun t133=>(if t133 = true then (z7.j1 k x0 x1 x2 x11 x12) else (some false)))) else (some false))) else (z7.j1 k x0 x1 x2 x11 x12))
def z7.j1 : Nat → Int → Int → List (S51) → List (S51) → Int → Option (Bool)
 | 0,_,_,_,_,_=>none
 | k + 1,x0,x1,x2,x11,x12=>if x12 = 0 then ((zm.f k x0 x1 x11).bind fun bt134=>((zB.f k).bind fun t138=>(if t138 = true then (if bt134.2 = 0 then ((zq.f k x2).bind fun t139=>((zf.f k bt134.1 t139).bind fun t142=>(some t142))) else (some false)) else (some false)))) else ((zB.f k).bind fun t143=>(some t143))
end
def z7.f (k : Nat) (a0 : Int) (a1 : Int) (l2 : List (S51)) : Option (Bool):=if (l2.length : Int) > 140 then ((zB.f k).bind fun t101=>(some t101)) else ((zm.f k a0 a1 l2).bind fun bt102=>((zq.f k l2).bind fun t106=>((za.f k a0 a1 t106).bind fun bt109=>((zk.f k a0 a1 l2).bind fun bt113=>((zq.f k l2).bind fun t117=>((z9.f k a0 a1 t117).bind fun bt120=>((zf.f k bt102.1 bt109.1).bind fun t124=>(if t124 = true then (if bt102.2 = bt109.2 then ((zf.f k bt113.1 bt120.1).bind fun t125=>(if t125 = true then (z7.j0 k a0 a1 l2 bt102.1 bt102.2 bt113.1 bt113.2 (bt113.2 != bt120.2)) else (z7.j0 k a0 a1 l2 bt102.1 bt102.2 bt113.1 bt113.2 true))) else (z7.j0 k a0 a1 l2 bt102.1 bt102.2 bt113.1 bt113.2 true)) else (z7.j0 k a0 a1 l2 bt102.1 bt102.2 bt113.1 bt113.2 true)))))))))
theorem z7.z13 : ∀ k,(∀ y0 y1 y2 y3 y4 y5 y6 y7,LeO (z7.j0 k y0 y1 y2 y3 y4 y5 y6 y7) (z7.j0 (k + 1) y0 y1 y2 y3 y4 y5 y6 y7)) ∧ (∀ y0 y1 y2 y3 y4,LeO (z7.j1 k y0 y1 y2 y3 y4) (z7.j1 (k + 1) y0 y1 y2 y3 y4))
 | 0=>⟨fun _ _ _ _ _ _ _ _ r h=>by simp [z7.j0] at h,fun _ _ _ _ _ r h=>by simp [z7.j1] at h⟩
 | k + 1=>by
  obtain ⟨ih0,ih1⟩:=z7.z13 k
  refine ⟨?_,?_⟩
  · intro y0 y1 y2 y3 y4 y5 y6 y7
    unfold z7.j0
    repeat' first
    | (with_reducible exact ih0 _ _ _ _ _ _ _ _)
    | (with_reducible exact ih1 _ _ _ _ _)
    | (with_reducible exact zq.mono _ _)
    | (with_reducible exact zf.mono _ _ _)
    | (with_reducible exact zB.mono _)
    | (with_reducible exact za.mono _ _ _ _)
    | (with_reducible exact z9.mono _ _ _ _)
    | (with_reducible exact zm.mono _ _ _ _)
    | (with_reducible exact zk.mono _ _ _ _)
    | (with_reducible exact LeO.refl _)
    | (with_reducible exact LeO.none _)
    | (with_reducible refine LeO.ite ?_ ?_)
    | (with_reducible refine LeO.bind ?_ (fun _=>?_))
    | exact ih0 _ _ _ _ _ _ _ _
    | exact ih1 _ _ _ _ _
    | exact zq.mono _ _
    | exact zf.mono _ _ _
    | exact zB.mono _
    | exact za.mono _ _ _ _
    | exact z9.mono _ _ _ _
    | exact zm.mono _ _ _ _
    | exact zk.mono _ _ _ _
    | exact LeO.none _
    | refine LeO.ite ?_ ?_
    | refine LeO.bind ?_ (fun _=>?_)
  · intro y0 y1 y2 y3 y4
    unfold z7.j1
    repeat' first
    | (with_reducible exact ih0 _ _ _ _ _ _ _ _)
    | (with_reducible exact ih1 _ _ _ _ _)
    | (with_reducible exact zq.mono _ _)
    | (with_reducible exact zf.mono _ _ _)
    | (with_reducible exact zB.mono _)
    | (with_reducible exact za.mono _ _ _ _)
    | (with_reducible exact z9.mono _ _ _ _)
    | (with_reducible exact zm.mono _ _ _ _)
    | (with_reducible exact zk.mono _ _ _ _)
    | (with_reducible exact LeO.refl _)
    | (with_reducible exact LeO.none _)
    | (with_reducible refine LeO.ite ?_ ?_)
    | (with_reducible refine LeO.bind ?_ (fun _=>?_))
    | exact ih0 _ _ _ _ _ _ _ _
    | exact ih1 _ _ _ _ _
    | exact zq.mono _ _
    | exact zf.mono _ _ _
    | exact zB.mono _
    | exact za.mono _ _ _ _
    | exact z9.mono _ _ _ _
    | exact zm.mono _ _ _ _
    | exact zk.mono _ _ _ _
    | exact LeO.none _
    | refine LeO.ite ?_ ?_
    | refine LeO.bind ?_ (fun _=>?_)
theorem z7.mono : ∀ a0 a1 a2 k,LeO (z7.f k a0 a1 a2) (z7.f (k + 1) a0 a1 a2):=by
 intro a0 a1 a2 k
 obtain ⟨ih0,ih1⟩:=z7.z13 k
 unfold z7.f
 repeat' first
  | (with_reducible exact ih0 _ _ _ _ _ _ _ _)
  | (with_reducible exact ih1 _ _ _ _ _)
  | (with_reducible exact zq.mono _ _)
  | (with_reducible exact zf.mono _ _ _)
  | (with_reducible exact zB.mono _)
  | (with_reducible exact za.mono _ _ _ _)
  | (with_reducible exact z9.mono _ _ _ _)
  | (with_reducible exact zm.mono _ _ _ _)
  | (with_reducible exact zk.mono _ _ _ _)
  | (with_reducible exact LeO.refl _)
  | (with_reducible exact LeO.none _)
  | (with_reducible refine LeO.ite ?_ ?_)
  | (with_reducible refine LeO.bind ?_ (fun _=>?_))
  | exact ih0 _ _ _ _ _ _ _ _
  | exact ih1 _ _ _ _ _
  | exact zq.mono _ _
  | exact zf.mono _ _ _
  | exact zB.mono _
  | exact za.mono _ _ _ _
  | exact z9.mono _ _ _ _
  | exact zm.mono _ _ _ _
  | exact zk.mono _ _ _ _
  | exact LeO.none _
  | refine LeO.ite ?_ ?_
  | refine LeO.bind ?_ (fun _=>?_)
set_option maxHeartbeats 8000000 in
set_option maxRecDepth 100000 in
theorem z7.calls (k : Nat) (a0 : Int) (a1 : Int) (A2 : Option Addr) (c2 : Nat) (l2 : List (S51)) (r : Bool) (w : World) (hr2 : Kd.C k51 w A2 l2.length l2) (hc2 : l2.length ≤ c2) (h : z7.f k a0 a1 l2 = some r) :
 Calls Try.prog 7 #[.int .i64 a0,.int .i64 a1,.slice A2 l2.length c2] w fun e w'=>e = .returned (.bool r) ∧ Below w.heap.size w w':=by
 have HR2:=z3.mk hr2
 have HC2:=z3.mk hc2
 clear hr2 hc2
 have HB:=z3.mk (Below.refl w.heap.size w)
 have H : (if (l2.length : Int) > 140 then ((zB.f k).bind fun t101=>(some t101)) else ((zm.f k a0 a1 l2).bind fun bt102=>((zq.f k l2).bind fun t106=>((za.f k a0 a1 t106).bind fun bt109=>((zk.f k a0 a1 l2).bind fun bt113=>((zq.f k l2).bind fun t117=>((z9.f k a0 a1 t117).bind fun bt120=>((zf.f k bt102.1 bt109.1).bind fun t124=>(if t124 = true then (if bt102.2 = bt109.2 then ((zf.f k bt113.1 bt120.1).bind fun t125=>(if t125 = true then (z7.j0 k a0 a1 l2 bt102.1 bt102.2 bt113.1 bt113.2 (bt113.2 != bt120.2)) else (z7.j0 k a0 a1 l2 bt102.1 bt102.2 bt113.1 bt113.2 true))) else (z7.j0 k a0 a1 l2 bt102.1 bt102.2 bt113.1 bt113.2 true)) else (z7.j0 k a0 a1 l2 bt102.1 bt102.2 bt113.1 bt113.2 true)))))))))) = some r:=h
 clear h
 by_cases c4 : (l2.length : Int) > 140
 · rw [if_pos c4] at H
   have c4b0 : decide (140 < (l2.length : Int)) = true:=decide_eq_true c4
   have c4b1 : decide (140 < l2.length) = true:=decide_eq_true (by omega)
   clear c4
   replace H:=Option.bind_eq_some_iff.mp H
   obtain ⟨t101,A50,H⟩:=H
   replace H : (some t101) = some r:=H
   have A5:=z3.mk A50
   clear A50
   obtain rfl:=Option.some.inj H
   go_enter Try.func7,Try.ntmps7
   go_wp2_with (first|((with_reducible refine zl (f:=23) rfl ?_);refine goesL_ (some 22) rfl rfl Try.func23 (by kernel_rfl) rfl #[] rfl (by (try simp only [List.map_toArray,List.map_cons,List.map_nil]);first|done|rfl|(simp only [List.length_drop,List.length_take];rfl)) ?_;(with_reducible refine (zB.calls k  t101 _ A5.out).mono ?_);rintro e w6 ⟨rfl,hb⟩;refine ⟨_,rfl,?_⟩;have n0_:=z3.mk (zb (by repeat (first|(with_reducible first|exact HB.out|apply z2|apply z0|apply z1)|exact HB.out)) hb);clear HB;have HB:=n0_;clear n0_;(try clear hb);(try clear hb2);(try clear hk);(try clear hi)))
   go_ret
   exact ⟨by first|rfl|(simp [zg,zh] <;> rfl)|(simp [*,zg,zh] <;> rfl),by repeat (first|(with_reducible first|exact HB.out|apply z2|apply z0|apply z1)|exact HB.out)⟩
 rw [if_neg c4] at H
 have c4b0 : decide (140 < (l2.length : Int)) = false:=decide_eq_false c4
 have c4b1 : decide (140 < l2.length) = false:=decide_eq_false (by omega)
 clear c4
 replace H:=Option.bind_eq_some_iff.mp H
 obtain ⟨⟨t102,t103⟩,A70,H⟩:=H
 replace H : ((zq.f k l2).bind fun t106=>((za.f k a0 a1 t106).bind fun bt109=>((zk.f k a0 a1 l2).bind fun bt113=>((zq.f k l2).bind fun t117=>((z9.f k a0 a1 t117).bind fun bt120=>((zf.f k t102 bt109.1).bind fun t124=>(if t124 = true then (if t103 = bt109.2 then ((zf.f k bt113.1 bt120.1).bind fun t125=>(if t125 = true then (z7.j0 k a0 a1 l2 t102 t103 bt113.1 bt113.2 (bt113.2 != bt120.2)) else (z7.j0 k a0 a1 l2 t102 t103 bt113.1 bt113.2 true))) else (z7.j0 k a0 a1 l2 t102 t103 bt113.1 bt113.2 true)) else (z7.j0 k a0 a1 l2 t102 t103 bt113.1 bt113.2 true)))))))) = some r:=H
 have A7:=z3.mk A70
 clear A70
 replace H:=Option.bind_eq_some_iff.mp H
 obtain ⟨t106,A80,H⟩:=H
 replace H : ((za.f k a0 a1 t106).bind fun bt109=>((zk.f k a0 a1 l2).bind fun bt113=>((zq.f k l2).bind fun t117=>((z9.f k a0 a1 t117).bind fun bt120=>((zf.f k t102 bt109.1).bind fun t124=>(if t124 = true then (if t103 = bt109.2 then ((zf.f k bt113.1 bt120.1).bind fun t125=>(if t125 = true then (z7.j0 k a0 a1 l2 t102 t103 bt113.1 bt113.2 (bt113.2 != bt120.2)) else (z7.j0 k a0 a1 l2 t102 t103 bt113.1 bt113.2 true))) else (z7.j0 k a0 a1 l2 t102 t103 bt113.1 bt113.2 true)) else (z7.j0 k a0 a1 l2 t102 t103 bt113.1 bt113.2 true))))))) = some r:=H
 have A8:=z3.mk A80
 clear A80
 replace H:=Option.bind_eq_some_iff.mp H
 obtain ⟨⟨t109,t110⟩,A90,H⟩:=H
 replace H : ((zk.f k a0 a1 l2).bind fun bt113=>((zq.f k l2).bind fun t117=>((z9.f k a0 a1 t117).bind fun bt120=>((zf.f k t102 t109).bind fun t124=>(if t124 = true then (if t103 = t110 then ((zf.f k bt113.1 bt120.1).bind fun t125=>(if t125 = true then (z7.j0 k a0 a1 l2 t102 t103 bt113.1 bt113.2 (bt113.2 != bt120.2)) else (z7.j0 k a0 a1 l2 t102 t103 bt113.1 bt113.2 true))) else (z7.j0 k a0 a1 l2 t102 t103 bt113.1 bt113.2 true)) else (z7.j0 k a0 a1 l2 t102 t103 bt113.1 bt113.2 true)))))) = some r:=H
 have A9:=z3.mk A90
 clear A90
 replace H:=Option.bind_eq_some_iff.mp H
 obtain ⟨⟨t113,t114⟩,A100,H⟩:=H
 replace H : ((zq.f k l2).bind fun t117=>((z9.f k a0 a1 t117).bind fun bt120=>((zf.f k t102 t109).bind fun t124=>(if t124 = true then (if t103 = t110 then ((zf.f k t113 bt120.1).bind fun t125=>(if t125 = true then (z7.j0 k a0 a1 l2 t102 t103 t113 t114 (t114 != bt120.2)) else (z7.j0 k a0 a1 l2 t102 t103 t113 t114 true))) else (z7.j0 k a0 a1 l2 t102 t103 t113 t114 true)) else (z7.j0 k a0 a1 l2 t102 t103 t113 t114 true))))) = some r:=H
 have A10:=z3.mk A100
 clear A100
 replace H:=Option.bind_eq_some_iff.mp H
 obtain ⟨t117,A110,H⟩:=H
 replace H : ((z9.f k a0 a1 t117).bind fun bt120=>((zf.f k t102 t109).bind fun t124=>(if t124 = true then (if t103 = t110 then ((zf.f k t113 bt120.1).bind fun t125=>(if t125 = true then (z7.j0 k a0 a1 l2 t102 t103 t113 t114 (t114 != bt120.2)) else (z7.j0 k a0 a1 l2 t102 t103 t113 t114 true))) else (z7.j0 k a0 a1 l2 t102 t103 t113 t114 true)) else (z7.j0 k a0 a1 l2 t102 t103 t113 t114 true)))) = some r:=H
 have A11:=z3.mk A110
 clear A110
 replace H:=Option.bind_eq_some_iff.mp H
 obtain ⟨⟨t120,t121⟩,A120,H⟩:=H
 replace H : ((zf.f k t102 t109).bind fun t124=>(if t124 = true then (if t103 = t110 then ((zf.f k t113 t120).bind fun t125=>(if t125 = true then (z7.j0 k a0 a1 l2 t102 t103 t113 t114 (t114 != t121)) else (z7.j0 k a0 a1 l2 t102 t103 t113 t114 true))) else (z7.j0 k a0 a1 l2 t102 t103 t113 t114 true)) else (z7.j0 k a0 a1 l2 t102 t103 t113 t114 true))) = some r:=H
 have A12:=z3.mk A120
 clear A120
 have HC13:=z3.mk H
 clear H
 go_enter Try.func7,Try.ntmps7
 go_upto_region 7 with (first|((with_reducible refine zl (f:=30) rfl ?_);refine goesL_ (some 27) rfl rfl Try.func30 (by kernel_rfl) rfl #[.int .i64 a0,.int .i64 a1,.slice A2 l2.length c2] rfl (by (try simp only [List.map_toArray,List.map_cons,List.map_nil]);first|done|rfl|(simp only [List.length_drop,List.length_take];rfl)) ?_;(with_reducible refine (zm.calls k a0 a1 _ _ l2 t102 t103 _ ?side1 ?side2 A7.out).mono ?_);(case side1=>repeat (first|exact HR2.out|(with_reducible refine Kd.zS ?_ _)|(with_reducible refine Kd.zT ?_ _)|(with_reducible refine Kd.z14 ?_)));(case side2=>exact HC2.out);rintro e w14 ⟨v104,rfl,ho0,hb⟩;refine ⟨_,rfl,?_⟩;have n0_:=z3.mk (Kd.z1b ho0 (zc (by repeat (first|(with_reducible first|exact HB.out|apply z2|apply z0|apply z1)|exact HB.out))));have n1_:=z3.mk (zb (by repeat (first|(with_reducible first|exact HB.out|apply z2|apply z0|apply z1)|exact HB.out)) hb);clear HB;have HO105:=n0_;have HB:=n1_;clear n0_ n1_;(try clear hb);(try clear hb2);(try clear hk);(try clear hi);(try clear ho0))|((with_reducible refine zl (f:=27) rfl ?_);refine goesL_ (some 34) rfl rfl Try.func27 (by kernel_rfl) rfl #[.slice A2 l2.length c2] rfl (by (try simp only [List.map_toArray,List.map_cons,List.map_nil]);first|done|rfl|(simp only [List.length_drop,List.length_take];rfl)) ?_;(with_reducible refine (zq.calls k _ _ l2 t106 _ ?side1 ?side2 A8.out).mono ?_);(case side1=>repeat (first|exact (Kd.z1y HR2.out HB.out)|(with_reducible refine Kd.zS ?_ _)|(with_reducible refine Kd.zT ?_ _)|(with_reducible refine Kd.z14 ?_)));(case side2=>exact HC2.out);rintro e w15 ⟨v107,rfl,ho0,hb⟩;refine ⟨_,rfl,?_⟩;have n0_:=z3.mk (Kd.zG (by (with_reducible repeat (first|apply Kd.zr|apply Kd.zs|apply Kd.zy));exact HO105.out) hb);have n1_:=z3.mk (Kd.z1b ho0 (zc (by repeat (first|(with_reducible first|exact HB.out|apply z2|apply z0|apply z1)|exact HB.out))));have n2_:=z3.mk (zb (by repeat (first|(with_reducible first|exact HB.out|apply z2|apply z0|apply z1)|exact HB.out)) hb);clear HO105;clear HB;have HO105:=n0_;have HO108:=n1_;have HB:=n2_;clear n0_ n1_ n2_;(try clear hb);(try clear hb2);(try clear hk);(try clear hi);(try clear ho0);obtain ⟨Ao16,co16,eo16⟩:=Kd.z10 HO108.out;subst eo16)|((with_reducible refine zl (f:=31) rfl ?_);refine goesL_ (some 35) rfl rfl Try.func31 (by kernel_rfl) rfl #[.int .i64 a0,.int .i64 a1,.slice Ao16 t106.length co16] rfl (by (try simp only [List.map_toArray,List.map_cons,List.map_nil]);first|done|rfl|(simp only [List.length_drop,List.length_take];rfl)) ?_;(with_reducible refine (za.calls k a0 a1 _ _ t106 t109 t110 _ ?side1 ?side2 A9.out).mono ?_);(case side1=>repeat (first|exact (Kd.zA HO108.out).2.2|(with_reducible refine Kd.zS ?_ _)|(with_reducible refine Kd.zT ?_ _)|(with_reducible refine Kd.z14 ?_)));(case side2=>exact (Kd.zA HO108.out).2.1);rintro e w17 ⟨v111,rfl,ho0,hb⟩;refine ⟨_,rfl,?_⟩;have n0_:=z3.mk (Kd.zG (by (with_reducible repeat (first|apply Kd.zr|apply Kd.zs|apply Kd.zy));exact HO105.out) hb);have n1_:=z3.mk (Kd.z1f (by (with_reducible repeat (first|apply Kd.zr|apply Kd.zs|apply Kd.zy));exact HO108.out) (Kd.z1z ho0) hb);have n2_:=z3.mk (Kd.z1b (Kd.z1A ho0 (Kd.R_lt (by (with_reducible repeat (first|apply Kd.zr|apply Kd.zs|apply Kd.zy));exact HO108.out))) (zc (by repeat (first|(with_reducible first|exact HB.out|apply z2|apply z0|apply z1)|exact HB.out))));have n3_:=z3.mk (zb (by repeat (first|(with_reducible first|exact HB.out|apply z2|apply z0|apply z1)|exact HB.out)) hb);clear HO105;clear HO108;clear HB;have HO105:=n0_;have HO108:=n1_;have HO112:=n2_;have HB:=n3_;clear n0_ n1_ n2_ n3_;(try clear hb);(try clear hb2);(try clear hk);(try clear hi);(try clear ho0))|((with_reducible refine zl (f:=32) rfl ?_);refine goesL_ (some 42) rfl rfl Try.func32 (by kernel_rfl) rfl #[.int .i64 a0,.int .i64 a1,.slice A2 l2.length c2] rfl (by (try simp only [List.map_toArray,List.map_cons,List.map_nil]);first|done|rfl|(simp only [List.length_drop,List.length_take];rfl)) ?_;(with_reducible refine (zk.calls k a0 a1 _ _ l2 t113 t114 _ ?side1 ?side2 A10.out).mono ?_);(case side1=>repeat (first|exact (Kd.z1y HR2.out HB.out)|(with_reducible refine Kd.zS ?_ _)|(with_reducible refine Kd.zT ?_ _)|(with_reducible refine Kd.z14 ?_)));(case side2=>exact HC2.out);rintro e w18 ⟨v115,rfl,ho0,hb⟩;refine ⟨_,rfl,?_⟩;have n0_:=z3.mk (Kd.z1f (by (with_reducible repeat (first|apply Kd.zr|apply Kd.zs|apply Kd.zy));exact HO105.out) (Kd.z1z ho0) hb);have n1_:=z3.mk (Kd.zG (by (with_reducible repeat (first|apply Kd.zr|apply Kd.zs|apply Kd.zy));exact HO108.out) hb);have n2_:=z3.mk (Kd.zG (by (with_reducible repeat (first|apply Kd.zr|apply Kd.zs|apply Kd.zy));exact HO112.out) hb);have n3_:=z3.mk (Kd.z1b (Kd.z1A ho0 (Kd.R_lt (by (with_reducible repeat (first|apply Kd.zr|apply Kd.zs|apply Kd.zy));exact HO105.out))) (zc (by repeat (first|(with_reducible first|exact HB.out|apply z2|apply z0|apply z1)|exact HB.out))));have n4_:=z3.mk (zb (by repeat (first|(with_reducible first|exact HB.out|apply z2|apply z0|apply z1)|exact HB.out)) hb);clear HO105;clear HO108;clear HO112;clear HB;have HO105:=n0_;have HO108:=n1_;have HO112:=n2_;have HO116:=n3_;have HB:=n4_;clear n0_ n1_ n2_ n3_ n4_;(try clear hb);(try clear hb2);(try clear hk);(try clear hi);(try clear ho0))|((with_reducible refine zl (f:=27) rfl ?_);refine goesL_ (some 49) rfl rfl Try.func27 (by kernel_rfl) rfl #[.slice A2 l2.length c2] rfl (by (try simp only [List.map_toArray,List.map_cons,List.map_nil]);first|done|rfl|(simp only [List.length_drop,List.length_take];rfl)) ?_;(with_reducible refine (zq.calls k _ _ l2 t117 _ ?side1 ?side2 A11.out).mono ?_);(case side1=>repeat (first|exact (Kd.z1y HR2.out HB.out)|(with_reducible refine Kd.zS ?_ _)|(with_reducible refine Kd.zT ?_ _)|(with_reducible refine Kd.z14 ?_)));(case side2=>exact HC2.out);rintro e w19 ⟨v118,rfl,ho0,hb⟩;refine ⟨_,rfl,?_⟩;have n0_:=z3.mk (Kd.zG (by (with_reducible repeat (first|apply Kd.zr|apply Kd.zs|apply Kd.zy));exact HO105.out) hb);have n1_:=z3.mk (Kd.z1f (by (with_reducible repeat (first|apply Kd.zr|apply Kd.zs|apply Kd.zy));exact HO108.out) (Kd.z1z ho0) hb);have n2_:=z3.mk (Kd.z1f (by (with_reducible repeat (first|apply Kd.zr|apply Kd.zs|apply Kd.zy));exact HO112.out) (Kd.z1z ho0) hb);have n3_:=z3.mk (Kd.zG (by (with_reducible repeat (first|apply Kd.zr|apply Kd.zs|apply Kd.zy));exact HO116.out) hb);have n4_:=z3.mk (Kd.z1b (Kd.z1A (Kd.z1A ho0 (Kd.R_lt (by (with_reducible repeat (first|apply Kd.zr|apply Kd.zs|apply Kd.zy));exact HO108.out))) (Kd.R_lt (by (with_reducible repeat (first|apply Kd.zr|apply Kd.zs|apply Kd.zy));exact HO112.out))) (zc (by repeat (first|(with_reducible first|exact HB.out|apply z2|apply z0|apply z1)|exact HB.out))));have n5_:=z3.mk (zb (by repeat (first|(with_reducible first|exact HB.out|apply z2|apply z0|apply z1)|exact HB.out)) hb);clear HO105;clear HO108;clear HO112;clear HO116;clear HB;have HO105:=n0_;have HO108:=n1_;have HO112:=n2_;have HO116:=n3_;have HO119:=n4_;have HB:=n5_;clear n0_ n1_ n2_ n3_ n4_ n5_;(try clear hb);(try clear hb2);(try clear hk);(try clear hi);(try clear ho0);obtain ⟨Ao20,co20,eo20⟩:=Kd.z10 HO119.out;subst eo20)|((with_reducible refine zl (f:=33) rfl ?_);refine goesL_ (some 50) rfl rfl Try.func33 (by kernel_rfl) rfl #[.int .i64 a0,.int .i64 a1,.slice Ao20 t117.length co20] rfl (by (try simp only [List.map_toArray,List.map_cons,List.map_nil]);first|done|rfl|(simp only [List.length_drop,List.length_take];rfl)) ?_;(with_reducible refine (z9.calls k a0 a1 _ _ t117 t120 t121 _ ?side1 ?side2 A12.out).mono ?_);(case side1=>repeat (first|exact (Kd.zA HO119.out).2.2|(with_reducible refine Kd.zS ?_ _)|(with_reducible refine Kd.zT ?_ _)|(with_reducible refine Kd.z14 ?_)));(case side2=>exact (Kd.zA HO119.out).2.1);rintro e w21 ⟨v122,rfl,ho0,hb⟩;refine ⟨_,rfl,?_⟩;have n0_:=z3.mk (Kd.zG (by (with_reducible repeat (first|apply Kd.zr|apply Kd.zs|apply Kd.zy));exact HO105.out) hb);have n1_:=z3.mk (Kd.z1f (by (with_reducible repeat (first|apply Kd.zr|apply Kd.zs|apply Kd.zy));exact HO108.out) (Kd.z1z ho0) hb);have n2_:=z3.mk (Kd.z1f (by (with_reducible repeat (first|apply Kd.zr|apply Kd.zs|apply Kd.zy));exact HO112.out) (Kd.z1z ho0) hb);have n3_:=z3.mk (Kd.zG (by (with_reducible repeat (first|apply Kd.zr|apply Kd.zs|apply Kd.zy));exact HO116.out) hb);have n4_:=z3.mk (Kd.z1f (by (with_reducible repeat (first|apply Kd.zr|apply Kd.zs|apply Kd.zy));exact HO119.out) (Kd.z1z ho0) hb);have n5_:=z3.mk (Kd.z1b (Kd.z1A (Kd.z1A (Kd.z1A ho0 (Kd.R_lt (by (with_reducible repeat (first|apply Kd.zr|apply Kd.zs|apply Kd.zy));exact HO108.out))) (Kd.R_lt (by (with_reducible repeat (first|apply Kd.zr|apply Kd.zs|apply Kd.zy));exact HO112.out))) (Kd.R_lt (by (with_reducible repeat (first|apply Kd.zr|apply Kd.zs|apply Kd.zy));exact HO119.out))) (zc (by repeat (first|(with_reducible first|exact HB.out|apply z2|apply z0|apply z1)|exact HB.out))));have n6_:=z3.mk (zb (by repeat (first|(with_reducible first|exact HB.out|apply z2|apply z0|apply z1)|exact HB.out)) hb);clear HO105;clear HO108;clear HO112;clear HO116;clear HO119;clear HB;have HO105:=n0_;have HO108:=n1_;have HO112:=n2_;have HO116:=n3_;have HO119:=n4_;have HO123:=n5_;have HB:=n6_;clear n0_ n1_ n2_ n3_ n4_ n5_ n6_;(try clear hb);(try clear hb2);(try clear hk);(try clear hi);(try clear ho0)))
 (try simp only [Act.put,List.setIfInBounds_toArray,List.set_cons_zero,List.set_cons_succ])
 go_cut [72] (fun v72 wc=>∃ (kq : Nat) (x72_12 : Bool),v72 = .bool x72_12 ∧ z3 (z7.j0 kq a0 a1 l2 t102 t103 t113 t114 x72_12 = some r) ∧ z3 (kq ≤ k) ∧ z3 (Kd.R k51 51 wc w.heap.size (fun k_=>some k_ ≠ (v115 : Value).ownBlock) v104 t102) ∧ z3 (Kd.R k51 51 wc w.heap.size (fun k_=>some k_ ≠ (v104 : Value).ownBlock) v115 t113) ∧ z3 (Below w.heap.size w wc))
 case first =>
  have H:=HC13.out
  clear HC13
  replace H:=Option.bind_eq_some_iff.mp H
  obtain ⟨t124,A220,H⟩:=H
  replace H : (if t124 = true then (if t103 = t110 then ((zf.f k t113 t120).bind fun t125=>(if t125 = true then (z7.j0 k a0 a1 l2 t102 t103 t113 t114 (t114 != t121)) else (z7.j0 k a0 a1 l2 t102 t103 t113 t114 true))) else (z7.j0 k a0 a1 l2 t102 t103 t113 t114 true)) else (z7.j0 k a0 a1 l2 t102 t103 t113 t114 true)) = some r:=H
  have A22:=z3.mk A220
  clear A220
  by_cases c23 : t124 = true
  rotate_left
  · replace c23:=Bool.eq_false_iff.mpr c23
    subst c23
    have H1 : (z7.j0 k a0 a1 l2 t102 t103 t113 t114 true) = some r:=by rw [if_neg (show ¬ (false = true) by decide)] at H;exact H
    clear H
    have H:=H1
    clear H1
    have H':=z3.mk H
    clear H
    obtain ⟨Ao37,co37,eo37⟩:=Kd.z10 HO105.out
    subst eo37
    obtain ⟨Ao38,co38,eo38⟩:=Kd.z10 HO112.out
    subst eo38
    go_wp2_with (first|((with_reducible refine zl (f:=25) rfl ?_);refine goesL_ (some 55) rfl rfl Try.func25 (by kernel_rfl) rfl #[.slice Ao37 t102.length co37,.slice Ao38 t109.length co38] rfl (by (try simp only [List.map_toArray,List.map_cons,List.map_nil]);first|done|rfl|(simp only [List.length_drop,List.length_take];rfl)) ?_;(with_reducible refine (zf.calls k _ _ t102 _ _ t109 false _ ?side1 ?side2 ?side3 ?side4 A22.out).mono ?_);(case side1=>repeat (first|exact (Kd.zA HO105.out).2.2|(with_reducible refine Kd.zS ?_ _)|(with_reducible refine Kd.zT ?_ _)|(with_reducible refine Kd.z14 ?_)));(case side2=>exact (Kd.zA HO105.out).2.1);(case side3=>repeat (first|exact (Kd.zA HO112.out).2.2|(with_reducible refine Kd.zS ?_ _)|(with_reducible refine Kd.zT ?_ _)|(with_reducible refine Kd.z14 ?_)));(case side4=>exact (Kd.zA HO112.out).2.1);rintro e w' ⟨rfl,⟨nd,rfl⟩⟩;refine ⟨_,rfl,?_⟩))
    go_meet
    case rel=>exact ⟨_,(true),(by first|rfl|(simp;done)|(simp [*];done)),H',⟨by first|omega|exact Nat.le_refl _⟩,⟨by (with_reducible repeat (first|apply Kd.zr|apply Kd.zs|apply Kd.zy));exact Kd.z1e HO105.out (fun _ hk=>hk.2)⟩,⟨by (with_reducible repeat (first|apply Kd.zr|apply Kd.zs|apply Kd.zy));exact Kd.z1e HO116.out (fun _ hk=>hk.2)⟩,⟨by repeat (first|(with_reducible first|exact HB.out|apply z2|apply z0|apply z1)|exact HB.out)⟩⟩
  subst c23
  have H1 : (if t103 = t110 then ((zf.f k t113 t120).bind fun t125=>(if t125 = true then (z7.j0 k a0 a1 l2 t102 t103 t113 t114 (t114 != t121)) else (z7.j0 k a0 a1 l2 t102 t103 t113 t114 true))) else (z7.j0 k a0 a1 l2 t102 t103 t113 t114 true)) = some r:=by rw [if_pos rfl] at H;exact H
  clear H
  have H:=H1
  clear H1
  by_cases c24 : t103 = t110
  rotate_left
  · rw [if_neg c24] at H
    have c24b0 : (t103 == t110) = false:=beq_eq_false_iff_ne.mpr c24
    have c24b1 : (t103 != t110) = true:=bne_iff_ne.mpr c24
    (first|rw [c24b0]|(simp only [zD,zI];rw [c24b0])|skip)
    have H':=z3.mk H
    clear H
    obtain ⟨Ao35,co35,eo35⟩:=Kd.z10 HO105.out
    subst eo35
    obtain ⟨Ao36,co36,eo36⟩:=Kd.z10 HO112.out
    subst eo36
    go_wp2_with (first|((with_reducible refine zl (f:=25) rfl ?_);refine goesL_ (some 55) rfl rfl Try.func25 (by kernel_rfl) rfl #[.slice Ao35 t102.length co35,.slice Ao36 t109.length co36] rfl (by (try simp only [List.map_toArray,List.map_cons,List.map_nil]);first|done|rfl|(simp only [List.length_drop,List.length_take];rfl)) ?_;(with_reducible refine (zf.calls k _ _ t102 _ _ t109 true _ ?side1 ?side2 ?side3 ?side4 A22.out).mono ?_);(case side1=>repeat (first|exact (Kd.zA HO105.out).2.2|(with_reducible refine Kd.zS ?_ _)|(with_reducible refine Kd.zT ?_ _)|(with_reducible refine Kd.z14 ?_)));(case side2=>exact (Kd.zA HO105.out).2.1);(case side3=>repeat (first|exact (Kd.zA HO112.out).2.2|(with_reducible refine Kd.zS ?_ _)|(with_reducible refine Kd.zT ?_ _)|(with_reducible refine Kd.z14 ?_)));(case side4=>exact (Kd.zA HO112.out).2.1);rintro e w' ⟨rfl,⟨nd,rfl⟩⟩;refine ⟨_,rfl,?_⟩))
    go_meet
    case rel=>exact ⟨_,(true),(by first|rfl|(simp;done)|(simp [*];done)),H',⟨by first|omega|exact Nat.le_refl _⟩,⟨by (with_reducible repeat (first|apply Kd.zr|apply Kd.zs|apply Kd.zy));exact Kd.z1e HO105.out (fun _ hk=>hk.2)⟩,⟨by (with_reducible repeat (first|apply Kd.zr|apply Kd.zs|apply Kd.zy));exact Kd.z1e HO116.out (fun _ hk=>hk.2)⟩,⟨by repeat (first|(with_reducible first|exact HB.out|apply z2|apply z0|apply z1)|exact HB.out)⟩⟩
  rw [if_pos c24] at H
  have c24b0 : (t103 == t110) = true:=beq_iff_eq.mpr c24
  have c24b1 : (t103 != t110) = false:=bne_eq_false_iff_eq.mpr c24
  clear c24
  (first|rw [c24b0]|(simp only [zD,zI];rw [c24b0])|skip)
  replace H:=Option.bind_eq_some_iff.mp H
  obtain ⟨t125,A250,H⟩:=H
  replace H : (if t125 = true then (z7.j0 k a0 a1 l2 t102 t103 t113 t114 (t114 != t121)) else (z7.j0 k a0 a1 l2 t102 t103 t113 t114 true)) = some r:=H
  have A25:=z3.mk A250
  clear A250
  by_cases c26 : t125 = true
  · subst c26
    have H1 : (z7.j0 k a0 a1 l2 t102 t103 t113 t114 (t114 != t121)) = some r:=by rw [if_pos rfl] at H;exact H
    clear H
    have H:=H1
    clear H1
    have H':=z3.mk H
    clear H
    obtain ⟨Ao27,co27,eo27⟩:=Kd.z10 HO105.out
    subst eo27
    obtain ⟨Ao28,co28,eo28⟩:=Kd.z10 HO112.out
    subst eo28
    go_wp2_with (first|((with_reducible refine zl (f:=25) rfl ?_);refine goesL_ (some 55) rfl rfl Try.func25 (by kernel_rfl) rfl #[.slice Ao27 t102.length co27,.slice Ao28 t109.length co28] rfl (by (try simp only [List.map_toArray,List.map_cons,List.map_nil]);first|done|rfl|(simp only [List.length_drop,List.length_take];rfl)) ?_;(with_reducible refine (zf.calls k _ _ t102 _ _ t109 true _ ?side1 ?side2 ?side3 ?side4 A22.out).mono ?_);(case side1=>repeat (first|exact (Kd.zA HO105.out).2.2|(with_reducible refine Kd.zS ?_ _)|(with_reducible refine Kd.zT ?_ _)|(with_reducible refine Kd.z14 ?_)));(case side2=>exact (Kd.zA HO105.out).2.1);(case side3=>repeat (first|exact (Kd.zA HO112.out).2.2|(with_reducible refine Kd.zS ?_ _)|(with_reducible refine Kd.zT ?_ _)|(with_reducible refine Kd.z14 ?_)));(case side4=>exact (Kd.zA HO112.out).2.1);rintro e w' ⟨rfl,⟨nd,rfl⟩⟩;refine ⟨_,rfl,?_⟩;obtain ⟨Ao29,co29,eo29⟩:=Kd.z10 HO116.out;subst eo29;obtain ⟨Ao30,co30,eo30⟩:=Kd.z10 HO123.out;subst eo30)|(go_at_call 25;(with_reducible refine (zf.calls k _ _ t113 _ _ t120 true _ ?side1 ?side2 ?side3 ?side4 A25.out).mono ?_);(case side1=>repeat (first|exact (Kd.zA HO116.out).2.2|(with_reducible refine Kd.zS ?_ _)|(with_reducible refine Kd.zT ?_ _)|(with_reducible refine Kd.z14 ?_)));(case side2=>exact (Kd.zA HO116.out).2.1);(case side3=>repeat (first|exact (Kd.zA HO123.out).2.2|(with_reducible refine Kd.zS ?_ _)|(with_reducible refine Kd.zT ?_ _)|(with_reducible refine Kd.z14 ?_)));(case side4=>exact (Kd.zA HO123.out).2.1);rintro e w' ⟨rfl,⟨nd,rfl⟩⟩))
    go_meet
    case rel=>exact ⟨_,((t114 != t121)),(by first|rfl|(simp;done)|(simp [*];done)),H',⟨by first|omega|exact Nat.le_refl _⟩,⟨by (with_reducible repeat (first|apply Kd.zr|apply Kd.zs|apply Kd.zy));exact Kd.z1e HO105.out (fun _ hk=>hk.2)⟩,⟨by (with_reducible repeat (first|apply Kd.zr|apply Kd.zs|apply Kd.zy));exact Kd.z1e HO116.out (fun _ hk=>hk.2)⟩,⟨by repeat (first|(with_reducible first|exact HB.out|apply z2|apply z0|apply z1)|exact HB.out)⟩⟩
  replace c26:=Bool.eq_false_iff.mpr c26
  subst c26
  have H1 : (z7.j0 k a0 a1 l2 t102 t103 t113 t114 true) = some r:=by rw [if_neg (show ¬ (false = true) by decide)] at H;exact H
  clear H
  have H:=H1
  clear H1
  have H':=z3.mk H
  clear H
  obtain ⟨Ao31,co31,eo31⟩:=Kd.z10 HO105.out
  subst eo31
  obtain ⟨Ao32,co32,eo32⟩:=Kd.z10 HO112.out
  subst eo32
  go_wp2_with (first|((with_reducible refine zl (f:=25) rfl ?_);refine goesL_ (some 55) rfl rfl Try.func25 (by kernel_rfl) rfl #[.slice Ao31 t102.length co31,.slice Ao32 t109.length co32] rfl (by (try simp only [List.map_toArray,List.map_cons,List.map_nil]);first|done|rfl|(simp only [List.length_drop,List.length_take];rfl)) ?_;(with_reducible refine (zf.calls k _ _ t102 _ _ t109 true _ ?side1 ?side2 ?side3 ?side4 A22.out).mono ?_);(case side1=>repeat (first|exact (Kd.zA HO105.out).2.2|(with_reducible refine Kd.zS ?_ _)|(with_reducible refine Kd.zT ?_ _)|(with_reducible refine Kd.z14 ?_)));(case side2=>exact (Kd.zA HO105.out).2.1);(case side3=>repeat (first|exact (Kd.zA HO112.out).2.2|(with_reducible refine Kd.zS ?_ _)|(with_reducible refine Kd.zT ?_ _)|(with_reducible refine Kd.z14 ?_)));(case side4=>exact (Kd.zA HO112.out).2.1);rintro e w' ⟨rfl,⟨nd,rfl⟩⟩;refine ⟨_,rfl,?_⟩;obtain ⟨Ao33,co33,eo33⟩:=Kd.z10 HO116.out;subst eo33;obtain ⟨Ao34,co34,eo34⟩:=Kd.z10 HO123.out;subst eo34)|(go_at_call 25;(with_reducible refine (zf.calls k _ _ t113 _ _ t120 false _ ?side1 ?side2 ?side3 ?side4 A25.out).mono ?_);(case side1=>repeat (first|exact (Kd.zA HO116.out).2.2|(with_reducible refine Kd.zS ?_ _)|(with_reducible refine Kd.zT ?_ _)|(with_reducible refine Kd.z14 ?_)));(case side2=>exact (Kd.zA HO116.out).2.1);(case side3=>repeat (first|exact (Kd.zA HO123.out).2.2|(with_reducible refine Kd.zS ?_ _)|(with_reducible refine Kd.zT ?_ _)|(with_reducible refine Kd.z14 ?_)));(case side4=>exact (Kd.zA HO123.out).2.1);rintro e w' ⟨rfl,⟨nd,rfl⟩⟩))
  go_meet
  case rel=>exact ⟨_,(true),(by first|rfl|(simp;done)|(simp [*];done)),H',⟨by first|omega|exact Nat.le_refl _⟩,⟨by (with_reducible repeat (first|apply Kd.zr|apply Kd.zs|apply Kd.zy));exact Kd.z1e HO105.out (fun _ hk=>hk.2)⟩,⟨by (with_reducible repeat (first|apply Kd.zr|apply Kd.zs|apply Kd.zy));exact Kd.z1e HO116.out (fun _ hk=>hk.2)⟩,⟨by repeat (first|(with_reducible first|exact HB.out|apply z2|apply z0|apply z1)|exact HB.out)⟩⟩
 case rest =>
  clear HC13
  (try clear c2);(try clear p2);(try clear c3);(try clear c4);(try clear c4b0);(try clear c4b1);(try clear c7);(try clear c23);(try clear c24);(try clear c24b0);(try clear c24b1);(try clear c25);(try clear c26);(try clear c27);(try clear c30);(try clear c31);(try clear c32);(try clear c33)
  obtain ⟨kq,x72_12,rfl,HA,HJ12,HO_7,HO_11,HB⟩:=hcut
  cases kq with
  | zero=>exact absurd HA.out (by simp [z7.j0])
  | succ kj12 =>
   have H:=HA.out
   clear HA
   simp only [z7.j0] at H
   by_cases c39 : x72_12 = true
   · subst c39
     have H1 : (some false) = some r:=by rw [if_pos rfl] at H;exact H
     clear H
     have H:=H1
     clear H1
     obtain rfl:=Option.some.inj H
     go_wp2
     go_ret
     exact ⟨by first|rfl|(simp [zg,zh] <;> rfl)|(simp [*,zg,zh] <;> rfl),by repeat (first|(with_reducible first|exact HB.out|apply z2|apply z0|apply z1)|exact HB.out)⟩
   replace c39:=Bool.eq_false_iff.mpr c39
   subst c39
   have H1 : (if t103 = 0 then ((zk.f kj12 a0 a1 t102).bind fun bt126=>(if bt126.2 = 0 then ((zq.f kj12 l2).bind fun t130=>((zf.f kj12 bt126.1 t130).bind fun t133=>(if t133 = true then (z7.j1 kj12 a0 a1 l2 t113 t114) else (some false)))) else (some false))) else (z7.j1 kj12 a0 a1 l2 t113 t114)) = some r:=by rw [if_neg (show ¬ (false = true) by decide)] at H;exact H
   clear H
   have H:=H1
   clear H1
   have HC40:=z3.mk H
   clear H
   go_upto_if 74 with (fail)
   go_cut [] (fun wc=>∃ (kq : Nat),z3 (z7.j1 kq a0 a1 l2 t113 t114 = some r) ∧ z3 (kq ≤ kj12) ∧ z3 (Kd.R k51 51 wc w.heap.size (fun _=>True) v115 t113) ∧ z3 (Below w.heap.size w wc))
   case first =>
    have H:=HC40.out
    clear HC40
    by_cases c41 : t103 = 0
    rotate_left
    · rw [if_neg c41] at H
      have c41b0 : (t103 == 0) = false:=beq_eq_false_iff_ne.mpr c41
      have c41b1 : (t103 != 0) = true:=bne_iff_ne.mpr c41
      (first|rw [c41b0]|(simp only [zD,zI];rw [c41b0])|skip)
      have H':=z3.mk H
      clear H
      go_wp2
      go_meet
      case rel=>exact ⟨_,H',⟨by have:=HJ12.out;first|omega|exact Nat.le_refl _⟩,⟨by (with_reducible repeat (first|apply Kd.zr|apply Kd.zs|apply Kd.zy));exact Kd.z1e HO_11.out (fun _ hk=>trivial)⟩,⟨by repeat (first|(with_reducible first|exact HB.out|apply z2|apply z0|apply z1)|exact HB.out)⟩⟩
    rw [if_pos c41] at H
    have c41b0 : (t103 == 0) = true:=beq_iff_eq.mpr c41
    have c41b1 : (t103 != 0) = false:=bne_eq_false_iff_eq.mpr c41
    clear c41
    (first|rw [c41b0]|(simp only [zD,zI];rw [c41b0])|skip)
    replace H:=Option.bind_eq_some_iff.mp H
    obtain ⟨⟨t126,t127⟩,A420,H⟩:=H
    replace H : (if t127 = 0 then ((zq.f kj12 l2).bind fun t130=>((zf.f kj12 t126 t130).bind fun t133=>(if t133 = true then (z7.j1 kj12 a0 a1 l2 t113 t114) else (some false)))) else (some false)) = some r:=H
    have A42:=z3.mk A420
    clear A420
    by_cases c43 : t127 = 0
    rotate_left
    · rw [if_neg c43] at H
      have c43b0 : (t127 == 0) = false:=beq_eq_false_iff_ne.mpr c43
      have c43b1 : (t127 != 0) = true:=bne_iff_ne.mpr c43
      obtain rfl:=Option.some.inj H
      obtain ⟨Ao57,co57,eo57⟩:=Kd.z10 HO_7.out
      subst eo57
      go_wp2_with (first|((with_reducible refine zl (f:=32) rfl ?_);refine goesL_ (some 79) rfl rfl Try.func32 (by kernel_rfl) rfl #[.int .i64 a0,.int .i64 a1,.slice Ao57 t102.length co57] rfl (by (try simp only [List.map_toArray,List.map_cons,List.map_nil]);first|done|rfl|(simp only [List.length_drop,List.length_take];rfl)) ?_;(with_reducible refine (zk.calls kj12 a0 a1 _ _ t102 t126 t127 _ ?side1 ?side2 A42.out).mono ?_);(case side1=>repeat (first|exact (Kd.zA HO_7.out).2.2|(with_reducible refine Kd.zS ?_ _)|(with_reducible refine Kd.zT ?_ _)|(with_reducible refine Kd.z14 ?_)));(case side2=>exact (Kd.zA HO_7.out).2.1);rintro e w58 ⟨v128,rfl,ho0,hb⟩;refine ⟨_,rfl,?_⟩;have n0_:=z3.mk (Kd.z1f (by (with_reducible repeat (first|apply Kd.zr|apply Kd.zs|apply Kd.zy));exact HO_7.out) (Kd.z1z ho0) hb);have n1_:=z3.mk (Kd.z1f (by (with_reducible repeat (first|apply Kd.zr|apply Kd.zs|apply Kd.zy));exact HO_11.out) (Kd.z1z ho0) hb);have n2_:=z3.mk (Kd.z1b (Kd.z1A (Kd.z1A ho0 (Kd.R_lt (by (with_reducible repeat (first|apply Kd.zr|apply Kd.zs|apply Kd.zy));exact HO_7.out))) (Kd.R_lt (by (with_reducible repeat (first|apply Kd.zr|apply Kd.zs|apply Kd.zy));exact HO_11.out))) (zc (by repeat (first|(with_reducible first|exact HB.out|apply z2|apply z0|apply z1)|exact HB.out))));have n3_:=z3.mk (zb (by repeat (first|(with_reducible first|exact HB.out|apply z2|apply z0|apply z1)|exact HB.out)) hb);clear HO_7;clear HO_11;clear HB;have HO_7:=n0_;have HO_11:=n1_;have HO129:=n2_;have HB:=n3_;clear n0_ n1_ n2_ n3_;(try clear hb);(try clear hb2);(try clear hk);(try clear hi);(try clear ho0)))
      go_ret
      exact ⟨by first|rfl|(simp [zg,zh] <;> rfl)|(simp [*,zg,zh] <;> rfl),by repeat (first|(with_reducible first|exact HB.out|apply z2|apply z0|apply z1)|exact HB.out)⟩
    rw [if_pos c43] at H
    have c43b0 : (t127 == 0) = true:=beq_iff_eq.mpr c43
    have c43b1 : (t127 != 0) = false:=bne_eq_false_iff_eq.mpr c43
    clear c43
    replace H:=Option.bind_eq_some_iff.mp H
    obtain ⟨t130,A440,H⟩:=H
    replace H : ((zf.f kj12 t126 t130).bind fun t133=>(if t133 = true then (z7.j1 kj12 a0 a1 l2 t113 t114) else (some false))) = some r:=H
    have A44:=z3.mk A440
    clear A440
    replace H:=Option.bind_eq_some_iff.mp H
    obtain ⟨t133,A450,H⟩:=H
    replace H : (if t133 = true then (z7.j1 kj12 a0 a1 l2 t113 t114) else (some false)) = some r:=H
    have A45:=z3.mk A450
    clear A450
    by_cases c46 : t133 = true
    rotate_left
    · replace c46:=Bool.eq_false_iff.mpr c46
      subst c46
      have H1 : (some false) = some r:=by rw [if_neg (show ¬ (false = true) by decide)] at H;exact H
      clear H
      have H:=H1
      clear H1
      obtain rfl:=Option.some.inj H
      obtain ⟨Ao52,co52,eo52⟩:=Kd.z10 HO_7.out
      subst eo52
      go_wp2_with (first|((with_reducible refine zl (f:=32) rfl ?_);refine goesL_ (some 79) rfl rfl Try.func32 (by kernel_rfl) rfl #[.int .i64 a0,.int .i64 a1,.slice Ao52 t102.length co52] rfl (by (try simp only [List.map_toArray,List.map_cons,List.map_nil]);first|done|rfl|(simp only [List.length_drop,List.length_take];rfl)) ?_;(with_reducible refine (zk.calls kj12 a0 a1 _ _ t102 t126 t127 _ ?side1 ?side2 A42.out).mono ?_);(case side1=>repeat (first|exact (Kd.zA HO_7.out).2.2|(with_reducible refine Kd.zS ?_ _)|(with_reducible refine Kd.zT ?_ _)|(with_reducible refine Kd.z14 ?_)));(case side2=>exact (Kd.zA HO_7.out).2.1);rintro e w53 ⟨v128,rfl,ho0,hb⟩;refine ⟨_,rfl,?_⟩;have n0_:=z3.mk (Kd.z1f (by (with_reducible repeat (first|apply Kd.zr|apply Kd.zs|apply Kd.zy));exact HO_7.out) (Kd.z1z ho0) hb);have n1_:=z3.mk (Kd.z1f (by (with_reducible repeat (first|apply Kd.zr|apply Kd.zs|apply Kd.zy));exact HO_11.out) (Kd.z1z ho0) hb);have n2_:=z3.mk (Kd.z1b (Kd.z1A (Kd.z1A ho0 (Kd.R_lt (by (with_reducible repeat (first|apply Kd.zr|apply Kd.zs|apply Kd.zy));exact HO_7.out))) (Kd.R_lt (by (with_reducible repeat (first|apply Kd.zr|apply Kd.zs|apply Kd.zy));exact HO_11.out))) (zc (by repeat (first|(with_reducible first|exact HB.out|apply z2|apply z0|apply z1)|exact HB.out))));have n3_:=z3.mk (zb (by repeat (first|(with_reducible first|exact HB.out|apply z2|apply z0|apply z1)|exact HB.out)) hb);clear HO_7;clear HO_11;clear HB;have HO_7:=n0_;have HO_11:=n1_;have HO129:=n2_;have HB:=n3_;clear n0_ n1_ n2_ n3_;(try clear hb);(try clear hb2);(try clear hk);(try clear hi);(try clear ho0))|(go_at_call 27;(with_reducible refine (zq.calls kj12 _ _ l2 t130 _ ?side1 ?side2 A44.out).mono ?_);(case side1=>repeat (first|exact (Kd.z1y HR2.out HB.out)|(with_reducible refine Kd.zS ?_ _)|(with_reducible refine Kd.zT ?_ _)|(with_reducible refine Kd.z14 ?_)));(case side2=>exact HC2.out);rintro e w54 ⟨v131,rfl,ho0,hb⟩;have n0_:=z3.mk (Kd.zG (by (with_reducible repeat (first|apply Kd.zr|apply Kd.zs|apply Kd.zy));exact HO_7.out) hb);have n1_:=z3.mk (Kd.zG (by (with_reducible repeat (first|apply Kd.zr|apply Kd.zs|apply Kd.zy));exact HO_11.out) hb);have n2_:=z3.mk (Kd.zG (by (with_reducible repeat (first|apply Kd.zr|apply Kd.zs|apply Kd.zy));exact HO129.out) hb);have n3_:=z3.mk (Kd.z1b ho0 (zc (by repeat (first|(with_reducible first|exact HB.out|apply z2|apply z0|apply z1)|exact HB.out))));have n4_:=z3.mk (zb (by repeat (first|(with_reducible first|exact HB.out|apply z2|apply z0|apply z1)|exact HB.out)) hb);clear HO_7;clear HO_11;clear HO129;clear HB;have HO_7:=n0_;have HO_11:=n1_;have HO129:=n2_;have HO132:=n3_;have HB:=n4_;clear n0_ n1_ n2_ n3_ n4_;(try clear hb);(try clear hb2);(try clear hk);(try clear hi);(try clear ho0);obtain ⟨Ao55,co55,eo55⟩:=Kd.z10 HO129.out;subst eo55;obtain ⟨Ao56,co56,eo56⟩:=Kd.z10 HO132.out;subst eo56)|(go_at_call 25;(with_reducible refine (zf.calls kj12 _ _ t126 _ _ t130 false _ ?side1 ?side2 ?side3 ?side4 A45.out).mono ?_);(case side1=>repeat (first|exact (Kd.zA HO129.out).2.2|(with_reducible refine Kd.zS ?_ _)|(with_reducible refine Kd.zT ?_ _)|(with_reducible refine Kd.z14 ?_)));(case side2=>exact (Kd.zA HO129.out).2.1);(case side3=>repeat (first|exact (Kd.zA HO132.out).2.2|(with_reducible refine Kd.zS ?_ _)|(with_reducible refine Kd.zT ?_ _)|(with_reducible refine Kd.z14 ?_)));(case side4=>exact (Kd.zA HO132.out).2.1);rintro e w' ⟨rfl,⟨nd,rfl⟩⟩))
      go_ret
      exact ⟨by first|rfl|(simp [zg,zh] <;> rfl)|(simp [*,zg,zh] <;> rfl),by repeat (first|(with_reducible first|exact HB.out|apply z2|apply z0|apply z1)|exact HB.out)⟩
    subst c46
    have H1 : (z7.j1 kj12 a0 a1 l2 t113 t114) = some r:=by rw [if_pos rfl] at H;exact H
    clear H
    have H:=H1
    clear H1
    have H':=z3.mk H
    clear H
    obtain ⟨Ao47,co47,eo47⟩:=Kd.z10 HO_7.out
    subst eo47
    go_wp2_with (first|((with_reducible refine zl (f:=32) rfl ?_);refine goesL_ (some 79) rfl rfl Try.func32 (by kernel_rfl) rfl #[.int .i64 a0,.int .i64 a1,.slice Ao47 t102.length co47] rfl (by (try simp only [List.map_toArray,List.map_cons,List.map_nil]);first|done|rfl|(simp only [List.length_drop,List.length_take];rfl)) ?_;(with_reducible refine (zk.calls kj12 a0 a1 _ _ t102 t126 t127 _ ?side1 ?side2 A42.out).mono ?_);(case side1=>repeat (first|exact (Kd.zA HO_7.out).2.2|(with_reducible refine Kd.zS ?_ _)|(with_reducible refine Kd.zT ?_ _)|(with_reducible refine Kd.z14 ?_)));(case side2=>exact (Kd.zA HO_7.out).2.1);rintro e w48 ⟨v128,rfl,ho0,hb⟩;refine ⟨_,rfl,?_⟩;have n0_:=z3.mk (Kd.z1f (by (with_reducible repeat (first|apply Kd.zr|apply Kd.zs|apply Kd.zy));exact HO_7.out) (Kd.z1z ho0) hb);have n1_:=z3.mk (Kd.z1f (by (with_reducible repeat (first|apply Kd.zr|apply Kd.zs|apply Kd.zy));exact HO_11.out) (Kd.z1z ho0) hb);have n2_:=z3.mk (Kd.z1b (Kd.z1A (Kd.z1A ho0 (Kd.R_lt (by (with_reducible repeat (first|apply Kd.zr|apply Kd.zs|apply Kd.zy));exact HO_7.out))) (Kd.R_lt (by (with_reducible repeat (first|apply Kd.zr|apply Kd.zs|apply Kd.zy));exact HO_11.out))) (zc (by repeat (first|(with_reducible first|exact HB.out|apply z2|apply z0|apply z1)|exact HB.out))));have n3_:=z3.mk (zb (by repeat (first|(with_reducible first|exact HB.out|apply z2|apply z0|apply z1)|exact HB.out)) hb);clear HO_7;clear HO_11;clear HB;have HO_7:=n0_;have HO_11:=n1_;have HO129:=n2_;have HB:=n3_;clear n0_ n1_ n2_ n3_;(try clear hb);(try clear hb2);(try clear hk);(try clear hi);(try clear ho0))|(go_at_call 27;(with_reducible refine (zq.calls kj12 _ _ l2 t130 _ ?side1 ?side2 A44.out).mono ?_);(case side1=>repeat (first|exact (Kd.z1y HR2.out HB.out)|(with_reducible refine Kd.zS ?_ _)|(with_reducible refine Kd.zT ?_ _)|(with_reducible refine Kd.z14 ?_)));(case side2=>exact HC2.out);rintro e w49 ⟨v131,rfl,ho0,hb⟩;have n0_:=z3.mk (Kd.zG (by (with_reducible repeat (first|apply Kd.zr|apply Kd.zs|apply Kd.zy));exact HO_7.out) hb);have n1_:=z3.mk (Kd.zG (by (with_reducible repeat (first|apply Kd.zr|apply Kd.zs|apply Kd.zy));exact HO_11.out) hb);have n2_:=z3.mk (Kd.zG (by (with_reducible repeat (first|apply Kd.zr|apply Kd.zs|apply Kd.zy));exact HO129.out) hb);have n3_:=z3.mk (Kd.z1b ho0 (zc (by repeat (first|(with_reducible first|exact HB.out|apply z2|apply z0|apply z1)|exact HB.out))));have n4_:=z3.mk (zb (by repeat (first|(with_reducible first|exact HB.out|apply z2|apply z0|apply z1)|exact HB.out)) hb);clear HO_7;clear HO_11;clear HO129;clear HB;have HO_7:=n0_;have HO_11:=n1_;have HO129:=n2_;have HO132:=n3_;have HB:=n4_;clear n0_ n1_ n2_ n3_ n4_;(try clear hb);(try clear hb2);(try clear hk);(try clear hi);(try clear ho0);obtain ⟨Ao50,co50,eo50⟩:=Kd.z10 HO129.out;subst eo50;obtain ⟨Ao51,co51,eo51⟩:=Kd.z10 HO132.out;subst eo51)|(go_at_call 25;(with_reducible refine (zf.calls kj12 _ _ t126 _ _ t130 true _ ?side1 ?side2 ?side3 ?side4 A45.out).mono ?_);(case side1=>repeat (first|exact (Kd.zA HO129.out).2.2|(with_reducible refine Kd.zS ?_ _)|(with_reducible refine Kd.zT ?_ _)|(with_reducible refine Kd.z14 ?_)));(case side2=>exact (Kd.zA HO129.out).2.1);(case side3=>repeat (first|exact (Kd.zA HO132.out).2.2|(with_reducible refine Kd.zS ?_ _)|(with_reducible refine Kd.zT ?_ _)|(with_reducible refine Kd.z14 ?_)));(case side4=>exact (Kd.zA HO132.out).2.1);rintro e w' ⟨rfl,⟨nd,rfl⟩⟩))
    go_meet
    case rel=>exact ⟨_,H',⟨by have:=HJ12.out;first|omega|exact Nat.le_refl _⟩,⟨by (with_reducible repeat (first|apply Kd.zr|apply Kd.zs|apply Kd.zy));exact Kd.z1e HO_11.out (fun _ hk=>trivial)⟩,⟨by repeat (first|(with_reducible first|exact HB.out|apply z2|apply z0|apply z1)|exact HB.out)⟩⟩
   case rest =>
    clear HC40
    (try clear c2);(try clear p2);(try clear c3);(try clear c4);(try clear c4b0);(try clear c4b1);(try clear c7);(try clear c23);(try clear c24);(try clear c24b0);(try clear c24b1);(try clear c25);(try clear c26);(try clear c27);(try clear c30);(try clear c31);(try clear c32);(try clear c33);(try clear c39);(try clear c41);(try clear c41b0);(try clear c41b1);(try clear c43);(try clear c43b0);(try clear c43b1);(try clear c46);(try clear p2)
    obtain ⟨kq,HA,HJ39,HO_11,HB⟩:=hcut
    cases kq with
    | zero=>exact absurd HA.out (by simp [z7.j1])
    | succ kj39 =>
     have H:=HA.out
     clear HA
     simp only [z7.j1] at H
     by_cases c59 : t114 = 0
     rotate_left
     · rw [if_neg c59] at H
       have c59b0 : (t114 == 0) = false:=beq_eq_false_iff_ne.mpr c59
       have c59b1 : (t114 != 0) = true:=bne_iff_ne.mpr c59
       replace H:=Option.bind_eq_some_iff.mp H
       obtain ⟨t143,A780,H⟩:=H
       replace H : (some t143) = some r:=H
       have A78:=z3.mk A780
       clear A780
       obtain rfl:=Option.some.inj H
       go_wp2_with (first|((with_reducible refine zl (f:=23) rfl ?_);refine goesL_ (some 111) rfl rfl Try.func23 (by kernel_rfl) rfl #[] rfl (by (try simp only [List.map_toArray,List.map_cons,List.map_nil]);first|done|rfl|(simp only [List.length_drop,List.length_take];rfl)) ?_;(with_reducible refine (zB.calls kj39  t143 _ A78.out).mono ?_);rintro e w79 ⟨rfl,hb⟩;refine ⟨_,rfl,?_⟩;have n0_:=z3.mk (Kd.zG (by (with_reducible repeat (first|apply Kd.zr|apply Kd.zs|apply Kd.zy));exact HO_11.out) hb);have n1_:=z3.mk (zb (by repeat (first|(with_reducible first|exact HB.out|apply z2|apply z0|apply z1)|exact HB.out)) hb);clear HO_11;clear HB;have HO_11:=n0_;have HB:=n1_;clear n0_ n1_;(try clear hb);(try clear hb2);(try clear hk);(try clear hi)))
       go_ret
       exact ⟨by first|rfl|(simp [zg,zh] <;> rfl)|(simp [*,zg,zh] <;> rfl),by repeat (first|(with_reducible first|exact HB.out|apply z2|apply z0|apply z1)|exact HB.out)⟩
     rw [if_pos c59] at H
     have c59b0 : (t114 == 0) = true:=beq_iff_eq.mpr c59
     have c59b1 : (t114 != 0) = false:=bne_eq_false_iff_eq.mpr c59
     clear c59
     replace H:=Option.bind_eq_some_iff.mp H
     obtain ⟨⟨t134,t135⟩,A600,H⟩:=H
     replace H : ((zB.f kj39).bind fun t138=>(if t138 = true then (if t135 = 0 then ((zq.f kj39 l2).bind fun t139=>((zf.f kj39 t134 t139).bind fun t142=>(some t142))) else (some false)) else (some false))) = some r:=H
     have A60:=z3.mk A600
     clear A600
     replace H:=Option.bind_eq_some_iff.mp H
     obtain ⟨t138,A610,H⟩:=H
     replace H : (if t138 = true then (if t135 = 0 then ((zq.f kj39 l2).bind fun t139=>((zf.f kj39 t134 t139).bind fun t142=>(some t142))) else (some false)) else (some false)) = some r:=H
     have A61:=z3.mk A610
     clear A610
     by_cases c62 : t138 = true
     rotate_left
     · replace c62:=Bool.eq_false_iff.mpr c62
       subst c62
       have H1 : (some false) = some r:=by rw [if_neg (show ¬ (false = true) by decide)] at H;exact H
       clear H
       have H:=H1
       clear H1
       obtain rfl:=Option.some.inj H
       obtain ⟨Ao75,co75,eo75⟩:=Kd.z10 HO_11.out
       subst eo75
       go_wp2_with (first|((with_reducible refine zl (f:=30) rfl ?_);refine goesL_ (some 97) rfl rfl Try.func30 (by kernel_rfl) rfl #[.int .i64 a0,.int .i64 a1,.slice Ao75 t113.length co75] rfl (by (try simp only [List.map_toArray,List.map_cons,List.map_nil]);first|done|rfl|(simp only [List.length_drop,List.length_take];rfl)) ?_;(with_reducible refine (zm.calls kj39 a0 a1 _ _ t113 t134 t135 _ ?side1 ?side2 A60.out).mono ?_);(case side1=>repeat (first|exact (Kd.zA HO_11.out).2.2|(with_reducible refine Kd.zS ?_ _)|(with_reducible refine Kd.zT ?_ _)|(with_reducible refine Kd.z14 ?_)));(case side2=>exact (Kd.zA HO_11.out).2.1);rintro e w76 ⟨v136,rfl,ho0,hb⟩;refine ⟨_,rfl,?_⟩;have n0_:=z3.mk (Kd.z1f (by (with_reducible repeat (first|apply Kd.zr|apply Kd.zs|apply Kd.zy));exact HO_11.out) (Kd.z1z ho0) hb);have n1_:=z3.mk (Kd.z1b (Kd.z1A ho0 (Kd.R_lt (by (with_reducible repeat (first|apply Kd.zr|apply Kd.zs|apply Kd.zy));exact HO_11.out))) (zc (by repeat (first|(with_reducible first|exact HB.out|apply z2|apply z0|apply z1)|exact HB.out))));have n2_:=z3.mk (zb (by repeat (first|(with_reducible first|exact HB.out|apply z2|apply z0|apply z1)|exact HB.out)) hb);clear HO_11;clear HB;have HO_11:=n0_;have HO137:=n1_;have HB:=n2_;clear n0_ n1_ n2_;(try clear hb);(try clear hb2);(try clear hk);(try clear hi);(try clear ho0))|((with_reducible refine zl (f:=23) rfl ?_);refine goesL_ (some 100) rfl rfl Try.func23 (by kernel_rfl) rfl #[] rfl (by (try simp only [List.map_toArray,List.map_cons,List.map_nil]);first|done|rfl|(simp only [List.length_drop,List.length_take];rfl)) ?_;(with_reducible refine (zB.calls kj39  false _ A61.out).mono ?_);rintro e w77 ⟨rfl,hb⟩;refine ⟨_,rfl,?_⟩;have n0_:=z3.mk (Kd.zG (by (with_reducible repeat (first|apply Kd.zr|apply Kd.zs|apply Kd.zy));exact HO_11.out) hb);have n1_:=z3.mk (Kd.zG (by (with_reducible repeat (first|apply Kd.zr|apply Kd.zs|apply Kd.zy));exact HO137.out) hb);have n2_:=z3.mk (zb (by repeat (first|(with_reducible first|exact HB.out|apply z2|apply z0|apply z1)|exact HB.out)) hb);clear HO_11;clear HO137;clear HB;have HO_11:=n0_;have HO137:=n1_;have HB:=n2_;clear n0_ n1_ n2_;(try clear hb);(try clear hb2);(try clear hk);(try clear hi)))
       go_ret
       exact ⟨by first|rfl|(simp [zg,zh] <;> rfl)|(simp [*,zg,zh] <;> rfl),by repeat (first|(with_reducible first|exact HB.out|apply z2|apply z0|apply z1)|exact HB.out)⟩
     subst c62
     have H1 : (if t135 = 0 then ((zq.f kj39 l2).bind fun t139=>((zf.f kj39 t134 t139).bind fun t142=>(some t142))) else (some false)) = some r:=by rw [if_pos rfl] at H;exact H
     clear H
     have H:=H1
     clear H1
     by_cases c63 : t135 = 0
     rotate_left
     · rw [if_neg c63] at H
       have c63b0 : (t135 == 0) = false:=beq_eq_false_iff_ne.mpr c63
       have c63b1 : (t135 != 0) = true:=bne_iff_ne.mpr c63
       obtain rfl:=Option.some.inj H
       obtain ⟨Ao72,co72,eo72⟩:=Kd.z10 HO_11.out
       subst eo72
       go_wp2_with (first|((with_reducible refine zl (f:=30) rfl ?_);refine goesL_ (some 97) rfl rfl Try.func30 (by kernel_rfl) rfl #[.int .i64 a0,.int .i64 a1,.slice Ao72 t113.length co72] rfl (by (try simp only [List.map_toArray,List.map_cons,List.map_nil]);first|done|rfl|(simp only [List.length_drop,List.length_take];rfl)) ?_;(with_reducible refine (zm.calls kj39 a0 a1 _ _ t113 t134 t135 _ ?side1 ?side2 A60.out).mono ?_);(case side1=>repeat (first|exact (Kd.zA HO_11.out).2.2|(with_reducible refine Kd.zS ?_ _)|(with_reducible refine Kd.zT ?_ _)|(with_reducible refine Kd.z14 ?_)));(case side2=>exact (Kd.zA HO_11.out).2.1);rintro e w73 ⟨v136,rfl,ho0,hb⟩;refine ⟨_,rfl,?_⟩;have n0_:=z3.mk (Kd.z1f (by (with_reducible repeat (first|apply Kd.zr|apply Kd.zs|apply Kd.zy));exact HO_11.out) (Kd.z1z ho0) hb);have n1_:=z3.mk (Kd.z1b (Kd.z1A ho0 (Kd.R_lt (by (with_reducible repeat (first|apply Kd.zr|apply Kd.zs|apply Kd.zy));exact HO_11.out))) (zc (by repeat (first|(with_reducible first|exact HB.out|apply z2|apply z0|apply z1)|exact HB.out))));have n2_:=z3.mk (zb (by repeat (first|(with_reducible first|exact HB.out|apply z2|apply z0|apply z1)|exact HB.out)) hb);clear HO_11;clear HB;have HO_11:=n0_;have HO137:=n1_;have HB:=n2_;clear n0_ n1_ n2_;(try clear hb);(try clear hb2);(try clear hk);(try clear hi);(try clear ho0))|((with_reducible refine zl (f:=23) rfl ?_);refine goesL_ (some 100) rfl rfl Try.func23 (by kernel_rfl) rfl #[] rfl (by (try simp only [List.map_toArray,List.map_cons,List.map_nil]);first|done|rfl|(simp only [List.length_drop,List.length_take];rfl)) ?_;(with_reducible refine (zB.calls kj39  true _ A61.out).mono ?_);rintro e w74 ⟨rfl,hb⟩;refine ⟨_,rfl,?_⟩;have n0_:=z3.mk (Kd.zG (by (with_reducible repeat (first|apply Kd.zr|apply Kd.zs|apply Kd.zy));exact HO_11.out) hb);have n1_:=z3.mk (Kd.zG (by (with_reducible repeat (first|apply Kd.zr|apply Kd.zs|apply Kd.zy));exact HO137.out) hb);have n2_:=z3.mk (zb (by repeat (first|(with_reducible first|exact HB.out|apply z2|apply z0|apply z1)|exact HB.out)) hb);clear HO_11;clear HO137;clear HB;have HO_11:=n0_;have HO137:=n1_;have HB:=n2_;clear n0_ n1_ n2_;(try clear hb);(try clear hb2);(try clear hk);(try clear hi)))
       go_ret
       exact ⟨by first|rfl|(simp [zg,zh] <;> rfl)|(simp [*,zg,zh] <;> rfl),by repeat (first|(with_reducible first|exact HB.out|apply z2|apply z0|apply z1)|exact HB.out)⟩
     rw [if_pos c63] at H
     have c63b0 : (t135 == 0) = true:=beq_iff_eq.mpr c63
     have c63b1 : (t135 != 0) = false:=bne_eq_false_iff_eq.mpr c63
     clear c63
     replace H:=Option.bind_eq_some_iff.mp H
     obtain ⟨t139,A640,H⟩:=H
     replace H : ((zf.f kj39 t134 t139).bind fun t142=>(some t142)) = some r:=H
     have A64:=z3.mk A640
     clear A640
     replace H:=Option.bind_eq_some_iff.mp H
     obtain ⟨t142,A650,H⟩:=H
     replace H : (some t142) = some r:=H
     have A65:=z3.mk A650
     clear A650
     obtain rfl:=Option.some.inj H
     obtain ⟨Ao66,co66,eo66⟩:=Kd.z10 HO_11.out
     subst eo66
     go_wp2_with (first|((with_reducible refine zl (f:=30) rfl ?_);refine goesL_ (some 97) rfl rfl Try.func30 (by kernel_rfl) rfl #[.int .i64 a0,.int .i64 a1,.slice Ao66 t113.length co66] rfl (by (try simp only [List.map_toArray,List.map_cons,List.map_nil]);first|done|rfl|(simp only [List.length_drop,List.length_take];rfl)) ?_;(with_reducible refine (zm.calls kj39 a0 a1 _ _ t113 t134 t135 _ ?side1 ?side2 A60.out).mono ?_);(case side1=>repeat (first|exact (Kd.zA HO_11.out).2.2|(with_reducible refine Kd.zS ?_ _)|(with_reducible refine Kd.zT ?_ _)|(with_reducible refine Kd.z14 ?_)));(case side2=>exact (Kd.zA HO_11.out).2.1);rintro e w67 ⟨v136,rfl,ho0,hb⟩;refine ⟨_,rfl,?_⟩;have n0_:=z3.mk (Kd.z1f (by (with_reducible repeat (first|apply Kd.zr|apply Kd.zs|apply Kd.zy));exact HO_11.out) (Kd.z1z ho0) hb);have n1_:=z3.mk (Kd.z1b (Kd.z1A ho0 (Kd.R_lt (by (with_reducible repeat (first|apply Kd.zr|apply Kd.zs|apply Kd.zy));exact HO_11.out))) (zc (by repeat (first|(with_reducible first|exact HB.out|apply z2|apply z0|apply z1)|exact HB.out))));have n2_:=z3.mk (zb (by repeat (first|(with_reducible first|exact HB.out|apply z2|apply z0|apply z1)|exact HB.out)) hb);clear HO_11;clear HB;have HO_11:=n0_;have HO137:=n1_;have HB:=n2_;clear n0_ n1_ n2_;(try clear hb);(try clear hb2);(try clear hk);(try clear hi);(try clear ho0))|((with_reducible refine zl (f:=23) rfl ?_);refine goesL_ (some 100) rfl rfl Try.func23 (by kernel_rfl) rfl #[] rfl (by (try simp only [List.map_toArray,List.map_cons,List.map_nil]);first|done|rfl|(simp only [List.length_drop,List.length_take];rfl)) ?_;(with_reducible refine (zB.calls kj39  true _ A61.out).mono ?_);rintro e w68 ⟨rfl,hb⟩;refine ⟨_,rfl,?_⟩;have n0_:=z3.mk (Kd.zG (by (with_reducible repeat (first|apply Kd.zr|apply Kd.zs|apply Kd.zy));exact HO_11.out) hb);have n1_:=z3.mk (Kd.zG (by (with_reducible repeat (first|apply Kd.zr|apply Kd.zs|apply Kd.zy));exact HO137.out) hb);have n2_:=z3.mk (zb (by repeat (first|(with_reducible first|exact HB.out|apply z2|apply z0|apply z1)|exact HB.out)) hb);clear HO_11;clear HO137;clear HB;have HO_11:=n0_;have HO137:=n1_;have HB:=n2_;clear n0_ n1_ n2_;(try clear hb);(try clear hb2);(try clear hk);(try clear hi))|(go_at_call 27;(with_reducible refine (zq.calls kj39 _ _ l2 t139 _ ?side1 ?side2 A64.out).mono ?_);(case side1=>repeat (first|exact (Kd.z1y HR2.out HB.out)|(with_reducible refine Kd.zS ?_ _)|(with_reducible refine Kd.zT ?_ _)|(with_reducible refine Kd.z14 ?_)));(case side2=>exact HC2.out);rintro e w69 ⟨v140,rfl,ho0,hb⟩;have n0_:=z3.mk (Kd.zG (by (with_reducible repeat (first|apply Kd.zr|apply Kd.zs|apply Kd.zy));exact HO_11.out) hb);have n1_:=z3.mk (Kd.zG (by (with_reducible repeat (first|apply Kd.zr|apply Kd.zs|apply Kd.zy));exact HO137.out) hb);have n2_:=z3.mk (Kd.z1b ho0 (zc (by repeat (first|(with_reducible first|exact HB.out|apply z2|apply z0|apply z1)|exact HB.out))));have n3_:=z3.mk (zb (by repeat (first|(with_reducible first|exact HB.out|apply z2|apply z0|apply z1)|exact HB.out)) hb);clear HO_11;clear HO137;clear HB;have HO_11:=n0_;have HO137:=n1_;have HO141:=n2_;have HB:=n3_;clear n0_ n1_ n2_ n3_;(try clear hb);(try clear hb2);(try clear hk);(try clear hi);(try clear ho0);obtain ⟨Ao70,co70,eo70⟩:=Kd.z10 HO137.out;subst eo70;obtain ⟨Ao71,co71,eo71⟩:=Kd.z10 HO141.out;subst eo71)|(go_at_call 25;(with_reducible refine (zf.calls kj39 _ _ t134 _ _ t139 t142 _ ?side1 ?side2 ?side3 ?side4 A65.out).mono ?_);(case side1=>repeat (first|exact (Kd.zA HO137.out).2.2|(with_reducible refine Kd.zS ?_ _)|(with_reducible refine Kd.zT ?_ _)|(with_reducible refine Kd.z14 ?_)));(case side2=>exact (Kd.zA HO137.out).2.1);(case side3=>repeat (first|exact (Kd.zA HO141.out).2.2|(with_reducible refine Kd.zS ?_ _)|(with_reducible refine Kd.zT ?_ _)|(with_reducible refine Kd.z14 ?_)));(case side4=>exact (Kd.zA HO141.out).2.1);rintro e w' ⟨rfl,⟨nd,rfl⟩⟩))
     go_ret
     exact ⟨by first|rfl|(simp [zg,zh] <;> rfl)|(simp [*,zg,zh] <;> rfl),by repeat (first|(with_reducible first|exact HB.out|apply z2|apply z0|apply z1)|exact HB.out)⟩
end Go.Proofs.Ytngcaphdkgihmaa.P
/- What the arguments of a law read as: for each type that can be told, any reading of it is one of a value of its kind, with its numbers in their ranges. Own text. -/
namespace Go.Proofs.Ytngcaphdkgihmaa.Reads
open Go.ChangeShapes Go.WideShapes Go.ChangeAt Go.RowKit Go.Deep Go.Proofs.YtngcaphdkgihmaaW.PrintWords
set_option linter.unusedVariables false

/-- Whatever is read at type t is of kind d, and good. -/
def ReadsAs {α : Type} (P : Program) (t : TypeId) (d : Kd α) (good : α → Prop) : Prop :=
  ∀ {H : Type} (enc : TypeId × Value → H) (w : World) (base : Nat) (spare : Nat → Bool) (held : Bool) (fuel : Nat) (cs : List Value) (x : DataW H × List MemPlace), DataW.trod enc P w base spare held fuel t cs = some x → ∃ a, d.K w a cs ∧ good a

theorem z5G {P : Program} {t : TypeId} {k : IntKind} (ht : P.underlying t = some (.int k)) : ReadsAs P t (Kd.int k) (fun n => (Lit.int k n).wf = true) := by
  intro H enc w base spare held fuel cs x h
  obtain ⟨n, rfl, _, hw⟩ := DataW.trod_int ht h
  exact ⟨n, rfl, hw⟩
theorem op_bool {P : Program} {t : TypeId} (ht : P.underlying t = some .bool) : ReadsAs P t Kd.bool (fun _ => True) := by
  intro H enc w base spare held fuel cs x h
  obtain ⟨n, rfl, _⟩ := DataW.trod_bool ht h
  exact ⟨n, rfl, trivial⟩
theorem z4l (a : Addr) (i j : Nat) : (a.add i).add j = a.add (i + j) := Go.Deep.add_add a i j
theorem op_slice {α : Type} {P : Program} {t e : TypeId} {d : Kd α} {good : α → Prop} (ht : P.underlying t = some (.slice e)) (hc : P.cellsOf e = d.sz) (he : ReadsAs P e d good) : ReadsAs P t (Kd.slice e d) (fun l => (∀ x ∈ l, good x) ∧ l.length ≤ maxLen) := by
  intro H enc w base spare held fuel cs x h
  rcases open_slice ht h with ⟨rfl, _⟩ | ⟨a, len, cap, m, n, D, Pl, rfl, hb, hl, hm, hmm, rfl, hx⟩
  · exact ⟨[], ⟨none, 0, rfl, Nat.le_refl _, Kd.C_nil d w⟩, ⟨by simp, Nat.zero_le _⟩⟩
  · have hlm : len ≤ m := by rw [hmm]; split <;> omega
    have hex : ∀ i, i < len → ∃ y : α, ∃ c, c.length = d.sz ∧ d.K w y c ∧ good y ∧ ∀ j u, c[j]? = some u → w.cell? (a.add (i * d.sz + j)) = some u := by
      intro i hi
      obtain ⟨cs', h1, h2⟩ := hx i (by omega)
      obtain ⟨_, hlen, hcell⟩ := World.cells?_some h1
      obtain ⟨y, hK, hg⟩ := he enc w base spare held n cs' _ h2
      refine ⟨y, cs', by rw [hlen, hc], hK, hg, fun j u hu => ?_⟩
      have hj : j < P.cellsOf e := by rw [← hlen]; exact (List.getElem?_eq_some_iff.1 hu).1
      have := hcell j hj
      rw [z4l] at this
      rw [← hc, this]; exact hu
    have hmax : len ≤ 9223372036854775807 := by
      have h9 : len ≤ maxLen := by omega
      simpa [maxLen] using h9
    have hlen : (List.ofFn (fun i : Fin len => Classical.choose (hex i.1 i.2))).length = len := List.length_ofFn
    refine ⟨List.ofFn (fun i : Fin len => Classical.choose (hex i.1 i.2)), ⟨some a, cap, by rw [hlen], by rw [hlen]; exact hl, rfl, by rw [hlen]; exact hmax, fun _ => ⟨a, rfl, ?_⟩⟩, ?_, by rw [hlen]; omega⟩
    · intro j p hp
      obtain ⟨hj, hpj⟩ := List.getElem?_eq_some_iff.1 hp
      rw [List.length_ofFn] at hj
      rw [List.getElem_ofFn] at hpj
      obtain ⟨c, h1, h2, _, h4⟩ := Classical.choose_spec (hex j hj)
      exact ⟨c, h1, by rw [← hpj]; exact h2, h4⟩
    · intro y hy
      obtain ⟨i, rfl⟩ := List.mem_ofFn.1 hy
      obtain ⟨c, _, _, h3, _⟩ := Classical.choose_spec (hex i.1 i.2)
      exact h3

/-- Fields that lie one behind the other. -/
def ReadsFs {α : Type} (P : Program) (fs : List Field) (off : Nat) (d : Kd α) (good : α → Prop) : Prop :=
  ∀ {H : Type} (enc : TypeId × Value → H) (w : World) (base : Nat) (spare : Nat → Bool) (held : Bool) (n : Nat) (cs : List Value), cs.length = d.sz →
    (∀ f ∈ fs, off ≤ f.offset ∧ ∃ x, DataW.trod enc P w base spare held n f.type ((cs.drop (f.offset - off)).take (P.cellsOf f.type)) = some x) → ∃ a, d.K w a cs ∧ good a
theorem z5J {α : Type} {P : Program} {f : Field} {off : Nat} {d : Kd α} {good : α → Prop} (hs : P.cellsOf f.type = d.sz) (ho : f.offset = off) (he : ReadsAs P f.type d good) : ReadsFs P [f] off d good := by
  intro H enc w base spare held n cs hl h
  obtain ⟨_, x, hx⟩ := h f (by simp)
  rw [ho, Nat.sub_self, List.drop_zero, hs, ← hl, List.take_length] at hx
  exact he enc w base spare held n cs x hx
theorem z5I {α β : Type} {P : Program} {f : Field} {fs : List Field} {off : Nat} {d : Kd α} {d' : Kd β} {good : α → Prop} {good' : β → Prop} (hs : P.cellsOf f.type = d.sz) (ho : f.offset = off) (he : ReadsAs P f.type d good)
    (hr : ReadsFs P fs (off + d.sz) d' good') (hoff : ∀ g ∈ fs, off + d.sz ≤ g.offset) : ReadsFs P (f :: fs) off (Kd.pair d d') (fun x => good x.1 ∧ good' x.2) := by
  intro H enc w base spare held n cs hl h
  have hl' : cs.length = d.sz + d'.sz := hl
  obtain ⟨_, x, hx⟩ := h f (by simp)
  rw [ho, Nat.sub_self, List.drop_zero, hs] at hx
  obtain ⟨a, hK, hg⟩ := he enc w base spare held n _ x hx
  obtain ⟨b, hK', hg'⟩ := hr enc w base spare held n (cs.drop d.sz) (by rw [List.length_drop]; omega) (fun g hgm => by
    obtain ⟨_, y, hy⟩ := h g (by simp [hgm])
    have ho' := hoff g hgm
    refine ⟨ho', y, ?_⟩
    rw [List.drop_drop, show d.sz + (g.offset - (off + d.sz)) = g.offset - off by omega]
    exact hy)
  exact ⟨(a, b), ⟨cs.take d.sz, cs.drop d.sz, (List.take_append_drop _ _).symm, hK, hK'⟩, hg, hg'⟩
theorem z5H {α β : Type} {P : Program} {t : TypeId} {fs : Array Field} {l : List Field} {d : Kd α} {good : α → Prop} (f : β → α) (hsurj : ∀ a, ∃ b, f b = a) (ht : P.underlying t = some (.struct fs)) (hfl : fs.toList = l) (hs : P.cellsOf t = d.sz) (h : ReadsFs P l 0 d good) :
    ReadsAs P t (Kd.iso d f) (fun b => good (f b)) := by
  intro H enc w base spare held fuel cs x hx
  obtain ⟨xs, n, rfl, _, hlen, hxs, hall⟩ := DataW.trod_struct ht hx
  obtain ⟨a, hK, hg⟩ := h enc w base spare held n cs (by rw [hlen, hs]) (fun g hgm => by
    rw [← hfl] at hgm
    obtain ⟨i, hi, rfl⟩ := List.mem_iff_getElem.1 hgm
    have h1 := hall i fs.toList[i] (by simp at hi ⊢)
    have hi' : i < xs.length := by rw [hxs]; simpa using hi
    refine ⟨Nat.zero_le _, xs[i], ?_⟩
    rw [Nat.sub_zero, h1, List.getElem?_eq_getElem hi'])
  obtain ⟨b, rfl⟩ := hsurj a
  exact ⟨b, hK, hg⟩

/-- Elements of an array, one behind the other. -/
def ReadsAr {α : Type} (P : Program) (e : TypeId) (m : Nat) (d : Kd α) (good : α → Prop) : Prop :=
  ∀ {H : Type} (enc : TypeId × Value → H) (w : World) (base : Nat) (spare : Nat → Bool) (held : Bool) (n : Nat) (cs : List Value), cs.length = d.sz →
    (∀ i, i < m → ∃ x, DataW.trod enc P w base spare held n e ((cs.drop (i * P.cellsOf e)).take (P.cellsOf e)) = some x) → ∃ a, d.K w a cs ∧ good a
theorem opas_last {α : Type} {P : Program} {e : TypeId} {d : Kd α} {good : α → Prop} (hs : P.cellsOf e = d.sz) (he : ReadsAs P e d good) : ReadsAr P e 1 d good := by
  intro H enc w base spare held n cs hl h
  obtain ⟨x, hx⟩ := h 0 (by omega)
  rw [Nat.zero_mul, List.drop_zero, hs, ← hl, List.take_length] at hx
  exact he enc w base spare held n cs x hx
theorem opas_cons {α β : Type} {P : Program} {e : TypeId} {m : Nat} {d : Kd α} {d' : Kd β} {good : α → Prop} {good' : β → Prop} (hs : P.cellsOf e = d.sz) (he : ReadsAs P e d good) (hr : ReadsAr P e m d' good') :
    ReadsAr P e (m + 1) (Kd.pair d d') (fun x => good x.1 ∧ good' x.2) := by
  intro H enc w base spare held n cs hl h
  have hl' : cs.length = d.sz + d'.sz := hl
  obtain ⟨x, hx⟩ := h 0 (by omega)
  rw [Nat.zero_mul, List.drop_zero, hs] at hx
  obtain ⟨a, hK, hg⟩ := he enc w base spare held n _ x hx
  obtain ⟨b, hK', hg'⟩ := hr enc w base spare held n (cs.drop d.sz) (by rw [List.length_drop]; omega) (fun i hi => by
    obtain ⟨y, hy⟩ := h (i + 1) (by omega)
    refine ⟨y, ?_⟩
    rw [List.drop_drop, show d.sz + i * P.cellsOf e = (i + 1) * P.cellsOf e by rw [hs, Nat.add_mul]; omega]
    exact hy)
  exact ⟨(a, b), ⟨cs.take d.sz, cs.drop d.sz, (List.take_append_drop _ _).symm, hK, hK'⟩, hg, hg'⟩
theorem op_array {α β : Type} {P : Program} {t e : TypeId} {m : Nat} {d : Kd α} {good : α → Prop} (f : β → α) (hsurj : ∀ a, ∃ b, f b = a) (ht : P.underlying t = some (.array m e)) (hs : P.cellsOf t = d.sz) (h : ReadsAr P e m d good) :
    ReadsAs P t (Kd.iso d f) (fun b => good (f b)) := by
  intro H enc w base spare held fuel cs x hx
  obtain ⟨xs, n, rfl, _, hlen, hxs, hall⟩ := DataW.trod_array ht hx
  obtain ⟨a, hK, hg⟩ := h enc w base spare held n cs (by rw [hlen, hs]) (fun i hi => by
    have hi' : i < xs.length := by omega
    exact ⟨xs[i], by rw [hall i hi, List.getElem?_eq_getElem hi']⟩)
  obtain ⟨b, rfl⟩ := hsurj a
  exact ⟨b, hK, hg⟩
theorem z48 {P : Program} {w : World} {r : Reach} {base : Nat} {t e : TypeId} {m : Nat} {v : Value} (ht : P.underlying t = some (.array m e)) (h : Value.okWide P w r base t v) : ∃ cs, v = .agg cs ∧ cs.size = P.cellsOf t := by
  simp only [Value.okWide, ht] at h
  cases v <;> simp_all

/-- An argument that is a slice. -/
theorem z5f {α : Type} {P : Program} {H : Type} {enc : TypeId × Value → H} {W : World} {base : Nat} {spare : Nat → Bool} {held : Bool} {t e : TypeId} {d : Kd α} {good : List α → Prop} {v : Value} {dd : DataW H} {ps : List MemPlace}
    (hop : ReadsAs P t (Kd.slice e d) good) {e' : TypeId} (ht : P.underlying t = some (.slice e')) {r : Reach} {b : Nat} (hv : Value.okWide P W r b t v) (h : DataW.Trod enc P W base spare held t v dd ps) :
    ∃ (l : List α) (A : Option Addr) (c : Nat), v = .slice A l.length c ∧ l.length ≤ c ∧ Kd.C d W A l.length l ∧ good l := by
  obtain ⟨A, len, cap, rfl⟩ := okWide_slice ht hv
  obtain ⟨fuel, hf⟩ := h
  obtain ⟨l, ⟨A', c, hcs, hl, hC⟩, hg⟩ := hop enc W base spare held fuel _ _ hf
  simp [Value.cells] at hcs
  obtain ⟨rfl, rfl, rfl⟩ := hcs
  exact ⟨l, A, cap, rfl, hl, hC, hg⟩
theorem z5e {P : Program} {H : Type} {enc : TypeId × Value → H} {W : World} {base : Nat} {spare : Nat → Bool} {held : Bool} {t : TypeId} {k : IntKind} {v : Value} {dd : DataW H} {ps : List MemPlace}
    (ht : P.underlying t = some (.int k)) {r : Reach} {b : Nat} (hv : Value.okWide P W r b t v) (h : DataW.Trod enc P W base spare held t v dd ps) :
    ∃ n, v = .int k n ∧ (Lit.int k n).wf = true := by
  obtain ⟨n, rfl⟩ := okWide_int ht hv
  obtain ⟨fuel, hf⟩ := h
  obtain ⟨l, hcs, hg⟩ := z5G ht enc W base spare held fuel _ _ hf
  have : n = l := by
    have h1 : ([Value.int k n] : List Value) = [.int k l] := hcs
    simpa using h1
  subst this
  exact ⟨n, rfl, hg⟩
theorem arg_bool {P : Program} {W : World} {t : TypeId} {v : Value} (ht : P.underlying t = some .bool) {r : Reach} {b : Nat} (hv : Value.okWide P W r b t v) : ∃ n, v = .bool n := okWide_bool ht hv
/-- An argument that is a struct: its cells. -/
theorem arg_struct {α : Type} {P : Program} {H : Type} {enc : TypeId × Value → H} {W : World} {base : Nat} {spare : Nat → Bool} {held : Bool} {t : TypeId} {fs : Array Field} {d : Kd α} {good : α → Prop} {v : Value} {dd : DataW H} {ps : List MemPlace}
    (hop : ReadsAs P t d good) (ht : P.underlying t = some (.struct fs)) {r : Reach} {b : Nat} (hv : Value.okWide P W r b t v) (h : DataW.Trod enc P W base spare held t v dd ps) :
    ∃ (a : α) (cs : List Value), v = .agg cs.toArray ∧ d.K W a cs ∧ good a := by
  obtain ⟨cs, rfl, _⟩ := okWide_struct ht hv
  obtain ⟨fuel, hf⟩ := h
  obtain ⟨a, hK, hg⟩ := hop enc W base spare held fuel _ _ hf
  exact ⟨a, cs.toList, by simp, hK, hg⟩
/-- An argument that is an array: its cells. -/
theorem arg_array {α : Type} {P : Program} {H : Type} {enc : TypeId × Value → H} {W : World} {base : Nat} {spare : Nat → Bool} {held : Bool} {t e : TypeId} {m : Nat} {d : Kd α} {good : α → Prop} {v : Value} {dd : DataW H} {ps : List MemPlace}
    (hop : ReadsAs P t d good) (ht : P.underlying t = some (.array m e)) {r : Reach} {b : Nat} (hv : Value.okWide P W r b t v) (h : DataW.Trod enc P W base spare held t v dd ps) :
    ∃ (a : α) (cs : List Value), v = .agg cs.toArray ∧ d.K W a cs ∧ good a := by
  obtain ⟨cs, rfl, _⟩ := z48 ht hv
  obtain ⟨fuel, hf⟩ := h
  obtain ⟨a, hK, hg⟩ := hop enc W base spare held fuel _ _ hf
  exact ⟨a, cs.toList, by simp, hK, hg⟩
end Go.Proofs.Ytngcaphdkgihmaa.Reads
-- Own text: the statement that is left of the law WeaveGathers, and what a reading of its arguments is.
namespace Go.Proofs.Ytngcaphdkgihmaa.Stated.weaveGathers
open Go.RowKit Go.Proofs.YtngcaphdkgihmaaW.PrintWords Go.Proofs.Ytngcaphdkgihmaa.P Go.Proofs.Ytngcaphdkgihmaa.Reads
def Pure : Prop := ∀ (x0 : Int) (x1 : Int) (x2 : List (S51)), ((Lit.int .i64 x0).wf = true) → ((Lit.int .i64 x1).wf = true) → (((∀ x_ ∈ x2, ((Lit.int .u64 x_.f0).wf = true) ∧ ((Lit.int .u64 x_.f1).wf = true)) ∧ x2.length ≤ maxLen)) → ∃ k, z7.f k x0 x1 x2 = some true
end Go.Proofs.Ytngcaphdkgihmaa.Stated.weaveGathers
/- Rounds: what is told by enough of them; and the arithmetic of whole numbers as the printed functions spell it. Own text. -/
namespace Go.Proofs.YtngcaphdkgihmaaW.PrintWords
set_option linter.unusedVariables false
set_option linter.unusedSimpArgs false
namespace Ev
variable {α β : Type}
theorem ret (r : α) : Ev (fun _ => some r) r := ⟨0, fun _ _ => rfl⟩
theorem ret' {a r : α} (h : a = r) : Ev (fun _ => some a) r := h ▸ Ev.ret a
theorem const {o : Option α} {r : α} (h : o = some r) : Ev (fun _ => o) r := ⟨0, fun _ _ => h⟩
theorem pos {c : Prop} [Decidable c] {f g : Nat → Option α} {r : α} (h : c) (k : Ev f r) : Ev (fun n => if c then f n else g n) r := by
  simp only [if_pos h]; exact k
theorem neg {c : Prop} [Decidable c] {f g : Nat → Option α} {r : α} (h : ¬ c) (k : Ev g r) : Ev (fun n => if c then f n else g n) r := by
  simp only [if_neg h]; exact k
theorem bnd {g : Nat → Option α} {f : Nat → α → Option β} {a : α} {r : β} (h : Ev g a) (k : Ev (fun n => f n a) r) : Ev (fun n => (g n).bind (f n)) r := Ev.bind h k
theorem bnd0 {o : Option α} {f : Nat → α → Option β} {a : α} {r : β} (h : o = some a) (k : Ev (fun n => f n a) r) : Ev (fun n => o.bind (f n)) r := Ev.bind (Ev.const h) k
theorem uniq {g : Nat → Option α} {a b : α} (h : Ev g a) (k : Ev g b) : a = b := by
  obtain ⟨K, hK⟩ := h; obtain ⟨L, hL⟩ := k
  have := hK (max K L) (Nat.le_max_left _ _); rw [hL _ (Nat.le_max_right _ _)] at this
  exact (Option.some.inj this).symm
theorem eqn {g : Nat → Option α} {a b : α} (h : Ev g a) (e : a = b) : Ev g b := e ▸ h
end Ev
end Go.Proofs.YtngcaphdkgihmaaW.PrintWords
namespace Go.Proofs.Ytngcaphdkgihmaa.Ar
open Go.RowKit Go.Proofs.YtngcaphdkgihmaaW.PrintWords Go.Proofs.YtngcaphdkgihmaaW.PrintMore
set_option linter.unusedVariables false
set_option linter.unusedSimpArgs false
theorem z5u {x : Int} (h0 : -9223372036854775808 ≤ x) (h1 : x ≤ 9223372036854775807) : IntKind.i64.wrap x = x := by rw [IntKind.wrap_i64]; omega
theorem z1Q {x : Int} (h0 : -9223372036854775808 ≤ x) (h1 : x ≤ 9223372036854775807) : wrap64 x = x := by unfold wrap64; omega
theorem z1x {i L : Nat} (h : i < L) (hL : L ≤ 4611686018427387904) : wrap64 ((i : Int) + 1) = ((i + 1 : Nat) : Int) := by rw [z1Q (by omega) (by omega)]; omega
theorem z3T {i j : Nat} (h : i ≤ 2305843009213693952) (h' : j ≤ 2305843009213693952) : wrap64 ((i : Int) + (j : Int)) = ((i + j : Nat) : Int) := by rw [z1Q (by omega) (by omega)]; omega
theorem z5V {i j : Nat} (h : j ≤ i) (h' : i ≤ 4611686018427387904) : wrap64 ((i : Int) - (j : Int)) = ((i - j : Nat) : Int) := by rw [z1Q (by omega) (by omega)]; omega
theorem z24 {x : Int} (h0 : 0 ≤ x) (h1 : x < 18446744073709551616) : IntKind.u64.wrap x = x := by
  simp [IntKind.wrap, IntKind.bits, IntKind.signed]; omega
theorem z3S (w : Nat) (h : w ≤ 62) : shl .i64 1 (w : Int) = ((2 ^ w : Nat) : Int) := by
  unfold shl
  have h64 : IntKind.i64.bits = 64 := rfl
  rw [h64, Int.toNat_natCast, Nat.min_eq_left (by omega), Int.one_mul]
  have hp : (2 : Nat) ^ w ≤ 2 ^ 62 := Nat.pow_le_pow_right (by decide) h
  have hc : ((2 : Int) ^ w) = ((2 ^ w : Nat) : Int) := by simp
  rw [hc]
  have h62 : (2 : Nat) ^ 62 = 4611686018427387904 := by decide
  generalize 2 ^ w = p at hp ⊢
  exact z5u (by omega) (by omega)
theorem z2j (w : Nat) (h : w ≤ 63) : shl .u64 1 (w : Int) = ((2 ^ w : Nat) : Int) := by
  unfold shl
  have h64 : IntKind.u64.bits = 64 := rfl
  rw [h64, Int.toNat_natCast, Nat.min_eq_left (by omega), Int.one_mul]
  have hp : (2 : Nat) ^ w ≤ 2 ^ 63 := Nat.pow_le_pow_right (by decide) h
  have hc : ((2 : Int) ^ w) = ((2 ^ w : Nat) : Int) := by simp
  rw [hc]
  have h63 : (2 : Nat) ^ 63 = 9223372036854775808 := by decide
  generalize 2 ^ w = p at hp ⊢
  exact z24 (by omega) (by omega)
theorem z2k (a w : Nat) (h : w ≤ 64) : shr .u64 (a : Int) (w : Int) = ((a / 2 ^ w : Nat) : Int) := by
  unfold shr
  have h64 : IntKind.u64.bits = 64 := rfl
  rw [h64, Int.toNat_natCast, Nat.min_eq_left h]; simp
theorem shr_i64 (a w : Nat) (h : w ≤ 64) : shr .i64 (a : Int) (w : Int) = ((a / 2 ^ w : Nat) : Int) := by
  unfold shr
  have h64 : IntKind.i64.bits = 64 := rfl
  rw [h64, Int.toNat_natCast, Nat.min_eq_left h]; simp
theorem z3G (op : BinOp) (a b : Nat) (ha : a < 2 ^ 64) (hb : b < 2 ^ 64) :
    (op = .and → Go.bits op .u64 a b = ((a &&& b : Nat) : Int)) ∧ (op = .or → Go.bits op .u64 a b = ((a ||| b : Nat) : Int)) ∧ (op = .xor → Go.bits op .u64 a b = ((a ^^^ b : Nat) : Int)) := by
  have ha' : a % 2 ^ IntKind.u64.bits = a := Nat.mod_eq_of_lt ha
  have hb' : b % 2 ^ IntKind.u64.bits = b := Nat.mod_eq_of_lt hb
  refine ⟨?_, ?_, ?_⟩ <;> rintro rfl <;> simp only [Go.bits, BitVec.ofInt_natCast, BitVec.toNat_and, BitVec.toNat_or, BitVec.toNat_xor, BitVec.toNat_ofNat, ha', hb']
  · exact z24 (Int.natCast_nonneg _) (by have := Nat.and_lt_two_pow a hb; omega)
  · exact z24 (Int.natCast_nonneg _) (by have := Nat.or_lt_two_pow ha hb; omega)
  · exact z24 (Int.natCast_nonneg _) (by have := Nat.xor_lt_two_pow ha hb; omega)
theorem z1N (a b : Nat) (ha : a < 2 ^ 64) (hb : b < 2 ^ 64) : Go.bits .and .u64 a b = ((a &&& b : Nat) : Int) := (z3G .and a b ha hb).1 rfl
theorem z3v (a b : Nat) (ha : a < 2 ^ 64) (hb : b < 2 ^ 64) : Go.bits .or .u64 a b = ((a ||| b : Nat) : Int) := (z3G .or a b ha hb).2.1 rfl
theorem z1v (a b : Nat) (ha : a < 2 ^ 64) (hb : b < 2 ^ 64) : Go.bits .xor .u64 a b = ((a ^^^ b : Nat) : Int) := (z3G .xor a b ha hb).2.2 rfl
theorem z3Z (x w : Nat) (hx : x < 2 ^ 63) (hw : w ≤ 62) : Go.bits .and .i64 (x : Int) (((2 ^ w : Nat) : Int) - 1) = ((x % 2 ^ w : Nat) : Int) := by
  have := Go.bits_mask .i64 63 (by decide) (fun n h0 h1 => z5u (by omega) (by omega)) w (by omega) (x : Int) (by omega) (by exact_mod_cast hx)
  have hc : (((2 ^ w : Nat) : Int) - 1) = 2 ^ w - 1 := by simp
  rw [hc, this]; simp
theorem two_pow_le {w : Nat} (h : w ≤ 6) : 2 ^ w ≤ 64 := Nat.pow_le_pow_right (n := 2) (by decide) h
theorem wf_i64 {x : Int} (h : (Lit.int .i64 x).wf = true) : -9223372036854775808 ≤ x ∧ x ≤ 9223372036854775807 := by
  simp only [Lit.wf, IntKind.min, IntKind.max, IntKind.signed, IntKind.bits, Bool.and_eq_true, decide_eq_true_eq] at h; simp at h; omega
theorem wf_u64 {x : Int} (h : (Lit.int .u64 x).wf = true) : 0 ≤ x ∧ x < 18446744073709551616 := by
  simp only [Lit.wf, IntKind.min, IntKind.max, IntKind.signed, IntKind.bits, Bool.and_eq_true, decide_eq_true_eq] at h; simp at h; omega
theorem rdOf_eq {α : Type} (d : α) (l : List α) (i : Nat) : rdOf d l (i : Int) = l.getD i d := by unfold rdOf; rw [Int.toNat_natCast]
end Go.Proofs.Ytngcaphdkgihmaa.Ar
/- The tower of fields of characteristic two, as pairs of pairs of bits: its laws. Own text; nothing of the program in it. -/
namespace Go.Proofs.Ytngcaphdkgihmaa.Tw
set_option linter.unusedVariables false
set_option linter.unusedSimpArgs false

/-- Level n: a bit, or two halves: the higher one and the lower one. -/
def T : Nat → Type
  | 0 => Bool
  | n + 1 => T n × T n
def zero : (n : Nat) → T n
  | 0 => false
  | n + 1 => (zero n, zero n)
def one : (n : Nat) → T n
  | 0 => true
  | n + 1 => (zero n, one n)
/-- The generator. -/
def gen : (n : Nat) → T n
  | 0 => true
  | n + 1 => (one n, zero n)
def add : {n : Nat} → T n → T n → T n
  | 0, a, b => Bool.xor a b
  | _ + 1, a, b => (add a.1 b.1, add a.2 b.2)
def mul : {n : Nat} → T n → T n → T n
  | 0, a, b => Bool.and a b
  | n + 1, a, b => (add (add (mul a.1 b.2) (mul a.2 b.1)) (mul (gen n) (mul a.1 b.1)), add (mul a.2 b.2) (mul a.1 b.1))
instance {n : Nat} : Add (T n) := ⟨add⟩
instance {n : Nat} : Mul (T n) := ⟨mul⟩
instance {n : Nat} : Zero (T n) := ⟨zero n⟩
instance {n : Nat} : One (T n) := ⟨one n⟩
instance : {n : Nat} → DecidableEq (T n)
  | 0 => inferInstanceAs (DecidableEq Bool)
  | n + 1 => let _ : DecidableEq (T n) := instDecidableEqT; inferInstanceAs (DecidableEq (T n × T n))
theorem z34 {n : Nat} (a b : T (n + 1)) : (a + b).1 = a.1 + b.1 := rfl
theorem z3F {n : Nat} (a b : T (n + 1)) : (a + b).2 = a.2 + b.2 := rfl
theorem z1I {n : Nat} (a b : T (n + 1)) : (a * b).1 = (a.1 * b.2 + a.2 * b.1) + gen n * (a.1 * b.1) := rfl
theorem z1J {n : Nat} (a b : T (n + 1)) : (a * b).2 = a.2 * b.2 + a.1 * b.1 := rfl
theorem z2Y {n : Nat} : (0 : T (n + 1)).1 = 0 := rfl
theorem z2Z {n : Nat} : (0 : T (n + 1)).2 = 0 := rfl
theorem z3K {n : Nat} : (1 : T (n + 1)).1 = 0 := rfl
theorem z3L {n : Nat} : (1 : T (n + 1)).2 = 1 := rfl
theorem z2c {n : Nat} : (gen (n + 1)).1 = 1 := rfl
theorem z2d {n : Nat} : (gen (n + 1)).2 = 0 := rfl
theorem z4A : gen 0 = 1 := rfl
/-- The element of two halves. -/
def mk {n : Nat} (a b : T n) : T (n + 1) := (a, b)
theorem z1O {n : Nat} (a b : T n) : (mk a b).1 = a := rfl
theorem z1X {n : Nat} (a b : T n) : (mk a b).2 = b := rfl
theorem ext {n : Nat} {a b : T (n + 1)} (h1 : a.1 = b.1) (h2 : a.2 = b.2) : a = b := Prod.ext h1 h2

theorem add_comm : {n : Nat} → (a b : T n) → a + b = b + a
  | 0, a, b => Bool.xor_comm a b
  | n + 1, a, b => ext (add_comm a.1 b.1) (add_comm a.2 b.2)
theorem add_assoc : {n : Nat} → (a b c : T n) → a + b + c = a + (b + c)
  | 0, a, b, c => Bool.xor_assoc a b c
  | n + 1, a, b, c => ext (add_assoc a.1 b.1 c.1) (add_assoc a.2 b.2 c.2)
theorem zero_add : {n : Nat} → (a : T n) → 0 + a = a
  | 0, a => Bool.false_xor a
  | n + 1, a => ext (zero_add a.1) (zero_add a.2)
theorem z1W : {n : Nat} → (a : T n) → a + a = 0
  | 0, a => Bool.xor_self a
  | n + 1, a => ext (z1W a.1) (z1W a.2)
theorem add_zero {n : Nat} (a : T n) : a + 0 = a := by rw [add_comm, zero_add]
theorem z1G {n : Nat} (a b c : T n) : a + (b + c) = b + (a + c) := by rw [← add_assoc, add_comm a b, add_assoc]
theorem z3Y {n : Nat} (a b : T n) : a + (a + b) = b := by rw [← add_assoc, z1W, zero_add]
theorem z5b {n : Nat} {a b c : T n} (h : a + b = a + c) : b = c := by
  have := congrArg (a + ·) h
  simpa only [z3Y] using this
theorem add_eq_zero {n : Nat} {a b : T n} (h : a + b = 0) : a = b := by
  have := congrArg (· + b) h
  simp only [add_assoc, z1W, add_zero, zero_add] at this
  exact this
theorem eq_add_of {n : Nat} {a b c : T n} (h : a + b = c) : a = c + b := by rw [← h, add_assoc, z1W, add_zero]

/-- The laws of products, all at once. -/
structure Laws (n : Nat) : Prop where
  comm : ∀ a b : T n, a * b = b * a
  zero_mul : ∀ a : T n, 0 * a = 0
  one_mul : ∀ a : T n, 1 * a = a
  mul_add : ∀ a b c : T n, a * (b + c) = a * b + a * c
  assoc : ∀ a b c : T n, a * b * c = a * (b * c)
theorem laws : (n : Nat) → Laws n
  | 0 => ⟨Bool.and_comm, Bool.false_and, Bool.true_and, by intro a b c; cases a <;> cases b <;> cases c <;> rfl, Bool.and_assoc⟩
  | n + 1 => by
    obtain ⟨comm, zmul, omul, madd, massoc⟩ := laws n
    have addm : ∀ a b c : T n, (a + b) * c = a * c + b * c := fun a b c => by rw [comm, madd, comm c a, comm c b]
    have mulz : ∀ a : T n, a * 0 = 0 := fun a => by rw [comm, zmul]
    have mulo : ∀ a : T n, a * 1 = a := fun a => by rw [comm, omul]
    have lcomm : ∀ a b c : T n, a * (b * c) = b * (a * c) := fun a b c => by rw [← massoc, comm a b, massoc]
    refine ⟨fun a b => ext ?_ ?_, fun a => ext ?_ ?_, fun a => ext ?_ ?_, fun a b c => ext ?_ ?_, fun a b c => ext ?_ ?_⟩
    · simp only [z1I]; rw [comm a.1 b.2, comm a.2 b.1, comm a.1 b.1, add_comm (b.2 * a.1)]
    · simp only [z1J]; rw [comm a.2 b.2, comm a.1 b.1]
    · simp only [z1I, z2Y, z2Z, zmul, mulz, add_zero]
    · simp only [z1J, z2Y, z2Z, zmul, mulz, add_zero]
    · simp only [z1I, z3K, z3L, zmul, mulz, omul, add_zero, zero_add]
    · simp only [z1J, z3K, z3L, zmul, mulz, omul, add_zero, zero_add]
    · simp only [z1I, z34, z3F, madd, addm, add_assoc, z1G, add_comm]
    · simp only [z1J, z34, z3F, madd, addm, add_assoc, z1G, add_comm]
    · simp only [z1I, z1J, madd, addm, massoc, lcomm, comm, add_assoc, z1G, add_comm]
    · simp only [z1I, z1J, madd, addm, massoc, lcomm, comm, add_assoc, z1G, add_comm]
section
variable {n : Nat} (a b c d : T n)
theorem mul_comm : a * b = b * a := (laws n).comm a b
theorem mul_assoc : a * b * c = a * (b * c) := (laws n).assoc a b c
theorem mul_left_comm : a * (b * c) = b * (a * c) := by rw [← mul_assoc, mul_comm a b, mul_assoc]
theorem zero_mul : 0 * a = 0 := (laws n).zero_mul a
theorem z25 : a * 0 = 0 := by rw [mul_comm, zero_mul]
theorem one_mul : 1 * a = a := (laws n).one_mul a
theorem mul_one : a * 1 = a := by rw [mul_comm, one_mul]
theorem mul_add : a * (b + c) = a * b + a * c := (laws n).mul_add a b c
theorem add_mul : (a + b) * c = a * c + b * c := by rw [mul_comm, mul_add, mul_comm c a, mul_comm c b]
theorem add_sq : (a + b) * (a + b) = a * a + b * b := by
  rw [mul_add, add_mul, add_mul, mul_comm b a, add_assoc, ← add_assoc (a * b), z1W, zero_add]
end
end Go.Proofs.Ytngcaphdkgihmaa.Tw
/- Elements of the tower as numbers: bits of the lower half first. Own text; nothing of the program in it. -/
namespace Go.Proofs.Ytngcaphdkgihmaa.Tw
set_option linter.unusedVariables false
set_option linter.unusedSimpArgs false
/-- How many words of bits an element of a level is: 2 to the power 2^n. -/
def Q (n : Nat) : Nat := 2 ^ 2 ^ n
theorem z20 (n : Nat) : 0 < Q n := Nat.two_pow_pos _
theorem z28 (n : Nat) : Q (n + 1) = Q n * Q n := by unfold Q; rw [← Nat.pow_add, Nat.pow_succ 2 n, Nat.mul_two]
theorem z59 (n : Nat) : Q n ≤ Q (n + 1) := by rw [z28]; exact Nat.le_mul_of_pos_left _ (z20 n)
theorem z2v {m n : Nat} (h : m ≤ n) : Q m ≤ Q n := Nat.pow_le_pow_right (by decide) (Nat.pow_le_pow_right (by decide) h)
theorem z3k : Q 6 = 2 ^ 64 := rfl
theorem z33 : Q 7 = 2 ^ 128 := rfl
def val : {n : Nat} → T n → Nat
  | 0, a => Bool.toNat a
  | n + 1, a => val a.1 * Q n + val a.2
def of : (n : Nat) → Nat → T n
  | 0, x => x % 2 == 1
  | n + 1, x => mk (of n (x / Q n)) (of n (x % Q n))
theorem val_zero_lvl (a : T 0) : val a = Bool.toNat a := rfl
theorem z1o {n : Nat} (a : T (n + 1)) : val a = val a.1 * Q n + val a.2 := rfl
theorem z1D (n x : Nat) : of (n + 1) x = mk (of n (x / Q n)) (of n (x % Q n)) := rfl
theorem z17 : {n : Nat} → (a : T n) → val a < Q n
  | 0, a => by cases a <;> decide
  | n + 1, a => by
    rw [z1o, z28]
    have h1 := z17 a.1
    have h2 := z17 a.2
    have h3 : val a.1 * Q n + Q n ≤ Q n * Q n := by
      have := Nat.mul_le_mul_right (Q n) h1
      rw [Nat.succ_mul] at this; exact this
    omega
theorem z5T {n : Nat} (a : T (n + 1)) : val a / Q n = val a.1 := by
  rw [z1o, Nat.mul_comm, Nat.mul_add_div (z20 n), Nat.div_eq_of_lt (z17 a.2), Nat.add_zero]
theorem z5U {n : Nat} (a : T (n + 1)) : val a % Q n = val a.2 := by
  rw [z1o, Nat.mul_comm, Nat.mul_add_mod, Nat.mod_eq_of_lt (z17 a.2)]
theorem z1s : {n : Nat} → (a : T n) → of n (val a) = a
  | 0, a => by cases a <;> rfl
  | n + 1, a => by rw [z1D, z5T, z5U, z1s a.1, z1s a.2]; rfl
theorem z1F : (n : Nat) → (x : Nat) → x < Q n → val (of n x) = x
  | 0, x, h => by
    have h' : x < 2 := h
    have : x = 0 ∨ x = 1 := by omega
    rcases this with rfl | rfl <;> rfl
  | n + 1, x, h => by
    rw [z1D, z1o, z1O, z1X]
    rw [z28] at h
    rw [z1F n _ (Nat.div_lt_of_lt_mul h), z1F n _ (Nat.mod_lt _ (z20 n)), Nat.mul_comm]
    exact Nat.div_add_mod x (Q n)
theorem z2m {n : Nat} {a b : T n} (h : val a = val b) : a = b := by rw [← z1s a, h, z1s]
theorem z1r : (n : Nat) → val (0 : T n) = 0
  | 0 => rfl
  | n + 1 => by rw [z1o, z2Y, z2Z, z1r n, Nat.zero_mul]
theorem z2t : (n : Nat) → val (1 : T n) = 1
  | 0 => rfl
  | n + 1 => by rw [z1o, z3K, z3L, z1r n, z2t n, Nat.zero_mul]
theorem z1P (n : Nat) : of n 0 = 0 := by rw [← z1r n, z1s]
theorem of_one (n : Nat) : of n 1 = 1 := by rw [← z2t n, z1s]
theorem val_eq_zero {n : Nat} {a : T n} : val a = 0 ↔ a = 0 := ⟨fun h => z2m (h.trans (z1r n).symm), fun h => by rw [h, z1r]⟩
theorem z4P {n a b c d : Nat} (hb : b < Q n) (hd : d < Q n) : (a * Q n + b) ^^^ (c * Q n + d) = (a ^^^ c) * Q n + (b ^^^ d) := by
  have h1 : ((a * Q n + b) ^^^ (c * Q n + d)) / Q n = a ^^^ c := by
    unfold Q at *
    rw [Nat.xor_div_two_pow, Nat.mul_comm a, Nat.mul_comm c, Nat.mul_add_div (Nat.two_pow_pos _), Nat.mul_add_div (Nat.two_pow_pos _), Nat.div_eq_of_lt hb, Nat.div_eq_of_lt hd]; rfl
  have h2 : ((a * Q n + b) ^^^ (c * Q n + d)) % Q n = b ^^^ d := by
    unfold Q at *
    rw [Nat.xor_mod_two_pow, Nat.mul_comm a, Nat.mul_comm c, Nat.mul_add_mod, Nat.mul_add_mod, Nat.mod_eq_of_lt hb, Nat.mod_eq_of_lt hd]
  have := Nat.div_add_mod ((a * Q n + b) ^^^ (c * Q n + d)) (Q n)
  rw [h1, h2, Nat.mul_comm] at this
  exact this.symm
theorem z1q : {n : Nat} → (a b : T n) → val (a + b) = val a ^^^ val b
  | 0, a, b => by cases a <;> cases b <;> rfl
  | n + 1, a, b => by
    rw [z1o, z1o, z1o, z34, z3F, z1q a.1 b.1, z1q a.2 b.2, z4P (z17 _) (z17 _)]
theorem z1R {n x y : Nat} (hx : x < Q n) (hy : y < Q n) : x ^^^ y < Q n := Nat.xor_lt_two_pow hx hy
theorem z5F {n x y : Nat} (hx : x < Q n) (hy : y < Q n) : of n (x ^^^ y) = of n x + of n y :=
  z2m (by rw [z1F _ _ (z1R hx hy), z1q, z1F _ _ hx, z1F _ _ hy])
/-- A number of a lower level: the higher half is 0. -/
theorem z47 {n x : Nat} (h : x < Q n) : of (n + 1) x = mk 0 (of n x) := by
  rw [z1D, Nat.div_eq_of_lt h, Nat.mod_eq_of_lt h, z1P]
/-- One level up. -/
def up {n : Nat} (a : T n) : T (n + 1) := mk 0 a
theorem z2s {n : Nat} (a : T n) : (up a).1 = 0 := rfl
theorem z3w {n : Nat} (a : T n) : (up a).2 = a := rfl
theorem val_up {n : Nat} (a : T n) : val (up a) = val a := by rw [z1o, z2s, z3w, z1r, Nat.zero_mul, Nat.zero_add]
theorem up_add {n : Nat} (a b : T n) : up (a + b) = up a + up b := ext (by rw [z34, z2s, z2s, z2s, add_zero]) rfl
theorem up_mul {n : Nat} (a b : T n) : up (a * b) = up a * up b :=
  ext (by simp only [z1I, z2s, z3w, zero_mul, z25, add_zero]) (by simp only [z1J, z2s, z3w, zero_mul, add_zero])
theorem z2M {n : Nat} (a : T n) (b : T (n + 1)) : up a * b = mk (a * b.1) (a * b.2) :=
  ext (by simp only [z1I, z2s, z3w, zero_mul, z25, add_zero, zero_add, z1O]) (by simp only [z1J, z2s, z3w, zero_mul, add_zero, z1X])
theorem up_zero (n : Nat) : up (0 : T n) = 0 := rfl
theorem up_one (n : Nat) : up (1 : T n) = 1 := rfl
theorem up_inj {n : Nat} {a b : T n} (h : up a = up b) : a = b := congrArg (fun x : T (n + 1) => x.2) h
/-- Many levels up. -/
def ups {n : Nat} : (d : Nat) → T n → T (n + d)
  | 0, a => a
  | d + 1, a => up (ups d a)
theorem ups_add {n : Nat} (a b : T n) : (d : Nat) → ups d (a + b) = ups d a + ups d b
  | 0 => rfl
  | d + 1 => by show up (ups d (a + b)) = _; rw [ups_add a b d, up_add]; rfl
theorem z5S {n : Nat} (a b : T n) : (d : Nat) → ups d (a * b) = ups d a * ups d b
  | 0 => rfl
  | d + 1 => by show up (ups d (a * b)) = _; rw [z5S a b d, up_mul]; rfl
theorem z3i {n : Nat} (a : T n) : (d : Nat) → val (ups d a) = val a
  | 0 => rfl
  | d + 1 => by show val (up (ups d a)) = _; rw [val_up, z3i a d]
theorem ups_zero {n : Nat} (d : Nat) : ups d (0 : T n) = 0 := z2m (by rw [z3i, z1r, z1r])
theorem ups_one {n : Nat} (d : Nat) : ups d (1 : T n) = 1 := z2m (by rw [z3i, z2t, z2t])
theorem ups_of {n d x : Nat} (h : x < Q n) : ups d (of n x) = of (n + d) x := z2m (by rw [z3i, z1F _ _ h, z1F _ _ (Nat.lt_of_lt_of_le h (z2v (Nat.le_add_right _ _)))])
/-- Products of numbers of a lower level are of it. -/
theorem z3h {n d x y : Nat} (hx : x < Q n) (hy : y < Q n) : val (of (n + d) x * of (n + d) y) = val (of n x * of n y) := by
  rw [← ups_of hx, ← ups_of hy, ← z5S, z3i]
theorem z2F {l m x y : Nat} (h : l ≤ m) (hx : x < Q l) (hy : y < Q l) : val (of m x * of m y) = val (of l x * of l y) := by
  obtain ⟨d, rfl⟩ := Nat.le.dest h
  exact z3h hx hy
theorem z52 {l m x y : Nat} (h : l ≤ m) (hx : x < Q l) (hy : y < Q l) : val (of m x * of m y) < Q l := by
  rw [z2F h hx hy]; exact z17 _
end Go.Proofs.Ytngcaphdkgihmaa.Tw
namespace Go.Proofs.Ytngcaphdkgihmaa.P
open Go.RowKit Go.Proofs.YtngcaphdkgihmaaW.PrintWords Go.Proofs.YtngcaphdkgihmaaW.PrintLast Go.Proofs.YtngcaphdkgihmaaW.PrintMore
attribute [local go_sem] zW zY z15 z16 zQ zR zX zZ   -- for this text's walks alone
set_option linter.unusedVariables false
set_option linter.unusedSimpArgs false
def z18.f (a0 : Int) (a1 : Int) : Option (Int × Int):=if 0 ≤ (wrap64 (a0 - 1)) then (if 0 ≤ (shl .i64 1 (wrap64 (a0 - 1))) then (some (shr .u64 a1 (shl .i64 1 (wrap64 (a0 - 1))),Go.bits .and .u64 a1 (IntKind.u64.wrap ((shl .u64 1 (shl .i64 1 (wrap64 (a0 - 1)))) - 1)))) else (none)) else (none)
set_option maxHeartbeats 8000000 in
set_option maxRecDepth 100000 in
theorem z18.calls (a0 : Int) (a1 : Int) (r1 : Int) (r2 : Int) (w : World) (h : z18.f a0 a1 = some (r1,r2)) :
 Calls Try.prog 96 #[.int .i64 a0,.int .u64 a1] w fun e w'=>e = .returned (.tuple #[.int .u64 r1,.int .u64 r2]) ∧ Drawn0 w w':=by
 have H : (if 0 ≤ (wrap64 (a0 - 1)) then (if 0 ≤ (shl .i64 1 (wrap64 (a0 - 1))) then (some (shr .u64 a1 (shl .i64 1 (wrap64 (a0 - 1))),Go.bits .and .u64 a1 (IntKind.u64.wrap ((shl .u64 1 (shl .i64 1 (wrap64 (a0 - 1)))) - 1)))) else (none)) else (none)) = some (r1,r2):=h
 clear h
 obtain ⟨ji3,hji3⟩ : ∃ j_ : Int,(wrap64 (a0 - 1)) = j_:=⟨_,rfl⟩
 replace H : (if 0 ≤ (ji3) then (if 0 ≤ (shl .i64 1 (ji3)) then (some (shr .u64 a1 (shl .i64 1 (ji3)),Go.bits .and .u64 a1 (IntKind.u64.wrap ((shl .u64 1 (shl .i64 1 (ji3))) - 1)))) else (none)) else (none)) = some (r1,r2):=by first|(rw [hji3] at H;exact H)|(simp only [hji3] at H ⊢;exact H)
 have hji3w : (IntKind.i64.wrap (a0 - 1)) = ji3:=(zD _).trans hji3
 by_cases c4 : 0 ≤ (ji3)
 rotate_left
 · rw [if_neg c4] at H
   exact absurd H (by simp)
 rw [if_pos c4] at H
 have c4b0:=eq_true c4
 have c4b1 : decide (0 ≤ (ji3)) = true:=decide_eq_true c4
 clear c4
 obtain ⟨ji5,hji5⟩ : ∃ j_ : Int,(shl .i64 1 (ji3)) = j_:=⟨_,rfl⟩
 replace H : (if 0 ≤ (ji5) then (some (shr .u64 a1 (ji5),Go.bits .and .u64 a1 (IntKind.u64.wrap ((shl .u64 1 (ji5)) - 1)))) else (none)) = some (r1,r2):=by first|(rw [hji5] at H;exact H)|(simp only [hji5] at H ⊢;exact H)
 have hji5_ : (IntKind.i64.wrap (1 * 2 ^ min (ji3).toNat 64)) = ji5:=hji5
 have hji5z : (ji3) ≤ 64 → (IntKind.i64.wrap (1 * 2 ^ (ji3).toNat)) = ji5:=z1a hji5
 have hji5u : (IntKind.i64.wrap (2 ^ min (ji3).toNat 64)) = ji5:=by have h_:=hji5_;rw [Int.one_mul] at h_;exact h_
 have hji5v : (ji3) ≤ 64 → (IntKind.i64.wrap (2 ^ (ji3).toNat)) = ji5:=fun hle_=>by have h_:=hji5z hle_;rw [Int.one_mul] at h_;exact h_
 have hji5y : (wrap64 (1 * 2 ^ min (ji3).toNat 64)) = ji5:=(zD _).symm.trans hji5_
 have hji5x : (ji3) ≤ 64 → (wrap64 (1 * 2 ^ (ji3).toNat)) = ji5:=fun h_=>(zD _).symm.trans (hji5z h_)
 by_cases c6 : 0 ≤ (ji5)
 rotate_left
 · rw [if_neg c6] at H
   exact absurd H (by simp)
 rw [if_pos c6] at H
 have c6b0:=eq_true c6
 have c6b1 : decide (0 ≤ (ji5)) = true:=decide_eq_true c6
 clear c6
 obtain ⟨ji7,hji7⟩ : ∃ j_ : Int,(shr .u64 a1 (ji5)) = j_:=⟨_,rfl⟩
 replace H : (some (ji7,Go.bits .and .u64 a1 (IntKind.u64.wrap ((shl .u64 1 (ji5)) - 1)))) = some (r1,r2):=by first|(rw [hji7] at H;exact H)|(simp only [hji7] at H ⊢;exact H)
 have hji7_ : (a1 / 2 ^ min (ji5).toNat 64) = ji7:=hji7
 have hji7z : (ji5) ≤ 64 → (a1 / 2 ^ (ji5).toNat) = ji7:=z1B hji7
 have c8b0:=eq_true (of_decide_eq_true (by first|(with_reducible assumption)|assumption) : 0 ≤ (ji5))
 obtain ⟨ji9,hji9⟩ : ∃ j_ : Int,(shl .u64 1 (ji5)) = j_:=⟨_,rfl⟩
 replace H : (some (ji7,Go.bits .and .u64 a1 (IntKind.u64.wrap ((ji9) - 1)))) = some (r1,r2):=by first|(rw [hji9] at H;exact H)|(simp only [hji9] at H ⊢;exact H)
 have hji9_ : (IntKind.u64.wrap (1 * 2 ^ min (ji5).toNat 64)) = ji9:=hji9
 have hji9z : (ji5) ≤ 64 → (IntKind.u64.wrap (1 * 2 ^ (ji5).toNat)) = ji9:=z1a hji9
 have hji9n0 : 0 ≤ ji9:=by rw [← hji9];exact Int.emod_nonneg _ (by decide)
 have hji9n1 : decide (0 ≤ ji9) = true:=decide_eq_true hji9n0
 replace hji9n0:=eq_true hji9n0
 have hji9u : (IntKind.u64.wrap (2 ^ min (ji5).toNat 64)) = ji9:=by have h_:=hji9_;rw [Int.one_mul] at h_;exact h_
 have hji9v : (ji5) ≤ 64 → (IntKind.u64.wrap (2 ^ (ji5).toNat)) = ji9:=fun hle_=>by have h_:=hji9z hle_;rw [Int.one_mul] at h_;exact h_
 simp only [Option.some.injEq,Prod.mk.injEq] at H
 obtain ⟨rfl,rfl⟩:=H
 go_enter Try.func96,Try.ntmps96
 go_wp2
 repeat (go_quiet (fail);try go_wp2)
 go_ret2
 exact ⟨by first|rfl|(simp;done)|(simp only [← hji3,← hji5,← hji7,← hji9] <;> (first|rfl|simp))|(simp [*];done),by repeat (first|exact Drawn0.refl _|apply Drawn0.step)⟩
end Go.Proofs.Ytngcaphdkgihmaa.P
namespace Go.Proofs.Ytngcaphdkgihmaa.P
open Go.RowKit Go.Proofs.YtngcaphdkgihmaaW.PrintWords Go.Proofs.YtngcaphdkgihmaaW.PrintLast Go.Proofs.YtngcaphdkgihmaaW.PrintMore
attribute [local go_sem] zW zY z15 z16 zQ zR zX zZ   -- for this text's walks alone
set_option linter.unusedVariables false
set_option linter.unusedSimpArgs false
def z19.f (a0 : Int) (a1 : Int) (a2 : Int) : Option (Int):=if 0 ≤ (wrap64 (a0 - 1)) then (some (Go.bits .or .u64 (shl .u64 a1 (shl .u64 1 (wrap64 (a0 - 1)))) a2)) else (none)
set_option maxHeartbeats 8000000 in
set_option maxRecDepth 100000 in
theorem z19.calls (a0 : Int) (a1 : Int) (a2 : Int) (r : Int) (w : World) (h : z19.f a0 a1 a2 = some r) :
 Calls Try.prog 97 #[.int .i64 a0,.int .u64 a1,.int .u64 a2] w fun e w'=>e = .returned (.int .u64 r) ∧ Drawn0 w w':=by
 have H : (if 0 ≤ (wrap64 (a0 - 1)) then (some (Go.bits .or .u64 (shl .u64 a1 (shl .u64 1 (wrap64 (a0 - 1)))) a2)) else (none)) = some r:=h
 clear h
 obtain ⟨ji4,hji4⟩ : ∃ j_ : Int,(wrap64 (a0 - 1)) = j_:=⟨_,rfl⟩
 replace H : (if 0 ≤ (ji4) then (some (Go.bits .or .u64 (shl .u64 a1 (shl .u64 1 (ji4))) a2)) else (none)) = some r:=by first|(rw [hji4] at H;exact H)|(simp only [hji4] at H ⊢;exact H)
 have hji4w : (IntKind.i64.wrap (a0 - 1)) = ji4:=(zD _).trans hji4
 by_cases c5 : 0 ≤ (ji4)
 rotate_left
 · rw [if_neg c5] at H
   exact absurd H (by simp)
 rw [if_pos c5] at H
 have c5b0:=eq_true c5
 have c5b1 : decide (0 ≤ (ji4)) = true:=decide_eq_true c5
 clear c5
 obtain ⟨ji6,hji6⟩ : ∃ j_ : Int,(shl .u64 1 (ji4)) = j_:=⟨_,rfl⟩
 replace H : (some (Go.bits .or .u64 (shl .u64 a1 (ji6)) a2)) = some r:=by first|(rw [hji6] at H;exact H)|(simp only [hji6] at H ⊢;exact H)
 have hji6_ : (IntKind.u64.wrap (1 * 2 ^ min (ji4).toNat 64)) = ji6:=hji6
 have hji6z : (ji4) ≤ 64 → (IntKind.u64.wrap (1 * 2 ^ (ji4).toNat)) = ji6:=z1a hji6
 have hji6n0 : 0 ≤ ji6:=by rw [← hji6];exact Int.emod_nonneg _ (by decide)
 have hji6n1 : decide (0 ≤ ji6) = true:=decide_eq_true hji6n0
 replace hji6n0:=eq_true hji6n0
 have hji6u : (IntKind.u64.wrap (2 ^ min (ji4).toNat 64)) = ji6:=by have h_:=hji6_;rw [Int.one_mul] at h_;exact h_
 have hji6v : (ji4) ≤ 64 → (IntKind.u64.wrap (2 ^ (ji4).toNat)) = ji6:=fun hle_=>by have h_:=hji6z hle_;rw [Int.one_mul] at h_;exact h_
 obtain ⟨ji7,hji7⟩ : ∃ j_ : Int,(shl .u64 a1 (ji6)) = j_:=⟨_,rfl⟩
 replace H : (some (Go.bits .or .u64 (ji7) a2)) = some r:=by first|(rw [hji7] at H;exact H)|(simp only [hji7] at H ⊢;exact H)
 have hji7_ : (IntKind.u64.wrap (a1 * 2 ^ min (ji6).toNat 64)) = ji7:=hji7
 have hji7z : (ji6) ≤ 64 → (IntKind.u64.wrap (a1 * 2 ^ (ji6).toNat)) = ji7:=z1a hji7
 have hji7n0 : 0 ≤ ji7:=by rw [← hji7];exact Int.emod_nonneg _ (by decide)
 have hji7n1 : decide (0 ≤ ji7) = true:=decide_eq_true hji7n0
 replace hji7n0:=eq_true hji7n0
 obtain rfl:=Option.some.inj H
 go_enter Try.func97,Try.ntmps97
 go_wp2
 go_ret
 exact ⟨by first|rfl|(simp;done)|(simp only [← hji4,← hji6,← hji7] <;> (first|rfl|simp))|(simp [*];done),by repeat (first|exact Drawn0.refl _|apply Drawn0.step)⟩
end Go.Proofs.Ytngcaphdkgihmaa.P
namespace Go.Proofs.Ytngcaphdkgihmaa.P
open Go.RowKit Go.Proofs.YtngcaphdkgihmaaW.PrintWords Go.Proofs.YtngcaphdkgihmaaW.PrintLast Go.Proofs.YtngcaphdkgihmaaW.PrintMore
attribute [local go_sem] zW zY z15 z16 zQ zR zX zZ   -- for this text's walks alone
set_option linter.unusedVariables false
set_option linter.unusedSimpArgs false
def zH.f : Nat → Int → Int → Option (Int)
 | 0,_,_=>none
 | k + 1,a0,a1=>if a0 = 0 then (some a1) else ((z18.f a0 a1).bind fun bt101=>((zH.f k (wrap64 (a0 - 1)) bt101.1).bind fun t103=>((z19.f a0 (Go.bits .xor .u64 bt101.2 t103) bt101.1).bind fun t104=>(some t104))))
theorem zH.z13 : ∀ k,(∀ y0 y1,LeO (zH.f k y0 y1) (zH.f (k + 1) y0 y1))
 | 0=>fun _ _ r h=>by simp [zH.f] at h
 | k + 1=>by
  have ih0:=zH.z13 k
  · intro y0 y1
    unfold zH.f
    repeat' first
    | (with_reducible exact ih0 _ _)
    | (with_reducible exact LeO.refl _)
    | (with_reducible exact LeO.none _)
    | (with_reducible refine LeO.ite ?_ ?_)
    | (with_reducible refine LeO.bind ?_ (fun _=>?_))
    | exact ih0 _ _
    | exact LeO.none _
    | refine LeO.ite ?_ ?_
    | refine LeO.bind ?_ (fun _=>?_)
theorem zH.mono : ∀ a0 a1 k,LeO (zH.f k a0 a1) (zH.f (k + 1) a0 a1):=by
 intro a0 a1 k
 have ih0:=zH.z13 k
 exact ih0 a0 a1
set_option maxHeartbeats 8000000 in
set_option maxRecDepth 100000 in
theorem zH.calls (k : Nat) : ∀ (a0 : Int) (a1 : Int) (r : Int) (w : World) (h : zH.f k a0 a1 = some r),
 Calls Try.prog 83 #[.int .i64 a0,.int .u64 a1] w fun e w'=>e = .returned (.int .u64 r) ∧ Drawn0 w w':=by
 induction k using Nat.strongRecOn with
 | _ k ih =>
 intro a0 a1 r w h
 cases k with
 | zero=>exact absurd h (by simp [zH.f])
 | succ k =>
 simp only [zH.f] at h
 have H : (if a0 = 0 then (some a1) else ((z18.f a0 a1).bind fun bt101=>((zH.f k (wrap64 (a0 - 1)) bt101.1).bind fun t103=>((z19.f a0 (Go.bits .xor .u64 bt101.2 t103) bt101.1).bind fun t104=>(some t104))))) = some r:=h
 clear h
 by_cases c3 : a0 = 0
 · rw [if_pos c3] at H
   have c3b0 : (a0 == 0) = true:=beq_iff_eq.mpr c3
   have c3b1 : (a0 != 0) = false:=bne_eq_false_iff_eq.mpr c3
   clear c3
   obtain rfl:=Option.some.inj H
   go_enter Try.func83,Try.ntmps83
   go_wp2
   go_ret
   exact ⟨by first|rfl|(simp;done)|(simp [*];done),by repeat (first|exact Drawn0.refl _|apply Drawn0.step)⟩
 rw [if_neg c3] at H
 have c3b0 : (a0 == 0) = false:=beq_eq_false_iff_ne.mpr c3
 have c3b1 : (a0 != 0) = true:=bne_iff_ne.mpr c3
 replace H:=Option.bind_eq_some_iff.mp H
 obtain ⟨⟨t101,t102⟩,A40,H⟩:=H
 replace H : ((zH.f k (wrap64 (a0 - 1)) t101).bind fun t103=>((z19.f a0 (Go.bits .xor .u64 t102 t103) t101).bind fun t104=>(some t104))) = some r:=H
 have A4:=z3.mk A40
 clear A40
 replace H:=Option.bind_eq_some_iff.mp H
 obtain ⟨t103,A50,H⟩:=H
 replace H : ((z19.f a0 (Go.bits .xor .u64 t102 t103) t101).bind fun t104=>(some t104)) = some r:=H
 have A5:=z3.mk A50
 clear A50
 replace H:=Option.bind_eq_some_iff.mp H
 obtain ⟨t104,A60,H⟩:=H
 replace H : (some t104) = some r:=H
 have A6:=z3.mk A60
 clear A60
 obtain rfl:=Option.some.inj H
 go_enter Try.func83,Try.ntmps83
 go_wp2_with (first|((with_reducible refine zl (f:=96) rfl ?_);refine goesL_ (some 13) rfl rfl Try.func96 (by kernel_rfl) rfl #[.int .i64 a0,.int .u64 a1] rfl (by (try simp only [List.map_toArray,List.map_cons,List.map_nil]);first|done|rfl|(simp only [List.length_drop,List.length_take];rfl)) ?_;(with_reducible refine (z18.calls a0 a1 t101 t102 _ A4.out).mono ?_);rintro e w' ⟨rfl,⟨nd,rfl⟩⟩;refine ⟨_,rfl,?_⟩)|((with_reducible refine zl (f:=83) rfl ?_);refine goesL_ (some 21) rfl rfl Try.func83 (by kernel_rfl) rfl #[.int .i64 (wrap64 (a0 - 1)),.int .u64 t101] rfl (by (try simp only [List.map_toArray,List.map_cons,List.map_nil]);first|done|rfl|(simp only [List.length_drop,List.length_take];rfl)) ?_;(with_reducible refine (ih k (by omega) (wrap64 (a0 - 1)) t101 t103 _ A5.out).mono ?_);rintro e w' ⟨rfl,⟨nd,rfl⟩⟩;refine ⟨_,rfl,?_⟩)|((with_reducible refine zl (f:=97) rfl ?_);refine goesL_ (some 24) rfl rfl Try.func97 (by kernel_rfl) rfl #[.int .i64 a0,.int .u64 (Go.bits .xor .u64 t102 t103),.int .u64 t101] rfl (by (try simp only [List.map_toArray,List.map_cons,List.map_nil]);first|done|rfl|(simp only [List.length_drop,List.length_take];rfl)) ?_;(with_reducible refine (z19.calls a0 (Go.bits .xor .u64 t102 t103) t101 t104 _ A6.out).mono ?_);rintro e w' ⟨rfl,⟨nd,rfl⟩⟩;refine ⟨_,rfl,?_⟩))
 go_ret
 exact ⟨by first|rfl|(simp;done)|(simp [*];done),by repeat (first|exact Drawn0.refl _|apply Drawn0.step)⟩
end Go.Proofs.Ytngcaphdkgihmaa.P
namespace Go.Proofs.Ytngcaphdkgihmaa.P
open Go.RowKit Go.Proofs.YtngcaphdkgihmaaW.PrintWords Go.Proofs.YtngcaphdkgihmaaW.PrintLast Go.Proofs.YtngcaphdkgihmaaW.PrintMore
attribute [local go_sem] zW zY z15 z16 zQ zR zX zZ   -- for this text's walks alone
set_option linter.unusedVariables false
set_option linter.unusedSimpArgs false
mutual
def zz.j0 : Nat → Int → Int → Int → Bool → Option (Int)
 | 0,_,_,_,_=>none
 | k + 1,x0,x1,x2,x23=>if x23 = true then (some (Go.bits .and .u64 (Go.bits .and .u64 x1 x2) 1)) else ((z18.f x0 x1).bind fun bt101=>((z18.f x0 x2).bind fun bt103=>((zz.f k (wrap64 (x0 - 1)) bt101.1 bt103.1).bind fun t105=>((zz.f k (wrap64 (x0 - 1)) bt101.2 bt103.2).bind fun t106=>((zz.f k (wrap64 (x0 - 1)) (Go.bits .xor .u64 bt101.1 bt101.2) (Go.bits .xor .u64 bt103.1 bt103.2)).bind fun t107=>((zH.f k (wrap64 (x0 - 1)) t105).bind fun t108=>((z19.f x0 (Go.bits .xor .u64 (Go.bits .xor .u64 (Go.bits .xor .u64 t107 t105) t106) t108) (Go.bits .xor .u64 t106 t105)).bind fun t109=>(some t109))))))))
def zz.f : Nat → Int → Int → Int → Option (Int)
 | 0,_,_,_=>none
 | k + 1,a0,a1,a2=>if a0 = 0 then (zz.j0 k a0 a1 a2 true) else (if a1 = 0 then (zz.j0 k a0 a1 a2 true) else (zz.j0 k a0 a1 a2 (a2 == 0)))
end
theorem zz.z13 : ∀ k,(∀ y0 y1 y2,LeO (zz.f k y0 y1 y2) (zz.f (k + 1) y0 y1 y2)) ∧ (∀ y0 y1 y2 y3,LeO (zz.j0 k y0 y1 y2 y3) (zz.j0 (k + 1) y0 y1 y2 y3))
 | 0=>⟨fun _ _ _ r h=>by simp [zz.f] at h,fun _ _ _ _ r h=>by simp [zz.j0] at h⟩
 | k + 1=>by
  obtain ⟨ih0,ih1⟩:=zz.z13 k
  refine ⟨?_,?_⟩
  · intro y0 y1 y2
    unfold zz.f
    repeat' first
    | (with_reducible exact ih0 _ _ _)
    | (with_reducible exact ih1 _ _ _ _)
    | (with_reducible exact zH.mono _ _ _)
    | (with_reducible exact LeO.refl _)
    | (with_reducible exact LeO.none _)
    | (with_reducible refine LeO.ite ?_ ?_)
    | (with_reducible refine LeO.bind ?_ (fun _=>?_))
    | exact ih0 _ _ _
    | exact ih1 _ _ _ _
    | exact zH.mono _ _ _
    | exact LeO.none _
    | refine LeO.ite ?_ ?_
    | refine LeO.bind ?_ (fun _=>?_)
  · intro y0 y1 y2 y3
    unfold zz.j0
    repeat' first
    | (with_reducible exact ih0 _ _ _)
    | (with_reducible exact ih1 _ _ _ _)
    | (with_reducible exact zH.mono _ _ _)
    | (with_reducible exact LeO.refl _)
    | (with_reducible exact LeO.none _)
    | (with_reducible refine LeO.ite ?_ ?_)
    | (with_reducible refine LeO.bind ?_ (fun _=>?_))
    | exact ih0 _ _ _
    | exact ih1 _ _ _ _
    | exact zH.mono _ _ _
    | exact LeO.none _
    | refine LeO.ite ?_ ?_
    | refine LeO.bind ?_ (fun _=>?_)
theorem zz.mono : ∀ a0 a1 a2 k,LeO (zz.f k a0 a1 a2) (zz.f (k + 1) a0 a1 a2):=by
 intro a0 a1 a2 k
 obtain ⟨ih0,ih1⟩:=zz.z13 k
 exact ih0 a0 a1 a2
set_option maxHeartbeats 8000000 in
set_option maxRecDepth 100000 in
theorem zz.calls (k : Nat) : ∀ (a0 : Int) (a1 : Int) (a2 : Int) (r : Int) (w : World) (h : zz.f k a0 a1 a2 = some r),
 Calls Try.prog 82 #[.int .i64 a0,.int .u64 a1,.int .u64 a2] w fun e w'=>e = .returned (.int .u64 r) ∧ Drawn0 w w':=by
 induction k using Nat.strongRecOn with
 | _ k ih =>
 intro a0 a1 a2 r w h
 cases k with
 | zero=>exact absurd h (by simp [zz.f])
 | succ k =>
 simp only [zz.f] at h
 have H : (if a0 = 0 then (zz.j0 k a0 a1 a2 true) else (if a1 = 0 then (zz.j0 k a0 a1 a2 true) else (zz.j0 k a0 a1 a2 (a2 == 0)))) = some r:=h
 clear h
 have HC4:=z3.mk H
 clear H
 go_enter Try.func82,Try.ntmps82
 go_upto_region 1 with (fail)
 go_cut [23] (fun v23 wc=>∃ (kq : Nat) (x23_3 : Bool),v23 = .bool x23_3 ∧ z3 (zz.j0 kq a0 a1 a2 x23_3 = some r) ∧ z3 (kq ≤ k) ∧ Drawn0 w wc)
 case first =>
  have H:=HC4.out
  clear HC4
  by_cases c5 : a0 = 0
  · rw [if_pos c5] at H
    have c5b0 : (a0 == 0) = true:=beq_iff_eq.mpr c5
    have c5b1 : (a0 != 0) = false:=bne_eq_false_iff_eq.mpr c5
    clear c5
    (first|rw [c5b0]|(simp only [zD,zI];rw [c5b0])|skip)
    have H':=z3.mk H
    clear H
    go_wp2
    go_meet
    case rel=>exact ⟨_,(true),(by first|rfl|(simp;done)|(simp [*];done)),H',⟨by first|omega|exact Nat.le_refl _⟩,by repeat (first|exact Drawn0.refl _|apply Drawn0.step)⟩
  rw [if_neg c5] at H
  have c5b0 : (a0 == 0) = false:=beq_eq_false_iff_ne.mpr c5
  have c5b1 : (a0 != 0) = true:=bne_iff_ne.mpr c5
  (first|rw [c5b0]|(simp only [zD,zI];rw [c5b0])|skip)
  by_cases c6 : a1 = 0
  rotate_left
  · rw [if_neg c6] at H
    have c6b0 : (a1 == 0) = false:=beq_eq_false_iff_ne.mpr c6
    have c6b1 : (a1 != 0) = true:=bne_iff_ne.mpr c6
    have H':=z3.mk H
    clear H
    go_wp2
    go_meet
    case rel=>exact ⟨_,((a2 == 0)),(by first|rfl|(simp;done)|(simp [*];done)),H',⟨by first|omega|exact Nat.le_refl _⟩,by repeat (first|exact Drawn0.refl _|apply Drawn0.step)⟩
  rw [if_pos c6] at H
  have c6b0 : (a1 == 0) = true:=beq_iff_eq.mpr c6
  have c6b1 : (a1 != 0) = false:=bne_eq_false_iff_eq.mpr c6
  clear c6
  have H':=z3.mk H
  clear H
  go_wp2
  go_meet
  case rel=>exact ⟨_,(true),(by first|rfl|(simp;done)|(simp [*];done)),H',⟨by first|omega|exact Nat.le_refl _⟩,by repeat (first|exact Drawn0.refl _|apply Drawn0.step)⟩
 case rest =>
  clear HC4
  (try clear p2);(try clear c5);(try clear c5b0);(try clear c5b1);(try clear c6);(try clear c6b0);(try clear c6b1)
  obtain ⟨kq,x23_3,rfl,HA,HJ3,⟨mc3,rfl⟩⟩:=hcut
  cases kq with
  | zero=>exact absurd HA.out (by simp [zz.j0])
  | succ kj3 =>
   have H:=HA.out
   clear HA
   simp only [zz.j0] at H
   by_cases c7 : x23_3 = true
   · subst c7
     have H1 : (some (Go.bits .and .u64 (Go.bits .and .u64 a1 a2) 1)) = some r:=by rw [if_pos rfl] at H;exact H
     clear H
     have H:=H1
     clear H1
     obtain rfl:=Option.some.inj H
     go_wp2
     go_ret
     exact ⟨by first|rfl|(simp;done)|(simp [*];done),by repeat (first|exact Drawn0.refl _|apply Drawn0.step)⟩
   replace c7:=Bool.eq_false_iff.mpr c7
   subst c7
   have H1 : ((z18.f a0 a1).bind fun bt101=>((z18.f a0 a2).bind fun bt103=>((zz.f kj3 (wrap64 (a0 - 1)) bt101.1 bt103.1).bind fun t105=>((zz.f kj3 (wrap64 (a0 - 1)) bt101.2 bt103.2).bind fun t106=>((zz.f kj3 (wrap64 (a0 - 1)) (Go.bits .xor .u64 bt101.1 bt101.2) (Go.bits .xor .u64 bt103.1 bt103.2)).bind fun t107=>((zH.f kj3 (wrap64 (a0 - 1)) t105).bind fun t108=>((z19.f a0 (Go.bits .xor .u64 (Go.bits .xor .u64 (Go.bits .xor .u64 t107 t105) t106) t108) (Go.bits .xor .u64 t106 t105)).bind fun t109=>(some t109)))))))) = some r:=by rw [if_neg (show ¬ (false = true) by decide)] at H;exact H
   clear H
   have H:=H1
   clear H1
   replace H:=Option.bind_eq_some_iff.mp H
   obtain ⟨⟨t101,t102⟩,A80,H⟩:=H
   replace H : ((z18.f a0 a2).bind fun bt103=>((zz.f kj3 (wrap64 (a0 - 1)) t101 bt103.1).bind fun t105=>((zz.f kj3 (wrap64 (a0 - 1)) t102 bt103.2).bind fun t106=>((zz.f kj3 (wrap64 (a0 - 1)) (Go.bits .xor .u64 t101 t102) (Go.bits .xor .u64 bt103.1 bt103.2)).bind fun t107=>((zH.f kj3 (wrap64 (a0 - 1)) t105).bind fun t108=>((z19.f a0 (Go.bits .xor .u64 (Go.bits .xor .u64 (Go.bits .xor .u64 t107 t105) t106) t108) (Go.bits .xor .u64 t106 t105)).bind fun t109=>(some t109))))))) = some r:=H
   have A8:=z3.mk A80
   clear A80
   replace H:=Option.bind_eq_some_iff.mp H
   obtain ⟨⟨t103,t104⟩,A90,H⟩:=H
   replace H : ((zz.f kj3 (wrap64 (a0 - 1)) t101 t103).bind fun t105=>((zz.f kj3 (wrap64 (a0 - 1)) t102 t104).bind fun t106=>((zz.f kj3 (wrap64 (a0 - 1)) (Go.bits .xor .u64 t101 t102) (Go.bits .xor .u64 t103 t104)).bind fun t107=>((zH.f kj3 (wrap64 (a0 - 1)) t105).bind fun t108=>((z19.f a0 (Go.bits .xor .u64 (Go.bits .xor .u64 (Go.bits .xor .u64 t107 t105) t106) t108) (Go.bits .xor .u64 t106 t105)).bind fun t109=>(some t109)))))) = some r:=H
   have A9:=z3.mk A90
   clear A90
   replace H:=Option.bind_eq_some_iff.mp H
   obtain ⟨t105,A100,H⟩:=H
   replace H : ((zz.f kj3 (wrap64 (a0 - 1)) t102 t104).bind fun t106=>((zz.f kj3 (wrap64 (a0 - 1)) (Go.bits .xor .u64 t101 t102) (Go.bits .xor .u64 t103 t104)).bind fun t107=>((zH.f kj3 (wrap64 (a0 - 1)) t105).bind fun t108=>((z19.f a0 (Go.bits .xor .u64 (Go.bits .xor .u64 (Go.bits .xor .u64 t107 t105) t106) t108) (Go.bits .xor .u64 t106 t105)).bind fun t109=>(some t109))))) = some r:=H
   have A10:=z3.mk A100
   clear A100
   replace H:=Option.bind_eq_some_iff.mp H
   obtain ⟨t106,A110,H⟩:=H
   replace H : ((zz.f kj3 (wrap64 (a0 - 1)) (Go.bits .xor .u64 t101 t102) (Go.bits .xor .u64 t103 t104)).bind fun t107=>((zH.f kj3 (wrap64 (a0 - 1)) t105).bind fun t108=>((z19.f a0 (Go.bits .xor .u64 (Go.bits .xor .u64 (Go.bits .xor .u64 t107 t105) t106) t108) (Go.bits .xor .u64 t106 t105)).bind fun t109=>(some t109)))) = some r:=H
   have A11:=z3.mk A110
   clear A110
   replace H:=Option.bind_eq_some_iff.mp H
   obtain ⟨t107,A120,H⟩:=H
   replace H : ((zH.f kj3 (wrap64 (a0 - 1)) t105).bind fun t108=>((z19.f a0 (Go.bits .xor .u64 (Go.bits .xor .u64 (Go.bits .xor .u64 t107 t105) t106) t108) (Go.bits .xor .u64 t106 t105)).bind fun t109=>(some t109))) = some r:=H
   have A12:=z3.mk A120
   clear A120
   replace H:=Option.bind_eq_some_iff.mp H
   obtain ⟨t108,A130,H⟩:=H
   replace H : ((z19.f a0 (Go.bits .xor .u64 (Go.bits .xor .u64 (Go.bits .xor .u64 t107 t105) t106) t108) (Go.bits .xor .u64 t106 t105)).bind fun t109=>(some t109)) = some r:=H
   have A13:=z3.mk A130
   clear A130
   replace H:=Option.bind_eq_some_iff.mp H
   obtain ⟨t109,A140,H⟩:=H
   replace H : (some t109) = some r:=H
   have A14:=z3.mk A140
   clear A140
   obtain rfl:=Option.some.inj H
   go_wp2_with (first|((with_reducible refine zl (f:=96) rfl ?_);refine goesL_ (some 31) rfl rfl Try.func96 (by kernel_rfl) rfl #[.int .i64 a0,.int .u64 a1] rfl (by (try simp only [List.map_toArray,List.map_cons,List.map_nil]);first|done|rfl|(simp only [List.length_drop,List.length_take];rfl)) ?_;(with_reducible refine (z18.calls a0 a1 t101 t102 _ A8.out).mono ?_);rintro e w' ⟨rfl,⟨nd,rfl⟩⟩;refine ⟨_,rfl,?_⟩)|((with_reducible refine zl (f:=96) rfl ?_);refine goesL_ (some 37) rfl rfl Try.func96 (by kernel_rfl) rfl #[.int .i64 a0,.int .u64 a2] rfl (by (try simp only [List.map_toArray,List.map_cons,List.map_nil]);first|done|rfl|(simp only [List.length_drop,List.length_take];rfl)) ?_;(with_reducible refine (z18.calls a0 a2 t103 t104 _ A9.out).mono ?_);rintro e w' ⟨rfl,⟨nd,rfl⟩⟩;refine ⟨_,rfl,?_⟩)|((with_reducible refine zl (f:=82) rfl ?_);refine goesL_ (some 44) rfl rfl Try.func82 (by kernel_rfl) rfl #[.int .i64 (wrap64 (a0 - 1)),.int .u64 t101,.int .u64 t103] rfl (by (try simp only [List.map_toArray,List.map_cons,List.map_nil]);first|done|rfl|(simp only [List.length_drop,List.length_take];rfl)) ?_;(with_reducible refine (ih kj3 (by have:=HJ3.out;omega) (wrap64 (a0 - 1)) t101 t103 t105 _ A10.out).mono ?_);rintro e w' ⟨rfl,⟨nd,rfl⟩⟩;refine ⟨_,rfl,?_⟩)|((with_reducible refine zl (f:=82) rfl ?_);refine goesL_ (some 49) rfl rfl Try.func82 (by kernel_rfl) rfl #[.int .i64 (wrap64 (a0 - 1)),.int .u64 t102,.int .u64 t104] rfl (by (try simp only [List.map_toArray,List.map_cons,List.map_nil]);first|done|rfl|(simp only [List.length_drop,List.length_take];rfl)) ?_;(with_reducible refine (ih kj3 (by have:=HJ3.out;omega) (wrap64 (a0 - 1)) t102 t104 t106 _ A11.out).mono ?_);rintro e w' ⟨rfl,⟨nd,rfl⟩⟩;refine ⟨_,rfl,?_⟩)|((with_reducible refine zl (f:=82) rfl ?_);refine goesL_ (some 58) rfl rfl Try.func82 (by kernel_rfl) rfl #[.int .i64 (wrap64 (a0 - 1)),.int .u64 (Go.bits .xor .u64 t101 t102),.int .u64 (Go.bits .xor .u64 t103 t104)] rfl (by (try simp only [List.map_toArray,List.map_cons,List.map_nil]);first|done|rfl|(simp only [List.length_drop,List.length_take];rfl)) ?_;(with_reducible refine (ih kj3 (by have:=HJ3.out;omega) (wrap64 (a0 - 1)) (Go.bits .xor .u64 t101 t102) (Go.bits .xor .u64 t103 t104) t107 _ A12.out).mono ?_);rintro e w' ⟨rfl,⟨nd,rfl⟩⟩;refine ⟨_,rfl,?_⟩)|((with_reducible refine zl (f:=83) rfl ?_);refine goesL_ (some 68) rfl rfl Try.func83 (by kernel_rfl) rfl #[.int .i64 (wrap64 (a0 - 1)),.int .u64 t105] rfl (by (try simp only [List.map_toArray,List.map_cons,List.map_nil]);first|done|rfl|(simp only [List.length_drop,List.length_take];rfl)) ?_;(with_reducible refine (zH.calls kj3 (wrap64 (a0 - 1)) t105 t108 _ A13.out).mono ?_);rintro e w' ⟨rfl,⟨nd,rfl⟩⟩;refine ⟨_,rfl,?_⟩)|((with_reducible refine zl (f:=97) rfl ?_);refine goesL_ (some 73) rfl rfl Try.func97 (by kernel_rfl) rfl #[.int .i64 a0,.int .u64 (Go.bits .xor .u64 (Go.bits .xor .u64 (Go.bits .xor .u64 t107 t105) t106) t108),.int .u64 (Go.bits .xor .u64 t106 t105)] rfl (by (try simp only [List.map_toArray,List.map_cons,List.map_nil]);first|done|rfl|(simp only [List.length_drop,List.length_take];rfl)) ?_;(with_reducible refine (z19.calls a0 (Go.bits .xor .u64 (Go.bits .xor .u64 (Go.bits .xor .u64 t107 t105) t106) t108) (Go.bits .xor .u64 t106 t105) t109 _ A14.out).mono ?_);rintro e w' ⟨rfl,⟨nd,rfl⟩⟩;refine ⟨_,rfl,?_⟩))
   go_ret
   exact ⟨by first|rfl|(simp;done)|(simp [*];done),by repeat (first|exact Drawn0.refl _|apply Drawn0.step)⟩
end Go.Proofs.Ytngcaphdkgihmaa.P
namespace Go.Proofs.Ytngcaphdkgihmaa.P
open Go.RowKit Go.Proofs.YtngcaphdkgihmaaW.PrintWords Go.Proofs.YtngcaphdkgihmaaW.PrintLast Go.Proofs.YtngcaphdkgihmaaW.PrintMore
attribute [local go_sem] zW zY z15 z16 zQ zR zX zZ   -- for this text's walks alone
set_option linter.unusedVariables false
set_option linter.unusedSimpArgs false
def zV.j0 : Nat → Int → Bool → Int → Int → Int → Int → Option (Int × Int)
 | 0,_,_,_,_,_,_=>none
 | k + 1,x0,x10,x102000,x102001,x103000,x103001=>if x10 = true then (some (0,0)) else (if x0 ≤ 6 then ((zz.f k x0 x102001 x103001).bind fun t106=>(some (0,t106))) else ((zz.f k 6 x102000 x103000).bind fun t107=>((zz.f k 6 x102001 x103001).bind fun t108=>((zz.f k 6 (Go.bits .xor .u64 x102000 x102001) (Go.bits .xor .u64 x103000 x103001)).bind fun t109=>((zH.f k 6 t107).bind fun t110=>(some (Go.bits .xor .u64 (Go.bits .xor .u64 (Go.bits .xor .u64 t109 t107) t108) t110,Go.bits .xor .u64 t108 t107)))))))
def zV.f (k : Nat) (a0 : Int) (a1_0 : Int) (a1_1 : Int) (a2_0 : Int) (a2_1 : Int) : Option (Int × Int):=(zL.f k a0 a1_0 a1_1).bind fun t104=>(if t104 = true then ((zL.f k a0 a2_0 a2_1).bind fun t105=>(zV.j0 k a0 (!t105) a1_0 a1_1 a2_0 a2_1)) else (zV.j0 k a0 true a1_0 a1_1 a2_0 a2_1))
theorem zV.z13 : ∀ k,(∀ y0 y1 y2 y3 y4 y5,LeO (zV.j0 k y0 y1 y2 y3 y4 y5) (zV.j0 (k + 1) y0 y1 y2 y3 y4 y5))
 | 0=>fun _ _ _ _ _ _ r h=>by simp [zV.j0] at h
 | k + 1=>by
  have ih0:=zV.z13 k
  · intro y0 y1 y2 y3 y4 y5
    unfold zV.j0
    repeat' first
    | (with_reducible exact ih0 _ _ _ _ _ _)
    | (with_reducible exact zL.mono _ _ _ _)
    | (with_reducible exact zz.mono _ _ _ _)
    | (with_reducible exact zH.mono _ _ _)
    | (with_reducible exact LeO.refl _)
    | (with_reducible exact LeO.none _)
    | (with_reducible refine LeO.ite ?_ ?_)
    | (with_reducible refine LeO.bind ?_ (fun _=>?_))
    | exact ih0 _ _ _ _ _ _
    | exact zL.mono _ _ _ _
    | exact zz.mono _ _ _ _
    | exact zH.mono _ _ _
    | exact LeO.none _
    | refine LeO.ite ?_ ?_
    | refine LeO.bind ?_ (fun _=>?_)
theorem zV.mono : ∀ a0 a1 a2 a3 a4 k,LeO (zV.f k a0 a1 a2 a3 a4) (zV.f (k + 1) a0 a1 a2 a3 a4):=by
 intro a0 a1 a2 a3 a4 k
 have ih0:=zV.z13 k
 unfold zV.f
 repeat' first
  | (with_reducible exact ih0 _ _ _ _ _ _)
  | (with_reducible exact zL.mono _ _ _ _)
  | (with_reducible exact zz.mono _ _ _ _)
  | (with_reducible exact zH.mono _ _ _)
  | (with_reducible exact LeO.refl _)
  | (with_reducible exact LeO.none _)
  | (with_reducible refine LeO.ite ?_ ?_)
  | (with_reducible refine LeO.bind ?_ (fun _=>?_))
  | exact ih0 _ _ _ _ _ _
  | exact zL.mono _ _ _ _
  | exact zz.mono _ _ _ _
  | exact zH.mono _ _ _
  | exact LeO.none _
  | refine LeO.ite ?_ ?_
  | refine LeO.bind ?_ (fun _=>?_)
set_option maxHeartbeats 8000000 in
set_option maxRecDepth 100000 in
theorem zV.calls (k : Nat) (a0 : Int) (a1_0 : Int) (a1_1 : Int) (a2_0 : Int) (a2_1 : Int) (r1 : Int) (r2 : Int) (w : World) (h : zV.f k a0 a1_0 a1_1 a2_0 a2_1 = some (r1,r2)) :
 Calls Try.prog 41 #[.int .i64 a0,.agg #[.int .u64 a1_0,.int .u64 a1_1],.agg #[.int .u64 a2_0,.int .u64 a2_1]] w fun e w'=>e = .returned (.agg #[.int .u64 r1,.int .u64 r2]) ∧ Below w.heap.size w w':=by
 have hu51:=Try.underlying51
 have HB:=z3.mk (Below.refl w.heap.size w)
 have H : ((zL.f k a0 a1_0 a1_1).bind fun t104=>(if t104 = true then ((zL.f k a0 a2_0 a2_1).bind fun t105=>(zV.j0 k a0 (!t105) a1_0 a1_1 a2_0 a2_1)) else (zV.j0 k a0 true a1_0 a1_1 a2_0 a2_1))) = some (r1,r2):=h
 clear h
 have HC4:=z3.mk H
 clear H
 go_enter Try.func41,Try.ntmps41
 go_upto_region 1 with (first|((with_reducible refine zE (N:=4) rfl ?_);refine zC ?hg (N:=4) ?hd (cs:=#[.int .u64 a1_0,.int .u64 a1_1]) (t:=51) ?hr ?_;(case hd=>rfl);(case hg=>rfl);(case hr=>first|(go_simp;done)|(go_simp;rfl));intro gb101 hg w5 hbox hb;have n0_:=z3.mk (zb (by repeat (first|(with_reducible first|exact HB.out|apply z2|apply z0|apply z1)|exact HB.out)) hb);have n1_:=z3.mk (hbox);have n2_:=z3.mk ((by rw [hg];exact (zc (by repeat (first|(with_reducible first|exact HB.out|apply z2|apply z0|apply z1)|exact HB.out))) : w.heap.size ≤ gb101));have n3_:=z3.mk ((by rw [hg];exact (zc (by repeat (first|(with_reducible first|exact HB.out|apply z2|apply z0|apply z1)|exact HB.out))) : w.heap.size ≤ gb101));clear HB;have HB:=n0_;have BK101:=n1_;have GW101:=n2_;have GE101:=n3_;clear n0_ n1_ n2_ n3_;clear hb hbox hg)|((with_reducible refine zE (N:=5) rfl ?_);refine zC ?hg (N:=5) ?hd (cs:=#[.int .u64 a2_0,.int .u64 a2_1]) (t:=51) ?hr ?_;(case hd=>rfl);(case hg=>rfl);(case hr=>first|(go_simp;done)|(go_simp;rfl));intro gb102 hg w6 hbox hb;have n0_:=z3.mk (zn (g:=gb101) (o:=.cells #[.int .u64 a1_0,.int .u64 a1_1] 51 (0,0)) (by (with_reducible repeat (first|refine z5 ?_ _|refine z8 ?_|refine z4 ?_ _));exact BK101.out) hb);have n1_:=z3.mk (zb (by repeat (first|(with_reducible first|exact HB.out|apply z2|apply z0|apply z1|refine z6 ?_ GE101.out)|exact HB.out)) hb);have n2_:=z3.mk (hbox);have n3_:=z3.mk ((by rw [hg];exact (zc (by repeat (first|(with_reducible first|exact HB.out|apply z2|apply z0|apply z1|refine z6 ?_ GE101.out)|exact HB.out))) : w.heap.size ≤ gb102));have n4_:=z3.mk ((by rw [hg];exact (zc (by repeat (first|(with_reducible first|exact HB.out|apply z2|apply z0|apply z1|refine z6 ?_ GE101.out)|exact HB.out))) : w.heap.size ≤ gb102));have n5_:=z3.mk ((by rw [hg];exact Nat.ne_of_lt (zO (g:=gb101) (o:=.cells #[.int .u64 a1_0,.int .u64 a1_1] 51 (0,0)) (by (with_reducible repeat (first|refine z5 ?_ _|refine z8 ?_|refine z4 ?_ _));exact BK101.out)) : gb101 ≠ gb102));have n6_:=z3.mk ((by rw [hg];exact Nat.ne_of_gt (zO (g:=gb101) (o:=.cells #[.int .u64 a1_0,.int .u64 a1_1] 51 (0,0)) (by (with_reducible repeat (first|refine z5 ?_ _|refine z8 ?_|refine z4 ?_ _));exact BK101.out)) : gb102 ≠ gb101));clear BK101;clear HB;have BK101:=n0_;have HB:=n1_;have BK102:=n2_;have GW102:=n3_;have GE102:=n4_;have NB101_102:=n5_;have NB102_101:=n6_;clear n0_ n1_ n2_ n3_ n4_ n5_ n6_;clear hb hbox hg)|((with_reducible refine zE (N:=6) rfl ?_);refine zC ?hg (N:=6) ?hd (cs:=#[.int .u64 0,.int .u64 0]) (t:=51) ?hr ?_;(case hd=>rfl);(case hg=>rfl);(case hr=>first|(go_simp;done)|(go_simp;rfl));intro gb103 hg w7 hbox hb;have n0_:=z3.mk (zn (g:=gb101) (o:=.cells #[.int .u64 a1_0,.int .u64 a1_1] 51 (0,0)) (by (with_reducible repeat (first|refine z5 ?_ _|refine z8 ?_|refine z4 ?_ _));exact BK101.out) hb);have n1_:=z3.mk (zn (g:=gb102) (o:=.cells #[.int .u64 a2_0,.int .u64 a2_1] 51 (0,0)) (by (with_reducible repeat (first|refine z5 ?_ _|refine z8 ?_|refine z4 ?_ _));exact BK102.out) hb);have n2_:=z3.mk (zb (by repeat (first|(with_reducible first|exact HB.out|apply z2|apply z0|apply z1|refine z6 ?_ GE101.out|refine z6 ?_ GE102.out)|exact HB.out)) hb);have n3_:=z3.mk (hbox);have n4_:=z3.mk ((by rw [hg];exact (zc (by repeat (first|(with_reducible first|exact HB.out|apply z2|apply z0|apply z1|refine z6 ?_ GE101.out|refine z6 ?_ GE102.out)|exact HB.out))) : w.heap.size ≤ gb103));have n5_:=z3.mk ((by rw [hg];exact (zc (by repeat (first|(with_reducible first|exact HB.out|apply z2|apply z0|apply z1|refine z6 ?_ GE101.out|refine z6 ?_ GE102.out)|exact HB.out))) : w.heap.size ≤ gb103));have n6_:=z3.mk ((by rw [hg];exact Nat.ne_of_lt (zO (g:=gb101) (o:=.cells #[.int .u64 a1_0,.int .u64 a1_1] 51 (0,0)) (by (with_reducible repeat (first|refine z5 ?_ _|refine z8 ?_|refine z4 ?_ _));exact BK101.out)) : gb101 ≠ gb103));have n7_:=z3.mk ((by rw [hg];exact Nat.ne_of_gt (zO (g:=gb101) (o:=.cells #[.int .u64 a1_0,.int .u64 a1_1] 51 (0,0)) (by (with_reducible repeat (first|refine z5 ?_ _|refine z8 ?_|refine z4 ?_ _));exact BK101.out)) : gb103 ≠ gb101));have n8_:=z3.mk ((by rw [hg];exact Nat.ne_of_lt (zO (g:=gb102) (o:=.cells #[.int .u64 a2_0,.int .u64 a2_1] 51 (0,0)) (by (with_reducible repeat (first|refine z5 ?_ _|refine z8 ?_|refine z4 ?_ _));exact BK102.out)) : gb102 ≠ gb103));have n9_:=z3.mk ((by rw [hg];exact Nat.ne_of_gt (zO (g:=gb102) (o:=.cells #[.int .u64 a2_0,.int .u64 a2_1] 51 (0,0)) (by (with_reducible repeat (first|refine z5 ?_ _|refine z8 ?_|refine z4 ?_ _));exact BK102.out)) : gb103 ≠ gb102));clear BK101;clear BK102;clear HB;have BK101:=n0_;have BK102:=n1_;have HB:=n2_;have BK103:=n3_;have GW103:=n4_;have GE103:=n5_;have NB101_103:=n6_;have NB103_101:=n7_;have NB102_103:=n8_;have NB103_102:=n9_;clear n0_ n1_ n2_ n3_ n4_ n5_ n6_ n7_ n8_ n9_;clear hb hbox hg))
 repeat (go_quiet (first|((with_reducible refine zE (N:=4) rfl ?_);refine zC ?hg (N:=4) ?hd (cs:=#[.int .u64 a1_0,.int .u64 a1_1]) (t:=51) ?hr ?_;(case hd=>rfl);(case hg=>rfl);(case hr=>first|(go_simp;done)|(go_simp;rfl));intro gb101 hg w5 hbox hb;have n0_:=z3.mk (zb (by repeat (first|(with_reducible first|exact HB.out|apply z2|apply z0|apply z1)|exact HB.out)) hb);have n1_:=z3.mk (hbox);have n2_:=z3.mk ((by rw [hg];exact (zc (by repeat (first|(with_reducible first|exact HB.out|apply z2|apply z0|apply z1)|exact HB.out))) : w.heap.size ≤ gb101));have n3_:=z3.mk ((by rw [hg];exact (zc (by repeat (first|(with_reducible first|exact HB.out|apply z2|apply z0|apply z1)|exact HB.out))) : w.heap.size ≤ gb101));clear HB;have HB:=n0_;have BK101:=n1_;have GW101:=n2_;have GE101:=n3_;clear n0_ n1_ n2_ n3_;clear hb hbox hg)|((with_reducible refine zE (N:=5) rfl ?_);refine zC ?hg (N:=5) ?hd (cs:=#[.int .u64 a2_0,.int .u64 a2_1]) (t:=51) ?hr ?_;(case hd=>rfl);(case hg=>rfl);(case hr=>first|(go_simp;done)|(go_simp;rfl));intro gb102 hg w6 hbox hb;have n0_:=z3.mk (zn (g:=gb101) (o:=.cells #[.int .u64 a1_0,.int .u64 a1_1] 51 (0,0)) (by (with_reducible repeat (first|refine z5 ?_ _|refine z8 ?_|refine z4 ?_ _));exact BK101.out) hb);have n1_:=z3.mk (zb (by repeat (first|(with_reducible first|exact HB.out|apply z2|apply z0|apply z1|refine z6 ?_ GE101.out)|exact HB.out)) hb);have n2_:=z3.mk (hbox);have n3_:=z3.mk ((by rw [hg];exact (zc (by repeat (first|(with_reducible first|exact HB.out|apply z2|apply z0|apply z1|refine z6 ?_ GE101.out)|exact HB.out))) : w.heap.size ≤ gb102));have n4_:=z3.mk ((by rw [hg];exact (zc (by repeat (first|(with_reducible first|exact HB.out|apply z2|apply z0|apply z1|refine z6 ?_ GE101.out)|exact HB.out))) : w.heap.size ≤ gb102));have n5_:=z3.mk ((by rw [hg];exact Nat.ne_of_lt (zO (g:=gb101) (o:=.cells #[.int .u64 a1_0,.int .u64 a1_1] 51 (0,0)) (by (with_reducible repeat (first|refine z5 ?_ _|refine z8 ?_|refine z4 ?_ _));exact BK101.out)) : gb101 ≠ gb102));have n6_:=z3.mk ((by rw [hg];exact Nat.ne_of_gt (zO (g:=gb101) (o:=.cells #[.int .u64 a1_0,.int .u64 a1_1] 51 (0,0)) (by (with_reducible repeat (first|refine z5 ?_ _|refine z8 ?_|refine z4 ?_ _));exact BK101.out)) : gb102 ≠ gb101));clear BK101;clear HB;have BK101:=n0_;have HB:=n1_;have BK102:=n2_;have GW102:=n3_;have GE102:=n4_;have NB101_102:=n5_;have NB102_101:=n6_;clear n0_ n1_ n2_ n3_ n4_ n5_ n6_;clear hb hbox hg)|((with_reducible refine zE (N:=6) rfl ?_);refine zC ?hg (N:=6) ?hd (cs:=#[.int .u64 0,.int .u64 0]) (t:=51) ?hr ?_;(case hd=>rfl);(case hg=>rfl);(case hr=>first|(go_simp;done)|(go_simp;rfl));intro gb103 hg w7 hbox hb;have n0_:=z3.mk (zn (g:=gb101) (o:=.cells #[.int .u64 a1_0,.int .u64 a1_1] 51 (0,0)) (by (with_reducible repeat (first|refine z5 ?_ _|refine z8 ?_|refine z4 ?_ _));exact BK101.out) hb);have n1_:=z3.mk (zn (g:=gb102) (o:=.cells #[.int .u64 a2_0,.int .u64 a2_1] 51 (0,0)) (by (with_reducible repeat (first|refine z5 ?_ _|refine z8 ?_|refine z4 ?_ _));exact BK102.out) hb);have n2_:=z3.mk (zb (by repeat (first|(with_reducible first|exact HB.out|apply z2|apply z0|apply z1|refine z6 ?_ GE101.out|refine z6 ?_ GE102.out)|exact HB.out)) hb);have n3_:=z3.mk (hbox);have n4_:=z3.mk ((by rw [hg];exact (zc (by repeat (first|(with_reducible first|exact HB.out|apply z2|apply z0|apply z1|refine z6 ?_ GE101.out|refine z6 ?_ GE102.out)|exact HB.out))) : w.heap.size ≤ gb103));have n5_:=z3.mk ((by rw [hg];exact (zc (by repeat (first|(with_reducible first|exact HB.out|apply z2|apply z0|apply z1|refine z6 ?_ GE101.out|refine z6 ?_ GE102.out)|exact HB.out))) : w.heap.size ≤ gb103));have n6_:=z3.mk ((by rw [hg];exact Nat.ne_of_lt (zO (g:=gb101) (o:=.cells #[.int .u64 a1_0,.int .u64 a1_1] 51 (0,0)) (by (with_reducible repeat (first|refine z5 ?_ _|refine z8 ?_|refine z4 ?_ _));exact BK101.out)) : gb101 ≠ gb103));have n7_:=z3.mk ((by rw [hg];exact Nat.ne_of_gt (zO (g:=gb101) (o:=.cells #[.int .u64 a1_0,.int .u64 a1_1] 51 (0,0)) (by (with_reducible repeat (first|refine z5 ?_ _|refine z8 ?_|refine z4 ?_ _));exact BK101.out)) : gb103 ≠ gb101));have n8_:=z3.mk ((by rw [hg];exact Nat.ne_of_lt (zO (g:=gb102) (o:=.cells #[.int .u64 a2_0,.int .u64 a2_1] 51 (0,0)) (by (with_reducible repeat (first|refine z5 ?_ _|refine z8 ?_|refine z4 ?_ _));exact BK102.out)) : gb102 ≠ gb103));have n9_:=z3.mk ((by rw [hg];exact Nat.ne_of_gt (zO (g:=gb102) (o:=.cells #[.int .u64 a2_0,.int .u64 a2_1] 51 (0,0)) (by (with_reducible repeat (first|refine z5 ?_ _|refine z8 ?_|refine z4 ?_ _));exact BK102.out)) : gb103 ≠ gb102));clear BK101;clear BK102;clear HB;have BK101:=n0_;have BK102:=n1_;have HB:=n2_;have BK103:=n3_;have GW103:=n4_;have GE103:=n5_;have NB101_103:=n6_;have NB103_101:=n7_;have NB102_103:=n8_;have NB103_102:=n9_;clear n0_ n1_ n2_ n3_ n4_ n5_ n6_ n7_ n8_ n9_;clear hb hbox hg));go_upto_region 1 with (first|((with_reducible refine zE (N:=4) rfl ?_);refine zC ?hg (N:=4) ?hd (cs:=#[.int .u64 a1_0,.int .u64 a1_1]) (t:=51) ?hr ?_;(case hd=>rfl);(case hg=>rfl);(case hr=>first|(go_simp;done)|(go_simp;rfl));intro gb101 hg w5 hbox hb;have n0_:=z3.mk (zb (by repeat (first|(with_reducible first|exact HB.out|apply z2|apply z0|apply z1)|exact HB.out)) hb);have n1_:=z3.mk (hbox);have n2_:=z3.mk ((by rw [hg];exact (zc (by repeat (first|(with_reducible first|exact HB.out|apply z2|apply z0|apply z1)|exact HB.out))) : w.heap.size ≤ gb101));have n3_:=z3.mk ((by rw [hg];exact (zc (by repeat (first|(with_reducible first|exact HB.out|apply z2|apply z0|apply z1)|exact HB.out))) : w.heap.size ≤ gb101));clear HB;have HB:=n0_;have BK101:=n1_;have GW101:=n2_;have GE101:=n3_;clear n0_ n1_ n2_ n3_;clear hb hbox hg)|((with_reducible refine zE (N:=5) rfl ?_);refine zC ?hg (N:=5) ?hd (cs:=#[.int .u64 a2_0,.int .u64 a2_1]) (t:=51) ?hr ?_;(case hd=>rfl);(case hg=>rfl);(case hr=>first|(go_simp;done)|(go_simp;rfl));intro gb102 hg w6 hbox hb;have n0_:=z3.mk (zn (g:=gb101) (o:=.cells #[.int .u64 a1_0,.int .u64 a1_1] 51 (0,0)) (by (with_reducible repeat (first|refine z5 ?_ _|refine z8 ?_|refine z4 ?_ _));exact BK101.out) hb);have n1_:=z3.mk (zb (by repeat (first|(with_reducible first|exact HB.out|apply z2|apply z0|apply z1|refine z6 ?_ GE101.out)|exact HB.out)) hb);have n2_:=z3.mk (hbox);have n3_:=z3.mk ((by rw [hg];exact (zc (by repeat (first|(with_reducible first|exact HB.out|apply z2|apply z0|apply z1|refine z6 ?_ GE101.out)|exact HB.out))) : w.heap.size ≤ gb102));have n4_:=z3.mk ((by rw [hg];exact (zc (by repeat (first|(with_reducible first|exact HB.out|apply z2|apply z0|apply z1|refine z6 ?_ GE101.out)|exact HB.out))) : w.heap.size ≤ gb102));have n5_:=z3.mk ((by rw [hg];exact Nat.ne_of_lt (zO (g:=gb101) (o:=.cells #[.int .u64 a1_0,.int .u64 a1_1] 51 (0,0)) (by (with_reducible repeat (first|refine z5 ?_ _|refine z8 ?_|refine z4 ?_ _));exact BK101.out)) : gb101 ≠ gb102));have n6_:=z3.mk ((by rw [hg];exact Nat.ne_of_gt (zO (g:=gb101) (o:=.cells #[.int .u64 a1_0,.int .u64 a1_1] 51 (0,0)) (by (with_reducible repeat (first|refine z5 ?_ _|refine z8 ?_|refine z4 ?_ _));exact BK101.out)) : gb102 ≠ gb101));clear BK101;clear HB;have BK101:=n0_;have HB:=n1_;have BK102:=n2_;have GW102:=n3_;have GE102:=n4_;have NB101_102:=n5_;have NB102_101:=n6_;clear n0_ n1_ n2_ n3_ n4_ n5_ n6_;clear hb hbox hg)|((with_reducible refine zE (N:=6) rfl ?_);refine zC ?hg (N:=6) ?hd (cs:=#[.int .u64 0,.int .u64 0]) (t:=51) ?hr ?_;(case hd=>rfl);(case hg=>rfl);(case hr=>first|(go_simp;done)|(go_simp;rfl));intro gb103 hg w7 hbox hb;have n0_:=z3.mk (zn (g:=gb101) (o:=.cells #[.int .u64 a1_0,.int .u64 a1_1] 51 (0,0)) (by (with_reducible repeat (first|refine z5 ?_ _|refine z8 ?_|refine z4 ?_ _));exact BK101.out) hb);have n1_:=z3.mk (zn (g:=gb102) (o:=.cells #[.int .u64 a2_0,.int .u64 a2_1] 51 (0,0)) (by (with_reducible repeat (first|refine z5 ?_ _|refine z8 ?_|refine z4 ?_ _));exact BK102.out) hb);have n2_:=z3.mk (zb (by repeat (first|(with_reducible first|exact HB.out|apply z2|apply z0|apply z1|refine z6 ?_ GE101.out|refine z6 ?_ GE102.out)|exact HB.out)) hb);have n3_:=z3.mk (hbox);have n4_:=z3.mk ((by rw [hg];exact (zc (by repeat (first|(with_reducible first|exact HB.out|apply z2|apply z0|apply z1|refine z6 ?_ GE101.out|refine z6 ?_ GE102.out)|exact HB.out))) : w.heap.size ≤ gb103));have n5_:=z3.mk ((by rw [hg];exact (zc (by repeat (first|(with_reducible first|exact HB.out|apply z2|apply z0|apply z1|refine z6 ?_ GE101.out|refine z6 ?_ GE102.out)|exact HB.out))) : w.heap.size ≤ gb103));have n6_:=z3.mk ((by rw [hg];exact Nat.ne_of_lt (zO (g:=gb101) (o:=.cells #[.int .u64 a1_0,.int .u64 a1_1] 51 (0,0)) (by (with_reducible repeat (first|refine z5 ?_ _|refine z8 ?_|refine z4 ?_ _));exact BK101.out)) : gb101 ≠ gb103));have n7_:=z3.mk ((by rw [hg];exact Nat.ne_of_gt (zO (g:=gb101) (o:=.cells #[.int .u64 a1_0,.int .u64 a1_1] 51 (0,0)) (by (with_reducible repeat (first|refine z5 ?_ _|refine z8 ?_|refine z4 ?_ _));exact BK101.out)) : gb103 ≠ gb101));have n8_:=z3.mk ((by rw [hg];exact Nat.ne_of_lt (zO (g:=gb102) (o:=.cells #[.int .u64 a2_0,.int .u64 a2_1] 51 (0,0)) (by (with_reducible repeat (first|refine z5 ?_ _|refine z8 ?_|refine z4 ?_ _));exact BK102.out)) : gb102 ≠ gb103));have n9_:=z3.mk ((by rw [hg];exact Nat.ne_of_gt (zO (g:=gb102) (o:=.cells #[.int .u64 a2_0,.int .u64 a2_1] 51 (0,0)) (by (with_reducible repeat (first|refine z5 ?_ _|refine z8 ?_|refine z4 ?_ _));exact BK102.out)) : gb103 ≠ gb102));clear BK101;clear BK102;clear HB;have BK101:=n0_;have BK102:=n1_;have HB:=n2_;have BK103:=n3_;have GW103:=n4_;have GE103:=n5_;have NB101_103:=n6_;have NB103_101:=n7_;have NB102_103:=n8_;have NB103_102:=n9_;clear n0_ n1_ n2_ n3_ n4_ n5_ n6_ n7_ n8_ n9_;clear hb hbox hg)))
 (try simp only [Act.put,List.setIfInBounds_toArray,List.set_cons_zero,List.set_cons_succ])
 go_cut [10] (fun v10 wc=>∃ (kq : Nat) (x10_3 : Bool),v10 = .bool x10_3 ∧ z3 (zV.j0 kq a0 x10_3 a1_0 a1_1 a2_0 a2_1 = some (r1,r2)) ∧ z3 (kq ≤ k) ∧ z3 (wc.heap[gb101]? = some (.cells #[.int .u64 a1_0,.int .u64 a1_1] 51 (0,0))) ∧ z3 (wc.heap[gb102]? = some (.cells #[.int .u64 a2_0,.int .u64 a2_1] 51 (0,0))) ∧ z3 (wc.heap[gb103]? = some (.cells #[.int .u64 0,.int .u64 0] 51 (0,0))) ∧ z3 (Below w.heap.size w wc))
 case first =>
  have H:=HC4.out
  clear HC4
  replace H:=Option.bind_eq_some_iff.mp H
  obtain ⟨t104,A80,H⟩:=H
  replace H : (if t104 = true then ((zL.f k a0 a2_0 a2_1).bind fun t105=>(zV.j0 k a0 (!t105) a1_0 a1_1 a2_0 a2_1)) else (zV.j0 k a0 true a1_0 a1_1 a2_0 a2_1)) = some (r1,r2):=H
  have A8:=z3.mk A80
  clear A80
  by_cases c9 : t104 = true
  rotate_left
  · replace c9:=Bool.eq_false_iff.mpr c9
    subst c9
    have H1 : (zV.j0 k a0 true a1_0 a1_1 a2_0 a2_1) = some (r1,r2):=by rw [if_neg (show ¬ (false = true) by decide)] at H;exact H
    clear H
    have H:=H1
    clear H1
    have H':=z3.mk H
    clear H
    have hnb18:=NB101_102.out
    have hnc18:=NB102_101.out
    have hnb19:=NB101_103.out
    have hnc19:=NB103_101.out
    have hcz20_0 : w7.cell? ⟨gb101,0,none⟩ = some (.int .u64 a1_0):=(ze BK101.out 0).trans rfl
    have hcz20_1 : w7.cell? ⟨gb101,1,none⟩ = some (.int .u64 a1_1):=(ze BK101.out 1).trans rfl
    have hfz20_0:=zd BK101.out 0
    have hfz20_1:=zd BK101.out 1
    go_wp2_with (first|(go_at_call 67;(with_reducible refine (zL.calls k a0 a1_0 a1_1 false _ A8.out).mono ?_);rintro e w21 ⟨rfl,hb⟩;have n0_:=z3.mk (zn (g:=gb101) (o:=.cells #[.int .u64 a1_0,.int .u64 a1_1] 51 (0,0)) (by (with_reducible repeat (first|refine z5 ?_ _|refine z8 ?_|refine z4 ?_ _));exact BK101.out) hb);have n1_:=z3.mk (zn (g:=gb102) (o:=.cells #[.int .u64 a2_0,.int .u64 a2_1] 51 (0,0)) (by (with_reducible repeat (first|refine z5 ?_ _|refine z8 ?_|refine z4 ?_ _));exact BK102.out) hb);have n2_:=z3.mk (zn (g:=gb103) (o:=.cells #[.int .u64 0,.int .u64 0] 51 (0,0)) (by (with_reducible repeat (first|refine z5 ?_ _|refine z8 ?_|refine z4 ?_ _));exact BK103.out) hb);have n3_:=z3.mk (zb (by repeat (first|(with_reducible first|exact HB.out|apply z2|apply z0|apply z1|refine z6 ?_ GE101.out|refine z6 ?_ GE102.out|refine z6 ?_ GE103.out)|exact HB.out)) hb);clear BK101;clear BK102;clear BK103;clear HB;have BK101:=n0_;have BK102:=n1_;have BK103:=n2_;have HB:=n3_;clear n0_ n1_ n2_ n3_;(try clear hb);(try clear hb2);(try clear hk);(try clear hi)))
    repeat (go_quiet (first|(go_at_call 67;(with_reducible refine (zL.calls k a0 a1_0 a1_1 false _ A8.out).mono ?_);rintro e w21 ⟨rfl,hb⟩;have n0_:=z3.mk (zn (g:=gb101) (o:=.cells #[.int .u64 a1_0,.int .u64 a1_1] 51 (0,0)) (by (with_reducible repeat (first|refine z5 ?_ _|refine z8 ?_|refine z4 ?_ _));exact BK101.out) hb);have n1_:=z3.mk (zn (g:=gb102) (o:=.cells #[.int .u64 a2_0,.int .u64 a2_1] 51 (0,0)) (by (with_reducible repeat (first|refine z5 ?_ _|refine z8 ?_|refine z4 ?_ _));exact BK102.out) hb);have n2_:=z3.mk (zn (g:=gb103) (o:=.cells #[.int .u64 0,.int .u64 0] 51 (0,0)) (by (with_reducible repeat (first|refine z5 ?_ _|refine z8 ?_|refine z4 ?_ _));exact BK103.out) hb);have n3_:=z3.mk (zb (by repeat (first|(with_reducible first|exact HB.out|apply z2|apply z0|apply z1|refine z6 ?_ GE101.out|refine z6 ?_ GE102.out|refine z6 ?_ GE103.out)|exact HB.out)) hb);clear BK101;clear BK102;clear BK103;clear HB;have BK101:=n0_;have BK102:=n1_;have BK103:=n2_;have HB:=n3_;clear n0_ n1_ n2_ n3_;(try clear hb);(try clear hb2);(try clear hk);(try clear hi)));try go_wp2_with (first|(go_at_call 67;(with_reducible refine (zL.calls k a0 a1_0 a1_1 false _ A8.out).mono ?_);rintro e w21 ⟨rfl,hb⟩;have n0_:=z3.mk (zn (g:=gb101) (o:=.cells #[.int .u64 a1_0,.int .u64 a1_1] 51 (0,0)) (by (with_reducible repeat (first|refine z5 ?_ _|refine z8 ?_|refine z4 ?_ _));exact BK101.out) hb);have n1_:=z3.mk (zn (g:=gb102) (o:=.cells #[.int .u64 a2_0,.int .u64 a2_1] 51 (0,0)) (by (with_reducible repeat (first|refine z5 ?_ _|refine z8 ?_|refine z4 ?_ _));exact BK102.out) hb);have n2_:=z3.mk (zn (g:=gb103) (o:=.cells #[.int .u64 0,.int .u64 0] 51 (0,0)) (by (with_reducible repeat (first|refine z5 ?_ _|refine z8 ?_|refine z4 ?_ _));exact BK103.out) hb);have n3_:=z3.mk (zb (by repeat (first|(with_reducible first|exact HB.out|apply z2|apply z0|apply z1|refine z6 ?_ GE101.out|refine z6 ?_ GE102.out|refine z6 ?_ GE103.out)|exact HB.out)) hb);clear BK101;clear BK102;clear BK103;clear HB;have BK101:=n0_;have BK102:=n1_;have BK103:=n2_;have HB:=n3_;clear n0_ n1_ n2_ n3_;(try clear hb);(try clear hb2);(try clear hk);(try clear hi))))
    go_meet
    case rel=>exact ⟨_,(true),(by first|rfl|(simp;done)|(simp [*];done)),H',⟨by first|omega|exact Nat.le_refl _⟩,⟨by (with_reducible repeat (first|refine z5 ?_ _|refine z8 ?_|refine z4 ?_ _));exact BK101.out⟩,⟨by (with_reducible repeat (first|refine z5 ?_ _|refine z8 ?_|refine z4 ?_ _));exact BK102.out⟩,⟨by (with_reducible repeat (first|refine z5 ?_ _|refine z8 ?_|refine z4 ?_ _));exact BK103.out⟩,⟨by repeat (first|(with_reducible first|exact HB.out|apply z2|apply z0|apply z1|refine z6 ?_ GE101.out|refine z6 ?_ GE102.out|refine z6 ?_ GE103.out)|exact HB.out)⟩⟩
  subst c9
  have H1 : ((zL.f k a0 a2_0 a2_1).bind fun t105=>(zV.j0 k a0 (!t105) a1_0 a1_1 a2_0 a2_1)) = some (r1,r2):=by rw [if_pos rfl] at H;exact H
  clear H
  have H:=H1
  clear H1
  replace H:=Option.bind_eq_some_iff.mp H
  obtain ⟨t105,A100,H⟩:=H
  replace H : (zV.j0 k a0 (!t105) a1_0 a1_1 a2_0 a2_1) = some (r1,r2):=H
  have A10:=z3.mk A100
  clear A100
  have H':=z3.mk H
  clear H
  have hnb11:=NB101_102.out
  have hnc11:=NB102_101.out
  have hnb12:=NB101_103.out
  have hnc12:=NB103_101.out
  have hcz13_0 : w7.cell? ⟨gb101,0,none⟩ = some (.int .u64 a1_0):=(ze BK101.out 0).trans rfl
  have hcz13_1 : w7.cell? ⟨gb101,1,none⟩ = some (.int .u64 a1_1):=(ze BK101.out 1).trans rfl
  have hfz13_0:=zd BK101.out 0
  have hfz13_1:=zd BK101.out 1
  go_wp2_with (first|(go_at_call 67;(with_reducible refine (zL.calls k a0 a1_0 a1_1 true _ A8.out).mono ?_);rintro e w14 ⟨rfl,hb⟩;have n0_:=z3.mk (zn (g:=gb101) (o:=.cells #[.int .u64 a1_0,.int .u64 a1_1] 51 (0,0)) (by (with_reducible repeat (first|refine z5 ?_ _|refine z8 ?_|refine z4 ?_ _));exact BK101.out) hb);have n1_:=z3.mk (zn (g:=gb102) (o:=.cells #[.int .u64 a2_0,.int .u64 a2_1] 51 (0,0)) (by (with_reducible repeat (first|refine z5 ?_ _|refine z8 ?_|refine z4 ?_ _));exact BK102.out) hb);have n2_:=z3.mk (zn (g:=gb103) (o:=.cells #[.int .u64 0,.int .u64 0] 51 (0,0)) (by (with_reducible repeat (first|refine z5 ?_ _|refine z8 ?_|refine z4 ?_ _));exact BK103.out) hb);have n3_:=z3.mk (zb (by repeat (first|(with_reducible first|exact HB.out|apply z2|apply z0|apply z1|refine z6 ?_ GE101.out|refine z6 ?_ GE102.out|refine z6 ?_ GE103.out)|exact HB.out)) hb);clear BK101;clear BK102;clear BK103;clear HB;have BK101:=n0_;have BK102:=n1_;have BK103:=n2_;have HB:=n3_;clear n0_ n1_ n2_ n3_;(try clear hb);(try clear hb2);(try clear hk);(try clear hi);have hnb15:=NB102_103.out;have hnc15:=NB103_102.out;have hcz16_0 : w14.cell? ⟨gb102,0,none⟩ = some (.int .u64 a2_0):=(ze BK102.out 0).trans rfl;have hcz16_1 : w14.cell? ⟨gb102,1,none⟩ = some (.int .u64 a2_1):=(ze BK102.out 1).trans rfl;have hfz16_0:=zd BK102.out 0;have hfz16_1:=zd BK102.out 1)|(go_at_call 67;(with_reducible refine (zL.calls k a0 a2_0 a2_1 t105 _ A10.out).mono ?_);rintro e w17 ⟨rfl,hb⟩;have n0_:=z3.mk (zn (g:=gb101) (o:=.cells #[.int .u64 a1_0,.int .u64 a1_1] 51 (0,0)) (by (with_reducible repeat (first|refine z5 ?_ _|refine z8 ?_|refine z4 ?_ _));exact BK101.out) hb);have n1_:=z3.mk (zn (g:=gb102) (o:=.cells #[.int .u64 a2_0,.int .u64 a2_1] 51 (0,0)) (by (with_reducible repeat (first|refine z5 ?_ _|refine z8 ?_|refine z4 ?_ _));exact BK102.out) hb);have n2_:=z3.mk (zn (g:=gb103) (o:=.cells #[.int .u64 0,.int .u64 0] 51 (0,0)) (by (with_reducible repeat (first|refine z5 ?_ _|refine z8 ?_|refine z4 ?_ _));exact BK103.out) hb);have n3_:=z3.mk (zb (by repeat (first|(with_reducible first|exact HB.out|apply z2|apply z0|apply z1|refine z6 ?_ GE101.out|refine z6 ?_ GE102.out|refine z6 ?_ GE103.out)|exact HB.out)) hb);clear BK101;clear BK102;clear BK103;clear HB;have BK101:=n0_;have BK102:=n1_;have BK103:=n2_;have HB:=n3_;clear n0_ n1_ n2_ n3_;(try clear hb);(try clear hb2);(try clear hk);(try clear hi)))
  repeat (go_quiet (first|(go_at_call 67;(with_reducible refine (zL.calls k a0 a1_0 a1_1 true _ A8.out).mono ?_);rintro e w14 ⟨rfl,hb⟩;have n0_:=z3.mk (zn (g:=gb101) (o:=.cells #[.int .u64 a1_0,.int .u64 a1_1] 51 (0,0)) (by (with_reducible repeat (first|refine z5 ?_ _|refine z8 ?_|refine z4 ?_ _));exact BK101.out) hb);have n1_:=z3.mk (zn (g:=gb102) (o:=.cells #[.int .u64 a2_0,.int .u64 a2_1] 51 (0,0)) (by (with_reducible repeat (first|refine z5 ?_ _|refine z8 ?_|refine z4 ?_ _));exact BK102.out) hb);have n2_:=z3.mk (zn (g:=gb103) (o:=.cells #[.int .u64 0,.int .u64 0] 51 (0,0)) (by (with_reducible repeat (first|refine z5 ?_ _|refine z8 ?_|refine z4 ?_ _));exact BK103.out) hb);have n3_:=z3.mk (zb (by repeat (first|(with_reducible first|exact HB.out|apply z2|apply z0|apply z1|refine z6 ?_ GE101.out|refine z6 ?_ GE102.out|refine z6 ?_ GE103.out)|exact HB.out)) hb);clear BK101;clear BK102;clear BK103;clear HB;have BK101:=n0_;have BK102:=n1_;have BK103:=n2_;have HB:=n3_;clear n0_ n1_ n2_ n3_;(try clear hb);(try clear hb2);(try clear hk);(try clear hi);have hnb15:=NB102_103.out;have hnc15:=NB103_102.out;have hcz16_0 : w14.cell? ⟨gb102,0,none⟩ = some (.int .u64 a2_0):=(ze BK102.out 0).trans rfl;have hcz16_1 : w14.cell? ⟨gb102,1,none⟩ = some (.int .u64 a2_1):=(ze BK102.out 1).trans rfl;have hfz16_0:=zd BK102.out 0;have hfz16_1:=zd BK102.out 1)|(go_at_call 67;(with_reducible refine (zL.calls k a0 a2_0 a2_1 t105 _ A10.out).mono ?_);rintro e w17 ⟨rfl,hb⟩;have n0_:=z3.mk (zn (g:=gb101) (o:=.cells #[.int .u64 a1_0,.int .u64 a1_1] 51 (0,0)) (by (with_reducible repeat (first|refine z5 ?_ _|refine z8 ?_|refine z4 ?_ _));exact BK101.out) hb);have n1_:=z3.mk (zn (g:=gb102) (o:=.cells #[.int .u64 a2_0,.int .u64 a2_1] 51 (0,0)) (by (with_reducible repeat (first|refine z5 ?_ _|refine z8 ?_|refine z4 ?_ _));exact BK102.out) hb);have n2_:=z3.mk (zn (g:=gb103) (o:=.cells #[.int .u64 0,.int .u64 0] 51 (0,0)) (by (with_reducible repeat (first|refine z5 ?_ _|refine z8 ?_|refine z4 ?_ _));exact BK103.out) hb);have n3_:=z3.mk (zb (by repeat (first|(with_reducible first|exact HB.out|apply z2|apply z0|apply z1|refine z6 ?_ GE101.out|refine z6 ?_ GE102.out|refine z6 ?_ GE103.out)|exact HB.out)) hb);clear BK101;clear BK102;clear BK103;clear HB;have BK101:=n0_;have BK102:=n1_;have BK103:=n2_;have HB:=n3_;clear n0_ n1_ n2_ n3_;(try clear hb);(try clear hb2);(try clear hk);(try clear hi)));try go_wp2_with (first|(go_at_call 67;(with_reducible refine (zL.calls k a0 a1_0 a1_1 true _ A8.out).mono ?_);rintro e w14 ⟨rfl,hb⟩;have n0_:=z3.mk (zn (g:=gb101) (o:=.cells #[.int .u64 a1_0,.int .u64 a1_1] 51 (0,0)) (by (with_reducible repeat (first|refine z5 ?_ _|refine z8 ?_|refine z4 ?_ _));exact BK101.out) hb);have n1_:=z3.mk (zn (g:=gb102) (o:=.cells #[.int .u64 a2_0,.int .u64 a2_1] 51 (0,0)) (by (with_reducible repeat (first|refine z5 ?_ _|refine z8 ?_|refine z4 ?_ _));exact BK102.out) hb);have n2_:=z3.mk (zn (g:=gb103) (o:=.cells #[.int .u64 0,.int .u64 0] 51 (0,0)) (by (with_reducible repeat (first|refine z5 ?_ _|refine z8 ?_|refine z4 ?_ _));exact BK103.out) hb);have n3_:=z3.mk (zb (by repeat (first|(with_reducible first|exact HB.out|apply z2|apply z0|apply z1|refine z6 ?_ GE101.out|refine z6 ?_ GE102.out|refine z6 ?_ GE103.out)|exact HB.out)) hb);clear BK101;clear BK102;clear BK103;clear HB;have BK101:=n0_;have BK102:=n1_;have BK103:=n2_;have HB:=n3_;clear n0_ n1_ n2_ n3_;(try clear hb);(try clear hb2);(try clear hk);(try clear hi);have hnb15:=NB102_103.out;have hnc15:=NB103_102.out;have hcz16_0 : w14.cell? ⟨gb102,0,none⟩ = some (.int .u64 a2_0):=(ze BK102.out 0).trans rfl;have hcz16_1 : w14.cell? ⟨gb102,1,none⟩ = some (.int .u64 a2_1):=(ze BK102.out 1).trans rfl;have hfz16_0:=zd BK102.out 0;have hfz16_1:=zd BK102.out 1)|(go_at_call 67;(with_reducible refine (zL.calls k a0 a2_0 a2_1 t105 _ A10.out).mono ?_);rintro e w17 ⟨rfl,hb⟩;have n0_:=z3.mk (zn (g:=gb101) (o:=.cells #[.int .u64 a1_0,.int .u64 a1_1] 51 (0,0)) (by (with_reducible repeat (first|refine z5 ?_ _|refine z8 ?_|refine z4 ?_ _));exact BK101.out) hb);have n1_:=z3.mk (zn (g:=gb102) (o:=.cells #[.int .u64 a2_0,.int .u64 a2_1] 51 (0,0)) (by (with_reducible repeat (first|refine z5 ?_ _|refine z8 ?_|refine z4 ?_ _));exact BK102.out) hb);have n2_:=z3.mk (zn (g:=gb103) (o:=.cells #[.int .u64 0,.int .u64 0] 51 (0,0)) (by (with_reducible repeat (first|refine z5 ?_ _|refine z8 ?_|refine z4 ?_ _));exact BK103.out) hb);have n3_:=z3.mk (zb (by repeat (first|(with_reducible first|exact HB.out|apply z2|apply z0|apply z1|refine z6 ?_ GE101.out|refine z6 ?_ GE102.out|refine z6 ?_ GE103.out)|exact HB.out)) hb);clear BK101;clear BK102;clear BK103;clear HB;have BK101:=n0_;have BK102:=n1_;have BK103:=n2_;have HB:=n3_;clear n0_ n1_ n2_ n3_;(try clear hb);(try clear hb2);(try clear hk);(try clear hi))))
  go_meet
  case rel=>exact ⟨_,(!t105),(by first|rfl|(simp;done)|(simp [*];done)),H',⟨by first|omega|exact Nat.le_refl _⟩,⟨by (with_reducible repeat (first|refine z5 ?_ _|refine z8 ?_|refine z4 ?_ _));exact BK101.out⟩,⟨by (with_reducible repeat (first|refine z5 ?_ _|refine z8 ?_|refine z4 ?_ _));exact BK102.out⟩,⟨by (with_reducible repeat (first|refine z5 ?_ _|refine z8 ?_|refine z4 ?_ _));exact BK103.out⟩,⟨by repeat (first|(with_reducible first|exact HB.out|apply z2|apply z0|apply z1|refine z6 ?_ GE101.out|refine z6 ?_ GE102.out|refine z6 ?_ GE103.out)|exact HB.out)⟩⟩
 case rest =>
  clear HC4
  (try clear c1);(try clear p2);(try clear c4);(try clear c9);(try clear c11);(try clear c12);(try clear c15);(try clear c18);(try clear c19);(try clear hcz13_0);(try clear hcz13_1);(try clear hcz16_0);(try clear hcz16_1);(try clear hcz20_0);(try clear hcz20_1);(try clear hfz13_0);(try clear hfz13_1);(try clear hfz16_0);(try clear hfz16_1);(try clear hfz20_0);(try clear hfz20_1)
  obtain ⟨kq,x10_3,rfl,HA,HJ3,BK101,BK102,BK103,HB⟩:=hcut
  cases kq with
  | zero=>exact absurd HA.out (by simp [zV.j0])
  | succ kj3 =>
   have H:=HA.out
   clear HA
   simp only [zV.j0] at H
   by_cases c22 : x10_3 = true
   · subst c22
     have H1 : (some (0,0)) = some (r1,r2):=by rw [if_pos rfl] at H;exact H
     clear H
     have H:=H1
     clear H1
     simp only [Option.some.injEq,Prod.mk.injEq] at H
     obtain ⟨rfl,rfl⟩:=H
     have hnb23:=NB103_101.out
     have hnc23:=NB101_103.out
     have hnb24:=NB103_102.out
     have hnc24:=NB102_103.out
     have hcz25_0 : wc.cell? ⟨gb103,0,none⟩ = some (.int .u64 0):=(ze BK103.out 0).trans rfl
     have hcz25_1 : wc.cell? ⟨gb103,1,none⟩ = some (.int .u64 0):=(ze BK103.out 1).trans rfl
     have hfz25_0:=zd BK103.out 0
     have hfz25_1:=zd BK103.out 1
     go_wp2
     repeat (go_quiet (fail);try go_wp2)
     refine bodyPost_ret (results_cell_row rfl _ _ gb103 51 #[.int .u64 0,.int .u64 0] (0,0) _ rfl (by (with_reducible repeat (first|refine z5 ?_ _|refine z8 ?_|refine z4 ?_ _));refine zN (cs:=#[.int .u64 0,.int .u64 0]) ?_ 1 _ rfl;(with_reducible repeat (first|refine z5 ?_ _|refine z8 ?_|refine z4 ?_ _));refine zN (cs:=#[.int .u64 0,.int .u64 0]) ?_ 0 _ rfl;(with_reducible repeat (first|refine z5 ?_ _|refine z8 ?_|refine z4 ?_ _));exact BK103.out) Try.underlying51 rfl (by kernel_rfl)) rfl ?_
     exact ⟨by first|rfl|(simp [zg,zh] <;> rfl)|(simp [*,zg,zh] <;> rfl),by repeat (first|(with_reducible first|exact HB.out|apply z2|apply z0|apply z1|refine z6 ?_ GE101.out|refine z6 ?_ GE102.out|refine z6 ?_ GE103.out)|exact HB.out)⟩
   replace c22:=Bool.eq_false_iff.mpr c22
   subst c22
   have H1 : (if a0 ≤ 6 then ((zz.f kj3 a0 a1_1 a2_1).bind fun t106=>(some (0,t106))) else ((zz.f kj3 6 a1_0 a2_0).bind fun t107=>((zz.f kj3 6 a1_1 a2_1).bind fun t108=>((zz.f kj3 6 (Go.bits .xor .u64 a1_0 a1_1) (Go.bits .xor .u64 a2_0 a2_1)).bind fun t109=>((zH.f kj3 6 t107).bind fun t110=>(some (Go.bits .xor .u64 (Go.bits .xor .u64 (Go.bits .xor .u64 t109 t107) t108) t110,Go.bits .xor .u64 t108 t107))))))) = some (r1,r2):=by rw [if_neg (show ¬ (false = true) by decide)] at H;exact H
   clear H
   have H:=H1
   clear H1
   by_cases c26 : a0 ≤ 6
   · rw [if_pos c26] at H
     have c26b0 : decide (a0 ≤ 6) = true:=decide_eq_true c26
     clear c26
     replace H:=Option.bind_eq_some_iff.mp H
     obtain ⟨t106,A270,H⟩:=H
     replace H : (some (0,t106)) = some (r1,r2):=H
     have A27:=z3.mk A270
     clear A270
     simp only [Option.some.injEq,Prod.mk.injEq] at H
     obtain ⟨rfl,rfl⟩:=H
     have hnb28:=NB101_102.out
     have hnc28:=NB102_101.out
     have hnb29:=NB101_103.out
     have hnc29:=NB103_101.out
     have hcz30_0 : wc.cell? ⟨gb101,0,none⟩ = some (.int .u64 a1_0):=(ze BK101.out 0).trans rfl
     have hcz30_1 : wc.cell? ⟨gb101,1,none⟩ = some (.int .u64 a1_1):=(ze BK101.out 1).trans rfl
     have hfz30_0:=zd BK101.out 0
     have hfz30_1:=zd BK101.out 1
     have hnb31:=NB102_103.out
     have hnc31:=NB103_102.out
     have hcz32_0 : wc.cell? ⟨gb102,0,none⟩ = some (.int .u64 a2_0):=(ze BK102.out 0).trans rfl
     have hcz32_1 : wc.cell? ⟨gb102,1,none⟩ = some (.int .u64 a2_1):=(ze BK102.out 1).trans rfl
     have hfz32_0:=zd BK102.out 0
     have hfz32_1:=zd BK102.out 1
     go_wp2_with (first|(go_at_call 82;(with_reducible refine (zz.calls kj3 a0 a1_1 a2_1 t106 _ A27.out).mono ?_);rintro e w' ⟨rfl,⟨nd,rfl⟩⟩;(try first|exact ⟨rfl,_,World.drewN_drewN _ _ _⟩|exact ⟨rfl,_,Eq.trans (World.drewN_drewN _ _ _) (congrArg (World.drewN _) (Nat.add_assoc _ _ _))⟩);have hcz33_0 : wc.cell? ⟨gb103,0,none⟩ = some (.int .u64 0):=(ze BK103.out 0).trans rfl;have hcz33_1 : wc.cell? ⟨gb103,1,none⟩ = some (.int .u64 0):=(ze BK103.out 1).trans rfl;have hfz33_0:=zd BK103.out 0;have hfz33_1:=zd BK103.out 1))
     repeat (go_quiet (first|(go_at_call 82;(with_reducible refine (zz.calls kj3 a0 a1_1 a2_1 t106 _ A27.out).mono ?_);rintro e w' ⟨rfl,⟨nd,rfl⟩⟩;(try first|exact ⟨rfl,_,World.drewN_drewN _ _ _⟩|exact ⟨rfl,_,Eq.trans (World.drewN_drewN _ _ _) (congrArg (World.drewN _) (Nat.add_assoc _ _ _))⟩);have hcz33_0 : wc.cell? ⟨gb103,0,none⟩ = some (.int .u64 0):=(ze BK103.out 0).trans rfl;have hcz33_1 : wc.cell? ⟨gb103,1,none⟩ = some (.int .u64 0):=(ze BK103.out 1).trans rfl;have hfz33_0:=zd BK103.out 0;have hfz33_1:=zd BK103.out 1));try go_wp2_with (first|(go_at_call 82;(with_reducible refine (zz.calls kj3 a0 a1_1 a2_1 t106 _ A27.out).mono ?_);rintro e w' ⟨rfl,⟨nd,rfl⟩⟩;(try first|exact ⟨rfl,_,World.drewN_drewN _ _ _⟩|exact ⟨rfl,_,Eq.trans (World.drewN_drewN _ _ _) (congrArg (World.drewN _) (Nat.add_assoc _ _ _))⟩);have hcz33_0 : wc.cell? ⟨gb103,0,none⟩ = some (.int .u64 0):=(ze BK103.out 0).trans rfl;have hcz33_1 : wc.cell? ⟨gb103,1,none⟩ = some (.int .u64 0):=(ze BK103.out 1).trans rfl;have hfz33_0:=zd BK103.out 0;have hfz33_1:=zd BK103.out 1)))
     refine bodyPost_ret (results_cell_row rfl _ _ gb103 51 #[.int .u64 0,.int .u64 t106] (0,0) _ rfl (by (with_reducible repeat (first|refine z5 ?_ _|refine z8 ?_|refine z4 ?_ _));refine zN (cs:=#[.int .u64 0,.int .u64 0]) ?_ 1 _ rfl;(with_reducible repeat (first|refine z5 ?_ _|refine z8 ?_|refine z4 ?_ _));refine zN (cs:=#[.int .u64 0,.int .u64 0]) ?_ 0 _ rfl;(with_reducible repeat (first|refine z5 ?_ _|refine z8 ?_|refine z4 ?_ _));exact BK103.out) Try.underlying51 rfl (by kernel_rfl)) rfl ?_
     exact ⟨by first|rfl|(simp [zg,zh] <;> rfl)|(simp [*,zg,zh] <;> rfl),by repeat (first|(with_reducible first|exact HB.out|apply z2|apply z0|apply z1|refine z6 ?_ GE101.out|refine z6 ?_ GE102.out|refine z6 ?_ GE103.out)|exact HB.out)⟩
   rw [if_neg c26] at H
   have c26b0 : decide (a0 ≤ 6) = false:=decide_eq_false c26
   clear c26
   replace H:=Option.bind_eq_some_iff.mp H
   obtain ⟨t107,A340,H⟩:=H
   replace H : ((zz.f kj3 6 a1_1 a2_1).bind fun t108=>((zz.f kj3 6 (Go.bits .xor .u64 a1_0 a1_1) (Go.bits .xor .u64 a2_0 a2_1)).bind fun t109=>((zH.f kj3 6 t107).bind fun t110=>(some (Go.bits .xor .u64 (Go.bits .xor .u64 (Go.bits .xor .u64 t109 t107) t108) t110,Go.bits .xor .u64 t108 t107))))) = some (r1,r2):=H
   have A34:=z3.mk A340
   clear A340
   replace H:=Option.bind_eq_some_iff.mp H
   obtain ⟨t108,A350,H⟩:=H
   replace H : ((zz.f kj3 6 (Go.bits .xor .u64 a1_0 a1_1) (Go.bits .xor .u64 a2_0 a2_1)).bind fun t109=>((zH.f kj3 6 t107).bind fun t110=>(some (Go.bits .xor .u64 (Go.bits .xor .u64 (Go.bits .xor .u64 t109 t107) t108) t110,Go.bits .xor .u64 t108 t107)))) = some (r1,r2):=H
   have A35:=z3.mk A350
   clear A350
   replace H:=Option.bind_eq_some_iff.mp H
   obtain ⟨t109,A360,H⟩:=H
   replace H : ((zH.f kj3 6 t107).bind fun t110=>(some (Go.bits .xor .u64 (Go.bits .xor .u64 (Go.bits .xor .u64 t109 t107) t108) t110,Go.bits .xor .u64 t108 t107))) = some (r1,r2):=H
   have A36:=z3.mk A360
   clear A360
   replace H:=Option.bind_eq_some_iff.mp H
   obtain ⟨t110,A370,H⟩:=H
   replace H : (some (Go.bits .xor .u64 (Go.bits .xor .u64 (Go.bits .xor .u64 t109 t107) t108) t110,Go.bits .xor .u64 t108 t107)) = some (r1,r2):=H
   have A37:=z3.mk A370
   clear A370
   simp only [Option.some.injEq,Prod.mk.injEq] at H
   obtain ⟨rfl,rfl⟩:=H
   have hnb38:=NB101_102.out
   have hnc38:=NB102_101.out
   have hnb39:=NB101_103.out
   have hnc39:=NB103_101.out
   have hcz40_0 : wc.cell? ⟨gb101,0,none⟩ = some (.int .u64 a1_0):=(ze BK101.out 0).trans rfl
   have hcz40_1 : wc.cell? ⟨gb101,1,none⟩ = some (.int .u64 a1_1):=(ze BK101.out 1).trans rfl
   have hfz40_0:=zd BK101.out 0
   have hfz40_1:=zd BK101.out 1
   have hnb41:=NB102_103.out
   have hnc41:=NB103_102.out
   have hcz42_0 : wc.cell? ⟨gb102,0,none⟩ = some (.int .u64 a2_0):=(ze BK102.out 0).trans rfl
   have hcz42_1 : wc.cell? ⟨gb102,1,none⟩ = some (.int .u64 a2_1):=(ze BK102.out 1).trans rfl
   have hfz42_0:=zd BK102.out 0
   have hfz42_1:=zd BK102.out 1
   go_wp2_with (first|(go_at_call 82;(with_reducible refine (zz.calls kj3 6 a1_0 a2_0 t107 _ A34.out).mono ?_);rintro e w' ⟨rfl,⟨nd,rfl⟩⟩;(try first|exact ⟨rfl,_,World.drewN_drewN _ _ _⟩|exact ⟨rfl,_,Eq.trans (World.drewN_drewN _ _ _) (congrArg (World.drewN _) (Nat.add_assoc _ _ _))⟩))|(go_at_call 82;(with_reducible refine (zz.calls kj3 6 a1_1 a2_1 t108 _ A35.out).mono ?_);rintro e w' ⟨rfl,⟨nd,rfl⟩⟩;(try first|exact ⟨rfl,_,World.drewN_drewN _ _ _⟩|exact ⟨rfl,_,Eq.trans (World.drewN_drewN _ _ _) (congrArg (World.drewN _) (Nat.add_assoc _ _ _))⟩))|(go_at_call 82;(with_reducible refine (zz.calls kj3 6 (Go.bits .xor .u64 a1_0 a1_1) (Go.bits .xor .u64 a2_0 a2_1) t109 _ A36.out).mono ?_);rintro e w' ⟨rfl,⟨nd,rfl⟩⟩;(try first|exact ⟨rfl,_,World.drewN_drewN _ _ _⟩|exact ⟨rfl,_,Eq.trans (World.drewN_drewN _ _ _) (congrArg (World.drewN _) (Nat.add_assoc _ _ _))⟩))|(go_at_call 83;(with_reducible refine (zH.calls kj3 6 t107 t110 _ A37.out).mono ?_);rintro e w' ⟨rfl,⟨nd,rfl⟩⟩;(try first|exact ⟨rfl,_,World.drewN_drewN _ _ _⟩|exact ⟨rfl,_,Eq.trans (World.drewN_drewN _ _ _) (congrArg (World.drewN _) (Nat.add_assoc _ _ _))⟩);have hcz43_0 : wc.cell? ⟨gb103,0,none⟩ = some (.int .u64 0):=(ze BK103.out 0).trans rfl;have hcz43_1 : wc.cell? ⟨gb103,1,none⟩ = some (.int .u64 0):=(ze BK103.out 1).trans rfl;have hfz43_0:=zd BK103.out 0;have hfz43_1:=zd BK103.out 1))
   repeat (go_quiet (first|(go_at_call 82;(with_reducible refine (zz.calls kj3 6 a1_0 a2_0 t107 _ A34.out).mono ?_);rintro e w' ⟨rfl,⟨nd,rfl⟩⟩;(try first|exact ⟨rfl,_,World.drewN_drewN _ _ _⟩|exact ⟨rfl,_,Eq.trans (World.drewN_drewN _ _ _) (congrArg (World.drewN _) (Nat.add_assoc _ _ _))⟩))|(go_at_call 82;(with_reducible refine (zz.calls kj3 6 a1_1 a2_1 t108 _ A35.out).mono ?_);rintro e w' ⟨rfl,⟨nd,rfl⟩⟩;(try first|exact ⟨rfl,_,World.drewN_drewN _ _ _⟩|exact ⟨rfl,_,Eq.trans (World.drewN_drewN _ _ _) (congrArg (World.drewN _) (Nat.add_assoc _ _ _))⟩))|(go_at_call 82;(with_reducible refine (zz.calls kj3 6 (Go.bits .xor .u64 a1_0 a1_1) (Go.bits .xor .u64 a2_0 a2_1) t109 _ A36.out).mono ?_);rintro e w' ⟨rfl,⟨nd,rfl⟩⟩;(try first|exact ⟨rfl,_,World.drewN_drewN _ _ _⟩|exact ⟨rfl,_,Eq.trans (World.drewN_drewN _ _ _) (congrArg (World.drewN _) (Nat.add_assoc _ _ _))⟩))|(go_at_call 83;(with_reducible refine (zH.calls kj3 6 t107 t110 _ A37.out).mono ?_);rintro e w' ⟨rfl,⟨nd,rfl⟩⟩;(try first|exact ⟨rfl,_,World.drewN_drewN _ _ _⟩|exact ⟨rfl,_,Eq.trans (World.drewN_drewN _ _ _) (congrArg (World.drewN _) (Nat.add_assoc _ _ _))⟩);have hcz43_0 : wc.cell? ⟨gb103,0,none⟩ = some (.int .u64 0):=(ze BK103.out 0).trans rfl;have hcz43_1 : wc.cell? ⟨gb103,1,none⟩ = some (.int .u64 0):=(ze BK103.out 1).trans rfl;have hfz43_0:=zd BK103.out 0;have hfz43_1:=zd BK103.out 1));try go_wp2_with (first|(go_at_call 82;(with_reducible refine (zz.calls kj3 6 a1_0 a2_0 t107 _ A34.out).mono ?_);rintro e w' ⟨rfl,⟨nd,rfl⟩⟩;(try first|exact ⟨rfl,_,World.drewN_drewN _ _ _⟩|exact ⟨rfl,_,Eq.trans (World.drewN_drewN _ _ _) (congrArg (World.drewN _) (Nat.add_assoc _ _ _))⟩))|(go_at_call 82;(with_reducible refine (zz.calls kj3 6 a1_1 a2_1 t108 _ A35.out).mono ?_);rintro e w' ⟨rfl,⟨nd,rfl⟩⟩;(try first|exact ⟨rfl,_,World.drewN_drewN _ _ _⟩|exact ⟨rfl,_,Eq.trans (World.drewN_drewN _ _ _) (congrArg (World.drewN _) (Nat.add_assoc _ _ _))⟩))|(go_at_call 82;(with_reducible refine (zz.calls kj3 6 (Go.bits .xor .u64 a1_0 a1_1) (Go.bits .xor .u64 a2_0 a2_1) t109 _ A36.out).mono ?_);rintro e w' ⟨rfl,⟨nd,rfl⟩⟩;(try first|exact ⟨rfl,_,World.drewN_drewN _ _ _⟩|exact ⟨rfl,_,Eq.trans (World.drewN_drewN _ _ _) (congrArg (World.drewN _) (Nat.add_assoc _ _ _))⟩))|(go_at_call 83;(with_reducible refine (zH.calls kj3 6 t107 t110 _ A37.out).mono ?_);rintro e w' ⟨rfl,⟨nd,rfl⟩⟩;(try first|exact ⟨rfl,_,World.drewN_drewN _ _ _⟩|exact ⟨rfl,_,Eq.trans (World.drewN_drewN _ _ _) (congrArg (World.drewN _) (Nat.add_assoc _ _ _))⟩);have hcz43_0 : wc.cell? ⟨gb103,0,none⟩ = some (.int .u64 0):=(ze BK103.out 0).trans rfl;have hcz43_1 : wc.cell? ⟨gb103,1,none⟩ = some (.int .u64 0):=(ze BK103.out 1).trans rfl;have hfz43_0:=zd BK103.out 0;have hfz43_1:=zd BK103.out 1)))
   refine bodyPost_ret (results_cell_row rfl _ _ gb103 51 #[.int .u64 (Go.bits .xor .u64 (Go.bits .xor .u64 (Go.bits .xor .u64 t109 t107) t108) t110),.int .u64 (Go.bits .xor .u64 t108 t107)] (0,0) _ rfl (by (with_reducible repeat (first|refine z5 ?_ _|refine z8 ?_|refine z4 ?_ _));refine zN (cs:=#[.int .u64 (Go.bits .xor .u64 (Go.bits .xor .u64 (Go.bits .xor .u64 t109 t107) t108) t110),.int .u64 0]) ?_ 1 _ rfl;(with_reducible repeat (first|refine z5 ?_ _|refine z8 ?_|refine z4 ?_ _));refine zN (cs:=#[.int .u64 0,.int .u64 0]) ?_ 0 _ rfl;(with_reducible repeat (first|refine z5 ?_ _|refine z8 ?_|refine z4 ?_ _));exact BK103.out) Try.underlying51 rfl (by kernel_rfl)) rfl ?_
   exact ⟨by first|rfl|(simp [zg,zh] <;> rfl)|(simp [*,zg,zh] <;> rfl),by repeat (first|(with_reducible first|exact HB.out|apply z2|apply z0|apply z1|refine z6 ?_ GE101.out|refine z6 ?_ GE102.out|refine z6 ?_ GE103.out)|exact HB.out)⟩
end Go.Proofs.Ytngcaphdkgihmaa.P
/- What the functions of layers 1 and 2 on elements tell. Own text. -/
namespace Go.Proofs.Ytngcaphdkgihmaa.Sp
open Go.RowKit Go.Proofs.YtngcaphdkgihmaaW.PrintWords Go.Proofs.YtngcaphdkgihmaaW.PrintMore Go.Proofs.Ytngcaphdkgihmaa.P Go.Proofs.Ytngcaphdkgihmaa.Ar Go.Proofs.Ytngcaphdkgihmaa.Tw
set_option linter.unusedVariables false
set_option linter.unusedSimpArgs false
theorem z32 {n : Nat} (h : n ≤ 6) : Q n ≤ 2 ^ 64 := z2v h
theorem Q_dvd {n : Nat} : Q n = 2 ^ 2 ^ n := rfl
theorem z1w {n : Nat} (h : n ≤ 5) : 2 ^ n ≤ 32 := Nat.pow_le_pow_right (n := 2) (by decide) h
theorem z2X {l : Nat} (h : l + 1 ≤ 1000) : wrap64 (((l + 1 : Nat) : Int) - 1) = (l : Int) := by rw [z1Q (by omega) (by omega)]; omega
theorem z3A {n : Nat} (h : n ≤ 5) : Q n < 2 ^ 64 := Nat.pow_lt_pow_right (by decide) (by have := z1w h; omega)
theorem z38 {l : Nat} (hl : l ≤ 5) (x : Nat) (hx : x < 2 ^ 64) : z18.f ((l + 1 : Nat) : Int) (x : Int) = some (((x / Q l : Nat) : Int), ((x % Q l : Nat) : Int)) := by
  unfold z18.f
  have h32 := z1w hl
  have hQ := z3A hl
  have hm : IntKind.u64.wrap (((2 ^ 2 ^ l : Nat) : Int) - 1) = ((2 ^ 2 ^ l - 1 : Nat) : Int) := by
    have := Nat.two_pow_pos (2 ^ l)
    unfold Q at hQ
    generalize 2 ^ 2 ^ l = q at *
    rw [z24 (by omega) (by omega)]; omega
  rw [z2X (by omega), if_pos (Int.natCast_nonneg _), z3S l (by omega), if_pos (Int.natCast_nonneg _), z2k x (2 ^ l) (by omega), z2j (2 ^ l) (by omega), hm]
  rw [z1N x _ hx (by have := Nat.two_pow_pos (2 ^ l); unfold Q at hQ; omega), Nat.and_two_pow_sub_one_eq_mod]
  rfl
theorem z5x {l : Nat} (hl : l ≤ 5) (h x : Nat) (hh : h < Q l) (hx : x < Q l) : z19.f ((l + 1 : Nat) : Int) (h : Int) (x : Int) = some ((h * Q l + x : Nat) : Int) := by
  unfold z19.f
  have h32 := z1w hl
  have hQ := z3A hl
  have h6 : Q (l + 1) ≤ 2 ^ 64 := z32 (by omega)
  have hhx : h * Q l + Q l ≤ Q (l + 1) := by
    rw [z28]
    have := Nat.mul_le_mul_right (Q l) hh
    rw [Nat.succ_mul] at this; exact this
  have hs : shl .u64 (h : Int) (((2 ^ l : Nat) : Int)) = ((h * Q l : Nat) : Int) := by
    unfold shl
    have h64 : IntKind.u64.bits = 64 := rfl
    rw [h64, Int.toNat_natCast, Nat.min_eq_left (by omega)]
    have hc : ((h : Int) * 2 ^ 2 ^ l) = ((h * Q l : Nat) : Int) := by unfold Q; simp
    rw [hc]
    have : h * Q l < 2 ^ 64 := by omega
    generalize h * Q l = z at *
    exact z24 (by omega) (by omega)
  rw [z2X (by omega), if_pos (by omega), z2j l (by omega), hs, z3v _ _ (by omega) (by omega)]
  congr 2
  unfold Q at *
  rw [Nat.mul_comm, ← Nat.two_pow_add_eq_or_of_lt hx]
theorem z5C : ∀ (l : Nat), l ≤ 6 → ∀ (x : Nat), x < Q l → Ev (fun k => zH.f k (l : Int) (x : Int)) ((val (gen l * of l x) : Nat) : Int) := by
  intro l
  induction l with
  | zero =>
    intro _ x hx
    refine Ev.step (fun k => by rw [zH.f]) (Ev.pos (by rfl) (Ev.ret' ?_))
    rw [z4A, one_mul, z1F 0 x hx]
  | succ l ih =>
    intro hl x hx
    have hx64 : x < 2 ^ 64 := Nat.lt_of_lt_of_le hx (z32 hl)
    have hd : x / Q l < Q l := Nat.div_lt_of_lt_mul (by rw [← z28]; exact hx)
    have hm : x % Q l < Q l := Nat.mod_lt _ (z20 l)
    have hQ := z3A (n := l) (by omega)
    refine Ev.step (fun k => by rw [zH.f]) (Ev.neg (by omega) (Ev.bnd0 (z38 (by omega) x hx64) ?_))
    simp only [z2X (show l + 1 ≤ 1000 by omega)]
    refine Ev.bnd (ih (by omega) _ hd) ?_
    have hv := z17 (gen l * of l (x / Q l))
    simp only [z1v _ _ (Nat.lt_trans hm hQ) (Nat.lt_trans hv hQ)]
    refine Ev.bnd0 (z5x (by omega) _ _ (z1R hm hv) hd) (Ev.ret' ?_)
    congr 1
    rw [z1o (gen (l + 1) * of (l + 1) x)]
    congr 1
    · congr 1
      have e : (gen (l + 1) * of (l + 1) x).1 = of l (x % Q l) + gen l * of l (x / Q l) := by
        rw [z1I, z2c, z2d, one_mul, zero_mul, one_mul, add_zero]; rfl
      rw [e, z1q, z1F _ _ hm]
    · have e : (gen (l + 1) * of (l + 1) x).2 = of l (x / Q l) := by
        rw [z1J, z2c, z2d, one_mul, zero_mul, zero_add]; rfl
      rw [e, z1F _ _ hd]
theorem karatsuba {n : Nat} (a1 a0 b1 b0 z : T n) : (a1 + a0) * (b1 + b0) + a1 * b1 + a0 * b0 + z = (a1 * b0 + a0 * b1) + z := by
  have : (a1 + a0) * (b1 + b0) + a1 * b1 + a0 * b0 = a1 * b0 + a0 * b1 := by
    simp only [mul_add, add_mul]
    have : ∀ p q r s : T n, p + q + (r + s) + p + s = q + r := fun p q r s => by
      rw [add_comm p q, add_assoc, add_assoc, add_assoc]
      rw [show p + (r + s + (p + s)) = (p + p) + (r + (s + s)) by simp only [add_assoc, z1G, add_comm]]
      rw [z1W, z1W, zero_add, add_zero]
    rw [show a1 * b1 + a0 * b1 + (a1 * b0 + a0 * b0) = a1 * b1 + a0 * b1 + (a1 * b0 + a0 * b0) from rfl, this, add_comm]
  rw [this]
theorem z4G : ∀ (l : Nat), l ≤ 6 → ∀ (x y : Nat), x < Q l → y < Q l → Ev (fun k => zz.f k (l : Int) (x : Int) (y : Int)) ((val (of l x * of l y) : Nat) : Int) := by
  intro l
  have hz : ∀ (l : Nat), l ≤ 6 → ∀ (x y : Nat), x < Q l → y < Q l → (l = 0 ∨ x = 0 ∨ y = 0) → Ev (fun k => zz.j0 k (l : Int) (x : Int) (y : Int) true) ((val (of l x * of l y) : Nat) : Int) := by
    intro l hl x y hx hy h
    have hQ := z32 hl
    refine Ev.step (fun k => by rw [zz.j0]) (Ev.pos rfl (Ev.ret' ?_))
    rw [z1N x y (by omega) (by omega)]
    have hxy : x &&& y < 2 ^ 64 := Nat.and_lt_two_pow _ (by omega)
    rw [show (1 : Int) = ((1 : Nat) : Int) from rfl, z1N _ 1 hxy (by decide)]
    congr 1
    rcases h with rfl | rfl | rfl
    · have h1 : x < 2 := hx
      have h2 : y < 2 := hy
      rcases (by omega : x = 0 ∨ x = 1) with rfl | rfl <;> rcases (by omega : y = 0 ∨ y = 1) with rfl | rfl <;> rfl
    · rw [z1P, zero_mul, z1r]; simp
    · rw [z1P, z25, z1r]; simp
  induction l with
  | zero =>
    intro hl x y hx hy
    exact Ev.step (fun k => by rw [zz.f]) (Ev.pos (by rfl) (hz 0 hl x y hx hy (Or.inl rfl)))
  | succ l ih =>
    intro hl x y hx hy
    refine Ev.step (fun k => by rw [zz.f]) (Ev.neg (by omega) ?_)
    by_cases hx0 : x = 0
    · exact Ev.pos (by omega) (hz (l + 1) hl x y hx hy (Or.inr (Or.inl hx0)))
    refine Ev.neg (by omega) ?_
    by_cases hy0 : y = 0
    · rw [show ((y : Int) == 0) = true by simp [hy0]]
      exact hz (l + 1) hl x y hx hy (Or.inr (Or.inr hy0))
    rw [show ((y : Int) == 0) = false by simp [hy0]]
    have hQ := z3A (n := l) (by omega)
    have hx64 : x < 2 ^ 64 := Nat.lt_of_lt_of_le hx (z32 hl)
    have hy64 : y < 2 ^ 64 := Nat.lt_of_lt_of_le hy (z32 hl)
    have hxd : x / Q l < Q l := Nat.div_lt_of_lt_mul (by rw [← z28]; exact hx)
    have hxm : x % Q l < Q l := Nat.mod_lt _ (z20 l)
    have hyd : y / Q l < Q l := Nat.div_lt_of_lt_mul (by rw [← z28]; exact hy)
    have hym : y % Q l < Q l := Nat.mod_lt _ (z20 l)
    have hl5 : l ≤ 5 := by omega
    refine Ev.step (fun k => by rw [zz.j0]) (Ev.neg (by decide) (Ev.bnd0 (z38 hl5 x hx64) (Ev.bnd0 (z38 hl5 y hy64) ?_)))
    simp only [z2X (show l + 1 ≤ 1000 by omega)]
    refine Ev.bnd (ih (by omega) _ _ hxd hyd) (Ev.bnd (ih (by omega) _ _ hxm hym) ?_)
    simp only [z1v _ _ (Nat.lt_trans hxd hQ) (Nat.lt_trans hxm hQ), z1v _ _ (Nat.lt_trans hyd hQ) (Nat.lt_trans hym hQ)]
    refine Ev.bnd (ih (by omega) _ _ (z1R hxd hxm) (z1R hyd hym)) ?_
    have v1 := z17 (of l (x / Q l) * of l (y / Q l))
    have v2 := z17 (of l (x % Q l) * of l (y % Q l))
    have v3 := z17 (of l (x / Q l ^^^ x % Q l) * of l (y / Q l ^^^ y % Q l))
    refine Ev.bnd (z5C l (by omega) _ v1) ?_
    have v4 := z17 (gen l * of l (val (of l (x / Q l) * of l (y / Q l))))
    simp only [z1v _ _ (Nat.lt_trans v3 hQ) (Nat.lt_trans v1 hQ), z1v _ _ (Nat.lt_trans (z1R v3 v1) hQ) (Nat.lt_trans v2 hQ), z1v _ _ (Nat.lt_trans (z1R (z1R v3 v1) v2) hQ) (Nat.lt_trans v4 hQ), z1v _ _ (Nat.lt_trans v2 hQ) (Nat.lt_trans v1 hQ)]
    refine Ev.bnd0 (z5x (by omega) _ _ (z1R (z1R (z1R v3 v1) v2) v4) (z1R v2 v1)) (Ev.ret' ?_)
    congr 1
    rw [z1o (of (l + 1) x * of (l + 1) y)]
    congr 1
    · congr 1
      rw [z1I, z1D, z1D, z1O, z1X, z1O, z1X, ← karatsuba, z1q, z1q, z1q, z5F hxd hxm, z5F hyd hym, z1s]
    · rw [z1J, z1D, z1D, z1O, z1X, z1O, z1X, z1q]
end Go.Proofs.Ytngcaphdkgihmaa.Sp
namespace Go.Proofs.Ytngcaphdkgihmaa.P
open Go.RowKit Go.Proofs.YtngcaphdkgihmaaW.PrintWords Go.Proofs.YtngcaphdkgihmaaW.PrintLast Go.Proofs.YtngcaphdkgihmaaW.PrintMore
attribute [local go_sem] zW zY z15 z16 zQ zR zX zZ   -- for this text's walks alone
set_option linter.unusedVariables false
set_option linter.unusedSimpArgs false
def z2E.f  : Option (Int × Int):=some (0,1)
set_option maxHeartbeats 8000000 in
set_option maxRecDepth 100000 in
theorem z2E.calls  (r1 : Int) (r2 : Int) (w : World) (h : z2E.f  = some (r1,r2)) :
 Calls Try.prog 66 #[] w fun e w'=>e = .returned (.agg #[.int .u64 r1,.int .u64 r2]) ∧ Below w.heap.size w w':=by
 have hu51:=Try.underlying51
 have HB:=z3.mk (Below.refl w.heap.size w)
 have H : (some (0,1)) = some (r1,r2):=h
 clear h
 simp only [Option.some.injEq,Prod.mk.injEq] at H
 obtain ⟨rfl,rfl⟩:=H
 go_enter Try.func66,Try.ntmps66
 go_wp2_with (first|((with_reducible refine zE (N:=0) rfl ?_);refine zC ?hg (N:=0) ?hd (cs:=#[.int .u64 0,.int .u64 0]) (t:=51) ?hr ?_;(case hd=>rfl);(case hg=>rfl);(case hr=>first|(go_simp;done)|(go_simp;rfl));intro gb101 hg w1 hbox hb;have n0_:=z3.mk (zb (by repeat (first|(with_reducible first|exact HB.out|apply z2|apply z0|apply z1)|exact HB.out)) hb);have n1_:=z3.mk (hbox);have n2_:=z3.mk ((by rw [hg];exact (zc (by repeat (first|(with_reducible first|exact HB.out|apply z2|apply z0|apply z1)|exact HB.out))) : w.heap.size ≤ gb101));have n3_:=z3.mk ((by rw [hg];exact (zc (by repeat (first|(with_reducible first|exact HB.out|apply z2|apply z0|apply z1)|exact HB.out))) : w.heap.size ≤ gb101));clear HB;have HB:=n0_;have BK101:=n1_;have GW101:=n2_;have GE101:=n3_;clear n0_ n1_ n2_ n3_;clear hb hbox hg;have hcz2_0 : w1.cell? ⟨gb101,0,none⟩ = some (.int .u64 0):=(ze BK101.out 0).trans rfl;have hcz2_1 : w1.cell? ⟨gb101,1,none⟩ = some (.int .u64 0):=(ze BK101.out 1).trans rfl;have hfz2_0:=zd BK101.out 0;have hfz2_1:=zd BK101.out 1))
 refine bodyPost_ret (results_cell_row rfl _ _ gb101 51 #[.int .u64 0,.int .u64 1] (0,0) _ rfl (by (with_reducible repeat (first|refine z5 ?_ _|refine z8 ?_|refine z4 ?_ _));refine zN (cs:=#[.int .u64 0,.int .u64 0]) ?_ 1 _ rfl;(with_reducible repeat (first|refine z5 ?_ _|refine z8 ?_|refine z4 ?_ _));refine zN (cs:=#[.int .u64 0,.int .u64 0]) ?_ 0 _ rfl;(with_reducible repeat (first|refine z5 ?_ _|refine z8 ?_|refine z4 ?_ _));exact BK101.out) Try.underlying51 rfl (by kernel_rfl)) rfl ?_
 exact ⟨by first|rfl|(simp [zg,zh] <;> rfl)|(simp [*,zg,zh] <;> rfl),by repeat (first|(with_reducible first|exact HB.out|apply z2|apply z0|apply z1|refine z6 ?_ GE101.out)|exact HB.out)⟩
end Go.Proofs.Ytngcaphdkgihmaa.P
/- Elements of the greatest level, as the program and the document hold them: two words. Own text. -/
namespace Go.Proofs.Ytngcaphdkgihmaa.Sp
open Go.RowKit Go.Proofs.YtngcaphdkgihmaaW.PrintWords Go.Proofs.YtngcaphdkgihmaaW.PrintMore Go.Proofs.Ytngcaphdkgihmaa.P Go.Proofs.Ytngcaphdkgihmaa.Ar Go.Proofs.Ytngcaphdkgihmaa.Tw
set_option linter.unusedVariables false
set_option linter.unusedSimpArgs false
abbrev E := T 7
/-- The higher and the lower word. -/
def hi (x : E) : Int := ((val x.1 : Nat) : Int)
def lo (x : E) : Int := ((val x.2 : Nat) : Int)
def el (h l : Int) : E := mk (of 6 h.toNat) (of 6 l.toNat)
theorem hi_el {h l : Int} (h0 : 0 ≤ h) (h1 : h < 18446744073709551616) : hi (el h l) = h := by
  unfold hi el; rw [z1O, z1F 6 _ (by rw [z3k]; omega)]; omega
theorem lo_el {h l : Int} (h0 : 0 ≤ l) (h1 : l < 18446744073709551616) : lo (el h l) = l := by
  unfold lo el; rw [z1X, z1F 6 _ (by rw [z3k]; omega)]; omega
theorem z4D {x y : E} (h : hi x = hi y) (l : lo x = lo y) : x = y := by
  unfold hi lo at *; exact ext (z2m (by omega)) (z2m (by omega))
theorem z2e : hi 0 = 0 := by unfold hi; rw [z2Y, z1r]; rfl
theorem z2g : lo 0 = 0 := by unfold lo; rw [z2Z, z1r]; rfl
theorem hi_one : hi 1 = 0 := by unfold hi; rw [z3K, z1r]; rfl
theorem lo_one : lo 1 = 1 := by unfold lo; rw [z3L, z2t]; rfl
theorem hi_bd (x : E) : 0 ≤ hi x ∧ hi x < 18446744073709551616 := by
  unfold hi; have := z17 x.1; rw [z3k] at this; omega
theorem z5A (x : E) : 0 ≤ lo x ∧ lo x < 18446744073709551616 := by
  unfold lo; have := z17 x.2; rw [z3k] at this; omega
theorem z3x (x : E) : val x = (hi x).toNat * 18446744073709551616 + (lo x).toNat := by
  unfold hi lo; rw [z1o, z3k]; simp
theorem eq_zero_iff (x : E) : x = 0 ↔ hi x = 0 ∧ lo x = 0 := ⟨fun h => by rw [h]; exact ⟨z2e, z2g⟩, fun h => z4D (h.1.trans z2e.symm) (h.2.trans z2g.symm)⟩
theorem xor_hi (x y : E) : Go.bits .xor .u64 (hi x) (hi y) = hi (x + y) := by
  unfold hi; rw [z1v _ _ (z17 x.1) (z17 y.1), z34, z1q]
theorem xor_lo (x y : E) : Go.bits .xor .u64 (lo x) (lo y) = lo (x + y) := by
  unfold lo; rw [z1v _ _ (z17 x.2) (z17 y.2), z3F, z1q]
/-- Of a level. -/
def InL (l : Nat) (x : E) : Prop := val x < Q l
instance (l : Nat) (x : E) : Decidable (InL l x) := by unfold InL; infer_instance
def OfS (L : Int) (x : E) : Prop := 0 ≤ L ∧ L ≤ 7 ∧ InL L.toNat x
instance (L : Int) (x : E) : Decidable (OfS L x) := by unfold OfS; infer_instance
theorem z5v (x : E) : InL 7 x := z17 x
theorem inL_zero (l : Nat) : InL l 0 := by unfold InL; rw [z1r]; exact z20 l
theorem inL_one (l : Nat) : InL l 1 := by unfold InL; rw [z2t]; exact Nat.lt_of_lt_of_le (by decide : 1 < Q 0) (z2v (Nat.zero_le _))
theorem inL_mono {l m : Nat} (h : l ≤ m) {x : E} (hx : InL l x) : InL m x := Nat.lt_of_lt_of_le hx (z2v h)
theorem inL_add {l : Nat} {x y : E} (hx : InL l x) (hy : InL l y) : InL l (x + y) := by
  unfold InL at *; rw [z1q]; exact z1R hx hy
theorem inL_mul {l : Nat} (hl : l ≤ 7) {x y : E} (hx : InL l x) (hy : InL l y) : InL l (x * y) := by
  unfold InL at *; have := z52 hl hx hy; rwa [z1s, z1s] at this
theorem z5w {x : E} : InL 6 x ↔ hi x = 0 := by
  unfold InL; have h := z3x x; have h1 := hi_bd x; have h2 := z5A x
  rw [z3k, h]; constructor <;> intro g <;> omega
theorem z3H {l : Nat} (hl : l ≤ 6) {x : E} : InL l x ↔ hi x = 0 ∧ (lo x).toNat < Q l := by
  constructor
  · intro h
    have h6 := z5w.1 (inL_mono hl h)
    refine ⟨h6, ?_⟩
    unfold InL at h; rw [z3x, h6] at h; simpa using h
  · rintro ⟨h1, h2⟩
    unfold InL; rw [z3x, h1]; simpa using h2
theorem z5E (L : Int) (x : E) : Ev (fun k => zL.f k L (hi x) (lo x)) (decide (OfS L x)) := by
  unfold zL.f
  by_cases h0 : L < 0
  · refine Ev.pos h0 (Ev.step (fun k => by rw [zL.j0]) (Ev.pos rfl (Ev.ret' ?_)))
    symm; rw [decide_eq_false_iff_not]; rintro ⟨h, _⟩; omega
  refine Ev.neg h0 ?_
  by_cases h7 : L > 7
  · rw [decide_eq_true h7]
    refine Ev.step (fun k => by rw [zL.j0]) (Ev.pos rfl (Ev.ret' ?_))
    symm; rw [decide_eq_false_iff_not]; rintro ⟨_, h, _⟩; omega
  rw [decide_eq_false h7]
  refine Ev.step (fun k => by rw [zL.j0]) (Ev.neg (by decide) ?_)
  obtain ⟨l, rfl⟩ := Int.eq_ofNat_of_zero_le (show 0 ≤ L by omega)
  have hS : OfS (l : Int) x ↔ InL l x := by
    unfold OfS; rw [Int.toNat_natCast]; exact ⟨fun h => h.2.2, fun h => ⟨by omega, by omega, h⟩⟩
  by_cases c7 : (l : Int) = 7
  · refine Ev.pos c7 (Ev.ret' ?_)
    have : l = 7 := by omega
    subst this
    symm; rw [decide_eq_true_eq, hS]; exact z5v x
  refine Ev.neg c7 ?_
  by_cases c6 : (l : Int) = 6
  · refine Ev.pos c6 (Ev.ret' ?_)
    have : l = 6 := by omega
    subst this
    rw [Bool.eq_iff_iff, beq_iff_eq, decide_eq_true_eq, hS]; exact z5w.symm
  refine Ev.neg c6 ?_
  have hl5 : l ≤ 5 := by omega
  have hl := z3H (l := l) (by omega) (x := x)
  by_cases c0 : hi x = 0
  · refine Ev.pos c0 (Ev.pos (Int.natCast_nonneg _) (Ev.ret' ?_))
    have h32 := z1w hl5
    have hlo : lo x = (((lo x).toNat : Nat) : Int) := by have := z5A x; omega
    rw [z2j l (by omega), hlo, z2k _ (2 ^ l) (by omega)]
    rw [Bool.eq_iff_iff, beq_iff_eq, decide_eq_true_eq, hS, hl]
    have hq : (lo x).toNat / 2 ^ 2 ^ l = 0 ↔ (lo x).toNat < Q l := by
      rw [Nat.div_eq_zero_iff]; unfold Q
      have := Nat.two_pow_pos (2 ^ l)
      omega
    constructor
    · intro h; exact ⟨c0, hq.1 (by exact_mod_cast h)⟩
    · rintro ⟨_, h⟩; exact_mod_cast hq.2 h
  · refine Ev.neg c0 (Ev.ret' ?_)
    symm; rw [decide_eq_false_iff_not, hS, hl]; exact fun h => c0 h.1
theorem Add_eq (x y : E) : z1l.f (hi x) (lo x) (hi y) (lo y) = some (hi (x + y), lo (x + y)) := by
  unfold z1l.f; rw [xor_hi, xor_lo]
theorem z3d (x y : E) : zJ.f (hi x) (lo x) (hi y) (lo y) = some (hi (x + y), lo (x + y)) := by
  unfold zJ.f; rw [xor_hi, xor_lo]
theorem One_eq : z2E.f = some (hi 1, lo 1) := by unfold z2E.f; rw [hi_one, lo_one]
theorem Mul_out {L : Int} {x y : E} (h : ¬ (OfS L x ∧ OfS L y)) : Ev (fun k => zV.f k L (hi x) (lo x) (hi y) (lo y)) (0, 0) := by
  unfold zV.f
  refine Ev.bnd (z5E L x) ?_
  by_cases c : OfS L x
  · refine Ev.pos (decide_eq_true c) (Ev.bnd (z5E L y) ?_)
    rw [decide_eq_false (fun g => h ⟨c, g⟩)]
    exact Ev.step (fun k => by rw [zV.j0]) (Ev.pos (by rfl) (Ev.ret _))
  · exact Ev.neg (by simpa using c) (Ev.step (fun k => by rw [zV.j0]) (Ev.pos rfl (Ev.ret _)))
theorem Mul_ev {l : Nat} (hl : l ≤ 7) {x y : E} (hx : InL l x) (hy : InL l y) : Ev (fun k => zV.f k (l : Int) (hi x) (lo x) (hi y) (lo y)) (hi (x * y), lo (x * y)) := by
  unfold zV.f
  have hS : ∀ z, InL l z → OfS (l : Int) z := fun z hz => ⟨by omega, by omega, by rw [Int.toNat_natCast]; exact hz⟩
  refine Ev.bnd (z5E (l : Int) x) (Ev.pos (decide_eq_true (hS x hx)) (Ev.bnd (z5E (l : Int) y) ?_))
  rw [decide_eq_true (hS y hy)]
  refine Ev.step (fun k => by rw [zV.j0]) (Ev.neg (by decide) ?_)
  by_cases c : l ≤ 6
  · refine Ev.pos (by omega) ?_
    have ex := (z3H c).1 hx
    have ey := (z3H c).1 hy
    have e1 : lo x = (((lo x).toNat : Nat) : Int) := by have := z5A x; omega
    have e2 : lo y = (((lo y).toNat : Nat) : Int) := by have := z5A y; omega
    have ev := z4G l c (lo x).toNat (lo y).toNat ex.2 ey.2
    rw [← e1, ← e2] at ev
    refine Ev.bnd ev (Ev.ret' ?_)
    have hz := (z3H c).1 (inL_mul hl hx hy)
    have e3 : lo (x * y) = (((lo (x * y)).toNat : Nat) : Int) := by have := z5A (x * y); omega
    rw [hz.1, e3]
    congr 2
    have vx : val x = (lo x).toNat := by rw [z3x, ex.1]; simp
    have vy : val y = (lo y).toNat := by rw [z3x, ey.1]; simp
    have vz : val (x * y) = (lo (x * y)).toNat := by rw [z3x, hz.1]; simp
    rw [← vz, ← vx, ← vy, ← z2F hl hx hy, z1s, z1s]
  · have : l = 7 := by omega
    subst this
    refine Ev.neg (by decide) ?_
    have v1 := z17 x.1
    have v2 := z17 x.2
    have v3 := z17 y.1
    have v4 := z17 y.2
    have m1 := z4G 6 (by decide) _ _ v1 v3
    have m2 := z4G 6 (by decide) _ _ v2 v4
    have m3 := z4G 6 (by decide) _ _ (z1R v1 v2) (z1R v3 v4)
    rw [z1s, z1s] at m1 m2
    rw [← z1q, ← z1q, z1s, z1s] at m3
    have m4 := z5C 6 (by decide) _ (z17 (x.1 * y.1))
    rw [z1s] at m4
    refine Ev.bnd m1 (Ev.bnd m2 ?_)
    have e1 : Go.bits .xor .u64 (hi x) (lo x) = ((val (x.1 + x.2) : Nat) : Int) := by unfold hi lo; rw [z1v _ _ v1 v2, z1q]
    have e2 : Go.bits .xor .u64 (hi y) (lo y) = ((val (y.1 + y.2) : Nat) : Int) := by unfold hi lo; rw [z1v _ _ v3 v4, z1q]
    simp only [e1, e2]
    refine Ev.bnd m3 (Ev.bnd m4 (Ev.ret' ?_))
    rw [z1v _ _ (z17 _) (z17 _), ← z1q, z1v _ _ (z17 _) (z17 _), ← z1q, z1v _ _ (z17 _) (z17 _), ← z1q, z1v _ _ (z17 _) (z17 _), ← z1q, karatsuba]
    rfl
/-- The program's element, the document's. -/
def toS (x : E) : S51 := ⟨hi x, lo x⟩
def toR (x : E) : S61 := ⟨hi x, lo x⟩
def WfS (e : S51) : Prop := (0 ≤ e.f0 ∧ e.f0 < 18446744073709551616) ∧ (0 ≤ e.f1 ∧ e.f1 < 18446744073709551616)
theorem z4f (x : E) : (toS x).f0 = hi x := rfl
theorem z4g (x : E) : (toS x).f1 = lo x := rfl
theorem z4M (x : E) : (toR x).f0 = hi x := rfl
theorem z4N (x : E) : (toR x).f1 = lo x := rfl
theorem toS_zero : toS 0 = z51 := by unfold toS; rw [z2e, z2g]; rfl
theorem toR_zero : toR 0 = z61 := by unfold toR; rw [z2e, z2g]; rfl
theorem toS_el (e : S51) (h : WfS e) : toS (el e.f0 e.f1) = e := by unfold toS; rw [hi_el h.1.1 h.1.2, lo_el h.2.1 h.2.2]
theorem toS_inj {x y : E} (h : toS x = toS y) : x = y := by
  unfold toS at h; injection h with h1 h2; exact z4D h1 h2
theorem wf_of {e : S51} (h : (Lit.int .u64 e.f0).wf = true ∧ (Lit.int .u64 e.f1).wf = true) : WfS e := ⟨wf_u64 h.1, wf_u64 h.2⟩
/-- A list that came in is a list of elements. -/
theorem list_of (l : List S51) (h : ∀ e ∈ l, ((Lit.int .u64 e.f0).wf = true) ∧ ((Lit.int .u64 e.f1).wf = true)) : ∃ X : List E, l = X.map toS := by
  refine ⟨l.map fun e => el e.f0 e.f1, ?_⟩
  rw [List.map_map]
  conv => lhs; rw [← List.map_id l]
  apply List.map_congr_left
  intro e he
  exact (toS_el e (wf_of (h e he))).symm
theorem elem_of (e : S51) (h : ((Lit.int .u64 e.f0).wf = true) ∧ ((Lit.int .u64 e.f1).wf = true)) : ∃ x : E, e = toS x := ⟨_, (toS_el e (wf_of h)).symm⟩
theorem rdS (X : List E) (i : Nat) : zx (X.map toS) (i : Int) = toS (X.getD i 0) := by
  unfold zx; rw [Int.toNat_natCast, ← toS_zero, List.getD_eq_getElem?_getD, List.getD_eq_getElem?_getD, List.getElem?_map]
  cases X[i]? <;> rfl
theorem rdR (X : List E) (i : Nat) : z12 (X.map toR) (i : Int) = toR (X.getD i 0) := by
  unfold z12; rw [Int.toNat_natCast, ← toR_zero, List.getD_eq_getElem?_getD, List.getD_eq_getElem?_getD, List.getElem?_map]
  cases X[i]? <;> rfl
end Go.Proofs.Ytngcaphdkgihmaa.Sp
/- Small numbers laid side by side in a great one. Own text, plain. -/
namespace Go.Proofs.Ytngcaphdkgihmaa.Sp
open Go.RowKit Go.Proofs.YtngcaphdkgihmaaW.PrintWords Go.Proofs.YtngcaphdkgihmaaW.PrintMore Go.Proofs.Ytngcaphdkgihmaa.P Go.Proofs.Ytngcaphdkgihmaa.Ar Go.Proofs.Ytngcaphdkgihmaa.Tw
set_option linter.unusedVariables false
set_option linter.unusedSimpArgs false
/-- The first k of numbers of b bits, side by side. -/
def gv (f : Nat → Nat) (b : Nat) : Nat → Nat
  | 0 => 0
  | k + 1 => gv f b k + f k * 2 ^ (b * k)
theorem z4m {f : Nat → Nat} {b : Nat} : ∀ k, (∀ j, j < k → f j < 2 ^ b) → gv f b k < 2 ^ (b * k)
  | 0, _ => by simp [gv]
  | k + 1, h => by
    have h1 := z4m k (fun j hj => h j (by omega))
    have h2 := h k (by omega)
    show gv f b k + f k * 2 ^ (b * k) < 2 ^ (b * (k + 1))
    rw [Nat.mul_succ, Nat.pow_add, Nat.mul_comm (2 ^ (b * k))]
    have h3 : (f k + 1) * 2 ^ (b * k) ≤ 2 ^ b * 2 ^ (b * k) := Nat.mul_le_mul_right _ h2
    rw [Nat.add_mul, Nat.one_mul] at h3
    omega
theorem z5t {f : Nat → Nat} {b : Nat} (hb : 0 < b) : ∀ k, (∀ j, j < k → f j < 2 ^ b) → ∀ n, n < b * k → (gv f b k).testBit n = (f (n / b)).testBit (n % b)
  | 0, _, n, hn => by simp at hn
  | k + 1, h, n, hn => by
    have h1 := z4m k (fun j hj => h j (by omega))
    show (gv f b k + f k * 2 ^ (b * k)).testBit n = _
    rw [Nat.add_comm, Nat.mul_comm (f k), Nat.testBit_two_pow_mul_add _ h1]
    by_cases c : n < b * k
    · rw [if_pos c]; exact z5t hb k (fun j hj => h j (by omega)) n c
    · rw [if_neg c]
      have hq : n / b = k := by
        rw [Nat.div_eq_of_lt_le]
        · rw [Nat.mul_comm]; omega
        · rw [Nat.mul_comm]; exact hn
      have hr : n % b = n - b * k := by
        have := Nat.div_add_mod n b
        rw [hq] at this; omega
      rw [hq, hr]
theorem gv_get {f : Nat → Nat} {b : Nat} (hb : 0 < b) {k : Nat} (h : ∀ j, j < k → f j < 2 ^ b) {j : Nat} (hj : j < k) : gv f b k / 2 ^ (b * j) % 2 ^ b = f j := by
  apply Nat.eq_of_testBit_eq
  intro i
  rw [Nat.testBit_mod_two_pow, Nat.testBit_div_two_pow]
  by_cases c : i < b
  · have hlt : i + b * j < b * k := by
      have : b * (j + 1) ≤ b * k := Nat.mul_le_mul_left _ hj
      rw [Nat.mul_succ] at this; omega
    rw [z5t hb k h _ hlt, Nat.add_mul_div_left _ _ hb, Nat.add_mul_mod_self_left, Nat.div_eq_of_lt c, Nat.mod_eq_of_lt c, Nat.zero_add]
    simp [c]
  · have : (f j).testBit i = false := Nat.testBit_lt_two_pow (Nat.lt_of_lt_of_le (h j hj) (Nat.pow_le_pow_right (by decide) (by omega)))
    simp [c, this]
theorem z4B {f g : Nat → Nat} {b : Nat} : ∀ k, (∀ j, j < k → f j = g j) → gv f b k = gv g b k
  | 0, _ => rfl
  | k + 1, h => by
    show gv f b k + f k * 2 ^ (b * k) = gv g b k + g k * 2 ^ (b * k)
    rw [z4B k (fun j hj => h j (by omega)), h k (by omega)]
theorem z4C (v b : Nat) (hb : 0 < b) : ∀ k, gv (fun k => v / 2 ^ (b * k) % 2 ^ b) b k = v % 2 ^ (b * k)
  | 0 => by simp [gv, Nat.mod_one]
  | k + 1 => by
    show gv _ b k + v / 2 ^ (b * k) % 2 ^ b * 2 ^ (b * k) = _
    rw [z4C v b hb k, Nat.mul_succ, Nat.pow_add, Nat.mod_mul, Nat.mul_comm (2 ^ (b * k))]
theorem hi_of {v : Nat} (h : v < 2 ^ 128) : hi (of 7 v) = ((v / 2 ^ 64 : Nat) : Int) := by
  unfold hi; rw [z1D, z1O, z1F 6 _ (by rw [z3k]; omega), z3k]
theorem lo_of {v : Nat} (h : v < 2 ^ 128) : lo (of 7 v) = ((v % 2 ^ 64 : Nat) : Int) := by
  unfold lo; rw [z1D, z1X, z1F 6 _ (by rw [z3k]; omega), z3k]
theorem z2n {v : Nat} (h : v < 2 ^ 128) : val (of 7 v) = v := z1F 7 v (by rw [z33]; exact h)
theorem z3g (x : E) : val x < 2 ^ 128 := by have := z17 x; rwa [z33] at this
theorem val_h (x : E) : val x.1 = val x / 2 ^ 64 := by rw [← z5T x]; rfl
theorem val_l (x : E) : val x.2 = val x % 2 ^ 64 := by rw [← z5U x]; rfl
theorem hi_v (x : E) : hi x = ((val x / 2 ^ 64 : Nat) : Int) := by unfold hi; rw [val_h]
theorem lo_v (x : E) : lo x = ((val x % 2 ^ 64 : Nat) : Int) := by unfold lo; rw [val_l]
theorem shlu (a w : Nat) (h : w ≤ 64) : shl .u64 (a : Int) (w : Int) = ((a * 2 ^ w % 2 ^ 64 : Nat) : Int) := by
  unfold shl
  have h64 : IntKind.u64.bits = 64 := rfl
  rw [h64, Int.toNat_natCast, Nat.min_eq_left h]
  have hc : (a : Int) * 2 ^ w = ((a * 2 ^ w : Nat) : Int) := by simp
  rw [hc]
  generalize a * 2 ^ w = p
  simp [IntKind.wrap, IntKind.bits, IntKind.signed]
theorem shli (a w : Nat) (h : w ≤ 62) (hp : a * 2 ^ w ≤ 4611686018427387904) : shl .i64 (a : Int) (w : Int) = ((a * 2 ^ w : Nat) : Int) := by
  unfold shl
  have h64 : IntKind.i64.bits = 64 := rfl
  rw [h64, Int.toNat_natCast, Nat.min_eq_left (by omega)]
  have hc : (a : Int) * 2 ^ w = ((a * 2 ^ w : Nat) : Int) := by simp
  rw [hc]
  generalize a * 2 ^ w = p at hp
  exact z5u (by omega) (by omega)
theorem split64 (v : Nat) : v = 2 ^ 64 * (v / 2 ^ 64) + v % 2 ^ 64 := (Nat.div_add_mod v (2 ^ 64)).symm
/-- So many bits higher. -/
theorem up_hi (v n : Nat) (hn : n < 64) (h : v * 2 ^ n < 2 ^ 128) : (v / 2 ^ 64 * 2 ^ n % 2 ^ 64) ||| (v % 2 ^ 64 / 2 ^ (64 - n)) = v * 2 ^ n / 2 ^ 64 := by
  apply Nat.eq_of_testBit_eq
  intro i
  rw [Nat.testBit_or, Nat.testBit_mod_two_pow, Nat.testBit_mul_two_pow, Nat.testBit_div_two_pow, Nat.testBit_div_two_pow, Nat.testBit_mod_two_pow, Nat.testBit_div_two_pow, Nat.testBit_mul_two_pow]
  by_cases c : i < 64
  · by_cases d : n ≤ i
    · have e1 : ¬ (i + (64 - n) < 64) := by omega
      have e2 : n ≤ i + 64 := by omega
      have e3 : i - n + 64 = i + 64 - n := by omega
      simp [c, d, e1, e2, e3]
    · have e1 : i + (64 - n) < 64 := by omega
      have e2 : n ≤ i + 64 := by omega
      have e3 : i + (64 - n) = i + 64 - n := by omega
      have e4 : i + 64 - n < 64 := by omega
      simp [c, d, e1, e2, e3, e4]
  · have e1 : ¬ (i + (64 - n) < 64) := by omega
    have hbit : (v * 2 ^ n).testBit (i + 64) = false := Nat.testBit_lt_two_pow (Nat.lt_of_lt_of_le h (Nat.pow_le_pow_right (by decide) (by omega)))
    rw [Nat.testBit_mul_two_pow] at hbit
    simp [c, e1]
    simpa using hbit
theorem up_eq (x : E) (n : Nat) (hn : n < 128) (h : val x * 2 ^ n < 2 ^ 128) : z1c.f (hi x) (lo x) (n : Int) = some (hi (of 7 (val x * 2 ^ n)), lo (of 7 (val x * 2 ^ n))) := by
  unfold z1c.f
  rw [hi_of h, lo_of h]
  by_cases c0 : (n : Int) = 0
  · rw [if_pos c0, hi_v, lo_v]
    have : n = 0 := by omega
    subst this
    simp
  rw [if_neg c0]
  by_cases c : (n : Int) ≥ 64
  · have e : wrap64 ((n : Int) - 64) = ((n - 64 : Nat) : Int) := by rw [z1Q (by omega) (by omega)]; omega
    rw [if_pos c, e, if_pos (Int.natCast_nonneg _), lo_v, shlu _ _ (by omega)]
    have hsmall : val x < 2 ^ 64 := by
      rcases Nat.lt_or_ge (val x) (2 ^ 64) with g | g
      · exact g
      · exfalso
        have h1 : 2 ^ 64 * 2 ^ 64 ≤ val x * 2 ^ n := Nat.mul_le_mul g (Nat.pow_le_pow_right (by decide) (by omega))
        have : (2 : Nat) ^ 64 * 2 ^ 64 = 2 ^ 128 := by decide
        omega
    have hpn : 2 ^ n = 2 ^ (n - 64) * 2 ^ 64 := by rw [← Nat.pow_add]; congr 1; omega
    rw [Nat.mod_eq_of_lt hsmall]
    have e2 : val x * 2 ^ n = val x * 2 ^ (n - 64) * 2 ^ 64 := by rw [hpn, Nat.mul_assoc]
    rw [e2] at h ⊢
    have h4 : val x * 2 ^ (n - 64) < 2 ^ 64 := by
      have : (2 : Nat) ^ 128 = 2 ^ 64 * 2 ^ 64 := by decide
      rw [this] at h
      exact Nat.lt_of_mul_lt_mul_right h
    rw [Nat.mod_eq_of_lt h4, Nat.mul_mod_left, Nat.mul_div_cancel _ (Nat.two_pow_pos 64)]
    rfl
  · have e : wrap64 (64 - (n : Int)) = ((64 - n : Nat) : Int) := by rw [z1Q (by omega) (by omega)]; omega
    rw [if_neg c, if_pos (Int.natCast_nonneg _), e, if_pos (Int.natCast_nonneg _), hi_v, lo_v, shlu _ _ (by omega), shlu _ _ (by omega), z2k _ _ (by omega)]
    rw [z3v _ _ (Nat.mod_lt _ (Nat.two_pow_pos 64)) (Nat.lt_of_le_of_lt (Nat.div_le_self _ _) (Nat.mod_lt _ (Nat.two_pow_pos 64))), up_hi _ _ (by omega) h, Nat.mod_mul_mod]
/-- So many bits lower. -/
theorem down_lo (v n : Nat) (hn : n < 64) : (v % 2 ^ 64 / 2 ^ n) ||| (v / 2 ^ 64 * 2 ^ (64 - n) % 2 ^ 64) = v / 2 ^ n % 2 ^ 64 := by
  apply Nat.eq_of_testBit_eq
  intro i
  rw [Nat.testBit_or, Nat.testBit_mod_two_pow, Nat.testBit_mul_two_pow, Nat.testBit_div_two_pow, Nat.testBit_div_two_pow, Nat.testBit_mod_two_pow, Nat.testBit_mod_two_pow, Nat.testBit_div_two_pow]
  by_cases c : i < 64
  · by_cases d : i + n < 64
    · have e1 : ¬ (64 - n ≤ i) := by omega
      simp [c, d, e1]
    · have e1 : 64 - n ≤ i := by omega
      have e3 : i - (64 - n) + 64 = i + n := by omega
      simp [c, d, e1, e3]
  · have d : ¬ (i + n < 64) := by omega
    simp [c, d]
theorem down_eq (x : E) (n : Nat) (hn : n < 128) : z1d.f (hi x) (lo x) (n : Int) = some (hi (of 7 (val x / 2 ^ n)), lo (of 7 (val x / 2 ^ n))) := by
  have hv := z3g x
  have h : val x / 2 ^ n < 2 ^ 128 := Nat.lt_of_le_of_lt (Nat.div_le_self _ _) hv
  unfold z1d.f
  rw [hi_of h, lo_of h]
  by_cases c0 : (n : Int) = 0
  · rw [if_pos c0, hi_v, lo_v]
    have : n = 0 := by omega
    subst this
    simp
  rw [if_neg c0]
  by_cases c : (n : Int) ≥ 64
  · have e : wrap64 ((n : Int) - 64) = ((n - 64 : Nat) : Int) := by rw [z1Q (by omega) (by omega)]; omega
    rw [if_pos c, e, if_pos (Int.natCast_nonneg _), hi_v, z2k _ _ (by omega), Nat.div_div_eq_div_mul, ← Nat.pow_add, show 64 + (n - 64) = n by omega]
    have h64 : val x / 2 ^ n < 2 ^ 64 := by
      have hpn : 2 ^ 64 ≤ 2 ^ n := Nat.pow_le_pow_right (by decide) (by omega)
      have h1 : val x / 2 ^ n ≤ val x / 2 ^ 64 := Nat.div_le_div_left hpn (Nat.two_pow_pos 64)
      omega
    rw [Nat.div_eq_of_lt h64, Nat.mod_eq_of_lt h64]
    rfl
  · have e : wrap64 (64 - (n : Int)) = ((64 - n : Nat) : Int) := by rw [z1Q (by omega) (by omega)]; omega
    rw [if_neg c, if_pos (Int.natCast_nonneg _), e, if_pos (Int.natCast_nonneg _), hi_v, lo_v, shlu _ _ (by omega), z2k _ _ (by omega), z2k _ _ (by omega)]
    rw [z3v _ _ (Nat.lt_of_le_of_lt (Nat.div_le_self _ _) (Nat.mod_lt _ (Nat.two_pow_pos 64))) (Nat.mod_lt _ (Nat.two_pow_pos 64)), down_lo _ _ (by omega), Nat.div_div_eq_div_mul, Nat.div_div_eq_div_mul, Nat.mul_comm (2 ^ 64)]
theorem cut_eq (l : Nat) (hl : l ≤ 7) (x : E) : z1g.f (l : Int) (hi x) (lo x) = some (hi (of 7 (val x % 2 ^ 2 ^ l)), lo (of 7 (val x % 2 ^ 2 ^ l))) := by
  have hv := z3g x
  have h : val x % 2 ^ 2 ^ l < 2 ^ 128 := Nat.lt_of_le_of_lt (Nat.mod_le _ _) hv
  unfold z1g.f
  by_cases c7 : (l : Int) = 7
  · have : l = 7 := by omega
    subst this
    rw [if_pos c7, Nat.mod_eq_of_lt (show val x < 2 ^ 2 ^ 7 from hv), z1s]
  rw [if_neg c7, hi_of h, lo_of h]
  by_cases c6 : (l : Int) = 6
  · have : l = 6 := by omega
    subst this
    rw [if_pos c6, lo_v]
    have e : (2 : Nat) ^ 2 ^ 6 = 2 ^ 64 := rfl
    rw [e, Nat.div_eq_of_lt (Nat.mod_lt _ (Nat.two_pow_pos 64)), Nat.mod_mod]
    rfl
  · have h32 := z1w (n := l) (by omega)
    have hq : 2 ^ 2 ^ l ≤ 2 ^ 32 := Nat.pow_le_pow_right (by decide) h32
    have hq0 := Nat.two_pow_pos (2 ^ l)
    have hr := Nat.mod_lt (val x) hq0
    have e2 : (2 : Nat) ^ 32 < 2 ^ 64 := by decide
    rw [if_neg c6, if_pos (Int.natCast_nonneg _), z2j l (by omega), z2j (2 ^ l) (by omega)]
    have e1 : IntKind.u64.wrap (((2 ^ 2 ^ l : Nat) : Int) - 1) = ((2 ^ 2 ^ l - 1 : Nat) : Int) := by rw [z24 (by omega) (by omega)]; omega
    rw [e1, lo_v, z1N _ _ (Nat.mod_lt _ (Nat.two_pow_pos 64)) (by omega), Nat.and_two_pow_sub_one_eq_mod, Nat.mod_mod_of_dvd _ (Nat.pow_dvd_pow 2 (by omega)), Nat.div_eq_of_lt (by omega), Nat.mod_eq_of_lt (show val x % 2 ^ 2 ^ l < 2 ^ 64 by omega)]
    rfl
end Go.Proofs.Ytngcaphdkgihmaa.Sp
/- Lists of elements: which are of a level, the same ones, the document's. Own text. -/
namespace Go.Proofs.Ytngcaphdkgihmaa.Sp
open Go.RowKit Go.Proofs.YtngcaphdkgihmaaW.PrintWords Go.Proofs.YtngcaphdkgihmaaW.PrintMore Go.Proofs.Ytngcaphdkgihmaa.P Go.Proofs.Ytngcaphdkgihmaa.Ar Go.Proofs.Ytngcaphdkgihmaa.Tw
set_option linter.unusedVariables false
set_option linter.unusedSimpArgs false
/-- Is there such a level? -/
def LvS (L : Int) : Prop := 0 ≤ L ∧ L ≤ 7
instance (L : Int) : Decidable (LvS L) := by unfold LvS; infer_instance
theorem z4O {L : Int} (h : ¬ LvS L) : Ev (fun k => zF.f k L) 0 := by
  unfold zF.f
  by_cases h0 : L < 0
  · exact Ev.pos h0 (Ev.step (fun k => by rw [zF.j0]) (Ev.pos rfl (Ev.ret _)))
  · rw [decide_eq_true (show L > 7 by unfold LvS at h; omega)]
    exact Ev.neg h0 (Ev.step (fun k => by rw [zF.j0]) (Ev.pos rfl (Ev.ret _)))
theorem z5W {L : Int} (h : LvS L) : ∃ v, v ≠ 0 ∧ Ev (fun k => zF.f k L) v := by
  obtain ⟨h0, h7⟩ := h
  obtain ⟨l, rfl⟩ := Int.eq_ofNat_of_zero_le h0
  have hstep : ∀ v, Ev (fun k => zF.j0 k (l : Int) false) v → Ev (fun k => zF.f k (l : Int)) v := by
    intro v hv
    unfold zF.f
    rw [decide_eq_false (show ¬ ((l : Int) > 7) by omega)]
    exact Ev.neg (by omega) hv
  by_cases c : (l : Int) ≤ 3
  · exact ⟨1, by decide, hstep 1 (Ev.step (fun k => by rw [zF.j0]) (Ev.neg (by decide) (Ev.pos c (Ev.ret _))))⟩
  · have e : wrap64 ((l : Int) - 3) = ((l - 3 : Nat) : Int) := by rw [z1Q (by omega) (by omega)]; omega
    refine ⟨((2 ^ (l - 3) : Nat) : Int), by have := Nat.two_pow_pos (l - 3); omega, hstep _ (Ev.step (fun k => by rw [zF.j0]) (Ev.neg (by decide) (Ev.neg c ?_)))⟩
    rw [e]
    exact Ev.pos (Int.natCast_nonneg _) (Ev.ret' (z3S (l - 3) (by omega)))
theorem rdL (l : Nat) (h : l ≤ 7) : rd ([1, 2, 4, 8, 16, 32, 64, 128] : List Int) (l : Int) = ((2 ^ l : Nat) : Int) := by
  have : ∀ m, m ≤ 7 → rd ([1, 2, 4, 8, 16, 32, 64, 128] : List Int) ((m : Nat) : Int) = ((2 ^ m : Nat) : Int) := by decide
  exact this l h
theorem z36 (a n : Nat) (ha : a < 2 ^ 64) (hn : n ≤ 64) : Go.bits .and .u64 (shr .u64 (a : Int) (n : Int)) 1 = if a.testBit n then 1 else 0 := by
  rw [z2k a n hn]
  have hd : a / 2 ^ n < 2 ^ 64 := Nat.lt_of_le_of_lt (Nat.div_le_self _ _) ha
  rw [show (1 : Int) = ((1 : Nat) : Int) from rfl, z1N _ 1 hd (by decide), Nat.and_one_is_mod, Nat.testBit_eq_decide_div_mod_eq]
  by_cases c : a / 2 ^ n % 2 = 1
  · rw [c]; simp
  · rw [show a / 2 ^ n % 2 = 0 by omega]; simp
theorem z5N (x : E) (n : Nat) (hn : n < 128) : z1k.f (hi x) (lo x) (n : Int) = some (if (val x).testBit n then 1 else 0) := by
  have hx1 := z17 x.1
  have hx2 := z17 x.2
  have hQ : Q 6 = 2 ^ 64 := rfl
  rw [hQ] at hx1 hx2
  have hv : val x = 2 ^ 64 * val x.1 + val x.2 := by rw [z1o, hQ, Nat.mul_comm]
  unfold z1k.f
  rw [hv, Nat.testBit_two_pow_mul_add _ hx2]
  unfold hi lo
  by_cases c : n < 64
  · have e : IntKind.u64.wrap (n : Int) = (n : Int) := z24 (by omega) (by omega)
    rw [if_neg (by omega), e, if_pos (Int.natCast_nonneg _), z36 _ _ hx2 (by omega), if_pos c]
  · have e : IntKind.u64.wrap (wrap64 ((n : Int) - 64)) = ((n - 64 : Nat) : Int) := by
      rw [z1Q (by omega) (by omega), z24 (by omega) (by omega)]; omega
    rw [if_pos (by omega), e, if_pos (Int.natCast_nonneg _), z36 _ _ hx1 (by omega), if_neg c]
theorem refOf_l0 (x : E) : ∀ (d n : Nat), n + d = 128 → Ev (fun k => zu.l0 k (n : Int) (hi x) (lo x)) (decide (val x < 2 ^ n)) := by
  intro d
  induction d with
  | zero =>
    intro n hn
    have : n = 128 := by omega
    subst this
    have := z17 x; rw [z33] at this
    rw [decide_eq_true this]
    exact Ev.step (fun k => by rw [zu.l0]) (Ev.neg (by decide) (Ev.ret _))
  | succ d ih =>
    intro n hn
    have hn' : n < 128 := by omega
    refine Ev.step (fun k => by rw [zu.l0]) (Ev.pos (by omega) (Ev.bnd0 (z5N x n hn') ?_))
    simp only [z1x hn' (show 128 ≤ 4611686018427387904 by decide)]
    cases c : (val x).testBit n with
    | true =>
      refine Ev.pos (by simp) (Ev.ret' ?_)
      symm; rw [decide_eq_false_iff_not]
      intro h; rw [Nat.testBit_lt_two_pow h] at c; cases c
    | false =>
      refine Ev.neg (by simp) ?_
      have hih := ih (n + 1) (by omega)
      have e : decide (val x < 2 ^ (n + 1)) = decide (val x < 2 ^ n) := by
        rw [decide_eq_decide]
        constructor
        · intro h
          apply Nat.lt_pow_two_of_testBit
          intro i hi
          by_cases e : i = n
          · rw [e]; exact c
          · exact Nat.testBit_lt_two_pow (Nat.lt_of_lt_of_le h (Nat.pow_le_pow_right (by decide) (by omega)))
        · intro h; exact Nat.lt_of_lt_of_le h (Nat.pow_le_pow_right (by decide) (by omega))
      rw [← e]; exact hih
theorem refOf_ev (L : Int) (x : E) : Ev (fun k => zu.f k L (hi x) (lo x)) (decide (OfS L x)) := by
  unfold zu.f
  refine Ev.bnd0 (a := ([1, 2, 4, 8, 16, 32, 64, 128] : List Int)) rfl ?_
  by_cases h0 : L < 0
  · refine Ev.pos h0 (Ev.step (fun k => by rw [zu.j0]) (Ev.pos rfl (Ev.ret' ?_)))
    symm; rw [decide_eq_false_iff_not]; rintro ⟨h, _⟩; omega
  refine Ev.neg h0 ?_
  by_cases h7 : L > 7
  · rw [decide_eq_true h7]
    refine Ev.step (fun k => by rw [zu.j0]) (Ev.pos rfl (Ev.ret' ?_))
    symm; rw [decide_eq_false_iff_not]; rintro ⟨_, h, _⟩; omega
  rw [decide_eq_false h7]
  obtain ⟨l, rfl⟩ := Int.eq_ofNat_of_zero_le (show 0 ≤ L by omega)
  refine Ev.step (fun k => by rw [zu.j0]) (Ev.neg (by decide) (Ev.pos (Int.natCast_nonneg _) (Ev.pos (by simp; omega) ?_)))
  rw [rdL l (by omega)]
  have hp : 2 ^ l ≤ 128 := Nat.pow_le_pow_right (n := 2) (by decide) (show l ≤ 7 by omega)
  have := refOf_l0 x (128 - 2 ^ l) (2 ^ l) (by omega)
  have e : decide (val x < 2 ^ 2 ^ l) = decide (OfS (l : Int) x) := by
    rw [decide_eq_decide]; unfold OfS InL Q; rw [Int.toNat_natCast]
    exact ⟨fun h => ⟨by omega, by omega, h⟩, fun h => h.2.2⟩
  rw [← e]; exact this
/-- All of a level. -/
def AllS (L : Int) (X : List E) : Prop := ∀ x ∈ X, OfS L x
instance (L : Int) (X : List E) : Decidable (AllS L X) := by unfold AllS; infer_instance
theorem z5c {L : Int} {X : List E} {i : Nat} (h : i < X.length) : AllS L (X.drop i) ↔ OfS L (X.getD i 0) ∧ AllS L (X.drop (i + 1)) := by
  rw [List.drop_eq_getElem_cons h]
  have : X.getD i 0 = X[i] := by rw [List.getD_eq_getElem?_getD, List.getElem?_eq_getElem h]; rfl
  rw [this]
  exact List.forall_mem_cons
theorem All_l0 (L : Int) (X : List E) (hX : X.length ≤ 1000000) : ∀ (d i : Nat), i + d = X.length → Ev (fun k => zo.l0 k L (X.map toR) (i : Int)) (decide (AllS L (X.drop i))) := by
  intro d
  induction d with
  | zero =>
    intro i hi
    refine Ev.step (fun k => by rw [zo.l0]) (Ev.neg (by rw [List.length_map]; omega) (Ev.ret' ?_))
    symm; rw [decide_eq_true_eq, List.drop_eq_nil_of_le (by omega)]
    intro x hx; cases hx
  | succ d ih =>
    intro i hi
    have hi' : i < X.length := by omega
    refine Ev.step (fun k => by rw [zo.l0]) (Ev.pos (by rw [List.length_map]; omega) (Ev.pos (Int.natCast_nonneg _) ?_))
    simp only [rdR, z4M, z4N, z1x hi' (show X.length ≤ 4611686018427387904 by omega)]
    refine Ev.bnd (refOf_ev L _) ?_
    have hd := z5c (L := L) hi'
    by_cases c : OfS L (X.getD i 0)
    · refine Ev.pos (decide_eq_true c) ((ih (i + 1) (by omega)).eqn ?_)
      rw [decide_eq_decide, hd]; exact ⟨fun h => ⟨c, h⟩, fun h => h.2⟩
    · refine Ev.neg (by simpa using c) (Ev.ret' ?_)
      symm; rw [decide_eq_false_iff_not, hd]; exact fun h => c h.1
theorem All_ev (L : Int) (X : List E) (hX : X.length ≤ 1000000) : Ev (fun k => zo.f k L (X.map toR)) (decide (AllS L X)) := All_l0 L X hX X.length 0 (by omega)
theorem z3J {α β : Type} (f : α → β) (X : List α) (d : α) (i : Nat) (h : i < X.length) : (X.take (i + 1)).map f = (X.take i).map f ++ [f (X.getD i d)] := by
  rw [List.take_succ_eq_append_getElem h, List.map_append]
  have : X.getD i d = X[i] := by rw [List.getD_eq_getElem?_getD, List.getElem?_eq_getElem h]; rfl
  rw [this]; rfl
theorem Ref_l0 (X : List E) (hX : X.length ≤ 1000000) : ∀ (d i : Nat), i + d = X.length → Ev (fun k => zq.l0 k (X.map toS) ((X.take i).map toR) (i : Int)) (X.map toR) := by
  intro d
  induction d with
  | zero =>
    intro i hi
    refine Ev.step (fun k => by rw [zq.l0]) (Ev.neg (by rw [List.length_map]; omega) (Ev.ret' ?_))
    rw [List.take_of_length_le (by omega)]
  | succ d ih =>
    intro i hi
    have hi' : i < X.length := by omega
    refine Ev.step (fun k => by rw [zq.l0]) (Ev.pos (by rw [List.length_map]; omega) (Ev.pos (Int.natCast_nonneg _) (Ev.pos (by rw [List.length_map, List.length_take]; omega) ?_)))
    simp only [rdS, z4f, z4g, z1x hi' (show X.length ≤ 4611686018427387904 by omega)]
    have hih := ih (i + 1) (by omega)
    rw [z3J toR X 0 i hi'] at hih
    exact hih
theorem z4u (X : List E) (hX : X.length ≤ 1000000) : Ev (fun k => zq.f k (X.map toS)) (X.map toR) := Ref_l0 X hX X.length 0 (by omega)
theorem Same_l0 (X Y : List E) (hl : X.length = Y.length) (hX : X.length ≤ 1000000) : ∀ (d i : Nat), i + d = X.length → (∀ j, j < i → X.getD j 0 = Y.getD j 0) → Ev (fun k => zf.l0 k (X.map toS) (Y.map toR) (i : Int)) (decide (X = Y)) := by
  intro d
  induction d with
  | zero =>
    intro i hi h
    refine Ev.step (fun k => by rw [zf.l0]) (Ev.neg (by rw [List.length_map]; omega) (Ev.ret' ?_))
    symm; rw [decide_eq_true_eq]
    apply List.ext_getElem hl
    intro j h1 h2
    have := h j (by omega)
    simpa [List.getD_eq_getElem?_getD, h1, h2] using this
  | succ d ih =>
    intro i hid h
    have hi' : i < X.length := by omega
    refine Ev.step (fun k => by rw [zf.l0]) (Ev.pos (by rw [List.length_map]; omega) (Ev.pos (Int.natCast_nonneg _) (Ev.pos (by rw [List.length_map]; omega) ?_)))
    simp only [rdS, rdR, z4f, z4g, z4M, z4N, z1x hi' (show X.length ≤ 4611686018427387904 by omega)]
    by_cases c : X.getD i 0 = Y.getD i 0
    · refine Ev.neg (by rw [c]; simp) (ih (i + 1) (by omega) (fun j hj => ?_))
      by_cases e : j = i
      · rw [e]; exact c
      · exact h j (by omega)
    · refine Ev.pos ?_ (Ev.ret' ?_)
      · simp only [Bool.or_eq_true, Bool.not_eq_true', beq_eq_false_iff_ne]
        by_cases e : hi (X.getD i 0) = hi (Y.getD i 0)
        · right; intro e2; exact c (z4D e e2)
        · left; exact e
      · symm; rw [decide_eq_false_iff_not]
        rintro rfl; exact c rfl
theorem z3E (X Y : List E) (hX : X.length ≤ 1000000) : Ev (fun k => zf.f k (X.map toS) (Y.map toR)) (decide (X = Y)) := by
  unfold zf.f
  by_cases h : X.length = Y.length
  · exact Ev.pos (by rw [List.length_map, List.length_map]; omega) (Same_l0 X Y h hX X.length 0 (by omega) (fun j hj => by omega))
  · refine Ev.neg (by rw [List.length_map, List.length_map]; omega) (Ev.ret' ?_)
    symm; rw [decide_eq_false_iff_not]
    rintro rfl; exact h rfl
/-- The same element? as the program asks. -/
theorem eq_pair (x y : E) : (hi x == hi y && (lo x == lo y)) = decide (x = y) := by
  rw [Bool.eq_iff_iff, Bool.and_eq_true, beq_iff_eq, beq_iff_eq, decide_eq_true_eq]
  exact ⟨fun h => z4D h.1 h.2, fun h => by rw [h]; exact ⟨rfl, rfl⟩⟩
theorem eq_none (x : E) : (hi x == 0 && (lo x == 0)) = decide (x = 0) := by
  rw [← eq_pair, z2e, z2g]
end Go.Proofs.Ytngcaphdkgihmaa.Sp
/- Small elements gathered into great ones, and scattered: the program's way. Own text. -/
namespace Go.Proofs.Ytngcaphdkgihmaa.Sp
open Go.RowKit Go.Proofs.YtngcaphdkgihmaaW.PrintWords Go.Proofs.YtngcaphdkgihmaaW.PrintMore Go.Proofs.Ytngcaphdkgihmaa.P Go.Proofs.Ytngcaphdkgihmaa.Ar Go.Proofs.Ytngcaphdkgihmaa.Tw
set_option linter.unusedVariables false
set_option linter.unusedSimpArgs false
theorem z2u (L : Int) : ∀ (X : List E), Ev (fun k => zM.f k L (X.map toS)) (decide (AllS L X))
  | [] => by refine Ev.ret' ?_; symm; rw [decide_eq_true_eq]; intro x hx; cases hx
  | x :: xs => by
    show Ev (fun k => (zL.f k L (toS x).f0 (toS x).f1).bind fun b => if b = true then zM.all k L (xs.map toS) else some false) _
    refine Ev.bnd (z5E L x) ?_
    have hd : AllS L (x :: xs) ↔ OfS L x ∧ AllS L xs := List.forall_mem_cons
    by_cases c : OfS L x
    · refine Ev.pos (decide_eq_true c) ((z2u L xs).eqn ?_)
      rw [decide_eq_decide, hd]; exact ⟨fun h => ⟨c, h⟩, fun h => h.2⟩
    · refine Ev.neg (by simpa using c) (Ev.ret' ?_)
      symm; rw [decide_eq_false_iff_not, hd]; exact fun h => c h.1
/-- Two levels, one not above the other. -/
def LvTwo (F T : Int) : Prop := LvS F ∧ LvS T ∧ F ≤ T
instance (F T : Int) : Decidable (LvTwo F T) := by unfold LvTwo; infer_instance
theorem z2U (F T : Int) : Ev (fun k => z11.f k F T) (if LvTwo F T then 0 else 1) := by
  unfold z11.f
  by_cases g : LvS F
  · obtain ⟨v, hv, hw⟩ := z5W g
    refine Ev.bnd hw (Ev.neg hv ?_)
    by_cases g2 : LvS T
    · obtain ⟨v2, hv2, hw2⟩ := z5W g2
      refine Ev.bnd hw2 (Ev.neg hv2 ?_)
      by_cases g3 : T < F
      · rw [if_neg (fun h : LvTwo F T => by have := h.2.2; omega)]
        exact Ev.pos g3 (Ev.ret _)
      · rw [if_pos (show LvTwo F T from ⟨g, g2, by omega⟩)]
        exact Ev.neg g3 (Ev.ret _)
    · rw [if_neg (fun h : LvTwo F T => g2 h.2.1)]
      exact Ev.bnd (z4O g2) (Ev.pos rfl (Ev.ret _))
  · rw [if_neg (fun h : LvTwo F T => g h.1)]
    exact Ev.bnd (z4O g) (Ev.pos rfl (Ev.ret _))
/-- So many elements of a list, from a place, side by side. -/
def part (X : List E) (b m g k : Nat) : E := of 7 (gv (fun j => val (X.getD (g * m + j) 0)) b k)
def full (X : List E) (b m G : Nat) : List E := (List.range G).map fun g => part X b m g m
theorem z1u (X : List E) (b m G : Nat) : (full X b m G).length = G := by unfold full; rw [List.length_map, List.length_range]
theorem z43 (X : List E) (b m G : Nat) : full X b m (G + 1) = full X b m G ++ [part X b m G m] := by unfold full; rw [List.range_succ, List.map_append]; rfl
theorem z2I {L : Nat} {X : List E} (h : AllS (L : Int) X) (i : Nat) : val (X.getD i 0) < 2 ^ 2 ^ L := by
  rw [List.getD_eq_getElem?_getD]
  cases e : X[i]? with
  | none => exact inL_zero L
  | some y =>
    have := (h y (List.mem_of_getElem? e)).2.2
    rwa [Int.toNat_natCast] at this
theorem add_side {a c s : Nat} (ha : a < 2 ^ s) (h : a + c * 2 ^ s < 2 ^ 128) : of 7 a + of 7 (c * 2 ^ s) = of 7 (a + c * 2 ^ s) := by
  have h1 : a < 2 ^ 128 := by omega
  have h2 : c * 2 ^ s < 2 ^ 128 := by omega
  apply z2m
  rw [z1q, z2n h1, z2n h2, z2n h]
  apply Nat.eq_of_testBit_eq
  intro i
  rw [Nat.testBit_xor, Nat.testBit_mul_two_pow, Nat.add_comm a, Nat.mul_comm c, Nat.testBit_two_pow_mul_add _ ha]
  by_cases d : i < s
  · rw [if_pos d]; simp [show ¬ s ≤ i by omega]
  · rw [if_neg d, Nat.testBit_lt_two_pow (Nat.lt_of_lt_of_le ha (Nat.pow_le_pow_right (by decide) (by omega)))]; simp [show s ≤ i by omega]
theorem set_snoc {α : Type} (A : List α) (y z : α) : (A ++ [y]).set A.length z = A ++ [z] := by
  rw [List.set_append_right _ _ (Nat.le_refl _), Nat.sub_self]; rfl
theorem z5s {α : Type} (A : List α) (y d : α) : (A ++ [y]).getD A.length d = y := by
  rw [List.getD_eq_getElem?_getD, List.getElem?_append_right (Nat.le_refl _), Nat.sub_self]; rfl
theorem z2h {l t : Nat} (hlt : l ≤ t) (ht : t ≤ 7) : 2 ^ l * 2 ^ (t - l) = 2 ^ t ∧ 2 ^ t ≤ 128 ∧ 0 < 2 ^ l ∧ 0 < 2 ^ (t - l) := by
  refine ⟨by rw [← Nat.pow_add]; congr 1; omega, Nat.pow_le_pow_right (n := 2) (by decide) ht, Nat.two_pow_pos _, Nat.two_pow_pos _⟩
/-- The step that adds an element to the last one. -/
theorem z37 {l m t : Nat} (hl : l ≤ 7) (hbm : 2 ^ l * m = 2 ^ t) (ht : 2 ^ t ≤ 128) (X : List E) (hX : X.length ≤ 1000000) (hA : AllS (l : Int) X) (A : List E) (g k i : Nat) (hk : k < m) (hi : i = g * m + k) (hiX : i < X.length) (hAl : A.length ≤ 1000000) (R : List S51 × Int)
    (h : Ev (fun q => zm.l0 q (l : Int) (m : Int) ((A ++ [part X (2 ^ l) m g (k + 1)]).map toS) (X.map toS) ((X.length : Nat) : Int) ((i + 1 : Nat) : Int)) R) (Y : List S51) (hY : Y = (A ++ [part X (2 ^ l) m g k]).map toS) :
    Ev (fun q => if 0 ≤ (wrap64 ((Y.length : Int) - 1)) then (if (wrap64 ((Y.length : Int) - 1)) < (Y.length : Int) then (if 0 ≤ (l : Int) then ((z1c.f (Sp.hi (X.getD i 0)) (lo (X.getD i 0)) (shl .i64 (Int.tmod (i : Int) (m : Int)) (l : Int))).bind fun bt => ((z1l.f ((zx Y (wrap64 ((Y.length : Int) - 1))).f0) ((zx Y (wrap64 ((Y.length : Int) - 1))).f1) bt.1 bt.2).bind fun bt2 => (zm.l0 q (l : Int) (m : Int) (Y.set ((wrap64 ((Y.length : Int) - 1)) : Int).toNat (⟨bt2.1, bt2.2⟩ : S51)) (X.map toS) ((X.length : Nat) : Int) (wrap64 ((i : Int) + 1))))) else (none)) else (none)) else (none)) R := by
  have hb : 0 < 2 ^ l := Nat.two_pow_pos l
  have hkb : k * 2 ^ l + 2 ^ l ≤ 2 ^ t := by
    have : 2 ^ l * (k + 1) ≤ 2 ^ l * m := Nat.mul_le_mul_left _ hk
    rw [Nat.mul_succ, Nat.mul_comm] at this; omega
  have hlen : Y.length = A.length + 1 := by rw [hY, List.length_map, List.length_append]; rfl
  have e1 : wrap64 ((Y.length : Int) - 1) = (A.length : Int) := by rw [hlen, z1Q (by omega) (by omega)]; omega
  have e2 : Int.tmod (i : Int) (m : Int) = (k : Int) := by
    rw [← Int.ofNat_tmod, hi, Nat.mul_comm, Nat.mul_add_mod, Nat.mod_eq_of_lt hk]
  have e3 : shl .i64 (k : Int) (l : Int) = ((k * 2 ^ l : Nat) : Int) := shli k l (by omega) (by omega)
  have hv := z2I hA i
  have h128 : val (X.getD i 0) * 2 ^ (k * 2 ^ l) < 2 ^ 128 := by
    have h1 : val (X.getD i 0) * 2 ^ (k * 2 ^ l) < 2 ^ 2 ^ l * 2 ^ (k * 2 ^ l) := Nat.mul_lt_mul_of_pos_right hv (Nat.two_pow_pos _)
    rw [← Nat.pow_add] at h1
    exact Nat.lt_of_lt_of_le h1 (Nat.pow_le_pow_right (by decide) (by omega))
  have hsum : part X (2 ^ l) m g k + of 7 (val (X.getD i 0) * 2 ^ (k * 2 ^ l)) = part X (2 ^ l) m g (k + 1) := by
    have hg : ∀ j, val (X.getD (g * m + j) 0) < 2 ^ 2 ^ l := fun j => z2I hA _
    have hlt := z4m (f := fun j => val (X.getD (g * m + j) 0)) (b := 2 ^ l) k (fun j _ => hg j)
    have hlt2 := z4m (f := fun j => val (X.getD (g * m + j) 0)) (b := 2 ^ l) (k + 1) (fun j _ => hg j)
    unfold part
    show _ = of 7 (gv (fun j => val (X.getD (g * m + j) 0)) (2 ^ l) k + val (X.getD (g * m + k) 0) * 2 ^ (2 ^ l * k))
    rw [hi, Nat.mul_comm k]
    apply add_side hlt
    have h3 : 2 ^ (2 ^ l * (k + 1)) ≤ 2 ^ 128 := Nat.pow_le_pow_right (by decide) (by rw [Nat.mul_succ, Nat.mul_comm]; omega)
    exact Nat.lt_of_lt_of_le hlt2 h3
  simp only [e1, e2, e3, z1x hiX (show X.length ≤ 4611686018427387904 by omega)]
  refine Ev.pos (Int.natCast_nonneg _) (Ev.pos (by omega) (Ev.pos (Int.natCast_nonneg _) (Ev.bnd0 (up_eq _ (k * 2 ^ l) (by omega) h128) ?_)))
  have hrd : zx Y (A.length : Int) = toS (part X (2 ^ l) m g k) := by rw [hY, rdS, z5s]
  rw [hrd]
  refine Ev.bnd0 (Add_eq _ _) ?_
  rw [hsum, Int.toNat_natCast]
  have hset : Y.set A.length ⟨Sp.hi (part X (2 ^ l) m g (k + 1)), lo (part X (2 ^ l) m g (k + 1))⟩ = (A ++ [part X (2 ^ l) m g (k + 1)]).map toS := by
    rw [hY, List.map_append, List.map_append]
    have := set_snoc (A.map toS) (toS (part X (2 ^ l) m g k)) (toS (part X (2 ^ l) m g (k + 1)))
    rw [List.length_map] at this
    exact this
  rw [hset]
  exact h
theorem z5q {l m t : Nat} (hl : l ≤ 7) (hm : 0 < m) (hbm : 2 ^ l * m = 2 ^ t) (ht : 2 ^ t ≤ 128) (X : List E) (hX : X.length ≤ 1000000) (hA : AllS (l : Int) X) (g : Nat) (hg : g * m + m ≤ X.length) (R : List S51 × Int)
    (h : Ev (fun q => zm.l0 q (l : Int) (m : Int) ((full X (2 ^ l) m (g + 1)).map toS) (X.map toS) ((X.length : Nat) : Int) (((g + 1) * m : Nat) : Int)) R) :
    ∀ (d k : Nat), k + d = m → 1 ≤ k → Ev (fun q => zm.l0 q (l : Int) (m : Int) ((full X (2 ^ l) m g ++ [part X (2 ^ l) m g k]).map toS) (X.map toS) ((X.length : Nat) : Int) ((g * m + k : Nat) : Int)) R := by
  have hgl : g ≤ X.length := by
    have : g * 1 ≤ g * m := Nat.mul_le_mul_left _ hm
    omega
  intro d
  induction d with
  | zero =>
    intro k hk _
    have : k = m := by omega
    subst this
    rw [z43, Nat.succ_mul] at h
    exact h
  | succ d ih =>
    intro k hk h1
    have hi' : g * m + k < X.length := by omega
    have hlen : ((full X (2 ^ l) m g ++ [part X (2 ^ l) m g k]).map toS).length = g + 1 := by rw [List.length_map, List.length_append, z1u]; rfl
    refine Ev.step (fun q => by rw [zm.l0]) (Ev.pos (by omega) (Ev.pos (Int.natCast_nonneg _) (Ev.pos (by rw [List.length_map]; omega) (Ev.neg (by omega) (Ev.neg ?_ ?_)))))
    · rw [← Int.ofNat_tmod, Nat.mul_comm, Nat.mul_add_mod, Nat.mod_eq_of_lt (by omega)]; omega
    · simp only [rdS, z4f, z4g]
      exact z37 hl hbm ht X hX hA (full X (2 ^ l) m g) g k (g * m + k) (by omega) rfl hi' (by rw [z1u]; omega) R (ih (k + 1) (by omega) (by omega)) _ rfl
theorem z5r {l m t : Nat} (hl : l ≤ 7) (hm : 0 < m) (hbm : 2 ^ l * m = 2 ^ t) (ht : 2 ^ t ≤ 128) (X : List E) (hX : X.length ≤ 1000000) (hA : AllS (l : Int) X) (G : Nat) (hG : X.length = G * m) :
    ∀ (d g : Nat), g + d = G → Ev (fun q => zm.l0 q (l : Int) (m : Int) ((full X (2 ^ l) m g).map toS) (X.map toS) ((X.length : Nat) : Int) ((g * m : Nat) : Int)) ((full X (2 ^ l) m G).map toS, 0) := by
  intro d
  induction d with
  | zero =>
    intro g hg
    have : g = G := by omega
    subst this
    exact Ev.step (fun q => by rw [zm.l0]) (Ev.neg (by omega) (Ev.ret _))
  | succ d ih =>
    intro g hg
    have hgm : g * m + m ≤ X.length := by
      have : (g + 1) * m ≤ G * m := Nat.mul_le_mul_right _ (by omega)
      rw [Nat.succ_mul] at this; omega
    have hgl : g ≤ X.length := by
      have : g * 1 ≤ g * m := Nat.mul_le_mul_left _ hm
      omega
    have hin := z5q hl hm hbm ht X hX hA g hgm _ (ih (g + 1) (by omega)) (m - 1) 1 (by omega) (by omega)
    have hi' : g * m < X.length := by omega
    refine Ev.step (fun q => by rw [zm.l0]) (Ev.pos (by omega) (Ev.pos (Int.natCast_nonneg _) (Ev.pos (by rw [List.length_map]; omega) (Ev.neg (by omega) (Ev.pos ?_ (Ev.pos (by rw [List.length_map, z1u]; omega) (Ev.bnd0 rfl ?_)))))))
    · rw [← Int.ofNat_tmod, Nat.mul_mod_left]; rfl
    · simp only [rdS, z4f, z4g]
      refine z37 hl hbm ht X hX hA (full X (2 ^ l) m g) g 0 (g * m) hm rfl hi' (by rw [z1u]; omega) _ hin _ ?_
      rw [List.map_append]
      have e : part X (2 ^ l) m g 0 = 0 := z1P 7
      rw [e]
      congr 1
/-- What hinders gathering. -/
def gathErr (F T : Int) (X : List E) : Int := if LvTwo F T then (if X.length % 2 ^ (T.toNat - F.toNat) = 0 then (if AllS F X then 0 else 5) else 6) else 1
def gathS (F T : Int) (X : List E) : List E := full X (2 ^ F.toNat) (2 ^ (T.toNat - F.toNat)) (X.length / 2 ^ (T.toNat - F.toNat))
def gathO (F T : Int) (X : List E) : List E := if gathErr F T X = 0 then gathS F T X else []
theorem z3W (F T : Int) (X : List E) (hX : X.length ≤ 1000000) : Ev (fun q => zm.f q F T (X.map toS)) ((gathO F T X).map toS, gathErr F T X) := by
  unfold zm.f gathO
  refine Ev.bnd (z2U F T) ?_
  by_cases c : LvTwo F T
  · have hc := c
    obtain ⟨⟨hF0, hF7⟩, ⟨hT0, hT7⟩, hle⟩ := hc
    obtain ⟨l, rfl⟩ := Int.eq_ofNat_of_zero_le hF0
    obtain ⟨t, rfl⟩ := Int.eq_ofNat_of_zero_le hT0
    obtain ⟨hbm, ht, hb, hm⟩ := z2h (l := l) (t := t) (by omega) (by omega)
    have hE : gathErr (l : Int) (t : Int) X = if X.length % 2 ^ (t - l) = 0 then (if AllS (l : Int) X then 0 else 5) else 6 := by unfold gathErr; rw [if_pos c, Int.toNat_natCast, Int.toNat_natCast]
    rw [if_pos c]
    have hm128 : 2 ^ (t - l) ≤ 128 := by
      have : 1 * 2 ^ (t - l) ≤ 2 ^ l * 2 ^ (t - l) := Nat.mul_le_mul_right _ hb
      omega
    have e1 : wrap64 ((t : Int) - (l : Int)) = ((t - l : Nat) : Int) := z5V (by omega) (by omega)
    simp only [e1, z3S (t - l) (by omega), List.length_map]
    refine Ev.pos trivial (Ev.pos (Int.natCast_nonneg _) (Ev.neg (by omega) ?_))
    by_cases c2 : X.length % 2 ^ (t - l) = 0
    · rw [if_pos c2] at hE
      refine Ev.pos (by rw [← Int.natCast_emod, c2]; rfl) (Ev.bnd (z2u (l : Int) X) ?_)
      by_cases c3 : AllS (l : Int) X
      · rw [if_pos c3] at hE
        rw [hE, if_pos rfl]
        refine Ev.pos (decide_eq_true c3) ?_
        have hG : X.length = X.length / 2 ^ (t - l) * 2 ^ (t - l) := by
          have := Nat.div_add_mod X.length (2 ^ (t - l))
          rw [c2, Nat.add_zero, Nat.mul_comm] at this; exact this.symm
        have := z5r (by omega) hm hbm ht X hX c3 _ hG _ 0 (Nat.zero_add _)
        rw [Nat.zero_mul] at this
        unfold gathS
        rw [Int.toNat_natCast, Int.toNat_natCast]
        exact this
      · rw [if_neg c3] at hE
        rw [hE, if_neg (by decide)]
        exact Ev.neg (by simpa using c3) (Ev.ret _)
    · rw [if_neg c2] at hE
      rw [hE, if_neg (by decide)]
      refine Ev.neg ?_ (Ev.ret _)
      rw [← Int.natCast_emod]; intro h; exact c2 (by omega)
  · have hE : gathErr F T X = 1 := by unfold gathErr; rw [if_neg c]
    have hO : (if gathErr F T X = 0 then gathS F T X else []) = [] := if_neg (by rw [hE]; decide)
    rw [hO, hE, if_neg c]
    exact Ev.neg (by decide) (Ev.ret _)
/-- One great element as small ones. -/
def bitsAt (x : E) (b k : Nat) : E := of 7 (val x / 2 ^ (b * k) % 2 ^ b)
def scat (b m : Nat) (x : E) : List E := (List.range m).map (bitsAt x b)
def scats (b m : Nat) (X : List E) : List E := X.flatMap (scat b m)
theorem z1M (b m : Nat) (X : List E) : (scats b m X).length = X.length * m := by
  unfold scats
  induction X with
  | nil => simp
  | cons x xs ih => rw [List.flatMap_cons, List.length_append, ih]; unfold scat; rw [List.length_map, List.length_range, List.length_cons, Nat.succ_mul, Nat.add_comm]
theorem z50 {l t : Nat} (hlt : l ≤ t) (ht7 : t ≤ 7) (x : E) (A : List E) (hA : A.length ≤ 1000000) (Z : List S51) (i : Nat) (R : List S51 × Int)
    (h : Ev (fun q => zk.l0 q (l : Int) (t : Int) ((A ++ scat (2 ^ l) (2 ^ (t - l)) x).map toS) Z (Z.length : Int) (wrap64 ((i : Int) + 1))) R) :
    ∀ (d k : Nat), k + d = 2 ^ (t - l) → Ev (fun q => zk.l1 q (l : Int) (t : Int) ((A ++ (List.range k).map (bitsAt x (2 ^ l))).map toS) Z (Z.length : Int) (i : Int) ((2 ^ (t - l) : Nat) : Int) (k : Int) (hi x) (lo x)) R := by
  obtain ⟨hbm, ht, hb, hm⟩ := z2h hlt ht7
  have hm128 : 2 ^ (t - l) ≤ 128 := by
    have : 1 * 2 ^ (t - l) ≤ 2 ^ l * 2 ^ (t - l) := Nat.mul_le_mul_right _ hb
    omega
  intro d
  induction d with
  | zero =>
    intro k hk
    have : k = 2 ^ (t - l) := by omega
    subst this
    refine Ev.step (fun q => by rw [zk.l1]) (Ev.neg (by omega) ?_)
    exact h
  | succ d ih =>
    intro k hk
    have hk' : k < 2 ^ (t - l) := by omega
    have hkb : k * 2 ^ l + 2 ^ l ≤ 2 ^ t := by
      have : 2 ^ l * (k + 1) ≤ 2 ^ l * 2 ^ (t - l) := Nat.mul_le_mul_left _ hk'
      rw [Nat.mul_succ, Nat.mul_comm] at this; omega
    have e3 : shl .i64 (k : Int) (l : Int) = ((k * 2 ^ l : Nat) : Int) := shli k l (by omega) (by omega)
    have hd : val x / 2 ^ (k * 2 ^ l) < 2 ^ 128 := Nat.lt_of_le_of_lt (Nat.div_le_self _ _) (z3g x)
    have hih := ih (k + 1) (by omega)
    have ha : A ++ (List.range (k + 1)).map (bitsAt x (2 ^ l)) = (A ++ (List.range k).map (bitsAt x (2 ^ l))) ++ [bitsAt x (2 ^ l) k] := by
      rw [List.range_succ, List.map_append, ← List.append_assoc]; rfl
    rw [ha, List.map_append (l₂ := [bitsAt x (2 ^ l) k])] at hih
    refine Ev.step (fun q => by rw [zk.l1]) (Ev.pos (by omega) (Ev.pos (Int.natCast_nonneg _) ?_))
    simp only [e3, z1x hk' (show 2 ^ (t - l) ≤ 4611686018427387904 by omega)]
    refine Ev.bnd0 (down_eq x (k * 2 ^ l) (by omega)) (Ev.bnd0 (cut_eq l (by omega) _) (Ev.pos ?_ ?_))
    · rw [List.length_map, List.length_append, List.length_map, List.length_range]; omega
    · rw [z2n hd, Nat.mul_comm k]
      exact hih
theorem z4Z {l t : Nat} (hlt : l ≤ t) (ht7 : t ≤ 7) (X : List E) (hX : X.length ≤ 1000) : ∀ (d i : Nat), i + d = X.length → Ev (fun q => zk.l0 q (l : Int) (t : Int) ((scats (2 ^ l) (2 ^ (t - l)) (X.take i)).map toS) (X.map toS) (((X.map toS).length : Nat) : Int) (i : Int)) ((scats (2 ^ l) (2 ^ (t - l)) X).map toS, 0) := by
  obtain ⟨hbm, ht, hb, hm⟩ := z2h hlt ht7
  have hm128 : 2 ^ (t - l) ≤ 128 := by
    have : 1 * 2 ^ (t - l) ≤ 2 ^ l * 2 ^ (t - l) := Nat.mul_le_mul_right _ hb
    omega
  intro d
  induction d with
  | zero =>
    intro i hi
    refine Ev.step (fun q => by rw [zk.l0]) (Ev.neg (by rw [List.length_map]; omega) (Ev.ret' ?_))
    rw [List.take_of_length_le (by omega)]
  | succ d ih =>
    intro i hi
    have hi' : i < X.length := by omega
    have e1 : wrap64 ((t : Int) - (l : Int)) = ((t - l : Nat) : Int) := z5V (by omega) (by omega)
    refine Ev.step (fun q => by rw [zk.l0]) (Ev.pos (by rw [List.length_map]; omega) (Ev.pos (Int.natCast_nonneg _) (Ev.pos (by rw [List.length_map]; omega) ?_)))
    simp only [e1, z3S (t - l) (by omega), rdS, z4f, z4g]
    refine Ev.pos (Int.natCast_nonneg _) ?_
    have hAl : (scats (2 ^ l) (2 ^ (t - l)) (X.take i)).length ≤ 1000000 := by
      rw [z1M, List.length_take]
      have : min i X.length * 2 ^ (t - l) ≤ 1000 * 128 := Nat.mul_le_mul (by omega) hm128
      omega
    have := z50 hlt ht7 (X.getD i 0) (scats (2 ^ l) (2 ^ (t - l)) (X.take i)) hAl (X.map toS) i ((scats (2 ^ l) (2 ^ (t - l)) X).map toS, 0) ?_ (2 ^ (t - l)) 0 (Nat.zero_add _)
    · rw [List.range_zero, List.map_nil, List.append_nil] at this
      exact this
    · rw [z1x hi' (show X.length ≤ 4611686018427387904 by omega)]
      have hih := ih (i + 1) (by omega)
      have e : scats (2 ^ l) (2 ^ (t - l)) (X.take (i + 1)) = scats (2 ^ l) (2 ^ (t - l)) (X.take i) ++ scat (2 ^ l) (2 ^ (t - l)) (X.getD i 0) := by
        have hx : X.getD i 0 = X[i] := by rw [List.getD_eq_getElem?_getD, List.getElem?_eq_getElem hi']; rfl
        unfold scats
        rw [List.take_succ_eq_append_getElem hi', List.flatMap_append, hx]; simp
      rw [e] at hih
      exact hih
def scatErr (F T : Int) (X : List E) : Int := if LvTwo F T then (if AllS T X then 0 else 5) else 1
def scatO (F T : Int) (X : List E) : List E := if scatErr F T X = 0 then scats (2 ^ F.toNat) (2 ^ (T.toNat - F.toNat)) X else []
theorem z3r (F T : Int) (X : List E) (hX : X.length ≤ 1000) : Ev (fun q => zk.f q F T (X.map toS)) ((scatO F T X).map toS, scatErr F T X) := by
  unfold zk.f scatO
  refine Ev.bnd (z2U F T) ?_
  by_cases c : LvTwo F T
  · have hc := c
    obtain ⟨⟨hF0, hF7⟩, ⟨hT0, hT7⟩, hle⟩ := hc
    obtain ⟨l, rfl⟩ := Int.eq_ofNat_of_zero_le hF0
    obtain ⟨t, rfl⟩ := Int.eq_ofNat_of_zero_le hT0
    have hE : scatErr (l : Int) (t : Int) X = if AllS (t : Int) X then 0 else 5 := by unfold scatErr; rw [if_pos c]
    rw [if_pos c]
    refine Ev.pos rfl (Ev.bnd (z2u (t : Int) X) ?_)
    by_cases c3 : AllS (t : Int) X
    · rw [if_pos c3] at hE
      rw [hE, if_pos rfl]
      refine Ev.pos (decide_eq_true c3) ?_
      rw [Int.toNat_natCast, Int.toNat_natCast]
      exact z4Z (by omega) (by omega) X hX X.length 0 (by omega)
    · rw [if_neg c3] at hE
      rw [hE, if_neg (by decide)]
      exact Ev.neg (by simpa using c3) (Ev.ret _)
  · have hE : scatErr F T X = 1 := by unfold scatErr; rw [if_neg c]
    have hO : (if scatErr F T X = 0 then scats (2 ^ F.toNat) (2 ^ (T.toNat - F.toNat)) X else []) = [] := if_neg (by rw [hE]; decide)
    rw [hO, hE, if_neg c]
    exact Ev.neg (by decide) (Ev.ret _)
end Go.Proofs.Ytngcaphdkgihmaa.Sp
/- The document's product by shifts and masks is the tower's. Own text; nothing of the program in it. -/
namespace Go.Proofs.Ytngcaphdkgihmaa.Tw
set_option linter.unusedVariables false
set_option linter.unusedSimpArgs false
theorem z2q {n a b : Nat} (hb : b < Q n) : (a * Q n + b) / Q n = a := by rw [Nat.mul_comm, Nat.mul_add_div (z20 n), Nat.div_eq_of_lt hb, Nat.add_zero]
theorem z2r {n a b : Nat} (hb : b < Q n) : (a * Q n + b) % Q n = b := by rw [Nat.mul_comm, Nat.mul_add_mod, Nat.mod_eq_of_lt hb]
theorem z4w {n a b c d : Nat} (hb : b < Q n) (hd : d < Q n) : (a * Q n + b) &&& (c * Q n + d) = (a &&& c) * Q n + (b &&& d) := by
  have h1 : ((a * Q n + b) &&& (c * Q n + d)) / Q n = a &&& c := by
    have e1 := z2q (n := n) (a := a) hb
    have e2 := z2q (n := n) (a := c) hd
    unfold Q at *
    rw [Nat.and_div_two_pow, e1, e2]
  have h2 : ((a * Q n + b) &&& (c * Q n + d)) % Q n = b &&& d := by
    have e1 := z2r (n := n) (a := a) hb
    have e2 := z2r (n := n) (a := c) hd
    unfold Q at *
    rw [Nat.and_mod_two_pow, e1, e2]
  have := Nat.div_add_mod ((a * Q n + b) &&& (c * Q n + d)) (Q n)
  rw [h1, h2, Nat.mul_comm] at this
  exact this.symm
theorem z5K {n a b c d : Nat} (hb : b < Q n) (hd : d < Q n) : (a * Q n + b) ||| (c * Q n + d) = (a ||| c) * Q n + (b ||| d) := by
  have h1 : ((a * Q n + b) ||| (c * Q n + d)) / Q n = a ||| c := by
    have e1 := z2q (n := n) (a := a) hb
    have e2 := z2q (n := n) (a := c) hd
    unfold Q at *
    rw [Nat.or_div_two_pow, e1, e2]
  have h2 : ((a * Q n + b) ||| (c * Q n + d)) % Q n = b ||| d := by
    have e1 := z2r (n := n) (a := a) hb
    have e2 := z2r (n := n) (a := c) hd
    unfold Q at *
    rw [Nat.or_mod_two_pow, e1, e2]
  have := Nat.div_add_mod ((a * Q n + b) ||| (c * Q n + d)) (Q n)
  rw [h1, h2, Nat.mul_comm] at this
  exact this.symm
theorem or_lt {n x y : Nat} (hx : x < Q n) (hy : y < Q n) : x ||| y < Q n := Nat.or_lt_two_pow hx hy
/-- The lower halves of all blocks of 2^(j+1) bits in a word of 2^n. -/
def M (j : Nat) : Nat → Nat
  | 0 => 0
  | n + 1 => if n = j then Q j - 1 else if n < j then 0 else M j n * Q n + M j n
theorem M_base (j : Nat) : M j (j + 1) = Q j - 1 := by simp [M]
theorem z57 {j n : Nat} (h : j + 1 ≤ n) : M j (n + 1) = M j n * Q n + M j n := by
  rw [M, if_neg (by omega), if_neg (by omega)]
/-- What is left of a word without its highest block of 2^j bits. -/
def H (j n : Nat) : Nat := 2 ^ (2 ^ n - 2 ^ j)
theorem z4Q {j n : Nat} (h : j ≤ n) : H j n * Q j = Q n := by
  have := Nat.pow_le_pow_right (show 2 > 0 by decide) h
  unfold H Q; rw [← Nat.pow_add, Nat.sub_add_cancel this]
theorem H_pos (j n : Nat) : 0 < H j n := Nat.two_pow_pos _
theorem z55 {j n : Nat} (h : j ≤ n) : H j (n + 1) = H j n * Q n := by
  have := Nat.pow_le_pow_right (show 2 > 0 by decide) h
  unfold H Q; rw [← Nat.pow_add]; congr 1; rw [Nat.pow_succ]; omega
theorem H_self (j : Nat) : H j j = 1 := by unfold H; rw [Nat.sub_self, Nat.pow_zero]
theorem H_base (j : Nat) : H j (j + 1) = Q j := by rw [z55 (Nat.le_refl _), H_self, Nat.one_mul]
theorem H_le {j n : Nat} (h : j ≤ n) : H j n ≤ Q n := by rw [← z4Q h]; exact Nat.le_mul_of_pos_right _ (z20 j)
theorem lt_H_mul {j n x : Nat} (h : j ≤ n) (hx : x < H j n) : x * Q j < Q n := by
  rw [← z4Q h]; exact Nat.mul_lt_mul_of_pos_right hx (z20 j)
theorem M_lt {j : Nat} : ∀ d, M j (j + 1 + d) < H j (j + 1 + d)
  | 0 => by rw [Nat.add_zero, M_base, H_base]; have := z20 j; omega
  | d + 1 => by
    have ih := M_lt (j := j) d
    rw [← Nat.add_assoc, z57 (by omega), z55 (by omega)]
    have h2 : M j (j + 1 + d) < Q (j + 1 + d) := Nat.lt_of_lt_of_le ih (H_le (by omega))
    have h3 : M j (j + 1 + d) * Q (j + 1 + d) + Q (j + 1 + d) ≤ H j (j + 1 + d) * Q (j + 1 + d) := by
      have := Nat.mul_le_mul_right (Q (j + 1 + d)) ih
      rw [Nat.succ_mul] at this; exact this
    omega
theorem M_lt' {j n : Nat} (h : j + 1 ≤ n) : M j n < H j n := by
  obtain ⟨d, rfl⟩ := Nat.le.dest h; exact M_lt d
theorem M_lt_Q {j n : Nat} (h : j + 1 ≤ n) : M j n < Q n := Nat.lt_of_lt_of_le (M_lt' h) (H_le (by omega))
theorem z21 {x m b : Nat} (h : m < b) : x &&& m < b := Nat.lt_of_le_of_lt Nat.and_le_right h
/-- A word times the generator of the level j, block by block. -/
def tw (n : Nat) : Nat → Nat → Nat
  | 0, v => v
  | j + 1, v => (((v &&& M j n) ^^^ tw n j ((v / Q j) &&& M j n)) * Q j) % Q n ||| ((v / Q j) &&& M j n)
theorem z45 (j : Nat) : val (gen j) < Q j := z17 _
theorem z4K {j g : Nat} (hg : g < Q j) : ∀ d u, u < H j (j + d) → val (of (j + d) g * of (j + d) u) < H j (j + d)
  | 0, u, hu => by
    rw [Nat.add_zero, H_self] at hu ⊢
    have : u = 0 := by omega
    rw [this, z1P, z25, z1r]; decide
  | d + 1, u, hu => by
    rw [← Nat.add_assoc] at hu ⊢
    rw [z55 (Nat.le_add_right _ _)] at hu ⊢
    have hg' : g < Q (j + d) := Nat.lt_of_lt_of_le hg (z2v (Nat.le_add_right _ _))
    have e1 : of (j + d + 1) g = up (of (j + d) g) := z47 hg'
    rw [e1, z2M, z1o, z1O, z1X, z1D, z1O, z1X]
    have h1 := z4K hg d (u / Q (j + d)) (Nat.div_lt_of_lt_mul (by rw [Nat.mul_comm]; exact hu))
    have h2 := z17 (of (j + d) g * of (j + d) (u % Q (j + d)))
    have h3 : val (of (j + d) g * of (j + d) (u / Q (j + d))) * Q (j + d) + Q (j + d) ≤ H j (j + d) * Q (j + d) := by
      have := Nat.mul_le_mul_right (Q (j + d)) h1
      rw [Nat.succ_mul] at this; exact this
    omega
theorem tw_split {j : Nat} (C : ∀ n, j ≤ n → ∀ v, v < Q n → tw n j v = val (of n (val (gen j)) * of n v)) (D : ∀ n, j ≤ n → ∀ h l, h < Q n → l < Q n → tw (n + 1) j (h * Q n + l) = tw n j h * Q n + tw n j l) :
    ∀ n, j + 1 ≤ n → ∀ h l, h < Q n → l < Q n → tw (n + 1) (j + 1) (h * Q n + l) = tw n (j + 1) h * Q n + tw n (j + 1) l ∧ tw n (j + 1) l < Q n := by
  intro n hn h l hh hl
  have hM := M_lt' hn
  have hMQ := M_lt_Q hn
  have hjn : j ≤ n := by omega
  have hQj := z20 j
  -- the higher parts
  have hdiv : (h * Q n + l) / Q j = (h / Q j) * Q n + ((h % Q j) * H j n + l / Q j) := by
    have e1 : h * Q n = (h * H j n) * Q j := by rw [← z4Q hjn, Nat.mul_assoc]
    rw [e1, Nat.mul_comm (h * H j n), Nat.mul_add_div hQj]
    have e2 := Nat.div_add_mod h (Q j)
    have e3 : h * H j n = (h / Q j) * Q n + (h % Q j) * H j n := by
      conv => lhs; rw [← e2]
      rw [Nat.add_mul, ← z4Q hjn]
      congr 1
      rw [Nat.mul_comm (Q j), Nat.mul_assoc, Nat.mul_comm (Q j)]
    rw [e3, Nat.add_assoc]
  have hlq : l / Q j < H j n := Nat.div_lt_of_lt_mul (by rw [Nat.mul_comm, z4Q hjn]; exact hl)
  have hl' : (h % Q j) * H j n + l / Q j < Q n := by
    have h1 : (h % Q j) * H j n + H j n ≤ Q j * H j n := by
      have := Nat.mul_le_mul_right (H j n) (Nat.mod_lt h hQj)
      rw [Nat.succ_mul] at this; exact this
    rw [Nat.mul_comm (Q j), z4Q hjn] at h1
    omega
  have hand : ((h % Q j) * H j n + l / Q j) &&& M j n = (l / Q j) &&& M j n := by
    have e1 : ∀ x, x &&& M j n = (x % H j n) &&& M j n := fun x => by
      have h3 : x &&& M j n < H j n := z21 hM
      have h4 : (x &&& M j n) % H j n = x &&& M j n := Nat.mod_eq_of_lt h3
      rw [← h4]; unfold H; rw [Nat.and_mod_two_pow]
      rw [show M j n % 2 ^ (2 ^ n - 2 ^ j) = M j n from Nat.mod_eq_of_lt hM]
    rw [e1, Nat.mul_comm, Nat.mul_add_mod, ← e1]
  have hhi : ((h * Q n + l) / Q j) &&& M j (n + 1) = ((h / Q j) &&& M j n) * Q n + ((l / Q j) &&& M j n) := by
    rw [z57 hn, hdiv, z4w hl' hMQ, hand]
  have hlo : (h * Q n + l) &&& M j (n + 1) = (h &&& M j n) * Q n + (l &&& M j n) := by rw [z57 hn, z4w hl hMQ]
  have b1 : (h / Q j) &&& M j n < Q n := z21 hMQ
  have b2 : (l / Q j) &&& M j n < Q n := z21 hMQ
  have b3 : l &&& M j n < H j n := z21 hM
  have b4 : (l / Q j) &&& M j n < H j n := z21 hM
  have b5 : tw n j ((l / Q j) &&& M j n) < H j n := by
    rw [C n hjn _ b2]
    obtain ⟨d, rfl⟩ := Nat.le.dest hjn
    exact z4K (z45 j) d _ b4
  have b6 : (l &&& M j n) ^^^ tw n j ((l / Q j) &&& M j n) < H j n := Nat.xor_lt_two_pow b3 b5
  have b7 := lt_H_mul hjn b6
  have b8 : tw n j ((l / Q j) &&& M j n) < Q n := Nat.lt_of_lt_of_le b5 (H_le hjn)
  have b9 : l &&& M j n < Q n := z21 hMQ
  constructor
  · simp only [tw]
    rw [hhi, hlo, D n hjn _ _ b1 b2, z4P b9 b8, Nat.add_mul]
    have e5 : ∀ X Y : Nat, Y < Q n → (X * Q n * Q j + Y) % Q (n + 1) = ((X * Q j) % Q n) * Q n + Y := by
      intro X Y hY
      rw [show X * Q n * Q j = X * Q j * Q n by rw [Nat.mul_assoc, Nat.mul_comm (Q n), ← Nat.mul_assoc], z28]
      rw [Nat.mul_comm (X * Q j), Nat.mod_mul, Nat.mul_add_mod, Nat.mod_eq_of_lt hY, Nat.mul_add_div (z20 n), Nat.div_eq_of_lt hY, Nat.add_zero, Nat.mul_comm (Q n), Nat.add_comm]
    rw [e5 _ _ b7, z5K b7 b2, Nat.mod_eq_of_lt b7]
  · simp only [tw]
    exact or_lt (Nat.mod_lt _ (z20 n)) b2
theorem z5Q : ∀ j, (∀ n, j ≤ n → ∀ v, v < Q n → tw n j v = val (of n (val (gen j)) * of n v)) ∧ (∀ n, j ≤ n → ∀ h l, h < Q n → l < Q n → tw (n + 1) j (h * Q n + l) = tw n j h * Q n + tw n j l)
  | 0 => ⟨fun n _ v hv => by rw [z4A, z2t, of_one, one_mul, z1F _ _ hv]; rfl, fun n _ h l _ _ => rfl⟩
  | j + 1 => by
    obtain ⟨C, D⟩ := z5Q j
    have D' := tw_split C D
    refine ⟨?_, fun n hn h l hh hl => (D' n hn h l hh hl).1⟩
    intro n hn
    obtain ⟨d, rfl⟩ := Nat.le.dest hn
    clear hn
    induction d with
    | zero =>
      intro v hv
      rw [Nat.add_zero] at hv ⊢
      have hQj := z20 j
      have hd : v / Q j < Q j := Nat.div_lt_of_lt_mul (by rw [← z28]; exact hv)
      have hm : v % Q j < Q j := Nat.mod_lt _ hQj
      have hmask : ∀ x, x &&& M j (j + 1) = x % Q j := fun x => by rw [M_base]; unfold Q; rw [Nat.and_two_pow_sub_one_eq_mod]
      have e1 : tw (j + 1) j (v / Q j) = val (gen j * of j (v / Q j)) := by
        rw [C (j + 1) (by omega) _ (Nat.lt_of_lt_of_le hd (z59 j)), z3h (d := 1) (z45 j) hd, z1s]
      simp only [tw]
      rw [hmask, hmask, Nat.mod_eq_of_lt hd, e1]
      have hv2 := z17 (gen j * of j (v / Q j))
      have hX := z1R hm hv2
      rw [Nat.mod_eq_of_lt (show _ * Q j < Q (j + 1) by rw [z28]; exact Nat.mul_lt_mul_of_pos_right hX hQj)]
      have hor : ∀ X, X * Q j ||| (v / Q j) = X * Q j + v / Q j := fun X => by
        have := z5K (n := j) (a := X) (b := 0) (c := 0) (d := v / Q j) hQj hd
        simpa using this
      rw [hor, z1s, z1o]
      congr 1
      · congr 1
        rw [z1I, z2c, z2d, one_mul, zero_mul, one_mul, add_zero, z1D, z1O, z1X, z1q, z1F _ _ hm]
      · rw [z1J, z2c, z2d, one_mul, zero_mul, zero_add, z1D, z1O, z1F _ _ hd]
    | succ d ih =>
      intro v hv
      rw [← Nat.add_assoc] at hv ⊢
      have hvd := Nat.div_add_mod v (Q (j + 1 + d))
      rw [Nat.mul_comm] at hvd
      have h1 : v / Q (j + 1 + d) < Q (j + 1 + d) := Nat.div_lt_of_lt_mul (by rw [← z28]; exact hv)
      have h2 : v % Q (j + 1 + d) < Q (j + 1 + d) := Nat.mod_lt _ (z20 _)
      have hg : val (gen (j + 1)) < Q (j + 1 + d) := Nat.lt_of_lt_of_le (z45 (j + 1)) (z2v (Nat.le_add_right _ _))
      have e1 : of (j + 1 + d + 1) (val (gen (j + 1))) = up (of (j + 1 + d) (val (gen (j + 1)))) := z47 hg
      rw [e1, z2M, z1o, z1O, z1X, z1D, z1O, z1X, ← ih _ h1, ← ih _ h2]
      conv => lhs; rw [← hvd]
      exact (D' (j + 1 + d) (by omega) _ _ h1 h2).1
theorem tw_eq {j n v : Nat} (h : j ≤ n) (hv : v < Q n) : tw n j v = val (of n (val (gen j)) * of n v) := (z5Q j).1 n h v hv
/-- A bit of a level is a product of generators. -/
def gp (n : Nat) : Nat → Nat → T n
  | 0, _ => 1
  | m + 1, i => (if i.testBit m then of n (val (gen (m + 1))) else 1) * gp n m i
theorem gp_up {n : Nat} : ∀ m i, m ≤ n → gp (n + 1) m i = up (gp n m i)
  | 0, i, _ => rfl
  | m + 1, i, h => by
    show (if i.testBit m then of (n + 1) (val (gen (m + 1))) else 1) * gp (n + 1) m i = up ((if i.testBit m then of n (val (gen (m + 1))) else 1) * gp n m i)
    rw [up_mul, gp_up m i (by omega)]
    congr 1
    split
    · exact z47 (Nat.lt_of_lt_of_le (z45 (m + 1)) (z2v h))
    · rfl
theorem gp_mod {n : Nat} : ∀ m i k, m ≤ k → gp n m (i % 2 ^ k) = gp n m i
  | 0, i, k, _ => rfl
  | m + 1, i, k, h => by
    show (if (i % 2 ^ k).testBit m then _ else _) * gp n m (i % 2 ^ k) = (if i.testBit m then _ else _) * gp n m i
    rw [gp_mod m i k (by omega), Nat.testBit_mod_two_pow, decide_eq_true (by omega), Bool.true_and]
theorem gp_bit : ∀ n i, i < 2 ^ n → gp n n i = of n (2 ^ i)
  | 0, i, h => by
    have : i = 0 := by simpa using h
    rw [this]; rfl
  | n + 1, i, h => by
    show (if i.testBit n then of (n + 1) (val (gen (n + 1))) else 1) * gp (n + 1) n i = of (n + 1) (2 ^ i)
    rw [gp_up n i (Nat.le_refl _), ← gp_mod n i n (Nat.le_refl _), gp_bit n _ (Nat.mod_lt _ (Nat.two_pow_pos n))]
    rw [Nat.pow_succ] at h
    by_cases c : i < 2 ^ n
    · rw [Nat.testBit_lt_two_pow c, Nat.mod_eq_of_lt c]
      rw [z47 (show 2 ^ i < Q n from Nat.pow_lt_pow_right (by decide) c)]
      simp only [Bool.false_eq_true, if_false, one_mul]; rfl
    · have hi : i % 2 ^ n = i - 2 ^ n := by rw [Nat.mod_eq_sub_mod (by omega), Nat.mod_eq_of_lt (by omega)]
      have hb : i.testBit n = true := by
        have := Nat.testBit_two_pow_add_eq (i - 2 ^ n) n
        rw [show 2 ^ n + (i - 2 ^ n) = i by omega, Nat.testBit_lt_two_pow (show i - 2 ^ n < 2 ^ n by omega)] at this
        simpa using this
      rw [hb, if_pos rfl, hi, z1s]
      have e : 2 ^ i = 2 ^ (i - 2 ^ n) * Q n + 0 := by
        unfold Q; rw [← Nat.pow_add, Nat.add_zero]; congr 1; omega
      rw [e, z1D, z2q (z20 n), z2r (z20 n), z1P]
      apply ext
      · rw [z1I, z2c, z2d, z2s, z3w, one_mul, zero_mul, z25, z25, add_zero, add_zero]; rfl
      · rw [z1J, z2c, z2d, z2s, zero_mul, z25, add_zero]; rfl
/-- An element is the sum of its bits. -/
theorem z4x {n : Nat} (b k : Nat) (hb : b < Q n) (hk : k < 2 ^ n) : of n (b % 2 ^ (k + 1)) = of n (b % 2 ^ k) + (if b.testBit k then of n (2 ^ k) else 0) := by
  have h2 : 2 ^ k < Q n := Nat.pow_lt_pow_right (by decide) hk
  have h1 : b % 2 ^ k < Q n := Nat.lt_trans (Nat.mod_lt _ (Nat.two_pow_pos k)) h2
  have e : b % 2 ^ (k + 1) = b % 2 ^ k ^^^ (if b.testBit k then 2 ^ k else 0) := by
    apply Nat.eq_of_testBit_eq
    intro i
    rw [Nat.testBit_xor, Nat.testBit_mod_two_pow, Nat.testBit_mod_two_pow]
    by_cases hi : i = k
    · subst hi
      cases hbi : b.testBit i <;> simp
    · by_cases hlt : i < k
      · have : decide (i < k + 1) = true := decide_eq_true (by omega)
        rw [this, decide_eq_true hlt]
        split
        · rw [Nat.testBit_two_pow_of_ne (by omega)]; simp
        · simp
      · rw [decide_eq_false (by omega), decide_eq_false hlt]
        split
        · rw [Nat.testBit_two_pow_of_ne (by omega)]; simp
        · simp
  rw [e]
  split
  · rw [z5F h1 h2]
  · rw [Nat.xor_zero, add_zero]
end Go.Proofs.Ytngcaphdkgihmaa.Tw
namespace Go.Proofs.Ytngcaphdkgihmaa.P
open Go.RowKit Go.Proofs.YtngcaphdkgihmaaW.PrintWords Go.Proofs.YtngcaphdkgihmaaW.PrintLast Go.Proofs.YtngcaphdkgihmaaW.PrintMore
attribute [local go_sem] zW zY z15 z16 zQ zR zX zZ   -- for this text's walks alone
set_option linter.unusedVariables false
set_option linter.unusedSimpArgs false
def zP.f (a0 : Int) : Option (Int):=(some (([6148914691236517205,3689348814741910323,1085102592571150095,71777214294589695,281470681808895,4294967295] : List Int) : List Int)).bind fun y101=>(if 0 ≤ a0 then (if a0 < (y101.length : Int) then (some (rd y101 a0)) else (none)) else (none))
set_option maxHeartbeats 8000000 in
set_option maxRecDepth 100000 in
theorem zP.calls (a0 : Int) (r : Int) (w : World) (h : zP.f a0 = some r) :
 Calls Try.prog 108 #[.int .i64 a0] w fun e w'=>e = .returned (.int .u64 r) ∧ Below w.heap.size w w':=by
 have HB:=z3.mk (Below.refl w.heap.size w)
 have H : ((some (([6148914691236517205,3689348814741910323,1085102592571150095,71777214294589695,281470681808895,4294967295] : List Int) : List Int)).bind fun y101=>(if 0 ≤ a0 then (if a0 < (y101.length : Int) then (some (rd y101 a0)) else (none)) else (none))) = some r:=h
 clear h
 obtain ⟨y101,hy101⟩ : ∃ y_ : List Int,y_ = (([6148914691236517205,3689348814741910323,1085102592571150095,71777214294589695,281470681808895,4294967295] : List Int)):=⟨_,rfl⟩
 replace H : (if 0 ≤ a0 then (if a0 < (y101.length : Int) then (some (rd y101 a0)) else (none)) else (none)) = some r:=by first|(rw [hy101];with_reducible exact H)|(have H2_:=(Option.bind_some _ _).symm.trans H;rw [hy101];with_reducible exact H2_)|(have H2_:=(Option.bind_some _ _).symm.trans H;with_reducible exact H2_)|with_reducible exact H|(rw [hy101];exact H)|exact H
 have Ny101:=z3.mk hy101
 clear hy101
 by_cases c2 : 0 ≤ a0
 rotate_left
 · rw [if_neg c2] at H
   exact absurd H (by simp)
 rw [if_pos c2] at H
 have c2b0 : decide (0 ≤ a0) = true:=decide_eq_true c2
 clear c2
 by_cases c3 : a0 < (y101.length : Int)
 rotate_left
 · rw [if_neg c3] at H
   exact absurd H (by simp)
 rw [if_pos c3] at H
 have c3b0 : decide (a0 < (y101.length : Int)) = true:=decide_eq_true c3
 clear c3
 obtain rfl:=Option.some.inj H
 go_enter Try.func108,Try.ntmps108
 go_wp2_with (first|((with_reducible refine zE (N:=4) rfl ?_);refine Kd.z3D (Kd.int .u64) _ 49 ?hg (N:=4) ?hd (xs:=([6148914691236517205,3689348814741910323,1085102592571150095,71777214294589695,281470681808895,4294967295] : List Int)) (inner:=[.int .u64 6148914691236517205,.int .u64 3689348814741910323,.int .u64 1085102592571150095,.int .u64 71777214294589695,.int .u64 281470681808895,.int .u64 4294967295]) (ok:=fun _=>True) (okp:=fun _=>True) ?hr ?hp (fun _ hk=>hk) trivial (Below.refl _ _) (Nat.le_refl _) (by simp) ?_;(case hd=>rfl);(case hg=>rfl);(case hr=>first|(go_simp;done)|(go_simp;rfl));(case hp=>exact (Reps.one (show Kd.M (Kd.int .u64) _ _ _ 6148914691236517205 [.int .u64 6148914691236517205] from rfl) (Reps.one (show Kd.M (Kd.int .u64) _ _ _ 3689348814741910323 [.int .u64 3689348814741910323] from rfl) (Reps.one (show Kd.M (Kd.int .u64) _ _ _ 1085102592571150095 [.int .u64 1085102592571150095] from rfl) (Reps.one (show Kd.M (Kd.int .u64) _ _ _ 71777214294589695 [.int .u64 71777214294589695] from rfl) (Reps.one (show Kd.M (Kd.int .u64) _ _ _ 281470681808895 [.int .u64 281470681808895] from rfl) (Reps.one (show Kd.M (Kd.int .u64) _ _ _ 4294967295 [.int .u64 4294967295] from rfl) (Reps.none _ _))))))));intro v102 w4 ho5 hb hg_ hnew_;clear hg_ hnew_;(first|rw [← Ny101.out] at ho5|(simp only [Int.reduceToNat] at ho5;rw [← Ny101.out] at ho5));have n0_:=z3.mk (Kd.z1b ho5 (zc (by repeat (first|(with_reducible first|exact HB.out|apply z2|apply z0|apply z1)|exact HB.out))));have n1_:=z3.mk (zb (by repeat (first|(with_reducible first|exact HB.out|apply z2|apply z0|apply z1)|exact HB.out)) hb);clear HB;have HO103:=n0_;have HB:=n1_;clear n0_ n1_;clear hb ho5;obtain ⟨Ao6,co6,eo6⟩:=Kd.z10 HO103.out;subst eo6;have p104 : 0 ≤ (a0 : Int):=of_decide_eq_true (by first|(with_reducible assumption)|assumption);have q104 : a0 < (y101.length : Int):=of_decide_eq_true (by first|(with_reducible assumption)|assumption);obtain ⟨ad104,e104,hx104_0⟩:=Kd.z5g (Kd.zA HO103.out).2.2 a0 p104 q104;cases e104;replace p104:=eq_true p104;replace q104:=eq_true q104))
 go_ret
 exact ⟨by first|rfl|(simp [zg,zh] <;> rfl)|(simp [*,zg,zh] <;> rfl),by repeat (first|(with_reducible first|exact HB.out|apply z2|apply z0|apply z1)|exact HB.out)⟩
end Go.Proofs.Ytngcaphdkgihmaa.P

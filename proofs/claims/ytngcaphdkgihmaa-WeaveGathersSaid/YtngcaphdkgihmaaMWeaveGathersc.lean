/- Own text: merged by wip/tools/pack.py out of what the law WeaveGathers reaches. -/
import Derived.Test.YtngcaphdkgihmaaMWeaveGathersb
namespace Go.Proofs.Ytngcaphdkgihmaa.P
open Go.RowKit Go.Proofs.YtngcaphdkgihmaaW.PrintWords Go.Proofs.YtngcaphdkgihmaaW.PrintLast Go.Proofs.YtngcaphdkgihmaaW.PrintMore
attribute [local go_sem] zW zY z15 z16 zQ zR zX zZ   -- for this text's walks alone
set_option linter.unusedVariables false
set_option linter.unusedSimpArgs false
def zo.l0 : Nat → Int → List (S61) → Int → Option (Bool)
 | 0,_,_,_=>none
 | k + 1,x0,x1,x5=>if x5 < (x1.length : Int) then (if 0 ≤ x5 then ((zu.f k x0 ((z12 x1 x5).f0) ((z12 x1 x5).f1)).bind fun t102=>(if t102 = true then (zo.l0 k x0 x1 (wrap64 (x5 + 1))) else (some false))) else (none)) else (some true)
def zo.f (k : Nat) (a0 : Int) (l1 : List (S61)) : Option (Bool):=zo.l0 k a0 l1 0
theorem zo.z13 : ∀ k,(∀ y0 y1 y2,LeO (zo.l0 k y0 y1 y2) (zo.l0 (k + 1) y0 y1 y2))
 | 0=>fun _ _ _ r h=>by simp [zo.l0] at h
 | k + 1=>by
  have ih0:=zo.z13 k
  · intro y0 y1 y2
    unfold zo.l0
    repeat' first
    | (with_reducible exact ih0 _ _ _)
    | (with_reducible exact zu.mono _ _ _ _)
    | (with_reducible exact LeO.refl _)
    | (with_reducible exact LeO.none _)
    | (with_reducible refine LeO.ite ?_ ?_)
    | (with_reducible refine LeO.bind ?_ (fun _=>?_))
    | exact ih0 _ _ _
    | exact zu.mono _ _ _ _
    | exact LeO.none _
    | refine LeO.ite ?_ ?_
    | refine LeO.bind ?_ (fun _=>?_)
theorem zo.mono : ∀ a0 a1 k,LeO (zo.f k a0 a1) (zo.f (k + 1) a0 a1):=by
 intro a0 a1 k
 have ih0:=zo.z13 k
 unfold zo.f
 repeat' first
  | (with_reducible exact ih0 _ _ _)
  | (with_reducible exact zu.mono _ _ _ _)
  | (with_reducible exact LeO.refl _)
  | (with_reducible exact LeO.none _)
  | (with_reducible refine LeO.ite ?_ ?_)
  | (with_reducible refine LeO.bind ?_ (fun _=>?_))
  | exact ih0 _ _ _
  | exact zu.mono _ _ _ _
  | exact LeO.none _
  | refine LeO.ite ?_ ?_
  | refine LeO.bind ?_ (fun _=>?_)
set_option maxHeartbeats 8000000 in
set_option maxRecDepth 100000 in
theorem zo.calls (k : Nat) (a0 : Int) (A1 : Option Addr) (c1 : Nat) (l1 : List (S61)) (r : Bool) (w : World) (hr1 : Kd.C k61 w A1 l1.length l1) (hc1 : l1.length ≤ c1) (h : zo.f k a0 l1 = some r) :
 Calls Try.prog 46 #[.int .i64 a0,.slice A1 l1.length c1] w fun e w'=>e = .returned (.bool r) ∧ Below w.heap.size w w':=by
 have hu61:=Try.underlying61
 have HR1:=z3.mk hr1
 have HC1:=z3.mk hc1
 clear hr1 hc1
 have HB:=z3.mk (Below.refl w.heap.size w)
 have H : (zo.l0 k a0 l1 0) = some r:=h
 clear h
 have H':=z3.mk H
 clear H
 go_enter Try.func46,Try.ntmps46
 go_wp2
 go_loopg [5] k (fun kq v5 w'=>∃ (x5_1 : Int),v5 = .int .i64 x5_1 ∧ z3 (zo.l0 kq a0 l1 x5_1 = some r) ∧ z3 (kq ≤ k) ∧ z3 (Below w.heap.size w w'))
 case atStart=>exact ⟨(0),(by first|rfl|(simp;done)|(simp [*];done)),H',⟨Nat.le_refl _⟩,⟨by repeat (first|(with_reducible first|exact HB.out|apply z2|apply z0|apply z1)|exact HB.out)⟩⟩
 case round =>
  clear H'
  (try clear c1);(try clear p2)
  obtain ⟨x5_1,rfl,HA,HK1,HB⟩:=hrel
  cases gk with
  | zero=>exact absurd HA.out (by simp [zo.l0])
  | succ k1 =>
   have H:=HA.out
   clear HA
   simp only [zo.l0] at H
   by_cases c3 : x5_1 < (l1.length : Int)
   rotate_left
   · rw [if_neg c3] at H
     have c3b0 : decide (x5_1 < (l1.length : Int)) = false:=decide_eq_false c3
     clear c3
     obtain rfl:=Option.some.inj H
     go_wp2
     go_ret
     exact ⟨by first|rfl|(simp [zg,zh] <;> rfl)|(simp [*,zg,zh] <;> rfl),by repeat (first|(with_reducible first|exact HB.out|apply z2|apply z0|apply z1)|exact HB.out)⟩
   rw [if_pos c3] at H
   have c3b0 : decide (x5_1 < (l1.length : Int)) = true:=decide_eq_true c3
   clear c3
   by_cases c4 : 0 ≤ x5_1
   rotate_left
   · rw [if_neg c4] at H
     exact absurd H (by simp)
   rw [if_pos c4] at H
   have c4b0 : decide (0 ≤ x5_1) = true:=decide_eq_true c4
   clear c4
   replace H:=Option.bind_eq_some_iff.mp H
   obtain ⟨t102,A50,H⟩:=H
   replace H : (if t102 = true then (zo.l0 k1 a0 l1 (wrap64 (x5_1 + 1))) else (some false)) = some r:=H
   have A5:=z3.mk A50
   clear A50
   by_cases c6 : t102 = true
   rotate_left
   · replace c6:=Bool.eq_false_iff.mpr c6
     subst c6
     have H1 : (some false) = some r:=by rw [if_neg (show ¬ (false = true) by decide)] at H;exact H
     clear H
     have H:=H1
     clear H1
     obtain rfl:=Option.some.inj H
     have p101 : 0 ≤ (x5_1 : Int):=of_decide_eq_true (by first|(with_reducible assumption)|assumption)
     have q101 : x5_1 < (l1.length : Int):=of_decide_eq_true (by first|(with_reducible assumption)|assumption)
     obtain ⟨ad101,e101,hx101_0,hx101_1⟩:=z2N HR1.out x5_1 p101 q101
     cases e101
     replace hx101_0:=(HB.out.cell (World.block_lt_of_cell? w _ hx101_0)).trans hx101_0
     replace hx101_1:=(HB.out.cell (World.block_lt_of_cell? w _ hx101_1)).trans hx101_1
     replace p101:=eq_true p101
     replace q101:=eq_true q101
     go_wp2_with (first|((with_reducible refine zl (f:=39) rfl ?_);refine goesL_ (some 17) rfl rfl Try.func39 (by kernel_rfl) rfl #[.int .i64 a0,.agg #[.int .u64 ((z12 l1 x5_1).f0),.int .u64 ((z12 l1 x5_1).f1)]] rfl (by (try simp only [List.map_toArray,List.map_cons,List.map_nil]);first|done|rfl|(simp only [List.length_drop,List.length_take];rfl)) ?_;(with_reducible refine (zu.calls k1 a0 ((z12 l1 x5_1).f0) ((z12 l1 x5_1).f1) false _ A5.out).mono ?_);rintro e w8 ⟨rfl,hb⟩;refine ⟨_,rfl,?_⟩;have n0_:=z3.mk (zb (by repeat (first|(with_reducible first|exact HB.out|apply z2|apply z0|apply z1)|exact HB.out)) hb);clear HB;have HB:=n0_;clear n0_;(try clear hb);(try clear hb2);(try clear hk);(try clear hi)))
     go_ret
     exact ⟨by first|rfl|(simp [zg,zh] <;> rfl)|(simp [*,zg,zh] <;> rfl),by repeat (first|(with_reducible first|exact HB.out|apply z2|apply z0|apply z1)|exact HB.out)⟩
   subst c6
   have H1 : (zo.l0 k1 a0 l1 (wrap64 (x5_1 + 1))) = some r:=by rw [if_pos rfl] at H;exact H
   clear H
   have H:=H1
   clear H1
   have H':=z3.mk H
   clear H
   have p101 : 0 ≤ (x5_1 : Int):=of_decide_eq_true (by first|(with_reducible assumption)|assumption)
   have q101 : x5_1 < (l1.length : Int):=of_decide_eq_true (by first|(with_reducible assumption)|assumption)
   obtain ⟨ad101,e101,hx101_0,hx101_1⟩:=z2N HR1.out x5_1 p101 q101
   cases e101
   replace hx101_0:=(HB.out.cell (World.block_lt_of_cell? w _ hx101_0)).trans hx101_0
   replace hx101_1:=(HB.out.cell (World.block_lt_of_cell? w _ hx101_1)).trans hx101_1
   replace p101:=eq_true p101
   replace q101:=eq_true q101
   go_wp2_with (first|((with_reducible refine zl (f:=39) rfl ?_);refine goesL_ (some 17) rfl rfl Try.func39 (by kernel_rfl) rfl #[.int .i64 a0,.agg #[.int .u64 ((z12 l1 x5_1).f0),.int .u64 ((z12 l1 x5_1).f1)]] rfl (by (try simp only [List.map_toArray,List.map_cons,List.map_nil]);first|done|rfl|(simp only [List.length_drop,List.length_take];rfl)) ?_;(with_reducible refine (zu.calls k1 a0 ((z12 l1 x5_1).f0) ((z12 l1 x5_1).f1) true _ A5.out).mono ?_);rintro e w7 ⟨rfl,hb⟩;refine ⟨_,rfl,?_⟩;have n0_:=z3.mk (zb (by repeat (first|(with_reducible first|exact HB.out|apply z2|apply z0|apply z1)|exact HB.out)) hb);clear HB;have HB:=n0_;clear n0_;(try clear hb);(try clear hb2);(try clear hk);(try clear hi)))
   go_roundg k1
   case measure=>have:=HK1.out;omega
   case rel=>exact ⟨(wrap64 (x5_1 + 1)),(by first|rfl|(simp;done)|(simp [*];done)),H',⟨by have:=HK1.out;omega⟩,⟨by repeat (first|(with_reducible first|exact HB.out|apply z2|apply z0|apply z1)|exact HB.out)⟩⟩
end Go.Proofs.Ytngcaphdkgihmaa.P
namespace Go.Proofs.Ytngcaphdkgihmaa.P
open Go.RowKit Go.Proofs.YtngcaphdkgihmaaW.PrintWords Go.Proofs.YtngcaphdkgihmaaW.PrintLast Go.Proofs.YtngcaphdkgihmaaW.PrintMore
attribute [local go_sem] zW zY z15 z16 zQ zR zX zZ   -- for this text's walks alone
set_option linter.unusedVariables false
set_option linter.unusedSimpArgs false
def zt.f (a0 : Int) : Option (Int):=(some (([1,2,4,8,16,32,64,128] : List Int) : List Int)).bind fun y101=>(if 0 ≤ a0 then (if a0 < (y101.length : Int) then (some (rd y101 a0)) else (none)) else (none))
set_option maxHeartbeats 8000000 in
set_option maxRecDepth 100000 in
theorem zt.calls (a0 : Int) (r : Int) (w : World) (h : zt.f a0 = some r) :
 Calls Try.prog 72 #[.int .i64 a0] w fun e w'=>e = .returned (.int .i64 r) ∧ Below w.heap.size w w':=by
 have HB:=z3.mk (Below.refl w.heap.size w)
 have H : ((some (([1,2,4,8,16,32,64,128] : List Int) : List Int)).bind fun y101=>(if 0 ≤ a0 then (if a0 < (y101.length : Int) then (some (rd y101 a0)) else (none)) else (none))) = some r:=h
 clear h
 obtain ⟨y101,hy101⟩ : ∃ y_ : List Int,y_ = (([1,2,4,8,16,32,64,128] : List Int)):=⟨_,rfl⟩
 replace H : (if 0 ≤ a0 then (if a0 < (y101.length : Int) then (some (rd y101 a0)) else (none)) else (none)) = some r:=by first|(rw [hy101];with_reducible exact H)|(have H2_:=(Option.bind_some _ _).symm.trans H;rw [hy101];with_reducible exact H2_)|(have H2_:=(Option.bind_some _ _).symm.trans H;with_reducible exact H2_)|with_reducible exact H|(rw [hy101];exact H)|exact H
 have Ny101:=z3.mk hy101
 clear hy101
 by_cases c2 : 0 ≤ a0
 rotate_left
 · rw [if_neg c2] at H
   exact absurd H (by simp)
 rw [if_pos c2] at H
 have c2b0 : decide (0 ≤ a0) = true:=decide_eq_true c2
 clear c2
 by_cases c3 : a0 < (y101.length : Int)
 rotate_left
 · rw [if_neg c3] at H
   exact absurd H (by simp)
 rw [if_pos c3] at H
 have c3b0 : decide (a0 < (y101.length : Int)) = true:=decide_eq_true c3
 clear c3
 obtain rfl:=Option.some.inj H
 go_enter Try.func72,Try.ntmps72
 go_wp2_with (first|((with_reducible refine zE (N:=4) rfl ?_);refine Kd.z3D (Kd.int .i64) _ 3 ?hg (N:=4) ?hd (xs:=([1,2,4,8,16,32,64,128] : List Int)) (inner:=[.int .i64 1,.int .i64 2,.int .i64 4,.int .i64 8,.int .i64 16,.int .i64 32,.int .i64 64,.int .i64 128]) (ok:=fun _=>True) (okp:=fun _=>True) ?hr ?hp (fun _ hk=>hk) trivial (Below.refl _ _) (Nat.le_refl _) (by simp) ?_;(case hd=>rfl);(case hg=>rfl);(case hr=>first|(go_simp;done)|(go_simp;rfl));(case hp=>exact (Reps.one (show Kd.M (Kd.int .i64) _ _ _ 1 [.int .i64 1] from rfl) (Reps.one (show Kd.M (Kd.int .i64) _ _ _ 2 [.int .i64 2] from rfl) (Reps.one (show Kd.M (Kd.int .i64) _ _ _ 4 [.int .i64 4] from rfl) (Reps.one (show Kd.M (Kd.int .i64) _ _ _ 8 [.int .i64 8] from rfl) (Reps.one (show Kd.M (Kd.int .i64) _ _ _ 16 [.int .i64 16] from rfl) (Reps.one (show Kd.M (Kd.int .i64) _ _ _ 32 [.int .i64 32] from rfl) (Reps.one (show Kd.M (Kd.int .i64) _ _ _ 64 [.int .i64 64] from rfl) (Reps.one (show Kd.M (Kd.int .i64) _ _ _ 128 [.int .i64 128] from rfl) (Reps.none _ _))))))))));intro v102 w4 ho5 hb hg_ hnew_;clear hg_ hnew_;(first|rw [← Ny101.out] at ho5|(simp only [Int.reduceToNat] at ho5;rw [← Ny101.out] at ho5));have n0_:=z3.mk (Kd.z1b ho5 (zc (by repeat (first|(with_reducible first|exact HB.out|apply z2|apply z0|apply z1)|exact HB.out))));have n1_:=z3.mk (zb (by repeat (first|(with_reducible first|exact HB.out|apply z2|apply z0|apply z1)|exact HB.out)) hb);clear HB;have HO103:=n0_;have HB:=n1_;clear n0_ n1_;clear hb ho5;obtain ⟨Ao6,co6,eo6⟩:=Kd.z10 HO103.out;subst eo6;have p104 : 0 ≤ (a0 : Int):=of_decide_eq_true (by first|(with_reducible assumption)|assumption);have q104 : a0 < (y101.length : Int):=of_decide_eq_true (by first|(with_reducible assumption)|assumption);obtain ⟨ad104,e104,hx104_0⟩:=Kd.z5g (Kd.zA HO103.out).2.2 a0 p104 q104;cases e104;replace p104:=eq_true p104;replace q104:=eq_true q104))
 go_ret
 exact ⟨by first|rfl|(simp [zg,zh] <;> rfl)|(simp [*,zg,zh] <;> rfl),by repeat (first|(with_reducible first|exact HB.out|apply z2|apply z0|apply z1)|exact HB.out)⟩
end Go.Proofs.Ytngcaphdkgihmaa.P
namespace Go.Proofs.Ytngcaphdkgihmaa.P
open Go.RowKit Go.Proofs.YtngcaphdkgihmaaW.PrintWords Go.Proofs.YtngcaphdkgihmaaW.PrintLast Go.Proofs.YtngcaphdkgihmaaW.PrintMore
attribute [local go_sem] zW zY z15 z16 zQ zR zX zZ   -- for this text's walks alone
set_option linter.unusedVariables false
set_option linter.unusedSimpArgs false
def zj.j0 : Nat → Int → Bool → Option (Int × Int)
 | 0,_,_=>none
 | k + 1,x0,x8=>if x8 = true then (some (0,0)) else (if x0 > 63 then (if 0 ≤ (IntKind.u64.wrap (wrap64 (x0 - 64))) then (some (shl .u64 1 (IntKind.u64.wrap (wrap64 (x0 - 64))),0)) else (none)) else (if 0 ≤ (IntKind.u64.wrap (x0)) then (some (0,shl .u64 1 (IntKind.u64.wrap (x0)))) else (none)))
def zj.f (k : Nat) (a0 : Int) : Option (Int × Int):=if a0 < 0 then (zj.j0 k a0 true) else (zj.j0 k a0 (decide (a0 > 127)))
theorem zj.z13 : ∀ k,(∀ y0 y1,LeO (zj.j0 k y0 y1) (zj.j0 (k + 1) y0 y1))
 | 0=>fun _ _ r h=>by simp [zj.j0] at h
 | k + 1=>by
  have ih0:=zj.z13 k
  · intro y0 y1
    unfold zj.j0
    repeat' first
    | (with_reducible exact ih0 _ _)
    | (with_reducible exact LeO.refl _)
    | (with_reducible exact LeO.none _)
    | (with_reducible refine LeO.ite ?_ ?_)
    | (with_reducible refine LeO.bind ?_ (fun _=>?_))
    | exact ih0 _ _
    | exact LeO.none _
    | refine LeO.ite ?_ ?_
    | refine LeO.bind ?_ (fun _=>?_)
theorem zj.mono : ∀ a0 k,LeO (zj.f k a0) (zj.f (k + 1) a0):=by
 intro a0 k
 have ih0:=zj.z13 k
 unfold zj.f
 repeat' first
  | (with_reducible exact ih0 _ _)
  | (with_reducible exact LeO.refl _)
  | (with_reducible exact LeO.none _)
  | (with_reducible refine LeO.ite ?_ ?_)
  | (with_reducible refine LeO.bind ?_ (fun _=>?_))
  | exact ih0 _ _
  | exact LeO.none _
  | refine LeO.ite ?_ ?_
  | refine LeO.bind ?_ (fun _=>?_)
set_option maxHeartbeats 8000000 in
set_option maxRecDepth 100000 in
theorem zj.calls (k : Nat) (a0 : Int) (r1 : Int) (r2 : Int) (w : World) (h : zj.f k a0 = some (r1,r2)) :
 Calls Try.prog 75 #[.int .i64 a0] w fun e w'=>e = .returned (.agg #[.int .u64 r1,.int .u64 r2]) ∧ Below w.heap.size w w':=by
 have hu61:=Try.underlying61
 have HB:=z3.mk (Below.refl w.heap.size w)
 have H : (if a0 < 0 then (zj.j0 k a0 true) else (zj.j0 k a0 (decide (a0 > 127)))) = some (r1,r2):=h
 clear h
 have HC2:=z3.mk H
 clear H
 go_enter Try.func75,Try.ntmps75
 go_upto_region 1 with (first|((with_reducible refine zE (N:=2) rfl ?_);refine zC ?hg (N:=2) ?hd (cs:=#[.int .u64 0,.int .u64 0]) (t:=61) ?hr ?_;(case hd=>rfl);(case hg=>rfl);(case hr=>first|(go_simp;done)|(go_simp;rfl));intro gb101 hg w3 hbox hb;have n0_:=z3.mk (zb (by repeat (first|(with_reducible first|exact HB.out|apply z2|apply z0|apply z1)|exact HB.out)) hb);have n1_:=z3.mk (hbox);have n2_:=z3.mk ((by rw [hg];exact (zc (by repeat (first|(with_reducible first|exact HB.out|apply z2|apply z0|apply z1)|exact HB.out))) : w.heap.size ≤ gb101));have n3_:=z3.mk ((by rw [hg];exact (zc (by repeat (first|(with_reducible first|exact HB.out|apply z2|apply z0|apply z1)|exact HB.out))) : w.heap.size ≤ gb101));clear HB;have HB:=n0_;have BK101:=n1_;have GW101:=n2_;have GE101:=n3_;clear n0_ n1_ n2_ n3_;clear hb hbox hg))
 (try simp only [Act.put,List.setIfInBounds_toArray,List.set_cons_zero,List.set_cons_succ])
 go_cut [8] (fun v8 wc=>∃ (kq : Nat) (x8_1 : Bool),v8 = .bool x8_1 ∧ z3 (zj.j0 kq a0 x8_1 = some (r1,r2)) ∧ z3 (kq ≤ k) ∧ z3 (wc.heap[gb101]? = some (.cells #[.int .u64 0,.int .u64 0] 61 (0,0))) ∧ z3 (Below w.heap.size w wc))
 case first =>
  have H:=HC2.out
  clear HC2
  by_cases c4 : a0 < 0
  rotate_left
  · rw [if_neg c4] at H
    have c4b0 : decide (a0 < 0) = false:=decide_eq_false c4
    clear c4
    (first|rw [c4b0]|(simp only [zD,zI];rw [c4b0])|skip)
    have H':=z3.mk H
    clear H
    go_wp2
    go_meet
    case rel=>exact ⟨_,(decide (a0 > 127)),(by first|rfl|(simp;done)|(simp [*];done)),H',⟨by first|omega|exact Nat.le_refl _⟩,⟨by (with_reducible repeat (first|refine z5 ?_ _|refine z8 ?_|refine z4 ?_ _));exact BK101.out⟩,⟨by repeat (first|(with_reducible first|exact HB.out|apply z2|apply z0|apply z1|refine z6 ?_ GE101.out)|exact HB.out)⟩⟩
  rw [if_pos c4] at H
  have c4b0 : decide (a0 < 0) = true:=decide_eq_true c4
  clear c4
  (first|rw [c4b0]|(simp only [zD,zI];rw [c4b0])|skip)
  have H':=z3.mk H
  clear H
  go_wp2
  go_meet
  case rel=>exact ⟨_,(true),(by first|rfl|(simp;done)|(simp [*];done)),H',⟨by first|omega|exact Nat.le_refl _⟩,⟨by (with_reducible repeat (first|refine z5 ?_ _|refine z8 ?_|refine z4 ?_ _));exact BK101.out⟩,⟨by repeat (first|(with_reducible first|exact HB.out|apply z2|apply z0|apply z1|refine z6 ?_ GE101.out)|exact HB.out)⟩⟩
 case rest =>
  clear HC2
  (try clear p2);(try clear c4);(try clear c4b0)
  obtain ⟨kq,x8_1,rfl,HA,HJ1,BK101,HB⟩:=hcut
  cases kq with
  | zero=>exact absurd HA.out (by simp [zj.j0])
  | succ kj1 =>
   have H:=HA.out
   clear HA
   simp only [zj.j0] at H
   by_cases c5 : x8_1 = true
   · subst c5
     have H1 : (some (0,0)) = some (r1,r2):=by rw [if_pos rfl] at H;exact H
     clear H
     have H:=H1
     clear H1
     simp only [Option.some.injEq,Prod.mk.injEq] at H
     obtain ⟨rfl,rfl⟩:=H
     have hcz6_0 : wc.cell? ⟨gb101,0,none⟩ = some (.int .u64 0):=(ze BK101.out 0).trans rfl
     have hcz6_1 : wc.cell? ⟨gb101,1,none⟩ = some (.int .u64 0):=(ze BK101.out 1).trans rfl
     have hfz6_0:=zd BK101.out 0
     have hfz6_1:=zd BK101.out 1
     go_wp2
     refine bodyPost_ret (results_cell_row rfl _ _ gb101 61 #[.int .u64 0,.int .u64 0] (0,0) _ rfl (by (with_reducible repeat (first|refine z5 ?_ _|refine z8 ?_|refine z4 ?_ _));refine zN (cs:=#[.int .u64 0,.int .u64 0]) ?_ 1 _ rfl;(with_reducible repeat (first|refine z5 ?_ _|refine z8 ?_|refine z4 ?_ _));refine zN (cs:=#[.int .u64 0,.int .u64 0]) ?_ 0 _ rfl;(with_reducible repeat (first|refine z5 ?_ _|refine z8 ?_|refine z4 ?_ _));exact BK101.out) Try.underlying61 rfl (by kernel_rfl)) rfl ?_
     exact ⟨by first|rfl|(simp [zg,zh] <;> rfl)|(simp [*,zg,zh] <;> rfl),by repeat (first|(with_reducible first|exact HB.out|apply z2|apply z0|apply z1|refine z6 ?_ GE101.out)|exact HB.out)⟩
   replace c5:=Bool.eq_false_iff.mpr c5
   subst c5
   have H1 : (if a0 > 63 then (if 0 ≤ (IntKind.u64.wrap (wrap64 (a0 - 64))) then (some (shl .u64 1 (IntKind.u64.wrap (wrap64 (a0 - 64))),0)) else (none)) else (if 0 ≤ (IntKind.u64.wrap (a0)) then (some (0,shl .u64 1 (IntKind.u64.wrap (a0)))) else (none))) = some (r1,r2):=by rw [if_neg (show ¬ (false = true) by decide)] at H;exact H
   clear H
   have H:=H1
   clear H1
   by_cases c7 : a0 > 63
   · rw [if_pos c7] at H
     have c7b0 : decide (63 < a0) = true:=decide_eq_true c7
     clear c7
     obtain ⟨ji8,hji8⟩ : ∃ j_ : Int,(IntKind.u64.wrap (wrap64 (a0 - 64))) = j_:=⟨_,rfl⟩
     replace H : (if 0 ≤ (ji8) then (some (shl .u64 1 (ji8),0)) else (none)) = some (r1,r2):=by first|(rw [hji8] at H;exact H)|(simp only [hji8] at H ⊢;exact H)
     by_cases c9 : 0 ≤ (ji8)
     rotate_left
     · rw [if_neg c9] at H
       exact absurd H (by simp)
     rw [if_pos c9] at H
     have c9b0:=eq_true c9
     have c9b1 : decide (0 ≤ (ji8)) = true:=decide_eq_true c9
     clear c9
     obtain ⟨ji10,hji10⟩ : ∃ j_ : Int,(shl .u64 1 (ji8)) = j_:=⟨_,rfl⟩
     replace H : (some (ji10,0)) = some (r1,r2):=by first|(rw [hji10] at H;exact H)|(simp only [hji10] at H ⊢;exact H)
     have hji10_ : (IntKind.u64.wrap (1 * 2 ^ min (ji8).toNat 64)) = ji10:=hji10
     have hji10z : (ji8) ≤ 64 → (IntKind.u64.wrap (1 * 2 ^ (ji8).toNat)) = ji10:=z1a hji10
     have hji10n0 : 0 ≤ ji10:=by rw [← hji10];exact Int.emod_nonneg _ (by decide)
     have hji10n1 : decide (0 ≤ ji10) = true:=decide_eq_true hji10n0
     replace hji10n0:=eq_true hji10n0
     have hji10u : (IntKind.u64.wrap (2 ^ min (ji8).toNat 64)) = ji10:=by have h_:=hji10_;rw [Int.one_mul] at h_;exact h_
     have hji10v : (ji8) ≤ 64 → (IntKind.u64.wrap (2 ^ (ji8).toNat)) = ji10:=fun hle_=>by have h_:=hji10z hle_;rw [Int.one_mul] at h_;exact h_
     simp only [Option.some.injEq,Prod.mk.injEq] at H
     obtain ⟨rfl,rfl⟩:=H
     have hcz11_0 : wc.cell? ⟨gb101,0,none⟩ = some (.int .u64 0):=(ze BK101.out 0).trans rfl
     have hcz11_1 : wc.cell? ⟨gb101,1,none⟩ = some (.int .u64 0):=(ze BK101.out 1).trans rfl
     have hfz11_0:=zd BK101.out 0
     have hfz11_1:=zd BK101.out 1
     go_wp2
     refine bodyPost_ret (results_cell_row rfl _ _ gb101 61 #[.int .u64 ji10,.int .u64 0] (0,0) _ rfl (by (with_reducible repeat (first|refine z5 ?_ _|refine z8 ?_|refine z4 ?_ _));refine zN (cs:=#[.int .u64 ji10,.int .u64 0]) ?_ 1 _ rfl;(with_reducible repeat (first|refine z5 ?_ _|refine z8 ?_|refine z4 ?_ _));refine zN (cs:=#[.int .u64 0,.int .u64 0]) ?_ 0 _ rfl;(with_reducible repeat (first|refine z5 ?_ _|refine z8 ?_|refine z4 ?_ _));exact BK101.out) Try.underlying61 rfl (by kernel_rfl)) rfl ?_
     exact ⟨by first|rfl|(simp [zg,zh] <;> rfl)|(simp only [← hji8,← hji10];first|rfl|(simp [zg,zh] <;> rfl))|(simp [*,zg,zh] <;> rfl),by repeat (first|(with_reducible first|exact HB.out|apply z2|apply z0|apply z1|refine z6 ?_ GE101.out)|exact HB.out)⟩
   rw [if_neg c7] at H
   have c7b0 : decide (63 < a0) = false:=decide_eq_false c7
   clear c7
   obtain ⟨ji12,hji12⟩ : ∃ j_ : Int,(IntKind.u64.wrap (a0)) = j_:=⟨_,rfl⟩
   replace H : (if 0 ≤ (ji12) then (some (0,shl .u64 1 (ji12))) else (none)) = some (r1,r2):=by first|(rw [hji12] at H;exact H)|(simp only [hji12] at H ⊢;exact H)
   by_cases c13 : 0 ≤ (ji12)
   rotate_left
   · rw [if_neg c13] at H
     exact absurd H (by simp)
   rw [if_pos c13] at H
   have c13b0:=eq_true c13
   have c13b1 : decide (0 ≤ (ji12)) = true:=decide_eq_true c13
   clear c13
   obtain ⟨ji14,hji14⟩ : ∃ j_ : Int,(shl .u64 1 (ji12)) = j_:=⟨_,rfl⟩
   replace H : (some (0,ji14)) = some (r1,r2):=by first|(rw [hji14] at H;exact H)|(simp only [hji14] at H ⊢;exact H)
   have hji14_ : (IntKind.u64.wrap (1 * 2 ^ min (ji12).toNat 64)) = ji14:=hji14
   have hji14z : (ji12) ≤ 64 → (IntKind.u64.wrap (1 * 2 ^ (ji12).toNat)) = ji14:=z1a hji14
   have hji14n0 : 0 ≤ ji14:=by rw [← hji14];exact Int.emod_nonneg _ (by decide)
   have hji14n1 : decide (0 ≤ ji14) = true:=decide_eq_true hji14n0
   replace hji14n0:=eq_true hji14n0
   have hji14u : (IntKind.u64.wrap (2 ^ min (ji12).toNat 64)) = ji14:=by have h_:=hji14_;rw [Int.one_mul] at h_;exact h_
   have hji14v : (ji12) ≤ 64 → (IntKind.u64.wrap (2 ^ (ji12).toNat)) = ji14:=fun hle_=>by have h_:=hji14z hle_;rw [Int.one_mul] at h_;exact h_
   simp only [Option.some.injEq,Prod.mk.injEq] at H
   obtain ⟨rfl,rfl⟩:=H
   have hcz15_0 : wc.cell? ⟨gb101,0,none⟩ = some (.int .u64 0):=(ze BK101.out 0).trans rfl
   have hcz15_1 : wc.cell? ⟨gb101,1,none⟩ = some (.int .u64 0):=(ze BK101.out 1).trans rfl
   have hfz15_0:=zd BK101.out 0
   have hfz15_1:=zd BK101.out 1
   go_wp2
   refine bodyPost_ret (results_cell_row rfl _ _ gb101 61 #[.int .u64 0,.int .u64 ji14] (0,0) _ rfl (by (with_reducible repeat (first|refine z5 ?_ _|refine z8 ?_|refine z4 ?_ _));refine zN (cs:=#[.int .u64 0,.int .u64 0]) ?_ 1 _ rfl;(with_reducible repeat (first|refine z5 ?_ _|refine z8 ?_|refine z4 ?_ _));refine zN (cs:=#[.int .u64 0,.int .u64 0]) ?_ 0 _ rfl;(with_reducible repeat (first|refine z5 ?_ _|refine z8 ?_|refine z4 ?_ _));exact BK101.out) Try.underlying61 rfl (by kernel_rfl)) rfl ?_
   exact ⟨by first|rfl|(simp [zg,zh] <;> rfl)|(simp only [← hji12,← hji14];first|rfl|(simp [zg,zh] <;> rfl))|(simp [*,zg,zh] <;> rfl),by repeat (first|(with_reducible first|exact HB.out|apply z2|apply z0|apply z1|refine z6 ?_ GE101.out)|exact HB.out)⟩
end Go.Proofs.Ytngcaphdkgihmaa.P
namespace Go.Proofs.Ytngcaphdkgihmaa.P
open Go.RowKit Go.Proofs.YtngcaphdkgihmaaW.PrintWords Go.Proofs.YtngcaphdkgihmaaW.PrintLast Go.Proofs.YtngcaphdkgihmaaW.PrintMore
attribute [local go_sem] zW zY z15 z16 zQ zR zX zZ   -- for this text's walks alone
set_option linter.unusedVariables false
set_option linter.unusedSimpArgs false
def zv.f (k : Nat) (a0_0 : Int) (a0_1 : Int) (a1 : Int) : Option (Bool):=(zj.f k a1).bind fun bt102=>(some ((Go.bits .or .u64 (Go.bits .and .u64 a0_1 bt102.2) (Go.bits .and .u64 a0_0 bt102.1)) != 0))
theorem zv.mono : ∀ a0 a1 a2 k,LeO (zv.f k a0 a1 a2) (zv.f (k + 1) a0 a1 a2):=by
 intro a0 a1 a2 k
 unfold zv.f
 repeat' first
  | (with_reducible exact zj.mono _ _)
  | (with_reducible exact LeO.refl _)
  | (with_reducible exact LeO.none _)
  | (with_reducible refine LeO.ite ?_ ?_)
  | (with_reducible refine LeO.bind ?_ (fun _=>?_))
  | exact zj.mono _ _
  | exact LeO.none _
  | refine LeO.ite ?_ ?_
  | refine LeO.bind ?_ (fun _=>?_)
set_option maxHeartbeats 8000000 in
set_option maxRecDepth 100000 in
theorem zv.calls (k : Nat) (a0_0 : Int) (a0_1 : Int) (a1 : Int) (r : Bool) (w : World) (h : zv.f k a0_0 a0_1 a1 = some r) :
 Calls Try.prog 73 #[.agg #[.int .u64 a0_0,.int .u64 a0_1],.int .i64 a1] w fun e w'=>e = .returned (.bool r) ∧ Below w.heap.size w w':=by
 have hu61:=Try.underlying61
 have HB:=z3.mk (Below.refl w.heap.size w)
 have H : ((zj.f k a1).bind fun bt102=>(some ((Go.bits .or .u64 (Go.bits .and .u64 a0_1 bt102.2) (Go.bits .and .u64 a0_0 bt102.1)) != 0))) = some r:=h
 clear h
 replace H:=Option.bind_eq_some_iff.mp H
 obtain ⟨⟨t102,t103⟩,A30,H⟩:=H
 replace H : (some ((Go.bits .or .u64 (Go.bits .and .u64 a0_1 t103) (Go.bits .and .u64 a0_0 t102)) != 0)) = some r:=H
 have A3:=z3.mk A30
 clear A30
 obtain rfl:=Option.some.inj H
 go_enter Try.func73,Try.ntmps73
 go_wp2_with (first|((with_reducible refine zE (N:=2) rfl ?_);refine zC ?hg (N:=2) ?hd (cs:=#[.int .u64 a0_0,.int .u64 a0_1]) (t:=61) ?hr ?_;(case hd=>rfl);(case hg=>rfl);(case hr=>first|(go_simp;done)|(go_simp;rfl));intro gb101 hg w4 hbox hb;have n0_:=z3.mk (zb (by repeat (first|(with_reducible first|exact HB.out|apply z2|apply z0|apply z1)|exact HB.out)) hb);have n1_:=z3.mk (hbox);have n2_:=z3.mk ((by rw [hg];exact (zc (by repeat (first|(with_reducible first|exact HB.out|apply z2|apply z0|apply z1)|exact HB.out))) : w.heap.size ≤ gb101));have n3_:=z3.mk ((by rw [hg];exact (zc (by repeat (first|(with_reducible first|exact HB.out|apply z2|apply z0|apply z1)|exact HB.out))) : w.heap.size ≤ gb101));clear HB;have HB:=n0_;have BK101:=n1_;have GW101:=n2_;have GE101:=n3_;clear n0_ n1_ n2_ n3_;clear hb hbox hg)|((with_reducible refine zl (f:=75) rfl ?_);refine goesL_ (some 7) rfl rfl Try.func75 (by kernel_rfl) rfl #[.int .i64 a1] rfl (by (try simp only [List.map_toArray,List.map_cons,List.map_nil]);first|done|rfl|(simp only [List.length_drop,List.length_take];rfl)) ?_;(with_reducible refine (zj.calls k a1 t102 t103 _ A3.out).mono ?_);rintro e w5 ⟨rfl,hb⟩;refine ⟨_,rfl,?_⟩;have n0_:=z3.mk (zn (g:=gb101) (o:=.cells #[.int .u64 a0_0,.int .u64 a0_1] 61 (0,0)) (by (with_reducible repeat (first|refine z5 ?_ _|refine z8 ?_|refine z4 ?_ _));exact BK101.out) hb);have n1_:=z3.mk (zb (by repeat (first|(with_reducible first|exact HB.out|apply z2|apply z0|apply z1|refine z6 ?_ GE101.out)|exact HB.out)) hb);clear BK101;clear HB;have BK101:=n0_;have HB:=n1_;clear n0_ n1_;(try clear hb);(try clear hb2);(try clear hk);(try clear hi))|((with_reducible refine zE (N:=5) rfl ?_);refine zC ?hg (N:=5) ?hd (cs:=#[.int .u64 0,.int .u64 0]) (t:=61) ?hr ?_;(case hd=>rfl);(case hg=>rfl);(case hr=>first|(go_simp;done)|(go_simp;rfl));intro gb104 hg w6 hbox hb;have n0_:=z3.mk (zn (g:=gb101) (o:=.cells #[.int .u64 a0_0,.int .u64 a0_1] 61 (0,0)) (by (with_reducible repeat (first|refine z5 ?_ _|refine z8 ?_|refine z4 ?_ _));exact BK101.out) hb);have n1_:=z3.mk (zb (by repeat (first|(with_reducible first|exact HB.out|apply z2|apply z0|apply z1|refine z6 ?_ GE101.out)|exact HB.out)) hb);have n2_:=z3.mk (hbox);have n3_:=z3.mk ((by rw [hg];exact (zc (by repeat (first|(with_reducible first|exact HB.out|apply z2|apply z0|apply z1|refine z6 ?_ GE101.out)|exact HB.out))) : w.heap.size ≤ gb104));have n4_:=z3.mk ((by rw [hg];exact (zc (by repeat (first|(with_reducible first|exact HB.out|apply z2|apply z0|apply z1|refine z6 ?_ GE101.out)|exact HB.out))) : w.heap.size ≤ gb104));have n5_:=z3.mk ((by rw [hg];exact Nat.ne_of_lt (zO (g:=gb101) (o:=.cells #[.int .u64 a0_0,.int .u64 a0_1] 61 (0,0)) (by (with_reducible repeat (first|refine z5 ?_ _|refine z8 ?_|refine z4 ?_ _));exact BK101.out)) : gb101 ≠ gb104));have n6_:=z3.mk ((by rw [hg];exact Nat.ne_of_gt (zO (g:=gb101) (o:=.cells #[.int .u64 a0_0,.int .u64 a0_1] 61 (0,0)) (by (with_reducible repeat (first|refine z5 ?_ _|refine z8 ?_|refine z4 ?_ _));exact BK101.out)) : gb104 ≠ gb101));clear BK101;clear HB;have BK101:=n0_;have HB:=n1_;have BK104:=n2_;have GW104:=n3_;have GE104:=n4_;have NB101_104:=n5_;have NB104_101:=n6_;clear n0_ n1_ n2_ n3_ n4_ n5_ n6_;clear hb hbox hg;have hnb7:=NB104_101.out;have hnc7:=NB101_104.out;have hcz8_0 : w6.cell? ⟨gb104,0,none⟩ = some (.int .u64 0):=(ze BK104.out 0).trans rfl;have hcz8_1 : w6.cell? ⟨gb104,1,none⟩ = some (.int .u64 0):=(ze BK104.out 1).trans rfl;have hfz8_0:=zd BK104.out 0;have hfz8_1:=zd BK104.out 1;have hcz9_0 : w6.cell? ⟨gb101,0,none⟩ = some (.int .u64 a0_0):=(ze BK101.out 0).trans rfl;have hcz9_1 : w6.cell? ⟨gb101,1,none⟩ = some (.int .u64 a0_1):=(ze BK101.out 1).trans rfl;have hfz9_0:=zd BK101.out 0;have hfz9_1:=zd BK101.out 1))
 go_ret
 exact ⟨by first|rfl|(simp [zg,zh] <;> rfl)|(simp [*,zg,zh] <;> rfl),by repeat (first|(with_reducible first|exact HB.out|apply z2|apply z0|apply z1|refine z6 ?_ GE101.out|refine z6 ?_ GE104.out)|exact HB.out)⟩
end Go.Proofs.Ytngcaphdkgihmaa.P
namespace Go.Proofs.Ytngcaphdkgihmaa.P
open Go.RowKit Go.Proofs.YtngcaphdkgihmaaW.PrintWords Go.Proofs.YtngcaphdkgihmaaW.PrintLast Go.Proofs.YtngcaphdkgihmaaW.PrintMore
attribute [local go_sem] zW zY z15 z16 zQ zR zX zZ   -- for this text's walks alone
set_option linter.unusedVariables false
set_option linter.unusedSimpArgs false
def zJ.f (a0_0 : Int) (a0_1 : Int) (a1_0 : Int) (a1_1 : Int) : Option (Int × Int):=some (Go.bits .xor .u64 a0_0 a1_0,Go.bits .xor .u64 a0_1 a1_1)
set_option maxHeartbeats 8000000 in
set_option maxRecDepth 100000 in
theorem zJ.calls (a0_0 : Int) (a0_1 : Int) (a1_0 : Int) (a1_1 : Int) (r1 : Int) (r2 : Int) (w : World) (h : zJ.f a0_0 a0_1 a1_0 a1_1 = some (r1,r2)) :
 Calls Try.prog 74 #[.agg #[.int .u64 a0_0,.int .u64 a0_1],.agg #[.int .u64 a1_0,.int .u64 a1_1]] w fun e w'=>e = .returned (.agg #[.int .u64 r1,.int .u64 r2]) ∧ Below w.heap.size w w':=by
 have hu61:=Try.underlying61
 have HB:=z3.mk (Below.refl w.heap.size w)
 have H : (some (Go.bits .xor .u64 a0_0 a1_0,Go.bits .xor .u64 a0_1 a1_1)) = some (r1,r2):=h
 clear h
 simp only [Option.some.injEq,Prod.mk.injEq] at H
 obtain ⟨rfl,rfl⟩:=H
 go_enter Try.func74,Try.ntmps74
 go_wp2_with (first|((with_reducible refine zE (N:=2) rfl ?_);refine zC ?hg (N:=2) ?hd (cs:=#[.int .u64 a0_0,.int .u64 a0_1]) (t:=61) ?hr ?_;(case hd=>rfl);(case hg=>rfl);(case hr=>first|(go_simp;done)|(go_simp;rfl));intro gb101 hg w3 hbox hb;have n0_:=z3.mk (zb (by repeat (first|(with_reducible first|exact HB.out|apply z2|apply z0|apply z1)|exact HB.out)) hb);have n1_:=z3.mk (hbox);have n2_:=z3.mk ((by rw [hg];exact (zc (by repeat (first|(with_reducible first|exact HB.out|apply z2|apply z0|apply z1)|exact HB.out))) : w.heap.size ≤ gb101));have n3_:=z3.mk ((by rw [hg];exact (zc (by repeat (first|(with_reducible first|exact HB.out|apply z2|apply z0|apply z1)|exact HB.out))) : w.heap.size ≤ gb101));clear HB;have HB:=n0_;have BK101:=n1_;have GW101:=n2_;have GE101:=n3_;clear n0_ n1_ n2_ n3_;clear hb hbox hg)|((with_reducible refine zE (N:=3) rfl ?_);refine zC ?hg (N:=3) ?hd (cs:=#[.int .u64 a1_0,.int .u64 a1_1]) (t:=61) ?hr ?_;(case hd=>rfl);(case hg=>rfl);(case hr=>first|(go_simp;done)|(go_simp;rfl));intro gb102 hg w4 hbox hb;have n0_:=z3.mk (zn (g:=gb101) (o:=.cells #[.int .u64 a0_0,.int .u64 a0_1] 61 (0,0)) (by (with_reducible repeat (first|refine z5 ?_ _|refine z8 ?_|refine z4 ?_ _));exact BK101.out) hb);have n1_:=z3.mk (zb (by repeat (first|(with_reducible first|exact HB.out|apply z2|apply z0|apply z1|refine z6 ?_ GE101.out)|exact HB.out)) hb);have n2_:=z3.mk (hbox);have n3_:=z3.mk ((by rw [hg];exact (zc (by repeat (first|(with_reducible first|exact HB.out|apply z2|apply z0|apply z1|refine z6 ?_ GE101.out)|exact HB.out))) : w.heap.size ≤ gb102));have n4_:=z3.mk ((by rw [hg];exact (zc (by repeat (first|(with_reducible first|exact HB.out|apply z2|apply z0|apply z1|refine z6 ?_ GE101.out)|exact HB.out))) : w.heap.size ≤ gb102));have n5_:=z3.mk ((by rw [hg];exact Nat.ne_of_lt (zO (g:=gb101) (o:=.cells #[.int .u64 a0_0,.int .u64 a0_1] 61 (0,0)) (by (with_reducible repeat (first|refine z5 ?_ _|refine z8 ?_|refine z4 ?_ _));exact BK101.out)) : gb101 ≠ gb102));have n6_:=z3.mk ((by rw [hg];exact Nat.ne_of_gt (zO (g:=gb101) (o:=.cells #[.int .u64 a0_0,.int .u64 a0_1] 61 (0,0)) (by (with_reducible repeat (first|refine z5 ?_ _|refine z8 ?_|refine z4 ?_ _));exact BK101.out)) : gb102 ≠ gb101));clear BK101;clear HB;have BK101:=n0_;have HB:=n1_;have BK102:=n2_;have GW102:=n3_;have GE102:=n4_;have NB101_102:=n5_;have NB102_101:=n6_;clear n0_ n1_ n2_ n3_ n4_ n5_ n6_;clear hb hbox hg)|((with_reducible refine zE (N:=4) rfl ?_);refine zC ?hg (N:=4) ?hd (cs:=#[.int .u64 0,.int .u64 0]) (t:=61) ?hr ?_;(case hd=>rfl);(case hg=>rfl);(case hr=>first|(go_simp;done)|(go_simp;rfl));intro gb103 hg w5 hbox hb;have n0_:=z3.mk (zn (g:=gb101) (o:=.cells #[.int .u64 a0_0,.int .u64 a0_1] 61 (0,0)) (by (with_reducible repeat (first|refine z5 ?_ _|refine z8 ?_|refine z4 ?_ _));exact BK101.out) hb);have n1_:=z3.mk (zn (g:=gb102) (o:=.cells #[.int .u64 a1_0,.int .u64 a1_1] 61 (0,0)) (by (with_reducible repeat (first|refine z5 ?_ _|refine z8 ?_|refine z4 ?_ _));exact BK102.out) hb);have n2_:=z3.mk (zb (by repeat (first|(with_reducible first|exact HB.out|apply z2|apply z0|apply z1|refine z6 ?_ GE101.out|refine z6 ?_ GE102.out)|exact HB.out)) hb);have n3_:=z3.mk (hbox);have n4_:=z3.mk ((by rw [hg];exact (zc (by repeat (first|(with_reducible first|exact HB.out|apply z2|apply z0|apply z1|refine z6 ?_ GE101.out|refine z6 ?_ GE102.out)|exact HB.out))) : w.heap.size ≤ gb103));have n5_:=z3.mk ((by rw [hg];exact (zc (by repeat (first|(with_reducible first|exact HB.out|apply z2|apply z0|apply z1|refine z6 ?_ GE101.out|refine z6 ?_ GE102.out)|exact HB.out))) : w.heap.size ≤ gb103));have n6_:=z3.mk ((by rw [hg];exact Nat.ne_of_lt (zO (g:=gb101) (o:=.cells #[.int .u64 a0_0,.int .u64 a0_1] 61 (0,0)) (by (with_reducible repeat (first|refine z5 ?_ _|refine z8 ?_|refine z4 ?_ _));exact BK101.out)) : gb101 ≠ gb103));have n7_:=z3.mk ((by rw [hg];exact Nat.ne_of_gt (zO (g:=gb101) (o:=.cells #[.int .u64 a0_0,.int .u64 a0_1] 61 (0,0)) (by (with_reducible repeat (first|refine z5 ?_ _|refine z8 ?_|refine z4 ?_ _));exact BK101.out)) : gb103 ≠ gb101));have n8_:=z3.mk ((by rw [hg];exact Nat.ne_of_lt (zO (g:=gb102) (o:=.cells #[.int .u64 a1_0,.int .u64 a1_1] 61 (0,0)) (by (with_reducible repeat (first|refine z5 ?_ _|refine z8 ?_|refine z4 ?_ _));exact BK102.out)) : gb102 ≠ gb103));have n9_:=z3.mk ((by rw [hg];exact Nat.ne_of_gt (zO (g:=gb102) (o:=.cells #[.int .u64 a1_0,.int .u64 a1_1] 61 (0,0)) (by (with_reducible repeat (first|refine z5 ?_ _|refine z8 ?_|refine z4 ?_ _));exact BK102.out)) : gb103 ≠ gb102));clear BK101;clear BK102;clear HB;have BK101:=n0_;have BK102:=n1_;have HB:=n2_;have BK103:=n3_;have GW103:=n4_;have GE103:=n5_;have NB101_103:=n6_;have NB103_101:=n7_;have NB102_103:=n8_;have NB103_102:=n9_;clear n0_ n1_ n2_ n3_ n4_ n5_ n6_ n7_ n8_ n9_;clear hb hbox hg;have hnb6:=NB101_102.out;have hnc6:=NB102_101.out;have hnb7:=NB101_103.out;have hnc7:=NB103_101.out;have hcz8_0 : w5.cell? ⟨gb101,0,none⟩ = some (.int .u64 a0_0):=(ze BK101.out 0).trans rfl;have hcz8_1 : w5.cell? ⟨gb101,1,none⟩ = some (.int .u64 a0_1):=(ze BK101.out 1).trans rfl;have hfz8_0:=zd BK101.out 0;have hfz8_1:=zd BK101.out 1;have hnb9:=NB102_103.out;have hnc9:=NB103_102.out;have hcz10_0 : w5.cell? ⟨gb102,0,none⟩ = some (.int .u64 a1_0):=(ze BK102.out 0).trans rfl;have hcz10_1 : w5.cell? ⟨gb102,1,none⟩ = some (.int .u64 a1_1):=(ze BK102.out 1).trans rfl;have hfz10_0:=zd BK102.out 0;have hfz10_1:=zd BK102.out 1;have hcz11_0 : w5.cell? ⟨gb103,0,none⟩ = some (.int .u64 0):=(ze BK103.out 0).trans rfl;have hcz11_1 : w5.cell? ⟨gb103,1,none⟩ = some (.int .u64 0):=(ze BK103.out 1).trans rfl;have hfz11_0:=zd BK103.out 0;have hfz11_1:=zd BK103.out 1))
 refine bodyPost_ret (results_cell_row rfl _ _ gb103 61 #[.int .u64 (Go.bits .xor .u64 a0_0 a1_0),.int .u64 (Go.bits .xor .u64 a0_1 a1_1)] (0,0) _ rfl (by (with_reducible repeat (first|refine z5 ?_ _|refine z8 ?_|refine z4 ?_ _));refine zN (cs:=#[.int .u64 (Go.bits .xor .u64 a0_0 a1_0),.int .u64 0]) ?_ 1 _ rfl;(with_reducible repeat (first|refine z5 ?_ _|refine z8 ?_|refine z4 ?_ _));refine zN (cs:=#[.int .u64 0,.int .u64 0]) ?_ 0 _ rfl;(with_reducible repeat (first|refine z5 ?_ _|refine z8 ?_|refine z4 ?_ _));exact BK103.out) Try.underlying61 rfl (by kernel_rfl)) rfl ?_
 exact ⟨by first|rfl|(simp [zg,zh] <;> rfl)|(simp [*,zg,zh] <;> rfl),by repeat (first|(with_reducible first|exact HB.out|apply z2|apply z0|apply z1|refine z6 ?_ GE101.out|refine z6 ?_ GE102.out|refine z6 ?_ GE103.out)|exact HB.out)⟩
end Go.Proofs.Ytngcaphdkgihmaa.P
namespace Go.Proofs.Ytngcaphdkgihmaa.P
open Go.RowKit Go.Proofs.YtngcaphdkgihmaaW.PrintWords Go.Proofs.YtngcaphdkgihmaaW.PrintLast Go.Proofs.YtngcaphdkgihmaaW.PrintMore
attribute [local go_sem] zW zY z15 z16 zQ zR zX zZ   -- for this text's walks alone
set_option linter.unusedVariables false
set_option linter.unusedSimpArgs false
mutual
def za.j0 : Nat → Int → Int → List (S61) → List (S61) → Bool → Option ((List (S61)) × Int)
 | 0,_,_,_,_,_=>none
 | k + 1,x0,x1,x2,x8,x23=>if x23 = true then (some (([] : List (S61)),1)) else ((zt.f x1).bind fun t101=>((zt.f x0).bind fun t102=>(if t102 = 0 then (none) else (if (wrap64 (Int.tdiv t101 t102)) = 0 then (none) else (if ((x2.length : Int) % (wrap64 (Int.tdiv t101 t102))) = 0 then ((zo.f k x0 x2).bind fun t103=>(if t103 = true then (za.l0 k x0 x1 x2 x8 (wrap64 (Int.tdiv t101 t102)) 0) else (some (([] : List (S61)),5)))) else (some (([] : List (S61)),6)))))))
def za.l0 : Nat → Int → Int → List (S61) → List (S61) → Int → Int → Option ((List (S61)) × Int)
 | 0,_,_,_,_,_,_=>none
 | k + 1,x0,x1,x2,x8,x9,x10=>if x10 < (x2.length : Int) then (za.l1 k x0 x1 x2 x8 x9 x10 0 0 0) else (some (x8,0))
def za.l1 : Nat → Int → Int → List (S61) → List (S61) → Int → Int → Int → Int → Int → Option ((List (S61)) × Int)
 | 0,_,_,_,_,_,_,_,_,_=>none
 | k + 1,x0,x1,x2,x8,x9,x10,x12,x105000,x105001=>(zt.f x1).bind fun t105=>(if x12 < t105 then ((zt.f x0).bind fun t109=>(if t109 = 0 then (none) else (if 0 ≤ (wrap64 (x10 + (wrap64 (Int.tdiv x12 t109)))) then (if (wrap64 (x10 + (wrap64 (Int.tdiv x12 t109)))) < (x2.length : Int) then ((zt.f x0).bind fun t111=>(if t111 = 0 then (none) else ((zv.f k ((z12 x2 (wrap64 (x10 + (wrap64 (Int.tdiv x12 t109))))).f0) ((z12 x2 (wrap64 (x10 + (wrap64 (Int.tdiv x12 t109))))).f1) (Int.tmod x12 t111)).bind fun t112=>(if t112 = true then ((zj.f k x12).bind fun bt113=>((zJ.f x105000 x105001 bt113.1 bt113.2).bind fun bt115=>(za.l1 k x0 x1 x2 x8 x9 x10 (wrap64 (x12 + 1)) bt115.1 bt115.2))) else (za.l1 k x0 x1 x2 x8 x9 x10 (wrap64 (x12 + 1)) x105000 x105001))))) else (none)) else (none)))) else (if x8.length < 8796093022208 then (za.l0 k x0 x1 x2 (x8 ++ [(⟨x105000,x105001⟩ : S61)]) x9 (wrap64 (x10 + x9))) else (none)))
end
def za.f (k : Nat) (a0 : Int) (a1 : Int) (l2 : List (S61)) : Option ((List (S61)) × Int):=if a0 < 0 then (za.j0 k a0 a1 l2 ([] : List (S61)) true) else (if a1 > 7 then (za.j0 k a0 a1 l2 ([] : List (S61)) true) else (za.j0 k a0 a1 l2 ([] : List (S61)) (decide (a1 < a0))))
theorem za.z13 : ∀ k,(∀ y0 y1 y2 y3 y4,LeO (za.j0 k y0 y1 y2 y3 y4) (za.j0 (k + 1) y0 y1 y2 y3 y4)) ∧ (∀ y0 y1 y2 y3 y4 y5,LeO (za.l0 k y0 y1 y2 y3 y4 y5) (za.l0 (k + 1) y0 y1 y2 y3 y4 y5)) ∧ (∀ y0 y1 y2 y3 y4 y5 y6 y7 y8,LeO (za.l1 k y0 y1 y2 y3 y4 y5 y6 y7 y8) (za.l1 (k + 1) y0 y1 y2 y3 y4 y5 y6 y7 y8))
 | 0=>⟨fun _ _ _ _ _ r h=>by simp [za.j0] at h,fun _ _ _ _ _ _ r h=>by simp [za.l0] at h,fun _ _ _ _ _ _ _ _ _ r h=>by simp [za.l1] at h⟩
 | k + 1=>by
  obtain ⟨ih0,ih1,ih2⟩:=za.z13 k
  refine ⟨?_,?_,?_⟩
  · intro y0 y1 y2 y3 y4
    unfold za.j0
    repeat' first
    | (with_reducible exact ih0 _ _ _ _ _)
    | (with_reducible exact ih1 _ _ _ _ _ _)
    | (with_reducible exact ih2 _ _ _ _ _ _ _ _ _)
    | (with_reducible exact zj.mono _ _)
    | (with_reducible exact zv.mono _ _ _ _)
    | (with_reducible exact zo.mono _ _ _)
    | (with_reducible exact LeO.refl _)
    | (with_reducible exact LeO.none _)
    | (with_reducible refine LeO.ite ?_ ?_)
    | (with_reducible refine LeO.bind ?_ (fun _=>?_))
    | exact ih0 _ _ _ _ _
    | exact ih1 _ _ _ _ _ _
    | exact ih2 _ _ _ _ _ _ _ _ _
    | exact zj.mono _ _
    | exact zv.mono _ _ _ _
    | exact zo.mono _ _ _
    | exact LeO.none _
    | refine LeO.ite ?_ ?_
    | refine LeO.bind ?_ (fun _=>?_)
  · intro y0 y1 y2 y3 y4 y5
    unfold za.l0
    repeat' first
    | (with_reducible exact ih0 _ _ _ _ _)
    | (with_reducible exact ih1 _ _ _ _ _ _)
    | (with_reducible exact ih2 _ _ _ _ _ _ _ _ _)
    | (with_reducible exact zj.mono _ _)
    | (with_reducible exact zv.mono _ _ _ _)
    | (with_reducible exact zo.mono _ _ _)
    | (with_reducible exact LeO.refl _)
    | (with_reducible exact LeO.none _)
    | (with_reducible refine LeO.ite ?_ ?_)
    | (with_reducible refine LeO.bind ?_ (fun _=>?_))
    | exact ih0 _ _ _ _ _
    | exact ih1 _ _ _ _ _ _
    | exact ih2 _ _ _ _ _ _ _ _ _
    | exact zj.mono _ _
    | exact zv.mono _ _ _ _
    | exact zo.mono _ _ _
    | exact LeO.none _
    | refine LeO.ite ?_ ?_
    | refine LeO.bind ?_ (fun _=>?_)
  · intro y0 y1 y2 y3 y4 y5 y6 y7 y8
    unfold za.l1
    repeat' first
    | (with_reducible exact ih0 _ _ _ _ _)
    | (with_reducible exact ih1 _ _ _ _ _ _)
    | (with_reducible exact ih2 _ _ _ _ _ _ _ _ _)
    | (with_reducible exact zj.mono _ _)
    | (with_reducible exact zv.mono _ _ _ _)
    | (with_reducible exact zo.mono _ _ _)
    | (with_reducible exact LeO.refl _)
    | (with_reducible exact LeO.none _)
    | (with_reducible refine LeO.ite ?_ ?_)
    | (with_reducible refine LeO.bind ?_ (fun _=>?_))
    | exact ih0 _ _ _ _ _
    | exact ih1 _ _ _ _ _ _
    | exact ih2 _ _ _ _ _ _ _ _ _
    | exact zj.mono _ _
    | exact zv.mono _ _ _ _
    | exact zo.mono _ _ _
    | exact LeO.none _
    | refine LeO.ite ?_ ?_
    | refine LeO.bind ?_ (fun _=>?_)
theorem za.mono : ∀ a0 a1 a2 k,LeO (za.f k a0 a1 a2) (za.f (k + 1) a0 a1 a2):=by
 intro a0 a1 a2 k
 obtain ⟨ih0,ih1,ih2⟩:=za.z13 k
 unfold za.f
 repeat' first
  | (with_reducible exact ih0 _ _ _ _ _)
  | (with_reducible exact ih1 _ _ _ _ _ _)
  | (with_reducible exact ih2 _ _ _ _ _ _ _ _ _)
  | (with_reducible exact zj.mono _ _)
  | (with_reducible exact zv.mono _ _ _ _)
  | (with_reducible exact zo.mono _ _ _)
  | (with_reducible exact LeO.refl _)
  | (with_reducible exact LeO.none _)
  | (with_reducible refine LeO.ite ?_ ?_)
  | (with_reducible refine LeO.bind ?_ (fun _=>?_))
  | exact ih0 _ _ _ _ _
  | exact ih1 _ _ _ _ _ _
  | exact ih2 _ _ _ _ _ _ _ _ _
  | exact zj.mono _ _
  | exact zv.mono _ _ _ _
  | exact zo.mono _ _ _
  | exact LeO.none _
  | refine LeO.ite ?_ ?_
  | refine LeO.bind ?_ (fun _=>?_)
def za.T16 : Bool × List (List Nat × List Nat):=(true,[([],[]),([],[]),([],[]),([],[]),([3],[3]),([2,4],[2,4]),([1,5],[1,5]),([0,6],[0,6]),([7],[7]),([],[]),([],[]),([10,4],[10]),([9,11],[9,11]),([8,12,11],[8,12])])
def za.B16 : List Nat:=[0,0,0,0,8,28,62,127,255,0,0,1048,3608,8191]
theorem za.tab16 : rtab .any (opsOf Try.f31 16) = za.T16:=by kernel_rfl
theorem za.bits16 : waitsOk za.T16.2 za.B16 = true:=by kernel_rfl
set_option maxHeartbeats 8000000 in
set_option maxRecDepth 100000 in
theorem za.calls (k : Nat) (a0 : Int) (a1 : Int) (A2 : Option Addr) (c2 : Nat) (l2 : List (S61)) (r1 : List (S61)) (r2 : Int) (w : World) (hr2 : Kd.C k61 w A2 l2.length l2) (hc2 : l2.length ≤ c2) (h : za.f k a0 a1 l2 = some (r1,r2)) :
 Calls Try.prog 31 #[.int .i64 a0,.int .i64 a1,.slice A2 l2.length c2] w fun e w'=>∃ v0_ : Value,e = .returned (.tuple #[v0_,.int .i64 r2]) ∧ Kd.R k61 61 w' w.heap.size (fun _=>True) v0_ r1 ∧ Below w.heap.size w w':=by
 have hu61:=Try.underlying61
 have HR2:=z3.mk hr2
 have HC2:=z3.mk hc2
 clear hr2 hc2
 have HB:=z3.mk (Below.refl w.heap.size w)
 have H : (if a0 < 0 then (za.j0 k a0 a1 l2 ([] : List (S61)) true) else (if a1 > 7 then (za.j0 k a0 a1 l2 ([] : List (S61)) true) else (za.j0 k a0 a1 l2 ([] : List (S61)) (decide (a1 < a0))))) = some (r1,r2):=h
 clear h
 have HC4:=z3.mk H
 clear H
 go_enter Try.func31,Try.ntmps31
 go_upto_region 2 with (fail)
 go_cut [23] (fun v23 wc=>∃ (kq : Nat) (x23_3 : Bool),v23 = .bool x23_3 ∧ z3 (za.j0 kq a0 a1 l2 ([] : List (S61)) x23_3 = some (r1,r2)) ∧ z3 (kq ≤ k) ∧ z3 (Kd.R k61 61 wc w.heap.size (fun _=>True) (.slice none 0 0) ([] : List (S61))) ∧ z3 (Below w.heap.size w wc))
 case first =>
  have H:=HC4.out
  clear HC4
  by_cases c5 : a0 < 0
  · rw [if_pos c5] at H
    have c5b0 : decide (a0 < 0) = true:=decide_eq_true c5
    clear c5
    (first|rw [c5b0]|(simp only [zD,zI];rw [c5b0])|skip)
    have H':=z3.mk H
    clear H
    go_wp2
    go_meet
    case rel=>exact ⟨_,(true),(by first|rfl|(simp;done)|(simp [*];done)),H',⟨by first|omega|exact Nat.le_refl _⟩,⟨by first|exact Kd.z1L _ _ _ _ _|exact Kd.z1S _ _ _ _ _|exact Kd.z1V _ _ _ _ _|exact Kd.z1T _ _ _ _ _|exact Kd.z1U _ _ _ _ _⟩,⟨by repeat (first|(with_reducible first|exact HB.out|apply z2|apply z0|apply z1)|exact HB.out)⟩⟩
  rw [if_neg c5] at H
  have c5b0 : decide (a0 < 0) = false:=decide_eq_false c5
  clear c5
  (first|rw [c5b0]|(simp only [zD,zI];rw [c5b0])|skip)
  by_cases c6 : a1 > 7
  rotate_left
  · rw [if_neg c6] at H
    have c6b0 : decide (7 < a1) = false:=decide_eq_false c6
    clear c6
    have H':=z3.mk H
    clear H
    go_wp2
    go_meet
    case rel=>exact ⟨_,(decide (a1 < a0)),(by first|rfl|(simp;done)|(simp [*];done)),H',⟨by first|omega|exact Nat.le_refl _⟩,⟨by first|exact Kd.z1L _ _ _ _ _|exact Kd.z1S _ _ _ _ _|exact Kd.z1V _ _ _ _ _|exact Kd.z1T _ _ _ _ _|exact Kd.z1U _ _ _ _ _⟩,⟨by repeat (first|(with_reducible first|exact HB.out|apply z2|apply z0|apply z1)|exact HB.out)⟩⟩
  rw [if_pos c6] at H
  have c6b0 : decide (7 < a1) = true:=decide_eq_true c6
  clear c6
  have H':=z3.mk H
  clear H
  go_wp2
  go_meet
  case rel=>exact ⟨_,(true),(by first|rfl|(simp;done)|(simp [*];done)),H',⟨by first|omega|exact Nat.le_refl _⟩,⟨by first|exact Kd.z1L _ _ _ _ _|exact Kd.z1S _ _ _ _ _|exact Kd.z1V _ _ _ _ _|exact Kd.z1T _ _ _ _ _|exact Kd.z1U _ _ _ _ _⟩,⟨by repeat (first|(with_reducible first|exact HB.out|apply z2|apply z0|apply z1)|exact HB.out)⟩⟩
 case rest =>
  clear HC4
  (try clear c2);(try clear p2);(try clear c3);(try clear c5);(try clear c5b0);(try clear c6);(try clear c6b0)
  obtain ⟨kq,x23_3,rfl,HA,HJ3,HO_8,HB⟩:=hcut
  cases kq with
  | zero=>exact absurd HA.out (by simp [za.j0])
  | succ kj3 =>
   have H:=HA.out
   clear HA
   simp only [za.j0] at H
   by_cases c7 : x23_3 = true
   · subst c7
     have H1 : (some (([] : List (S61)),1)) = some (r1,r2):=by rw [if_pos rfl] at H;exact H
     clear H
     have H:=H1
     clear H1
     simp only [Option.some.injEq,Prod.mk.injEq] at H
     obtain ⟨rfl,rfl⟩:=H
     go_wp2
     go_ret2
     exact ⟨_,by first|rfl|(simp [zg,zh] <;> rfl)|(simp [*,zg,zh] <;> rfl),by first|exact Kd.z1L _ _ _ _ _|exact Kd.z1S _ _ _ _ _|exact Kd.z1V _ _ _ _ _|exact Kd.z1T _ _ _ _ _|exact Kd.z1U _ _ _ _ _,by repeat (first|(with_reducible first|exact HB.out|apply z2|apply z0|apply z1)|exact HB.out)⟩
   replace c7:=Bool.eq_false_iff.mpr c7
   subst c7
   have H1 : ((zt.f a1).bind fun t101=>((zt.f a0).bind fun t102=>(if t102 = 0 then (none) else (if (wrap64 (Int.tdiv t101 t102)) = 0 then (none) else (if ((l2.length : Int) % (wrap64 (Int.tdiv t101 t102))) = 0 then ((zo.f kj3 a0 l2).bind fun t103=>(if t103 = true then (za.l0 kj3 a0 a1 l2 ([] : List (S61)) (wrap64 (Int.tdiv t101 t102)) 0) else (some (([] : List (S61)),5)))) else (some (([] : List (S61)),6))))))) = some (r1,r2):=by rw [if_neg (show ¬ (false = true) by decide)] at H;exact H
   clear H
   have H:=H1
   clear H1
   replace H:=Option.bind_eq_some_iff.mp H
   obtain ⟨t101,A80,H⟩:=H
   replace H : ((zt.f a0).bind fun t102=>(if t102 = 0 then (none) else (if (wrap64 (Int.tdiv t101 t102)) = 0 then (none) else (if ((l2.length : Int) % (wrap64 (Int.tdiv t101 t102))) = 0 then ((zo.f kj3 a0 l2).bind fun t103=>(if t103 = true then (za.l0 kj3 a0 a1 l2 ([] : List (S61)) (wrap64 (Int.tdiv t101 t102)) 0) else (some (([] : List (S61)),5)))) else (some (([] : List (S61)),6)))))) = some (r1,r2):=H
   have A8:=z3.mk A80
   clear A80
   replace H:=Option.bind_eq_some_iff.mp H
   obtain ⟨t102,A90,H⟩:=H
   replace H : (if t102 = 0 then (none) else (if (wrap64 (Int.tdiv t101 t102)) = 0 then (none) else (if ((l2.length : Int) % (wrap64 (Int.tdiv t101 t102))) = 0 then ((zo.f kj3 a0 l2).bind fun t103=>(if t103 = true then (za.l0 kj3 a0 a1 l2 ([] : List (S61)) (wrap64 (Int.tdiv t101 t102)) 0) else (some (([] : List (S61)),5)))) else (some (([] : List (S61)),6))))) = some (r1,r2):=H
   have A9:=z3.mk A90
   clear A90
   by_cases c10 : t102 = 0
   · rw [if_pos c10] at H
     exact absurd H (by simp)
   rw [if_neg c10] at H
   have c10b0 : (t102 == 0) = false:=beq_eq_false_iff_ne.mpr c10
   have c10b1 : (t102 != 0) = true:=bne_iff_ne.mpr c10
   by_cases c11 : (wrap64 (Int.tdiv t101 t102)) = 0
   · rw [if_pos c11] at H
     exact absurd H (by simp)
   rw [if_neg c11] at H
   have c11b0 : ((wrap64 (Int.tdiv t101 t102)) == 0) = false:=beq_eq_false_iff_ne.mpr c11
   have c11b1 : ((wrap64 (Int.tdiv t101 t102)) != 0) = true:=bne_iff_ne.mpr c11
   by_cases c12 : ((l2.length : Int) % (wrap64 (Int.tdiv t101 t102))) = 0
   rotate_left
   · rw [if_neg c12] at H
     have c12b0 : (((l2.length : Int) % (wrap64 (Int.tdiv t101 t102))) == 0) = false:=beq_eq_false_iff_ne.mpr c12
     have c12b1 : (((l2.length : Int) % (wrap64 (Int.tdiv t101 t102))) != 0) = true:=bne_iff_ne.mpr c12
     simp only [Option.some.injEq,Prod.mk.injEq] at H
     obtain ⟨rfl,rfl⟩:=H
     go_wp2_with (first|((with_reducible refine zl (f:=72) rfl ?_);refine goesL_ (some 25) rfl rfl Try.func72 (by kernel_rfl) rfl #[.int .i64 a1] rfl (by (try simp only [List.map_toArray,List.map_cons,List.map_nil]);first|done|rfl|(simp only [List.length_drop,List.length_take];rfl)) ?_;(with_reducible refine (zt.calls a1 t101 _ A8.out).mono ?_);rintro e w55 ⟨rfl,hb⟩;refine ⟨_,rfl,?_⟩;have n0_:=z3.mk (Kd.zG (by (with_reducible repeat (first|apply Kd.zr|apply Kd.zs|apply Kd.zy));exact HO_8.out) hb);have n1_:=z3.mk (zb (by repeat (first|(with_reducible first|exact HB.out|apply z2|apply z0|apply z1)|exact HB.out)) hb);clear HO_8;clear HB;have HO_8:=n0_;have HB:=n1_;clear n0_ n1_;(try clear hb);(try clear hb2);(try clear hk);(try clear hi))|((with_reducible refine zl (f:=72) rfl ?_);refine goesL_ (some 27) rfl rfl Try.func72 (by kernel_rfl) rfl #[.int .i64 a0] rfl (by (try simp only [List.map_toArray,List.map_cons,List.map_nil]);first|done|rfl|(simp only [List.length_drop,List.length_take];rfl)) ?_;(with_reducible refine (zt.calls a0 t102 _ A9.out).mono ?_);rintro e w56 ⟨rfl,hb⟩;refine ⟨_,rfl,?_⟩;have n0_:=z3.mk (Kd.zG (by (with_reducible repeat (first|apply Kd.zr|apply Kd.zs|apply Kd.zy));exact HO_8.out) hb);have n1_:=z3.mk (zb (by repeat (first|(with_reducible first|exact HB.out|apply z2|apply z0|apply z1)|exact HB.out)) hb);clear HO_8;clear HB;have HO_8:=n0_;have HB:=n1_;clear n0_ n1_;(try clear hb);(try clear hb2);(try clear hk);(try clear hi)))
     go_ret2
     exact ⟨_,by first|rfl|(simp [zg,zh] <;> rfl)|(simp [*,zg,zh] <;> rfl),by first|exact Kd.z1L _ _ _ _ _|exact Kd.z1S _ _ _ _ _|exact Kd.z1V _ _ _ _ _|exact Kd.z1T _ _ _ _ _|exact Kd.z1U _ _ _ _ _,by repeat (first|(with_reducible first|exact HB.out|apply z2|apply z0|apply z1)|exact HB.out)⟩
   rw [if_pos c12] at H
   have c12b0 : (((l2.length : Int) % (wrap64 (Int.tdiv t101 t102))) == 0) = true:=beq_iff_eq.mpr c12
   have c12b1 : (((l2.length : Int) % (wrap64 (Int.tdiv t101 t102))) != 0) = false:=bne_eq_false_iff_eq.mpr c12
   clear c12
   replace H:=Option.bind_eq_some_iff.mp H
   obtain ⟨t103,A130,H⟩:=H
   replace H : (if t103 = true then (za.l0 kj3 a0 a1 l2 ([] : List (S61)) (wrap64 (Int.tdiv t101 t102)) 0) else (some (([] : List (S61)),5))) = some (r1,r2):=H
   have A13:=z3.mk A130
   clear A130
   by_cases c14 : t103 = true
   rotate_left
   · replace c14:=Bool.eq_false_iff.mpr c14
     subst c14
     have H1 : (some (([] : List (S61)),5)) = some (r1,r2):=by rw [if_neg (show ¬ (false = true) by decide)] at H;exact H
     clear H
     have H:=H1
     clear H1
     simp only [Option.some.injEq,Prod.mk.injEq] at H
     obtain ⟨rfl,rfl⟩:=H
     go_wp2_with (first|((with_reducible refine zl (f:=72) rfl ?_);refine goesL_ (some 25) rfl rfl Try.func72 (by kernel_rfl) rfl #[.int .i64 a1] rfl (by (try simp only [List.map_toArray,List.map_cons,List.map_nil]);first|done|rfl|(simp only [List.length_drop,List.length_take];rfl)) ?_;(with_reducible refine (zt.calls a1 t101 _ A8.out).mono ?_);rintro e w52 ⟨rfl,hb⟩;refine ⟨_,rfl,?_⟩;have n0_:=z3.mk (Kd.zG (by (with_reducible repeat (first|apply Kd.zr|apply Kd.zs|apply Kd.zy));exact HO_8.out) hb);have n1_:=z3.mk (zb (by repeat (first|(with_reducible first|exact HB.out|apply z2|apply z0|apply z1)|exact HB.out)) hb);clear HO_8;clear HB;have HO_8:=n0_;have HB:=n1_;clear n0_ n1_;(try clear hb);(try clear hb2);(try clear hk);(try clear hi))|((with_reducible refine zl (f:=72) rfl ?_);refine goesL_ (some 27) rfl rfl Try.func72 (by kernel_rfl) rfl #[.int .i64 a0] rfl (by (try simp only [List.map_toArray,List.map_cons,List.map_nil]);first|done|rfl|(simp only [List.length_drop,List.length_take];rfl)) ?_;(with_reducible refine (zt.calls a0 t102 _ A9.out).mono ?_);rintro e w53 ⟨rfl,hb⟩;refine ⟨_,rfl,?_⟩;have n0_:=z3.mk (Kd.zG (by (with_reducible repeat (first|apply Kd.zr|apply Kd.zs|apply Kd.zy));exact HO_8.out) hb);have n1_:=z3.mk (zb (by repeat (first|(with_reducible first|exact HB.out|apply z2|apply z0|apply z1)|exact HB.out)) hb);clear HO_8;clear HB;have HO_8:=n0_;have HB:=n1_;clear n0_ n1_;(try clear hb);(try clear hb2);(try clear hk);(try clear hi))|((with_reducible refine zl (f:=46) rfl ?_);refine goesL_ (some 36) rfl rfl Try.func46 (by kernel_rfl) rfl #[.int .i64 a0,.slice A2 l2.length c2] rfl (by (try simp only [List.map_toArray,List.map_cons,List.map_nil]);first|done|rfl|(simp only [List.length_drop,List.length_take];rfl)) ?_;(with_reducible refine (zo.calls kj3 a0 _ _ l2 false _ ?side1 ?side2 A13.out).mono ?_);(case side1=>repeat (first|exact (Kd.z1y HR2.out HB.out)|(with_reducible refine Kd.zS ?_ _)|(with_reducible refine Kd.zT ?_ _)|(with_reducible refine Kd.z14 ?_)));(case side2=>exact HC2.out);rintro e w54 ⟨rfl,hb⟩;refine ⟨_,rfl,?_⟩;have n0_:=z3.mk (Kd.zG (by (with_reducible repeat (first|apply Kd.zr|apply Kd.zs|apply Kd.zy));exact HO_8.out) hb);have n1_:=z3.mk (zb (by repeat (first|(with_reducible first|exact HB.out|apply z2|apply z0|apply z1)|exact HB.out)) hb);clear HO_8;clear HB;have HO_8:=n0_;have HB:=n1_;clear n0_ n1_;(try clear hb);(try clear hb2);(try clear hk);(try clear hi)))
     go_ret2
     exact ⟨_,by first|rfl|(simp [zg,zh] <;> rfl)|(simp [*,zg,zh] <;> rfl),by first|exact Kd.z1L _ _ _ _ _|exact Kd.z1S _ _ _ _ _|exact Kd.z1V _ _ _ _ _|exact Kd.z1T _ _ _ _ _|exact Kd.z1U _ _ _ _ _,by repeat (first|(with_reducible first|exact HB.out|apply z2|apply z0|apply z1)|exact HB.out)⟩
   subst c14
   have H1 : (za.l0 kj3 a0 a1 l2 ([] : List (S61)) (wrap64 (Int.tdiv t101 t102)) 0) = some (r1,r2):=by rw [if_pos rfl] at H;exact H
   clear H
   have H:=H1
   clear H1
   have H':=z3.mk H
   clear H
   go_wp2_with (first|((with_reducible refine zl (f:=72) rfl ?_);refine goesL_ (some 25) rfl rfl Try.func72 (by kernel_rfl) rfl #[.int .i64 a1] rfl (by (try simp only [List.map_toArray,List.map_cons,List.map_nil]);first|done|rfl|(simp only [List.length_drop,List.length_take];rfl)) ?_;(with_reducible refine (zt.calls a1 t101 _ A8.out).mono ?_);rintro e w15 ⟨rfl,hb⟩;refine ⟨_,rfl,?_⟩;have n0_:=z3.mk (Kd.zG (by (with_reducible repeat (first|apply Kd.zr|apply Kd.zs|apply Kd.zy));exact HO_8.out) hb);have n1_:=z3.mk (zb (by repeat (first|(with_reducible first|exact HB.out|apply z2|apply z0|apply z1)|exact HB.out)) hb);clear HO_8;clear HB;have HO_8:=n0_;have HB:=n1_;clear n0_ n1_;(try clear hb);(try clear hb2);(try clear hk);(try clear hi))|((with_reducible refine zl (f:=72) rfl ?_);refine goesL_ (some 27) rfl rfl Try.func72 (by kernel_rfl) rfl #[.int .i64 a0] rfl (by (try simp only [List.map_toArray,List.map_cons,List.map_nil]);first|done|rfl|(simp only [List.length_drop,List.length_take];rfl)) ?_;(with_reducible refine (zt.calls a0 t102 _ A9.out).mono ?_);rintro e w16 ⟨rfl,hb⟩;refine ⟨_,rfl,?_⟩;have n0_:=z3.mk (Kd.zG (by (with_reducible repeat (first|apply Kd.zr|apply Kd.zs|apply Kd.zy));exact HO_8.out) hb);have n1_:=z3.mk (zb (by repeat (first|(with_reducible first|exact HB.out|apply z2|apply z0|apply z1)|exact HB.out)) hb);clear HO_8;clear HB;have HO_8:=n0_;have HB:=n1_;clear n0_ n1_;(try clear hb);(try clear hb2);(try clear hk);(try clear hi))|((with_reducible refine zl (f:=46) rfl ?_);refine goesL_ (some 36) rfl rfl Try.func46 (by kernel_rfl) rfl #[.int .i64 a0,.slice A2 l2.length c2] rfl (by (try simp only [List.map_toArray,List.map_cons,List.map_nil]);first|done|rfl|(simp only [List.length_drop,List.length_take];rfl)) ?_;(with_reducible refine (zo.calls kj3 a0 _ _ l2 true _ ?side1 ?side2 A13.out).mono ?_);(case side1=>repeat (first|exact (Kd.z1y HR2.out HB.out)|(with_reducible refine Kd.zS ?_ _)|(with_reducible refine Kd.zT ?_ _)|(with_reducible refine Kd.z14 ?_)));(case side2=>exact HC2.out);rintro e w17 ⟨rfl,hb⟩;refine ⟨_,rfl,?_⟩;have n0_:=z3.mk (Kd.zG (by (with_reducible repeat (first|apply Kd.zr|apply Kd.zs|apply Kd.zy));exact HO_8.out) hb);have n1_:=z3.mk (zb (by repeat (first|(with_reducible first|exact HB.out|apply z2|apply z0|apply z1)|exact HB.out)) hb);clear HO_8;clear HB;have HO_8:=n0_;have HB:=n1_;clear n0_ n1_;(try clear hb);(try clear hb2);(try clear hk);(try clear hi)))
   go_loopg [8,10] kj3 (fun kq v8 v10 w'=>∃ (x8_2 : List (S61)) (x10_2 : Int),v10 = .int .i64 x10_2 ∧ z3 (za.l0 kq a0 a1 l2 x8_2 (wrap64 (Int.tdiv t101 t102)) x10_2 = some (r1,r2)) ∧ z3 (kq ≤ kj3) ∧ z3 (Kd.R k61 61 w' w.heap.size (fun _=>True) v8 x8_2) ∧ z3 (Below w.heap.size w w'))
   case atStart=>exact ⟨(([] : List (S61))),(0),(by first|rfl|(simp;done)|(simp [*];done)),H',⟨Nat.le_refl _⟩,⟨by (with_reducible repeat (first|apply Kd.zr|apply Kd.zs|apply Kd.zy));exact HO_8.out⟩,⟨by repeat (first|(with_reducible first|exact HB.out|apply z2|apply z0|apply z1)|exact HB.out)⟩⟩
   case round =>
    clear H'
    (try clear c1);(try clear c2);(try clear p2);(try clear c3);(try clear c4);(try clear c5);(try clear c5b0);(try clear c6);(try clear c6b0);(try clear p6);(try clear c7);(try clear c10);(try clear c10b0);(try clear c10b1);(try clear c11);(try clear c11b0);(try clear c11b1);(try clear c12);(try clear c12b0);(try clear c12b1);(try clear c14);(try clear p2)
    obtain ⟨x8_2,x10_2,rfl,HA,HK2,HO_8,HB⟩:=hrel
    cases gk with
    | zero=>exact absurd HA.out (by simp [za.l0])
    | succ k2 =>
     have H:=HA.out
     clear HA
     simp only [za.l0] at H
     by_cases c18 : x10_2 < (l2.length : Int)
     rotate_left
     · rw [if_neg c18] at H
       have c18b0 : decide (x10_2 < (l2.length : Int)) = false:=decide_eq_false c18
       clear c18
       simp only [Option.some.injEq,Prod.mk.injEq] at H
       obtain ⟨rfl,rfl⟩:=H
       go_wp2
       go_ret2
       exact ⟨_,by first|rfl|(simp [zg,zh] <;> rfl)|(simp [*,zg,zh] <;> rfl),by (with_reducible repeat (first|apply Kd.zr|apply Kd.zs|apply Kd.zy));exact HO_8.out,by repeat (first|(with_reducible first|exact HB.out|apply z2|apply z0|apply z1)|exact HB.out)⟩
     rw [if_pos c18] at H
     have c18b0 : decide (x10_2 < (l2.length : Int)) = true:=decide_eq_true c18
     clear c18
     have H':=z3.mk H
     clear H
     go_wp2_with (first|((with_reducible refine zE (N:=11) rfl ?_);refine zC ?hg (N:=11) ?hd (cs:=#[.int .u64 0,.int .u64 0]) (t:=61) ?hr ?_;(case hd=>rfl);(case hg=>rfl);(case hr=>first|(go_simp;done)|(go_simp;rfl));intro gb104 hg w19 hbox hb;have n0_:=z3.mk (Kd.zG (Kd.z2x (by (with_reducible repeat (first|apply Kd.zr|apply Kd.zs|apply Kd.zy));exact HO_8.out) gb104 (Nat.le_of_eq hg.symm)) hb);have n1_:=z3.mk (zb (by repeat (first|(with_reducible first|exact HB.out|apply z2|apply z0|apply z1)|exact HB.out)) hb);have n2_:=z3.mk (hbox);have n3_:=z3.mk ((by rw [hg];exact (zc (by repeat (first|(with_reducible first|exact HB.out|apply z2|apply z0|apply z1)|exact HB.out))) : w.heap.size ≤ gb104));have n4_:=z3.mk ((by rw [hg];exact (zc (by repeat (first|(with_reducible first|exact HB.out|apply z2|apply z0|apply z1)|exact HB.out))) : w.heap.size ≤ gb104));clear HO_8;clear HB;have HO_8:=n0_;have HB:=n1_;have BK104:=n2_;have GW104:=n3_;have GE104:=n4_;clear n0_ n1_ n2_ n3_ n4_;clear hb hbox hg))
     go_loopg [12] k2 (fun kq v12 w'=>∃ (x12_3 : Int) (x105000_3 : Int) (x105001_3 : Int),v12 = .int .i64 x12_3 ∧ z3 (za.l1 kq a0 a1 l2 x8_2 (wrap64 (Int.tdiv t101 t102)) x10_2 x12_3 x105000_3 x105001_3 = some (r1,r2)) ∧ z3 (kq ≤ k2) ∧ z3 (Kd.R k61 61 w' w.heap.size (fun k_=>k_ ≠ gb104) u8 x8_2) ∧ z3 (w'.heap[gb104]? = some (.cells #[.int .u64 x105000_3,.int .u64 x105001_3] 61 (0,0))) ∧ z3 (Below w.heap.size w w'))
     case atStart=>exact ⟨(0),(0),(0),(by first|rfl|(simp;done)|(simp [*];done)),H',⟨Nat.le_refl _⟩,⟨by (with_reducible repeat (first|apply Kd.zr|apply Kd.zs|apply Kd.zy));exact Kd.z1e HO_8.out (fun _ hk=>hk.2)⟩,⟨by (with_reducible repeat (first|refine z5 ?_ _|refine z8 ?_|refine z4 ?_ _));exact BK104.out⟩,⟨by repeat (first|(with_reducible first|exact HB.out|apply z2|apply z0|apply z1|refine z6 ?_ GE104.out)|exact HB.out)⟩⟩
     case round =>
      clear H'
      (try clear c1);(try clear c2);(try clear p2);(try clear c3);(try clear c4);(try clear c5);(try clear c5b0);(try clear c6);(try clear c6b0);(try clear p6);(try clear c7);(try clear c10);(try clear c10b0);(try clear c10b1);(try clear c11);(try clear c11b0);(try clear c11b1);(try clear c12);(try clear c12b0);(try clear c12b1);(try clear c14);(try clear c18);(try clear c18b0);(try clear p2);(try clear p6)
      obtain ⟨x12_3,x105000_3,x105001_3,rfl,HA,HK3,HO_8,BK104,HB⟩:=hrel
      cases gk with
      | zero=>exact absurd HA.out (by simp [za.l1])
      | succ k3 =>
       have H:=HA.out
       clear HA
       simp only [za.l1] at H
       replace H:=Option.bind_eq_some_iff.mp H
       obtain ⟨t105,A200,H⟩:=H
       replace H : (if x12_3 < t105 then ((zt.f a0).bind fun t109=>(if t109 = 0 then (none) else (if 0 ≤ (wrap64 (x10_2 + (wrap64 (Int.tdiv x12_3 t109)))) then (if (wrap64 (x10_2 + (wrap64 (Int.tdiv x12_3 t109)))) < (l2.length : Int) then ((zt.f a0).bind fun t111=>(if t111 = 0 then (none) else ((zv.f k3 ((z12 l2 (wrap64 (x10_2 + (wrap64 (Int.tdiv x12_3 t109))))).f0) ((z12 l2 (wrap64 (x10_2 + (wrap64 (Int.tdiv x12_3 t109))))).f1) (Int.tmod x12_3 t111)).bind fun t112=>(if t112 = true then ((zj.f k3 x12_3).bind fun bt113=>((zJ.f x105000_3 x105001_3 bt113.1 bt113.2).bind fun bt115=>(za.l1 k3 a0 a1 l2 x8_2 (wrap64 (Int.tdiv t101 t102)) x10_2 (wrap64 (x12_3 + 1)) bt115.1 bt115.2))) else (za.l1 k3 a0 a1 l2 x8_2 (wrap64 (Int.tdiv t101 t102)) x10_2 (wrap64 (x12_3 + 1)) x105000_3 x105001_3))))) else (none)) else (none)))) else (if x8_2.length < 8796093022208 then (za.l0 k3 a0 a1 l2 (x8_2 ++ [(⟨x105000_3,x105001_3⟩ : S61)]) (wrap64 (Int.tdiv t101 t102)) (wrap64 (x10_2 + (wrap64 (Int.tdiv t101 t102))))) else (none))) = some (r1,r2):=H
       have A20:=z3.mk A200
       clear A200
       by_cases c21 : x12_3 < t105
       rotate_left
       · rw [if_neg c21] at H
         have c21b0 : decide (x12_3 < t105) = false:=decide_eq_false c21
         clear c21
         by_cases c48 : x8_2.length < 8796093022208
         rotate_left
         · rw [if_neg c48] at H
           exact absurd H (by simp)
         rw [if_pos c48] at H
         have LMc48:=z3.mk c48
         clear c48
         obtain ⟨y106,hy106⟩ : ∃ y_ : List (S61),y_ = (x8_2 ++ [(⟨x105000_3,x105001_3⟩ : S61)]):=⟨_,rfl⟩
         replace H : (za.l0 k3 a0 a1 l2 y106 (wrap64 (Int.tdiv t101 t102)) (wrap64 (x10_2 + (wrap64 (Int.tdiv t101 t102))))) = some (r1,r2):=by first|(rw [hy106];with_reducible exact H)|(have H2_:=(Option.bind_some _ _).symm.trans H;rw [hy106];with_reducible exact H2_)|(have H2_:=(Option.bind_some _ _).symm.trans H;with_reducible exact H2_)|with_reducible exact H|(rw [hy106];exact H)|exact H
         have Ny106:=z3.mk hy106
         clear hy106
         have H':=z3.mk H
         clear H
         go_wp2_with (first|((with_reducible refine zl (f:=72) rfl ?_);refine goesL_ (some 47) rfl rfl Try.func72 (by kernel_rfl) rfl #[.int .i64 a1] rfl (by (try simp only [List.map_toArray,List.map_cons,List.map_nil]);first|done|rfl|(simp only [List.length_drop,List.length_take];rfl)) ?_;(with_reducible refine (zt.calls a1 t105 _ A20.out).mono ?_);rintro e w49 ⟨rfl,hb⟩;refine ⟨_,rfl,?_⟩;have n0_:=z3.mk (Kd.zG (by (with_reducible repeat (first|apply Kd.zr|apply Kd.zs|apply Kd.zy));exact HO_8.out) hb);have n1_:=z3.mk (zn (g:=gb104) (o:=.cells #[.int .u64 x105000_3,.int .u64 x105001_3] 61 (0,0)) (by (with_reducible repeat (first|refine z5 ?_ _|refine z8 ?_|refine z4 ?_ _));exact BK104.out) hb);have n2_:=z3.mk (zb (by repeat (first|(with_reducible first|exact HB.out|apply z2|apply z0|apply z1|refine z6 ?_ GE104.out)|exact HB.out)) hb);clear HO_8;clear BK104;clear HB;have HO_8:=n0_;have BK104:=n1_;have HB:=n2_;clear n0_ n1_ n2_;(try clear hb);(try clear hb2);(try clear hk);(try clear hi);have hcz50_0 : w49.cell? ⟨gb104,0,none⟩ = some (.int .u64 x105000_3):=(ze BK104.out 0).trans rfl;have hcz50_1 : w49.cell? ⟨gb104,1,none⟩ = some (.int .u64 x105001_3):=(ze BK104.out 1).trans rfl;have hfz50_0:=zd BK104.out 0;have hfz50_1:=zd BK104.out 1)|((with_reducible refine z1E (b:=.append) (xs:=#[.tmp 69,.tmp 71]) rfl ?_);at_builtin;refine Kd.z2w k61 (w0:=w) w.heap.size rfl (.tmp 69) (.tmp 71) 43 61 (.agg #[(.int .u64 0),(.int .u64 0)]) 16 rfl Try.underlying43 info61 rfl (by decide) (by omega) u8 x8_2 (⟨x105000_3,x105001_3⟩ : S61) [.int .u64 x105000_3,.int .u64 x105001_3] (fun k_=>k_ ≠ gb104) (fun _=>False) rfl rfl ?aP (fun _ hk=>hk.elim) ?aF ?aO ?aB ?aS ?aL ?_;(case aP=>exact z3I _ _ _ (⟨x105000_3,x105001_3⟩ : S61));(case aB=>exact (by repeat (first|(with_reducible first|exact HB.out|apply z2|apply z0|apply z1|refine z6 ?_ GE104.out)|exact HB.out)));(case aF=>exact (fun k_ hk=>Kd.freshB (g:=gb104) (o:=.cells #[.int .u64 x105000_3,.int .u64 x105001_3] 61 (0,0)) (by (with_reducible repeat (first|refine z5 ?_ _|refine z8 ?_|refine z4 ?_ _));exact BK104.out) k_ hk));(case aO=>exact (by (with_reducible repeat (first|apply Kd.zr|apply Kd.zs|apply Kd.zy));exact HO_8.out));(case aS=>exact (zc (by repeat (first|(with_reducible first|exact HB.out|apply z2|apply z0|apply z1|refine z6 ?_ GE104.out)|exact HB.out))));(case aL=>have:=LMc48.out;omega);intro v107 w51 ho hb hg hat;rw [← Ny106.out] at ho;have n0_:=z3.mk (z2y (g:=gb104) (o:=.cells #[.int .u64 x105000_3,.int .u64 x105001_3] 61 (0,0)) (by (with_reducible repeat (first|refine z5 ?_ _|refine z8 ?_|refine z4 ?_ _));exact BK104.out) hg (Kd.z4q HO_8.out (fun _ hk=>hk)));have n1_:=z3.mk (hb);have n2_:=z3.mk (ho);clear BK104;clear HB;clear HO_8;have BK104:=n0_;have HB:=n1_;have HO108:=n2_;clear n0_ n1_ n2_;clear ho hb hg hat))
         go_roundg k3
         case measure=>have:=HJ3.out;have:=HK2.out;have:=HK3.out;omega
         case rel=>exact ⟨(y106),(wrap64 (x10_2 + (wrap64 (Int.tdiv t101 t102)))),(by first|rfl|(simp;done)|(simp [*];done)),H',⟨by have:=HJ3.out;have:=HK2.out;have:=HK3.out;omega⟩,⟨by (with_reducible repeat (first|apply Kd.zr|apply Kd.zs|apply Kd.zy));exact Kd.z1e HO108.out (fun _ hk=>trivial)⟩,⟨by repeat (first|(with_reducible first|exact HB.out|apply z2|apply z0|apply z1|refine z6 ?_ GE104.out)|exact HB.out)⟩⟩
       rw [if_pos c21] at H
       have c21b0 : decide (x12_3 < t105) = true:=decide_eq_true c21
       clear c21
       replace H:=Option.bind_eq_some_iff.mp H
       obtain ⟨t109,A220,H⟩:=H
       replace H : (if t109 = 0 then (none) else (if 0 ≤ (wrap64 (x10_2 + (wrap64 (Int.tdiv x12_3 t109)))) then (if (wrap64 (x10_2 + (wrap64 (Int.tdiv x12_3 t109)))) < (l2.length : Int) then ((zt.f a0).bind fun t111=>(if t111 = 0 then (none) else ((zv.f k3 ((z12 l2 (wrap64 (x10_2 + (wrap64 (Int.tdiv x12_3 t109))))).f0) ((z12 l2 (wrap64 (x10_2 + (wrap64 (Int.tdiv x12_3 t109))))).f1) (Int.tmod x12_3 t111)).bind fun t112=>(if t112 = true then ((zj.f k3 x12_3).bind fun bt113=>((zJ.f x105000_3 x105001_3 bt113.1 bt113.2).bind fun bt115=>(za.l1 k3 a0 a1 l2 x8_2 (wrap64 (Int.tdiv t101 t102)) x10_2 (wrap64 (x12_3 + 1)) bt115.1 bt115.2))) else (za.l1 k3 a0 a1 l2 x8_2 (wrap64 (Int.tdiv t101 t102)) x10_2 (wrap64 (x12_3 + 1)) x105000_3 x105001_3))))) else (none)) else (none))) = some (r1,r2):=H
       have A22:=z3.mk A220
       clear A220
       by_cases c23 : t109 = 0
       · rw [if_pos c23] at H
         exact absurd H (by simp)
       rw [if_neg c23] at H
       have c23b0 : (t109 == 0) = false:=beq_eq_false_iff_ne.mpr c23
       have c23b1 : (t109 != 0) = true:=bne_iff_ne.mpr c23
       obtain ⟨ji24,hji24⟩ : ∃ j_ : Int,(wrap64 (x10_2 + (wrap64 (Int.tdiv x12_3 t109)))) = j_:=⟨_,rfl⟩
       replace H : (if 0 ≤ (ji24) then (if (ji24) < (l2.length : Int) then ((zt.f a0).bind fun t111=>(if t111 = 0 then (none) else ((zv.f k3 ((z12 l2 (ji24)).f0) ((z12 l2 (ji24)).f1) (Int.tmod x12_3 t111)).bind fun t112=>(if t112 = true then ((zj.f k3 x12_3).bind fun bt113=>((zJ.f x105000_3 x105001_3 bt113.1 bt113.2).bind fun bt115=>(za.l1 k3 a0 a1 l2 x8_2 (wrap64 (Int.tdiv t101 t102)) x10_2 (wrap64 (x12_3 + 1)) bt115.1 bt115.2))) else (za.l1 k3 a0 a1 l2 x8_2 (wrap64 (Int.tdiv t101 t102)) x10_2 (wrap64 (x12_3 + 1)) x105000_3 x105001_3))))) else (none)) else (none)) = some (r1,r2):=by first|(rw [hji24] at H;exact H)|(simp only [hji24] at H ⊢;exact H)
       (try rw [hji24] at A20)
       (try rw [hji24] at A22)
       have hji24w : (IntKind.i64.wrap (x10_2 + (wrap64 (Int.tdiv x12_3 t109)))) = ji24:=(zD _).trans hji24
       by_cases c25 : 0 ≤ (ji24)
       rotate_left
       · rw [if_neg c25] at H
         exact absurd H (by simp)
       rw [if_pos c25] at H
       have c25b0 : decide (0 ≤ (ji24)) = true:=decide_eq_true c25
       clear c25
       by_cases c26 : (ji24) < (l2.length : Int)
       rotate_left
       · rw [if_neg c26] at H
         exact absurd H (by simp)
       rw [if_pos c26] at H
       have c26b0 : decide ((ji24) < (l2.length : Int)) = true:=decide_eq_true c26
       clear c26
       replace H:=Option.bind_eq_some_iff.mp H
       obtain ⟨t111,A270,H⟩:=H
       replace H : (if t111 = 0 then (none) else ((zv.f k3 ((z12 l2 (ji24)).f0) ((z12 l2 (ji24)).f1) (Int.tmod x12_3 t111)).bind fun t112=>(if t112 = true then ((zj.f k3 x12_3).bind fun bt113=>((zJ.f x105000_3 x105001_3 bt113.1 bt113.2).bind fun bt115=>(za.l1 k3 a0 a1 l2 x8_2 (wrap64 (Int.tdiv t101 t102)) x10_2 (wrap64 (x12_3 + 1)) bt115.1 bt115.2))) else (za.l1 k3 a0 a1 l2 x8_2 (wrap64 (Int.tdiv t101 t102)) x10_2 (wrap64 (x12_3 + 1)) x105000_3 x105001_3)))) = some (r1,r2):=H
       have A27:=z3.mk A270
       clear A270
       by_cases c28 : t111 = 0
       · rw [if_pos c28] at H
         exact absurd H (by simp)
       rw [if_neg c28] at H
       have c28b0 : (t111 == 0) = false:=beq_eq_false_iff_ne.mpr c28
       have c28b1 : (t111 != 0) = true:=bne_iff_ne.mpr c28
       replace H:=Option.bind_eq_some_iff.mp H
       obtain ⟨t112,A290,H⟩:=H
       replace H : (if t112 = true then ((zj.f k3 x12_3).bind fun bt113=>((zJ.f x105000_3 x105001_3 bt113.1 bt113.2).bind fun bt115=>(za.l1 k3 a0 a1 l2 x8_2 (wrap64 (Int.tdiv t101 t102)) x10_2 (wrap64 (x12_3 + 1)) bt115.1 bt115.2))) else (za.l1 k3 a0 a1 l2 x8_2 (wrap64 (Int.tdiv t101 t102)) x10_2 (wrap64 (x12_3 + 1)) x105000_3 x105001_3)) = some (r1,r2):=H
       have A29:=z3.mk A290
       clear A290
       by_cases c30 : t112 = true
       rotate_left
       · replace c30:=Bool.eq_false_iff.mpr c30
         subst c30
         have H1 : (za.l1 k3 a0 a1 l2 x8_2 (wrap64 (Int.tdiv t101 t102)) x10_2 (wrap64 (x12_3 + 1)) x105000_3 x105001_3) = some (r1,r2):=by rw [if_neg (show ¬ (false = true) by decide)] at H;exact H
         clear H
         have H:=H1
         clear H1
         have H':=z3.mk H
         clear H
         try go_wp2_with (first|((with_reducible refine zl (f:=72) rfl ?_);refine goesL_ (some 47) rfl rfl Try.func72 (by kernel_rfl) rfl #[.int .i64 a1] rfl (by (try simp only [List.map_toArray,List.map_cons,List.map_nil]);first|done|rfl|(simp only [List.length_drop,List.length_take];rfl)) ?_;(with_reducible refine (zt.calls a1 t105 _ A20.out).mono ?_);rintro e w43 ⟨rfl,hb⟩;refine ⟨_,rfl,?_⟩;have n0_:=z3.mk (Kd.zG (by (with_reducible repeat (first|apply Kd.zr|apply Kd.zs|apply Kd.zy));exact HO_8.out) hb);have n1_:=z3.mk (zn (g:=gb104) (o:=.cells #[.int .u64 x105000_3,.int .u64 x105001_3] 61 (0,0)) (by (with_reducible repeat (first|refine z5 ?_ _|refine z8 ?_|refine z4 ?_ _));exact BK104.out) hb);have n2_:=z3.mk (zb (by repeat (first|(with_reducible first|exact HB.out|apply z2|apply z0|apply z1|refine z6 ?_ GE104.out)|exact HB.out)) hb);clear HO_8;clear BK104;clear HB;have HO_8:=n0_;have BK104:=n1_;have HB:=n2_;clear n0_ n1_ n2_;(try clear hb);(try clear hb2);(try clear hk);(try clear hi)))
         have n0_:=z3.mk (Kd.zy HO_8.out)
         have n1_:=z3.mk (z8 BK104.out)
         have n2_:=z3.mk (z1 HB.out)
         clear HO_8
         clear BK104
         clear HB
         have HO_8:=n0_
         have BK104:=n1_
         have HB:=n2_
         clear n0_ n1_ n2_
         have p110 : 0 ≤ ((ji24) : Int):=of_decide_eq_true (by first|(with_reducible assumption)|assumption)
         have q110 : (ji24) < (l2.length : Int):=of_decide_eq_true (by first|(with_reducible assumption)|assumption)
         obtain ⟨ad110,e110,hx110_0,hx110_1⟩:=z2N HR2.out (ji24) p110 q110
         have hw110_1:=hx110_1
         have hw110_0:=hx110_0
         cases e110
         replace hx110_0:=(HB.out.cell (World.block_lt_of_cell? w _ hx110_0)).trans hx110_0
         replace hx110_1:=(HB.out.cell (World.block_lt_of_cell? w _ hx110_1)).trans hx110_1
         replace p110:=eq_true p110
         replace q110:=eq_true q110
         refine start_ (n:=14) (S:=fun w'=>w'.cell? (ad110.add (((ji24)).toNat * 2)) = some (.int .u64 ((z12 l2 (ji24)).f0)) ∧ w'.cell? ⟨(ad110.add (((ji24)).toNat * 2)).block,(ad110.add (((ji24)).toNat * 2)).off + 1,none⟩ = some (.int .u64 ((z12 l2 (ji24)).f1))) (ds:=[]) #[false,false,false,false,false,false,false,false,false,false,false,false,false,false] (by kernel_rfl) rfl rfl ⟨((HB.out.cell (World.block_lt_of_cell? w _ hw110_0)).trans hw110_0),((HB.out.cell (World.block_lt_of_cell? w _ hw110_1)).trans hw110_1)⟩ (fun hHeld=>?_);refine z1C za.tab16 za.bits16 (fun HT_ HW_=>?_)
         generalize w43.drew = w44 at HO_8 BK104 HB hx110_0 hx110_1 hHeld ⊢
         refine pure_ (i:=0) (N:=some 51) (v:=?_) (a':=?_) #[true,false,false,false,false,false,false,false,false,false,false,false,false,false] rfl rfl (zK HT_.out (by kernel_rfl)) (fun _ _ _ h=>h) (Or.inl ⟨by rfl,?_⟩) ?_ ?_
         rotate_left
         · intro w'
           go_simp
           with_reducible rfl
         rotate_left
         · simp only [Act.put,List.setIfInBounds_toArray,List.set_cons_zero,List.set_cons_succ,zD,zI]
           rfl
         refine pure_ (i:=1) (N:=some 52) (v:=?_) (a':=?_) #[true,true,false,false,false,false,false,false,false,false,false,false,false,false] rfl rfl (zK HT_.out (by kernel_rfl)) (fun _ _ _ h=>h) (Or.inl ⟨by rfl,?_⟩) ?_ ?_
         rotate_left
         · intro w'
           go_simp
           with_reducible rfl
         rotate_left
         · simp only [Act.put,List.setIfInBounds_toArray,List.set_cons_zero,List.set_cons_succ,zD,zI]
           rfl
         refine pure_ (i:=2) (N:=some 53) (v:=?_) (a':=?_) #[true,true,true,false,false,false,false,false,false,false,false,false,false,false] rfl rfl (zK HT_.out (by kernel_rfl)) (fun _ _ _ h=>h) (Or.inl ⟨by rfl,?_⟩) ?_ ?_
         rotate_left
         · intro w'
           go_simp
           with_reducible rfl
         rotate_left
         · simp only [Act.put,List.setIfInBounds_toArray,List.set_cons_zero,List.set_cons_succ,zD,zI]
           rfl
         refine pure_ (i:=3) (N:=some 54) (v:=?_) (a':=?_) #[true,true,true,true,false,false,false,false,false,false,false,false,false,false] rfl rfl (zK HT_.out (by kernel_rfl)) (fun _ _ _ h=>h) (Or.inl ⟨by rfl,?_⟩) ?_ ?_
         rotate_left
         · intro w'
           go_simp
           with_reducible rfl
         rotate_left
         · simp only [Act.put,List.setIfInBounds_toArray,List.set_cons_zero,List.set_cons_succ,zD,zI]
           rfl
         refine pure_ (i:=9) (N:=some 60) (v:=?_) (a':=?_) #[true,true,true,true,false,false,false,false,false,true,false,false,false,false] rfl rfl (zK HT_.out (by kernel_rfl)) (fun _ _ _ h=>h) (Or.inl ⟨by rfl,?_⟩) ?_ ?_
         rotate_left
         · intro w'
           go_simp
           with_reducible rfl
         rotate_left
         · simp only [Act.put,List.setIfInBounds_toArray,List.set_cons_zero,List.set_cons_succ,zD,zI]
           rfl
         refine pure_ (i:=10) (N:=some 61) (v:=?_) (a':=?_) #[true,true,true,true,false,false,false,false,false,true,true,false,false,false] rfl rfl (zK HT_.out (by kernel_rfl)) (fun _ _ _ h=>h) (Or.inl ⟨by rfl,?_⟩) ?_ ?_
         rotate_left
         · intro w'
           go_simp
           with_reducible rfl
         rotate_left
         · simp only [Act.put,List.setIfInBounds_toArray,List.set_cons_zero,List.set_cons_succ,zD,zI]
           rfl
         refine one_ (i:=4) (N:=some 55) #[true,true,true,true,true,false,false,false,false,true,true,false,false,false] rfl rfl (z1t HT_.out (by kernel_rfl)) (by decide) (fun K hK=>?_)
         refine goes_ Try.func72 (by kernel_rfl) rfl #[.int .i64 a0] (by rfl) rfl rfl (by (try simp only [List.map_toArray,List.map_cons,List.map_nil]);first|done|rfl|(simp only [List.length_drop,List.length_take];rfl)) ?_
         with_reducible refine (zt.calls a0 t109 _ A22.out).mono ?_
         rintro e w45 ⟨rfl,hb⟩
         refine ⟨_,rfl,?_⟩
         have n0_:=z3.mk (Kd.zG (by (with_reducible repeat (first|apply Kd.zr|apply Kd.zs|apply Kd.zy));exact HO_8.out) hb)
         have n1_:=z3.mk (zn (g:=gb104) (o:=.cells #[.int .u64 x105000_3,.int .u64 x105001_3] 61 (0,0)) (by (with_reducible repeat (first|refine z5 ?_ _|refine z8 ?_|refine z4 ?_ _));exact BK104.out) hb)
         have n2_:=z3.mk (zb (by repeat (first|(with_reducible first|exact HB.out|apply z2|apply z0|apply z1|refine z6 ?_ GE104.out)|exact HB.out)) hb)
         clear HO_8
         clear BK104
         clear HB
         have HO_8:=n0_
         have BK104:=n1_
         have HB:=n2_
         clear n0_ n1_ n2_
         (try clear hb)
         (try clear hb2)
         (try clear hk)
         (try clear hi)
         refine hK.out _ _ ⟨((HB.out.cell (World.block_lt_of_cell? w _ hw110_0)).trans hw110_0),((HB.out.cell (World.block_lt_of_cell? w _ hw110_1)).trans hw110_1)⟩ (fun hHeld=>?_)
         clear hK K
         refine norm_ (a':=?_) ?_ ?_
         rotate_left
         · show Act.put _ (some 55) _ = _
           simp only [Act.put,List.setIfInBounds_toArray,List.set_cons_zero,List.set_cons_succ,zD,zI]
           rfl
         refine pure_ (i:=5) (N:=some 56) (v:=?_) (a':=?_) #[true,true,true,true,true,true,false,false,false,true,true,false,false,false] rfl rfl (zK HT_.out (by kernel_rfl)) (fun _ _ _ h=>h) (Or.inl ⟨by rfl,?_⟩) ?_ ?_
         rotate_left
         · intro w'
           go_simp
           with_reducible rfl
         rotate_left
         · simp only [Act.put,List.setIfInBounds_toArray,List.set_cons_zero,List.set_cons_succ,zD,zI]
           rfl
         refine pure_ (i:=6) (N:=some 57) (v:=?_) (a':=?_) #[true,true,true,true,true,true,true,false,false,true,true,false,false,false] rfl rfl (zK HT_.out (by kernel_rfl)) (fun _ _ _ h=>h) (Or.inl ⟨by rfl,?_⟩) ?_ ?_
         rotate_left
         · intro w'
           go_simp
           with_reducible rfl
         rotate_left
         · simp only [Act.put,List.setIfInBounds_toArray,List.set_cons_zero,List.set_cons_succ,zD,zI]
           rfl
         refine pure_ (i:=7) (N:=some 58) (v:=?_) (a':=?_) #[true,true,true,true,true,true,true,true,false,true,true,false,false,false] rfl rfl (zK HT_.out (by kernel_rfl)) (fun _ _ _ h=>h) (Or.inl ⟨by rfl,?_⟩) ?_ ?_
         rotate_left
         · intro w'
           go_simp
           with_reducible rfl
         rotate_left
         · simp only [Act.put,List.setIfInBounds_toArray,List.set_cons_zero,List.set_cons_succ,zD,zI]
           rfl
         refine take_ (i:=8) (N:=some 59) (v:=?_) (a':=?_) #[true,true,true,true,true,true,true,true,true,true,true,false,false,false] rfl rfl (z1m HT_.out HW_.out (by kernel_rfl)) (fun _ _ _ h=>h) (Or.inl ⟨by rfl,?_⟩) hHeld ?_ ?_
         rotate_left
         · rintro w' ⟨s0,s1⟩
           go_simp
           with_reducible rfl
         rotate_left
         · simp only [Act.put,List.setIfInBounds_toArray,List.set_cons_zero,List.set_cons_succ,zD,zI]
           rfl
         refine one_ (i:=11) (N:=some 62) #[true,true,true,true,true,true,true,true,true,true,true,true,false,false] rfl rfl (z1t HT_.out (by kernel_rfl)) (by decide) (fun K hK=>?_)
         refine goes_ Try.func72 (by kernel_rfl) rfl #[.int .i64 a0] (by rfl) rfl rfl (by (try simp only [List.map_toArray,List.map_cons,List.map_nil]);first|done|rfl|(simp only [List.length_drop,List.length_take];rfl)) ?_
         with_reducible refine (zt.calls a0 t111 _ A27.out).mono ?_
         rintro e w46 ⟨rfl,hb⟩
         refine ⟨_,rfl,?_⟩
         have n0_:=z3.mk (Kd.zG (by (with_reducible repeat (first|apply Kd.zr|apply Kd.zs|apply Kd.zy));exact HO_8.out) hb)
         have n1_:=z3.mk (zn (g:=gb104) (o:=.cells #[.int .u64 x105000_3,.int .u64 x105001_3] 61 (0,0)) (by (with_reducible repeat (first|refine z5 ?_ _|refine z8 ?_|refine z4 ?_ _));exact BK104.out) hb)
         have n2_:=z3.mk (zb (by repeat (first|(with_reducible first|exact HB.out|apply z2|apply z0|apply z1|refine z6 ?_ GE104.out)|exact HB.out)) hb)
         clear HO_8
         clear BK104
         clear HB
         have HO_8:=n0_
         have BK104:=n1_
         have HB:=n2_
         clear n0_ n1_ n2_
         (try clear hb)
         (try clear hb2)
         (try clear hk)
         (try clear hi)
         refine hK.out _ _ ⟨((HB.out.cell (World.block_lt_of_cell? w _ hw110_0)).trans hw110_0),((HB.out.cell (World.block_lt_of_cell? w _ hw110_1)).trans hw110_1)⟩ (fun hHeld=>?_)
         clear hK K
         refine norm_ (a':=?_) ?_ ?_
         rotate_left
         · show Act.put _ (some 62) _ = _
           simp only [Act.put,List.setIfInBounds_toArray,List.set_cons_zero,List.set_cons_succ,zD,zI]
           rfl
         refine pure_ (i:=12) (N:=some 63) (v:=?_) (a':=?_) #[true,true,true,true,true,true,true,true,true,true,true,true,true,false] rfl rfl (zK HT_.out (by kernel_rfl)) (fun _ _ _ h=>h) (Or.inl ⟨by rfl,?_⟩) ?_ ?_
         rotate_left
         · intro w'
           go_simp
           with_reducible rfl
         rotate_left
         · simp only [Act.put,List.setIfInBounds_toArray,List.set_cons_zero,List.set_cons_succ,zD,zI]
           rfl
         refine one_ (i:=13) (N:=some 64) #[true,true,true,true,true,true,true,true,true,true,true,true,true,true] rfl rfl (z1t HT_.out (by kernel_rfl)) (by decide) (fun K hK=>?_)
         refine goes_ Try.func73 (by kernel_rfl) rfl #[.agg #[.int .u64 ((z12 l2 (ji24)).f0),.int .u64 ((z12 l2 (ji24)).f1)],.int .i64 (Int.tmod x12_3 t111)] (by rfl) rfl rfl (by (try simp only [List.map_toArray,List.map_cons,List.map_nil]);first|done|(simp only [hji24];rfl)|rfl|(simp only [List.length_drop,List.length_take];rfl)) ?_
         with_reducible refine (zv.calls k3 ((z12 l2 (ji24)).f0) ((z12 l2 (ji24)).f1) (Int.tmod x12_3 t111) false _ A29.out).mono ?_
         rintro e w47 ⟨rfl,hb⟩
         refine ⟨_,rfl,?_⟩
         have n0_:=z3.mk (Kd.zG (by (with_reducible repeat (first|apply Kd.zr|apply Kd.zs|apply Kd.zy));exact HO_8.out) hb)
         have n1_:=z3.mk (zn (g:=gb104) (o:=.cells #[.int .u64 x105000_3,.int .u64 x105001_3] 61 (0,0)) (by (with_reducible repeat (first|refine z5 ?_ _|refine z8 ?_|refine z4 ?_ _));exact BK104.out) hb)
         have n2_:=z3.mk (zb (by repeat (first|(with_reducible first|exact HB.out|apply z2|apply z0|apply z1|refine z6 ?_ GE104.out)|exact HB.out)) hb)
         clear HO_8
         clear BK104
         clear HB
         have HO_8:=n0_
         have BK104:=n1_
         have HB:=n2_
         clear n0_ n1_ n2_
         (try clear hb)
         (try clear hb2)
         (try clear hk)
         (try clear hi)
         refine hK.out _ _ ⟨((HB.out.cell (World.block_lt_of_cell? w _ hw110_0)).trans hw110_0),((HB.out.cell (World.block_lt_of_cell? w _ hw110_1)).trans hw110_1)⟩ (fun hHeld=>?_)
         clear hK K
         refine norm_ (a':=?_) ?_ ?_
         rotate_left
         · show Act.put _ (some 64) _ = _
           simp only [Act.put,List.setIfInBounds_toArray,List.set_cons_zero,List.set_cons_succ,zD,zI]
           rfl
         refine done_ (z1Z HT_.out (by kernel_rfl)) ?_
         try go_wp2
         go_roundg k3
         case measure=>have:=HJ3.out;have:=HK2.out;have:=HK3.out;omega
         case rel=>exact ⟨(wrap64 (x12_3 + 1)),(x105000_3),(x105001_3),(by first|rfl|(simp;done)|(simp [*];done)),H',⟨by have:=HJ3.out;have:=HK2.out;have:=HK3.out;omega⟩,⟨by (with_reducible repeat (first|apply Kd.zr|apply Kd.zs|apply Kd.zy));exact HO_8.out⟩,⟨by (with_reducible repeat (first|refine z5 ?_ _|refine z8 ?_|refine z4 ?_ _));exact BK104.out⟩,⟨by repeat (first|(with_reducible first|exact HB.out|apply z2|apply z0|apply z1|refine z6 ?_ GE104.out)|exact HB.out)⟩⟩
       subst c30
       have H1 : ((zj.f k3 x12_3).bind fun bt113=>((zJ.f x105000_3 x105001_3 bt113.1 bt113.2).bind fun bt115=>(za.l1 k3 a0 a1 l2 x8_2 (wrap64 (Int.tdiv t101 t102)) x10_2 (wrap64 (x12_3 + 1)) bt115.1 bt115.2))) = some (r1,r2):=by rw [if_pos rfl] at H;exact H
       clear H
       have H:=H1
       clear H1
       replace H:=Option.bind_eq_some_iff.mp H
       obtain ⟨⟨t113,t114⟩,A310,H⟩:=H
       replace H : ((zJ.f x105000_3 x105001_3 t113 t114).bind fun bt115=>(za.l1 k3 a0 a1 l2 x8_2 (wrap64 (Int.tdiv t101 t102)) x10_2 (wrap64 (x12_3 + 1)) bt115.1 bt115.2)) = some (r1,r2):=H
       have A31:=z3.mk A310
       clear A310
       replace H:=Option.bind_eq_some_iff.mp H
       obtain ⟨⟨t115,t116⟩,A320,H⟩:=H
       replace H : (za.l1 k3 a0 a1 l2 x8_2 (wrap64 (Int.tdiv t101 t102)) x10_2 (wrap64 (x12_3 + 1)) t115 t116) = some (r1,r2):=H
       have A32:=z3.mk A320
       clear A320
       have H':=z3.mk H
       clear H
       try go_wp2_with (first|((with_reducible refine zl (f:=72) rfl ?_);refine goesL_ (some 47) rfl rfl Try.func72 (by kernel_rfl) rfl #[.int .i64 a1] rfl (by (try simp only [List.map_toArray,List.map_cons,List.map_nil]);first|done|rfl|(simp only [List.length_drop,List.length_take];rfl)) ?_;(with_reducible refine (zt.calls a1 t105 _ A20.out).mono ?_);rintro e w33 ⟨rfl,hb⟩;refine ⟨_,rfl,?_⟩;have n0_:=z3.mk (Kd.zG (by (with_reducible repeat (first|apply Kd.zr|apply Kd.zs|apply Kd.zy));exact HO_8.out) hb);have n1_:=z3.mk (zn (g:=gb104) (o:=.cells #[.int .u64 x105000_3,.int .u64 x105001_3] 61 (0,0)) (by (with_reducible repeat (first|refine z5 ?_ _|refine z8 ?_|refine z4 ?_ _));exact BK104.out) hb);have n2_:=z3.mk (zb (by repeat (first|(with_reducible first|exact HB.out|apply z2|apply z0|apply z1|refine z6 ?_ GE104.out)|exact HB.out)) hb);clear HO_8;clear BK104;clear HB;have HO_8:=n0_;have BK104:=n1_;have HB:=n2_;clear n0_ n1_ n2_;(try clear hb);(try clear hb2);(try clear hk);(try clear hi)))
       have n0_:=z3.mk (Kd.zy HO_8.out)
       have n1_:=z3.mk (z8 BK104.out)
       have n2_:=z3.mk (z1 HB.out)
       clear HO_8
       clear BK104
       clear HB
       have HO_8:=n0_
       have BK104:=n1_
       have HB:=n2_
       clear n0_ n1_ n2_
       have p110 : 0 ≤ ((ji24) : Int):=of_decide_eq_true (by first|(with_reducible assumption)|assumption)
       have q110 : (ji24) < (l2.length : Int):=of_decide_eq_true (by first|(with_reducible assumption)|assumption)
       obtain ⟨ad110,e110,hx110_0,hx110_1⟩:=z2N HR2.out (ji24) p110 q110
       have hw110_1:=hx110_1
       have hw110_0:=hx110_0
       cases e110
       replace hx110_0:=(HB.out.cell (World.block_lt_of_cell? w _ hx110_0)).trans hx110_0
       replace hx110_1:=(HB.out.cell (World.block_lt_of_cell? w _ hx110_1)).trans hx110_1
       replace p110:=eq_true p110
       replace q110:=eq_true q110
       refine start_ (n:=14) (S:=fun w'=>w'.cell? (ad110.add (((ji24)).toNat * 2)) = some (.int .u64 ((z12 l2 (ji24)).f0)) ∧ w'.cell? ⟨(ad110.add (((ji24)).toNat * 2)).block,(ad110.add (((ji24)).toNat * 2)).off + 1,none⟩ = some (.int .u64 ((z12 l2 (ji24)).f1))) (ds:=[]) #[false,false,false,false,false,false,false,false,false,false,false,false,false,false] (by kernel_rfl) rfl rfl ⟨((HB.out.cell (World.block_lt_of_cell? w _ hw110_0)).trans hw110_0),((HB.out.cell (World.block_lt_of_cell? w _ hw110_1)).trans hw110_1)⟩ (fun hHeld=>?_);refine z1C za.tab16 za.bits16 (fun HT_ HW_=>?_)
       generalize w33.drew = w34 at HO_8 BK104 HB hx110_0 hx110_1 hHeld ⊢
       refine pure_ (i:=0) (N:=some 51) (v:=?_) (a':=?_) #[true,false,false,false,false,false,false,false,false,false,false,false,false,false] rfl rfl (zK HT_.out (by kernel_rfl)) (fun _ _ _ h=>h) (Or.inl ⟨by rfl,?_⟩) ?_ ?_
       rotate_left
       · intro w'
         go_simp
         with_reducible rfl
       rotate_left
       · simp only [Act.put,List.setIfInBounds_toArray,List.set_cons_zero,List.set_cons_succ,zD,zI]
         rfl
       refine pure_ (i:=1) (N:=some 52) (v:=?_) (a':=?_) #[true,true,false,false,false,false,false,false,false,false,false,false,false,false] rfl rfl (zK HT_.out (by kernel_rfl)) (fun _ _ _ h=>h) (Or.inl ⟨by rfl,?_⟩) ?_ ?_
       rotate_left
       · intro w'
         go_simp
         with_reducible rfl
       rotate_left
       · simp only [Act.put,List.setIfInBounds_toArray,List.set_cons_zero,List.set_cons_succ,zD,zI]
         rfl
       refine pure_ (i:=2) (N:=some 53) (v:=?_) (a':=?_) #[true,true,true,false,false,false,false,false,false,false,false,false,false,false] rfl rfl (zK HT_.out (by kernel_rfl)) (fun _ _ _ h=>h) (Or.inl ⟨by rfl,?_⟩) ?_ ?_
       rotate_left
       · intro w'
         go_simp
         with_reducible rfl
       rotate_left
       · simp only [Act.put,List.setIfInBounds_toArray,List.set_cons_zero,List.set_cons_succ,zD,zI]
         rfl
       refine pure_ (i:=3) (N:=some 54) (v:=?_) (a':=?_) #[true,true,true,true,false,false,false,false,false,false,false,false,false,false] rfl rfl (zK HT_.out (by kernel_rfl)) (fun _ _ _ h=>h) (Or.inl ⟨by rfl,?_⟩) ?_ ?_
       rotate_left
       · intro w'
         go_simp
         with_reducible rfl
       rotate_left
       · simp only [Act.put,List.setIfInBounds_toArray,List.set_cons_zero,List.set_cons_succ,zD,zI]
         rfl
       refine pure_ (i:=9) (N:=some 60) (v:=?_) (a':=?_) #[true,true,true,true,false,false,false,false,false,true,false,false,false,false] rfl rfl (zK HT_.out (by kernel_rfl)) (fun _ _ _ h=>h) (Or.inl ⟨by rfl,?_⟩) ?_ ?_
       rotate_left
       · intro w'
         go_simp
         with_reducible rfl
       rotate_left
       · simp only [Act.put,List.setIfInBounds_toArray,List.set_cons_zero,List.set_cons_succ,zD,zI]
         rfl
       refine pure_ (i:=10) (N:=some 61) (v:=?_) (a':=?_) #[true,true,true,true,false,false,false,false,false,true,true,false,false,false] rfl rfl (zK HT_.out (by kernel_rfl)) (fun _ _ _ h=>h) (Or.inl ⟨by rfl,?_⟩) ?_ ?_
       rotate_left
       · intro w'
         go_simp
         with_reducible rfl
       rotate_left
       · simp only [Act.put,List.setIfInBounds_toArray,List.set_cons_zero,List.set_cons_succ,zD,zI]
         rfl
       refine one_ (i:=4) (N:=some 55) #[true,true,true,true,true,false,false,false,false,true,true,false,false,false] rfl rfl (z1t HT_.out (by kernel_rfl)) (by decide) (fun K hK=>?_)
       refine goes_ Try.func72 (by kernel_rfl) rfl #[.int .i64 a0] (by rfl) rfl rfl (by (try simp only [List.map_toArray,List.map_cons,List.map_nil]);first|done|rfl|(simp only [List.length_drop,List.length_take];rfl)) ?_
       with_reducible refine (zt.calls a0 t109 _ A22.out).mono ?_
       rintro e w35 ⟨rfl,hb⟩
       refine ⟨_,rfl,?_⟩
       have n0_:=z3.mk (Kd.zG (by (with_reducible repeat (first|apply Kd.zr|apply Kd.zs|apply Kd.zy));exact HO_8.out) hb)
       have n1_:=z3.mk (zn (g:=gb104) (o:=.cells #[.int .u64 x105000_3,.int .u64 x105001_3] 61 (0,0)) (by (with_reducible repeat (first|refine z5 ?_ _|refine z8 ?_|refine z4 ?_ _));exact BK104.out) hb)
       have n2_:=z3.mk (zb (by repeat (first|(with_reducible first|exact HB.out|apply z2|apply z0|apply z1|refine z6 ?_ GE104.out)|exact HB.out)) hb)
       clear HO_8
       clear BK104
       clear HB
       have HO_8:=n0_
       have BK104:=n1_
       have HB:=n2_
       clear n0_ n1_ n2_
       (try clear hb)
       (try clear hb2)
       (try clear hk)
       (try clear hi)
       refine hK.out _ _ ⟨((HB.out.cell (World.block_lt_of_cell? w _ hw110_0)).trans hw110_0),((HB.out.cell (World.block_lt_of_cell? w _ hw110_1)).trans hw110_1)⟩ (fun hHeld=>?_)
       clear hK K
       refine norm_ (a':=?_) ?_ ?_
       rotate_left
       · show Act.put _ (some 55) _ = _
         simp only [Act.put,List.setIfInBounds_toArray,List.set_cons_zero,List.set_cons_succ,zD,zI]
         rfl
       refine pure_ (i:=5) (N:=some 56) (v:=?_) (a':=?_) #[true,true,true,true,true,true,false,false,false,true,true,false,false,false] rfl rfl (zK HT_.out (by kernel_rfl)) (fun _ _ _ h=>h) (Or.inl ⟨by rfl,?_⟩) ?_ ?_
       rotate_left
       · intro w'
         go_simp
         with_reducible rfl
       rotate_left
       · simp only [Act.put,List.setIfInBounds_toArray,List.set_cons_zero,List.set_cons_succ,zD,zI]
         rfl
       refine pure_ (i:=6) (N:=some 57) (v:=?_) (a':=?_) #[true,true,true,true,true,true,true,false,false,true,true,false,false,false] rfl rfl (zK HT_.out (by kernel_rfl)) (fun _ _ _ h=>h) (Or.inl ⟨by rfl,?_⟩) ?_ ?_
       rotate_left
       · intro w'
         go_simp
         with_reducible rfl
       rotate_left
       · simp only [Act.put,List.setIfInBounds_toArray,List.set_cons_zero,List.set_cons_succ,zD,zI]
         rfl
       refine pure_ (i:=7) (N:=some 58) (v:=?_) (a':=?_) #[true,true,true,true,true,true,true,true,false,true,true,false,false,false] rfl rfl (zK HT_.out (by kernel_rfl)) (fun _ _ _ h=>h) (Or.inl ⟨by rfl,?_⟩) ?_ ?_
       rotate_left
       · intro w'
         go_simp
         with_reducible rfl
       rotate_left
       · simp only [Act.put,List.setIfInBounds_toArray,List.set_cons_zero,List.set_cons_succ,zD,zI]
         rfl
       refine take_ (i:=8) (N:=some 59) (v:=?_) (a':=?_) #[true,true,true,true,true,true,true,true,true,true,true,false,false,false] rfl rfl (z1m HT_.out HW_.out (by kernel_rfl)) (fun _ _ _ h=>h) (Or.inl ⟨by rfl,?_⟩) hHeld ?_ ?_
       rotate_left
       · rintro w' ⟨s0,s1⟩
         go_simp
         with_reducible rfl
       rotate_left
       · simp only [Act.put,List.setIfInBounds_toArray,List.set_cons_zero,List.set_cons_succ,zD,zI]
         rfl
       refine one_ (i:=11) (N:=some 62) #[true,true,true,true,true,true,true,true,true,true,true,true,false,false] rfl rfl (z1t HT_.out (by kernel_rfl)) (by decide) (fun K hK=>?_)
       refine goes_ Try.func72 (by kernel_rfl) rfl #[.int .i64 a0] (by rfl) rfl rfl (by (try simp only [List.map_toArray,List.map_cons,List.map_nil]);first|done|rfl|(simp only [List.length_drop,List.length_take];rfl)) ?_
       with_reducible refine (zt.calls a0 t111 _ A27.out).mono ?_
       rintro e w36 ⟨rfl,hb⟩
       refine ⟨_,rfl,?_⟩
       have n0_:=z3.mk (Kd.zG (by (with_reducible repeat (first|apply Kd.zr|apply Kd.zs|apply Kd.zy));exact HO_8.out) hb)
       have n1_:=z3.mk (zn (g:=gb104) (o:=.cells #[.int .u64 x105000_3,.int .u64 x105001_3] 61 (0,0)) (by (with_reducible repeat (first|refine z5 ?_ _|refine z8 ?_|refine z4 ?_ _));exact BK104.out) hb)
       have n2_:=z3.mk (zb (by repeat (first|(with_reducible first|exact HB.out|apply z2|apply z0|apply z1|refine z6 ?_ GE104.out)|exact HB.out)) hb)
       clear HO_8
       clear BK104
       clear HB
       have HO_8:=n0_
       have BK104:=n1_
       have HB:=n2_
       clear n0_ n1_ n2_
       (try clear hb)
       (try clear hb2)
       (try clear hk)
       (try clear hi)
       refine hK.out _ _ ⟨((HB.out.cell (World.block_lt_of_cell? w _ hw110_0)).trans hw110_0),((HB.out.cell (World.block_lt_of_cell? w _ hw110_1)).trans hw110_1)⟩ (fun hHeld=>?_)
       clear hK K
       refine norm_ (a':=?_) ?_ ?_
       rotate_left
       · show Act.put _ (some 62) _ = _
         simp only [Act.put,List.setIfInBounds_toArray,List.set_cons_zero,List.set_cons_succ,zD,zI]
         rfl
       refine pure_ (i:=12) (N:=some 63) (v:=?_) (a':=?_) #[true,true,true,true,true,true,true,true,true,true,true,true,true,false] rfl rfl (zK HT_.out (by kernel_rfl)) (fun _ _ _ h=>h) (Or.inl ⟨by rfl,?_⟩) ?_ ?_
       rotate_left
       · intro w'
         go_simp
         with_reducible rfl
       rotate_left
       · simp only [Act.put,List.setIfInBounds_toArray,List.set_cons_zero,List.set_cons_succ,zD,zI]
         rfl
       refine one_ (i:=13) (N:=some 64) #[true,true,true,true,true,true,true,true,true,true,true,true,true,true] rfl rfl (z1t HT_.out (by kernel_rfl)) (by decide) (fun K hK=>?_)
       refine goes_ Try.func73 (by kernel_rfl) rfl #[.agg #[.int .u64 ((z12 l2 (ji24)).f0),.int .u64 ((z12 l2 (ji24)).f1)],.int .i64 (Int.tmod x12_3 t111)] (by rfl) rfl rfl (by (try simp only [List.map_toArray,List.map_cons,List.map_nil]);first|done|(simp only [hji24];rfl)|rfl|(simp only [List.length_drop,List.length_take];rfl)) ?_
       with_reducible refine (zv.calls k3 ((z12 l2 (ji24)).f0) ((z12 l2 (ji24)).f1) (Int.tmod x12_3 t111) true _ A29.out).mono ?_
       rintro e w37 ⟨rfl,hb⟩
       refine ⟨_,rfl,?_⟩
       have n0_:=z3.mk (Kd.zG (by (with_reducible repeat (first|apply Kd.zr|apply Kd.zs|apply Kd.zy));exact HO_8.out) hb)
       have n1_:=z3.mk (zn (g:=gb104) (o:=.cells #[.int .u64 x105000_3,.int .u64 x105001_3] 61 (0,0)) (by (with_reducible repeat (first|refine z5 ?_ _|refine z8 ?_|refine z4 ?_ _));exact BK104.out) hb)
       have n2_:=z3.mk (zb (by repeat (first|(with_reducible first|exact HB.out|apply z2|apply z0|apply z1|refine z6 ?_ GE104.out)|exact HB.out)) hb)
       clear HO_8
       clear BK104
       clear HB
       have HO_8:=n0_
       have BK104:=n1_
       have HB:=n2_
       clear n0_ n1_ n2_
       (try clear hb)
       (try clear hb2)
       (try clear hk)
       (try clear hi)
       refine hK.out _ _ ⟨((HB.out.cell (World.block_lt_of_cell? w _ hw110_0)).trans hw110_0),((HB.out.cell (World.block_lt_of_cell? w _ hw110_1)).trans hw110_1)⟩ (fun hHeld=>?_)
       clear hK K
       refine norm_ (a':=?_) ?_ ?_
       rotate_left
       · show Act.put _ (some 64) _ = _
         simp only [Act.put,List.setIfInBounds_toArray,List.set_cons_zero,List.set_cons_succ,zD,zI]
         rfl
       refine done_ (z1Z HT_.out (by kernel_rfl)) ?_
       try go_wp2
       have n0_:=z3.mk (Kd.zy HO_8.out)
       have n1_:=z3.mk (z8 BK104.out)
       have n2_:=z3.mk (z1 HB.out)
       clear HO_8
       clear BK104
       clear HB
       have HO_8:=n0_
       have BK104:=n1_
       have HB:=n2_
       clear n0_ n1_ n2_
       refine start_ (n:=5) (S:=fun w'=>w'.cell? ⟨gb104,0,none⟩ = some (.int .u64 x105000_3) ∧ w'.cell? ⟨gb104,1,none⟩ = some (.int .u64 x105001_3)) (ds:=[4]) #[false,false,false,false,false] (by kernel_rfl) rfl rfl ⟨(ze BK104.out 0).trans rfl,(ze BK104.out 1).trans rfl⟩ (fun hHeld=>?_)
       generalize w37.drew = w38 at HO_8 BK104 HB hHeld ⊢
       refine pure_ (i:=1) (N:=some 66) (v:=?_) (a':=?_) #[false,true,false,false,false] rfl rfl (by kernel_rfl) (fun _ _ _ h=>h) (Or.inl ⟨by rfl,?_⟩) ?_ ?_
       rotate_left
       · intro w'
         go_simp
         with_reducible rfl
       rotate_left
       · simp only [Act.put,List.setIfInBounds_toArray,List.set_cons_zero,List.set_cons_succ,zD,zI]
         rfl
       refine take_ (i:=0) (N:=some 65) (v:=?_) (a':=?_) #[true,true,false,false,false] rfl rfl (by kernel_rfl) (fun _ _ _ h=>h) (Or.inl ⟨by rfl,?_⟩) hHeld ?_ ?_
       rotate_left
       · rintro w' ⟨s0,s1⟩
         go_simp
         with_reducible rfl
       rotate_left
       · simp only [Act.put,List.setIfInBounds_toArray,List.set_cons_zero,List.set_cons_succ,zD,zI]
         rfl
       refine one_ (i:=2) (N:=some 67) #[true,true,true,false,false] rfl rfl (by kernel_rfl) (by decide) (fun K hK=>?_)
       refine goes_ Try.func75 (by kernel_rfl) rfl #[.int .i64 x12_3] (by rfl) rfl rfl (by (try simp only [List.map_toArray,List.map_cons,List.map_nil]);first|done|rfl|(simp only [List.length_drop,List.length_take];rfl)) ?_
       with_reducible refine (zj.calls k3 x12_3 t113 t114 _ A31.out).mono ?_
       rintro e w39 ⟨rfl,hb⟩
       refine ⟨_,rfl,?_⟩
       have n0_:=z3.mk (Kd.zG (by (with_reducible repeat (first|apply Kd.zr|apply Kd.zs|apply Kd.zy));exact HO_8.out) hb)
       have n1_:=z3.mk (zn (g:=gb104) (o:=.cells #[.int .u64 x105000_3,.int .u64 x105001_3] 61 (0,0)) (by (with_reducible repeat (first|refine z5 ?_ _|refine z8 ?_|refine z4 ?_ _));exact BK104.out) hb)
       have n2_:=z3.mk (zb (by repeat (first|(with_reducible first|exact HB.out|apply z2|apply z0|apply z1|refine z6 ?_ GE104.out)|exact HB.out)) hb)
       clear HO_8
       clear BK104
       clear HB
       have HO_8:=n0_
       have BK104:=n1_
       have HB:=n2_
       clear n0_ n1_ n2_
       (try clear hb)
       (try clear hb2)
       (try clear hk)
       (try clear hi)
       refine hK.out _ _ ⟨(ze BK104.out 0).trans rfl,(ze BK104.out 1).trans rfl⟩ (fun hHeld=>?_)
       clear hK K
       refine norm_ (a':=?_) ?_ ?_
       rotate_left
       · show Act.put _ (some 67) _ = _
         simp only [Act.put,List.setIfInBounds_toArray,List.set_cons_zero,List.set_cons_succ,zD,zI]
         rfl
       refine one_ (i:=3) (N:=some 68) #[true,true,true,true,false] rfl rfl (by kernel_rfl) (by decide) (fun K hK=>?_)
       refine goes_ Try.func74 (by kernel_rfl) rfl #[.agg #[.int .u64 x105000_3,.int .u64 x105001_3],.agg #[.int .u64 t113,.int .u64 t114]] (by rfl) rfl rfl (by (try simp only [List.map_toArray,List.map_cons,List.map_nil]);first|done|rfl|(simp only [List.length_drop,List.length_take];rfl)) ?_
       with_reducible refine (zJ.calls x105000_3 x105001_3 t113 t114 t115 t116 _ A32.out).mono ?_
       rintro e w40 ⟨rfl,hb⟩
       refine ⟨_,rfl,?_⟩
       have n0_:=z3.mk (Kd.zG (by (with_reducible repeat (first|apply Kd.zr|apply Kd.zs|apply Kd.zy));exact HO_8.out) hb)
       have n1_:=z3.mk (zn (g:=gb104) (o:=.cells #[.int .u64 x105000_3,.int .u64 x105001_3] 61 (0,0)) (by (with_reducible repeat (first|refine z5 ?_ _|refine z8 ?_|refine z4 ?_ _));exact BK104.out) hb)
       have n2_:=z3.mk (zb (by repeat (first|(with_reducible first|exact HB.out|apply z2|apply z0|apply z1|refine z6 ?_ GE104.out)|exact HB.out)) hb)
       clear HO_8
       clear BK104
       clear HB
       have HO_8:=n0_
       have BK104:=n1_
       have HB:=n2_
       clear n0_ n1_ n2_
       (try clear hb)
       (try clear hb2)
       (try clear hk)
       (try clear hi)
       refine hK.out _ _ ⟨(ze BK104.out 0).trans rfl,(ze BK104.out 1).trans rfl⟩ (fun hHeld=>?_)
       clear hK K
       refine norm_ (a':=?_) ?_ ?_
       rotate_left
       · show Act.put _ (some 68) _ = _
         simp only [Act.put,List.setIfInBounds_toArray,List.set_cons_zero,List.set_cons_succ,zD,zI]
         rfl
       refine last_ (i:=4) (N:=none) #[true,true,true,true,true] rfl rfl (by kernel_rfl) (by decide) (fun K hK=>?_)
       have hs41 : w40.cell? ⟨gb104,0,none⟩ = some (.int .u64 x105000_3):=(ze BK104.out 0).trans rfl
       have hfs41:=zd BK104.out 0
       have hs42 : w40.cell? ⟨gb104,1,none⟩ = some (.int .u64 x105001_3):=(ze BK104.out 1).trans rfl
       have hfs42:=zd BK104.out 1
       refine skip_ (w1:=?_) (by rfl) rfl ?_ ?_
       rotate_left
       · go_simp
         rfl
       refine hK.out _ _ ?_
       clear hK K
       refine done_ (by kernel_rfl) ?_
       try go_wp2
       go_roundg k3
       case measure=>have:=HJ3.out;have:=HK2.out;have:=HK3.out;omega
       case rel=>exact ⟨(wrap64 (x12_3 + 1)),(t115),(t116),(by first|rfl|(simp;done)|(simp [*];done)),H',⟨by have:=HJ3.out;have:=HK2.out;have:=HK3.out;omega⟩,⟨by (with_reducible repeat (first|apply Kd.zr|apply Kd.zs|apply Kd.zy));exact Kd.z1e (Kd.z3l (p:=⟨gb104,1,none⟩) (Kd.z3l (p:=⟨gb104,0,none⟩) (Kd.z1e HO_8.out (fun k_ hk=>(⟨hk,hk⟩ : _ ∧ k_ ≠ gb104))) (fun _ hk=>hk.2) (.int .u64 t115)) (fun _ hk=>hk.2) (.int .u64 t116)) (fun _ hk=>hk.1)⟩,⟨by (with_reducible repeat (first|refine z5 ?_ _|refine z8 ?_|refine z4 ?_ _));refine zN (cs:=#[.int .u64 t115,.int .u64 x105001_3]) ?_ 1 _ rfl;(with_reducible repeat (first|refine z5 ?_ _|refine z8 ?_|refine z4 ?_ _));refine zN (cs:=#[.int .u64 x105000_3,.int .u64 x105001_3]) ?_ 0 _ rfl;(with_reducible repeat (first|refine z5 ?_ _|refine z8 ?_|refine z4 ?_ _));exact BK104.out⟩,⟨by repeat (first|(with_reducible first|exact HB.out|apply z2|apply z0|apply z1|refine z6 ?_ GE104.out)|exact HB.out)⟩⟩
end Go.Proofs.Ytngcaphdkgihmaa.P
namespace Go.Proofs.Ytngcaphdkgihmaa.P
open Go.RowKit Go.Proofs.YtngcaphdkgihmaaW.PrintWords Go.Proofs.YtngcaphdkgihmaaW.PrintLast Go.Proofs.YtngcaphdkgihmaaW.PrintMore
attribute [local go_sem] zW zY z15 z16 zQ zR zX zZ   -- for this text's walks alone
set_option linter.unusedVariables false
set_option linter.unusedSimpArgs false
def z1g.f (a0 : Int) (a1_0 : Int) (a1_1 : Int) : Option (Int × Int):=if a0 = 7 then (some (a1_0,a1_1)) else (if a0 = 6 then (some (0,a1_1)) else (if 0 ≤ a0 then (some (0,Go.bits .and .u64 a1_1 (IntKind.u64.wrap ((shl .u64 1 (shl .u64 1 a0)) - 1)))) else (none)))
def z1g.T5 : Bool × List (List Nat × List Nat):=(true,[([],[]),([0],[0]),([],[]),([2],[2]),([3],[3]),([4],[4]),([1,5],[1,5]),([6],[6]),([7,0,1,2,3,4,5,6,7],[7])])
def z1g.B5 : List Nat:=[0,1,0,4,12,28,63,127,255]
theorem z1g.tab5 : rtab .any (opsOf Try.f76 5) = z1g.T5:=by kernel_rfl
theorem z1g.bits5 : waitsOk z1g.T5.2 z1g.B5 = true:=by kernel_rfl
set_option maxHeartbeats 8000000 in
set_option maxRecDepth 100000 in
theorem z1g.calls (a0 : Int) (a1_0 : Int) (a1_1 : Int) (r1 : Int) (r2 : Int) (w : World) (h : z1g.f a0 a1_0 a1_1 = some (r1,r2)) :
 Calls Try.prog 76 #[.int .i64 a0,.agg #[.int .u64 a1_0,.int .u64 a1_1]] w fun e w'=>e = .returned (.agg #[.int .u64 r1,.int .u64 r2]) ∧ Below w.heap.size w w':=by
 have hu51:=Try.underlying51
 have HB:=z3.mk (Below.refl w.heap.size w)
 have H : (if a0 = 7 then (some (a1_0,a1_1)) else (if a0 = 6 then (some (0,a1_1)) else (if 0 ≤ a0 then (some (0,Go.bits .and .u64 a1_1 (IntKind.u64.wrap ((shl .u64 1 (shl .u64 1 a0)) - 1)))) else (none)))) = some (r1,r2):=h
 clear h
 by_cases c3 : a0 = 7
 · rw [if_pos c3] at H
   have c3b0 : (a0 == 7) = true:=beq_iff_eq.mpr c3
   have c3b1 : (a0 != 7) = false:=bne_eq_false_iff_eq.mpr c3
   clear c3
   simp only [Option.some.injEq,Prod.mk.injEq] at H
   obtain ⟨rfl,rfl⟩:=H
   go_enter Try.func76,Try.ntmps76
   go_wp2_with (first|((with_reducible refine zE (N:=3) rfl ?_);refine zC ?hg (N:=3) ?hd (cs:=#[.int .u64 a1_0,.int .u64 a1_1]) (t:=51) ?hr ?_;(case hd=>rfl);(case hg=>rfl);(case hr=>first|(go_simp;done)|(go_simp;rfl));intro gb101 hg w4 hbox hb;have n0_:=z3.mk (zb (by repeat (first|(with_reducible first|exact HB.out|apply z2|apply z0|apply z1)|exact HB.out)) hb);have n1_:=z3.mk (hbox);have n2_:=z3.mk ((by rw [hg];exact (zc (by repeat (first|(with_reducible first|exact HB.out|apply z2|apply z0|apply z1)|exact HB.out))) : w.heap.size ≤ gb101));have n3_:=z3.mk ((by rw [hg];exact (zc (by repeat (first|(with_reducible first|exact HB.out|apply z2|apply z0|apply z1)|exact HB.out))) : w.heap.size ≤ gb101));clear HB;have HB:=n0_;have BK101:=n1_;have GW101:=n2_;have GE101:=n3_;clear n0_ n1_ n2_ n3_;clear hb hbox hg)|((with_reducible refine zE (N:=4) rfl ?_);refine zC ?hg (N:=4) ?hd (cs:=#[.int .u64 0,.int .u64 0]) (t:=51) ?hr ?_;(case hd=>rfl);(case hg=>rfl);(case hr=>first|(go_simp;done)|(go_simp;rfl));intro gb102 hg w5 hbox hb;have n0_:=z3.mk (zn (g:=gb101) (o:=.cells #[.int .u64 a1_0,.int .u64 a1_1] 51 (0,0)) (by (with_reducible repeat (first|refine z5 ?_ _|refine z8 ?_|refine z4 ?_ _));exact BK101.out) hb);have n1_:=z3.mk (zb (by repeat (first|(with_reducible first|exact HB.out|apply z2|apply z0|apply z1|refine z6 ?_ GE101.out)|exact HB.out)) hb);have n2_:=z3.mk (hbox);have n3_:=z3.mk ((by rw [hg];exact (zc (by repeat (first|(with_reducible first|exact HB.out|apply z2|apply z0|apply z1|refine z6 ?_ GE101.out)|exact HB.out))) : w.heap.size ≤ gb102));have n4_:=z3.mk ((by rw [hg];exact (zc (by repeat (first|(with_reducible first|exact HB.out|apply z2|apply z0|apply z1|refine z6 ?_ GE101.out)|exact HB.out))) : w.heap.size ≤ gb102));have n5_:=z3.mk ((by rw [hg];exact Nat.ne_of_lt (zO (g:=gb101) (o:=.cells #[.int .u64 a1_0,.int .u64 a1_1] 51 (0,0)) (by (with_reducible repeat (first|refine z5 ?_ _|refine z8 ?_|refine z4 ?_ _));exact BK101.out)) : gb101 ≠ gb102));have n6_:=z3.mk ((by rw [hg];exact Nat.ne_of_gt (zO (g:=gb101) (o:=.cells #[.int .u64 a1_0,.int .u64 a1_1] 51 (0,0)) (by (with_reducible repeat (first|refine z5 ?_ _|refine z8 ?_|refine z4 ?_ _));exact BK101.out)) : gb102 ≠ gb101));clear BK101;clear HB;have BK101:=n0_;have HB:=n1_;have BK102:=n2_;have GW102:=n3_;have GE102:=n4_;have NB101_102:=n5_;have NB102_101:=n6_;clear n0_ n1_ n2_ n3_ n4_ n5_ n6_;clear hb hbox hg;have hnb6:=NB101_102.out;have hnc6:=NB102_101.out;have hcz7_0 : w5.cell? ⟨gb101,0,none⟩ = some (.int .u64 a1_0):=(ze BK101.out 0).trans rfl;have hcz7_1 : w5.cell? ⟨gb101,1,none⟩ = some (.int .u64 a1_1):=(ze BK101.out 1).trans rfl;have hfz7_0:=zd BK101.out 0;have hfz7_1:=zd BK101.out 1;have hcz8_0 : w5.cell? ⟨gb102,0,none⟩ = some (.int .u64 0):=(ze BK102.out 0).trans rfl;have hcz8_1 : w5.cell? ⟨gb102,1,none⟩ = some (.int .u64 0):=(ze BK102.out 1).trans rfl;have hfz8_0:=zd BK102.out 0;have hfz8_1:=zd BK102.out 1))
   refine bodyPost_ret (results_cell_row rfl _ _ gb102 51 #[.int .u64 a1_0,.int .u64 a1_1] (0,0) _ rfl (by (with_reducible repeat (first|refine z5 ?_ _|refine z8 ?_|refine z4 ?_ _));refine zN (cs:=#[.int .u64 a1_0,.int .u64 0]) ?_ 1 _ rfl;(with_reducible repeat (first|refine z5 ?_ _|refine z8 ?_|refine z4 ?_ _));refine zN (cs:=#[.int .u64 0,.int .u64 0]) ?_ 0 _ rfl;(with_reducible repeat (first|refine z5 ?_ _|refine z8 ?_|refine z4 ?_ _));exact BK102.out) Try.underlying51 rfl (by kernel_rfl)) rfl ?_
   exact ⟨by first|rfl|(simp [zg,zh] <;> rfl)|(simp [*,zg,zh] <;> rfl),by repeat (first|(with_reducible first|exact HB.out|apply z2|apply z0|apply z1|refine z6 ?_ GE101.out|refine z6 ?_ GE102.out)|exact HB.out)⟩
 rw [if_neg c3] at H
 have c3b0 : (a0 == 7) = false:=beq_eq_false_iff_ne.mpr c3
 have c3b1 : (a0 != 7) = true:=bne_iff_ne.mpr c3
 by_cases c9 : a0 = 6
 · rw [if_pos c9] at H
   have c9b0 : (a0 == 6) = true:=beq_iff_eq.mpr c9
   have c9b1 : (a0 != 6) = false:=bne_eq_false_iff_eq.mpr c9
   clear c9
   simp only [Option.some.injEq,Prod.mk.injEq] at H
   obtain ⟨rfl,rfl⟩:=H
   go_enter Try.func76,Try.ntmps76
   go_wp2_with (first|((with_reducible refine zE (N:=3) rfl ?_);refine zC ?hg (N:=3) ?hd (cs:=#[.int .u64 a1_0,.int .u64 a1_1]) (t:=51) ?hr ?_;(case hd=>rfl);(case hg=>rfl);(case hr=>first|(go_simp;done)|(go_simp;rfl));intro gb101 hg w10 hbox hb;have n0_:=z3.mk (zb (by repeat (first|(with_reducible first|exact HB.out|apply z2|apply z0|apply z1)|exact HB.out)) hb);have n1_:=z3.mk (hbox);have n2_:=z3.mk ((by rw [hg];exact (zc (by repeat (first|(with_reducible first|exact HB.out|apply z2|apply z0|apply z1)|exact HB.out))) : w.heap.size ≤ gb101));have n3_:=z3.mk ((by rw [hg];exact (zc (by repeat (first|(with_reducible first|exact HB.out|apply z2|apply z0|apply z1)|exact HB.out))) : w.heap.size ≤ gb101));clear HB;have HB:=n0_;have BK101:=n1_;have GW101:=n2_;have GE101:=n3_;clear n0_ n1_ n2_ n3_;clear hb hbox hg)|((with_reducible refine zE (N:=4) rfl ?_);refine zC ?hg (N:=4) ?hd (cs:=#[.int .u64 0,.int .u64 0]) (t:=51) ?hr ?_;(case hd=>rfl);(case hg=>rfl);(case hr=>first|(go_simp;done)|(go_simp;rfl));intro gb102 hg w11 hbox hb;have n0_:=z3.mk (zn (g:=gb101) (o:=.cells #[.int .u64 a1_0,.int .u64 a1_1] 51 (0,0)) (by (with_reducible repeat (first|refine z5 ?_ _|refine z8 ?_|refine z4 ?_ _));exact BK101.out) hb);have n1_:=z3.mk (zb (by repeat (first|(with_reducible first|exact HB.out|apply z2|apply z0|apply z1|refine z6 ?_ GE101.out)|exact HB.out)) hb);have n2_:=z3.mk (hbox);have n3_:=z3.mk ((by rw [hg];exact (zc (by repeat (first|(with_reducible first|exact HB.out|apply z2|apply z0|apply z1|refine z6 ?_ GE101.out)|exact HB.out))) : w.heap.size ≤ gb102));have n4_:=z3.mk ((by rw [hg];exact (zc (by repeat (first|(with_reducible first|exact HB.out|apply z2|apply z0|apply z1|refine z6 ?_ GE101.out)|exact HB.out))) : w.heap.size ≤ gb102));have n5_:=z3.mk ((by rw [hg];exact Nat.ne_of_lt (zO (g:=gb101) (o:=.cells #[.int .u64 a1_0,.int .u64 a1_1] 51 (0,0)) (by (with_reducible repeat (first|refine z5 ?_ _|refine z8 ?_|refine z4 ?_ _));exact BK101.out)) : gb101 ≠ gb102));have n6_:=z3.mk ((by rw [hg];exact Nat.ne_of_gt (zO (g:=gb101) (o:=.cells #[.int .u64 a1_0,.int .u64 a1_1] 51 (0,0)) (by (with_reducible repeat (first|refine z5 ?_ _|refine z8 ?_|refine z4 ?_ _));exact BK101.out)) : gb102 ≠ gb101));clear BK101;clear HB;have BK101:=n0_;have HB:=n1_;have BK102:=n2_;have GW102:=n3_;have GE102:=n4_;have NB101_102:=n5_;have NB102_101:=n6_;clear n0_ n1_ n2_ n3_ n4_ n5_ n6_;clear hb hbox hg;have hnb12:=NB101_102.out;have hnc12:=NB102_101.out;have hcz13_0 : w11.cell? ⟨gb101,0,none⟩ = some (.int .u64 a1_0):=(ze BK101.out 0).trans rfl;have hcz13_1 : w11.cell? ⟨gb101,1,none⟩ = some (.int .u64 a1_1):=(ze BK101.out 1).trans rfl;have hfz13_0:=zd BK101.out 0;have hfz13_1:=zd BK101.out 1;have hcz14_0 : w11.cell? ⟨gb102,0,none⟩ = some (.int .u64 0):=(ze BK102.out 0).trans rfl;have hcz14_1 : w11.cell? ⟨gb102,1,none⟩ = some (.int .u64 0):=(ze BK102.out 1).trans rfl;have hfz14_0:=zd BK102.out 0;have hfz14_1:=zd BK102.out 1))
   refine bodyPost_ret (results_cell_row rfl _ _ gb102 51 #[.int .u64 0,.int .u64 a1_1] (0,0) _ rfl (by (with_reducible repeat (first|refine z5 ?_ _|refine z8 ?_|refine z4 ?_ _));refine zN (cs:=#[.int .u64 0,.int .u64 0]) ?_ 1 _ rfl;(with_reducible repeat (first|refine z5 ?_ _|refine z8 ?_|refine z4 ?_ _));refine zN (cs:=#[.int .u64 0,.int .u64 0]) ?_ 0 _ rfl;(with_reducible repeat (first|refine z5 ?_ _|refine z8 ?_|refine z4 ?_ _));exact BK102.out) Try.underlying51 rfl (by kernel_rfl)) rfl ?_
   exact ⟨by first|rfl|(simp [zg,zh] <;> rfl)|(simp [*,zg,zh] <;> rfl),by repeat (first|(with_reducible first|exact HB.out|apply z2|apply z0|apply z1|refine z6 ?_ GE101.out|refine z6 ?_ GE102.out)|exact HB.out)⟩
 rw [if_neg c9] at H
 have c9b0 : (a0 == 6) = false:=beq_eq_false_iff_ne.mpr c9
 have c9b1 : (a0 != 6) = true:=bne_iff_ne.mpr c9
 by_cases c15 : 0 ≤ a0
 rotate_left
 · rw [if_neg c15] at H
   exact absurd H (by simp)
 rw [if_pos c15] at H
 have c15b0:=eq_true c15
 have c15b1 : decide (0 ≤ a0) = true:=decide_eq_true c15
 clear c15
 obtain ⟨ji16,hji16⟩ : ∃ j_ : Int,(shl .u64 1 a0) = j_:=⟨_,rfl⟩
 replace H : (some (0,Go.bits .and .u64 a1_1 (IntKind.u64.wrap ((shl .u64 1 (ji16)) - 1)))) = some (r1,r2):=by first|(rw [hji16] at H;exact H)|(simp only [hji16] at H ⊢;exact H)
 have hji16_ : (IntKind.u64.wrap (1 * 2 ^ min a0.toNat 64)) = ji16:=hji16
 have hji16z : a0 ≤ 64 → (IntKind.u64.wrap (1 * 2 ^ a0.toNat)) = ji16:=z1a hji16
 have hji16n0 : 0 ≤ ji16:=by rw [← hji16];exact Int.emod_nonneg _ (by decide)
 have hji16n1 : decide (0 ≤ ji16) = true:=decide_eq_true hji16n0
 replace hji16n0:=eq_true hji16n0
 have hji16u : (IntKind.u64.wrap (2 ^ min a0.toNat 64)) = ji16:=by have h_:=hji16_;rw [Int.one_mul] at h_;exact h_
 have hji16v : a0 ≤ 64 → (IntKind.u64.wrap (2 ^ a0.toNat)) = ji16:=fun hle_=>by have h_:=hji16z hle_;rw [Int.one_mul] at h_;exact h_
 obtain ⟨ji17,hji17⟩ : ∃ j_ : Int,(shl .u64 1 (ji16)) = j_:=⟨_,rfl⟩
 replace H : (some (0,Go.bits .and .u64 a1_1 (IntKind.u64.wrap ((ji17) - 1)))) = some (r1,r2):=by first|(rw [hji17] at H;exact H)|(simp only [hji17] at H ⊢;exact H)
 have hji17_ : (IntKind.u64.wrap (1 * 2 ^ min (ji16).toNat 64)) = ji17:=hji17
 have hji17z : (ji16) ≤ 64 → (IntKind.u64.wrap (1 * 2 ^ (ji16).toNat)) = ji17:=z1a hji17
 have hji17n0 : 0 ≤ ji17:=by rw [← hji17];exact Int.emod_nonneg _ (by decide)
 have hji17n1 : decide (0 ≤ ji17) = true:=decide_eq_true hji17n0
 replace hji17n0:=eq_true hji17n0
 have hji17u : (IntKind.u64.wrap (2 ^ min (ji16).toNat 64)) = ji17:=by have h_:=hji17_;rw [Int.one_mul] at h_;exact h_
 have hji17v : (ji16) ≤ 64 → (IntKind.u64.wrap (2 ^ (ji16).toNat)) = ji17:=fun hle_=>by have h_:=hji17z hle_;rw [Int.one_mul] at h_;exact h_
 simp only [Option.some.injEq,Prod.mk.injEq] at H
 obtain ⟨rfl,rfl⟩:=H
 go_enter Try.func76,Try.ntmps76
 try go_wp2_with (first|((with_reducible refine zE (N:=3) rfl ?_);refine zC ?hg (N:=3) ?hd (cs:=#[.int .u64 a1_0,.int .u64 a1_1]) (t:=51) ?hr ?_;(case hd=>rfl);(case hg=>rfl);(case hr=>first|(go_simp;done)|(go_simp;rfl));intro gb101 hg w18 hbox hb;have n0_:=z3.mk (zb (by repeat (first|(with_reducible first|exact HB.out|apply z2|apply z0|apply z1)|exact HB.out)) hb);have n1_:=z3.mk (hbox);have n2_:=z3.mk ((by rw [hg];exact (zc (by repeat (first|(with_reducible first|exact HB.out|apply z2|apply z0|apply z1)|exact HB.out))) : w.heap.size ≤ gb101));have n3_:=z3.mk ((by rw [hg];exact (zc (by repeat (first|(with_reducible first|exact HB.out|apply z2|apply z0|apply z1)|exact HB.out))) : w.heap.size ≤ gb101));clear HB;have HB:=n0_;have BK101:=n1_;have GW101:=n2_;have GE101:=n3_;clear n0_ n1_ n2_ n3_;clear hb hbox hg)|((with_reducible refine zE (N:=4) rfl ?_);refine zC ?hg (N:=4) ?hd (cs:=#[.int .u64 0,.int .u64 0]) (t:=51) ?hr ?_;(case hd=>rfl);(case hg=>rfl);(case hr=>first|(go_simp;done)|(go_simp;rfl));intro gb102 hg w19 hbox hb;have n0_:=z3.mk (zn (g:=gb101) (o:=.cells #[.int .u64 a1_0,.int .u64 a1_1] 51 (0,0)) (by (with_reducible repeat (first|refine z5 ?_ _|refine z8 ?_|refine z4 ?_ _));exact BK101.out) hb);have n1_:=z3.mk (zb (by repeat (first|(with_reducible first|exact HB.out|apply z2|apply z0|apply z1|refine z6 ?_ GE101.out)|exact HB.out)) hb);have n2_:=z3.mk (hbox);have n3_:=z3.mk ((by rw [hg];exact (zc (by repeat (first|(with_reducible first|exact HB.out|apply z2|apply z0|apply z1|refine z6 ?_ GE101.out)|exact HB.out))) : w.heap.size ≤ gb102));have n4_:=z3.mk ((by rw [hg];exact (zc (by repeat (first|(with_reducible first|exact HB.out|apply z2|apply z0|apply z1|refine z6 ?_ GE101.out)|exact HB.out))) : w.heap.size ≤ gb102));have n5_:=z3.mk ((by rw [hg];exact Nat.ne_of_lt (zO (g:=gb101) (o:=.cells #[.int .u64 a1_0,.int .u64 a1_1] 51 (0,0)) (by (with_reducible repeat (first|refine z5 ?_ _|refine z8 ?_|refine z4 ?_ _));exact BK101.out)) : gb101 ≠ gb102));have n6_:=z3.mk ((by rw [hg];exact Nat.ne_of_gt (zO (g:=gb101) (o:=.cells #[.int .u64 a1_0,.int .u64 a1_1] 51 (0,0)) (by (with_reducible repeat (first|refine z5 ?_ _|refine z8 ?_|refine z4 ?_ _));exact BK101.out)) : gb102 ≠ gb101));clear BK101;clear HB;have BK101:=n0_;have HB:=n1_;have BK102:=n2_;have GW102:=n3_;have GE102:=n4_;have NB101_102:=n5_;have NB102_101:=n6_;clear n0_ n1_ n2_ n3_ n4_ n5_ n6_;clear hb hbox hg))
 have n0_:=z3.mk (z8 BK101.out)
 have n1_:=z3.mk (z8 BK102.out)
 have n2_:=z3.mk (z1 HB.out)
 clear BK101
 clear BK102
 clear HB
 have BK101:=n0_
 have BK102:=n1_
 have HB:=n2_
 clear n0_ n1_ n2_
 refine start_ (n:=9) (S:=fun w'=>w'.cell? ⟨gb101,0,none⟩ = some (.int .u64 a1_0) ∧ w'.cell? ⟨gb101,1,none⟩ = some (.int .u64 a1_1)) (ds:=[]) #[false,false,false,false,false,false,false,false,false] (by kernel_rfl) rfl rfl ⟨(ze BK101.out 0).trans rfl,(ze BK101.out 1).trans rfl⟩ (fun hHeld=>?_);refine z1C z1g.tab5 z1g.bits5 (fun HT_ HW_=>?_)
 generalize w19.drew = w20 at BK101 BK102 HB hHeld ⊢
 refine pure_ (i:=0) (N:=some 15) (v:=?_) (a':=?_) #[true,false,false,false,false,false,false,false,false] rfl rfl (zK HT_.out (by kernel_rfl)) (fun _ _ _ h=>h) (Or.inl ⟨by rfl,?_⟩) ?_ ?_
 rotate_left
 · intro w'
   go_simp
   with_reducible rfl
 rotate_left
 · simp only [Act.put,List.setIfInBounds_toArray,List.set_cons_zero,List.set_cons_succ,zD,zI]
   rfl
 refine pure_ (i:=2) (N:=some 17) (v:=?_) (a':=?_) #[true,false,true,false,false,false,false,false,false] rfl rfl (zK HT_.out (by kernel_rfl)) (fun _ _ _ h=>h) (Or.inl ⟨by rfl,?_⟩) ?_ ?_
 rotate_left
 · intro w'
   go_simp
   with_reducible rfl
 rotate_left
 · simp only [Act.put,List.setIfInBounds_toArray,List.set_cons_zero,List.set_cons_succ,zD,zI]
   rfl
 refine pure_ (i:=3) (N:=some 18) (v:=?_) (a':=?_) #[true,false,true,true,false,false,false,false,false] rfl rfl (zK HT_.out (by kernel_rfl)) (fun _ _ _ h=>h) (Or.inl ⟨by rfl,?_⟩) ?_ ?_
 rotate_left
 · intro w'
   go_simp
   with_reducible rfl
 rotate_left
 · simp only [Act.put,List.setIfInBounds_toArray,List.set_cons_zero,List.set_cons_succ,zD,zI]
   rfl
 refine pure_ (i:=4) (N:=some 19) (v:=?_) (a':=?_) #[true,false,true,true,true,false,false,false,false] rfl rfl (zK HT_.out (by kernel_rfl)) (fun _ _ _ h=>h) (Or.inl ⟨by rfl,?_⟩) ?_ ?_
 rotate_left
 · intro w'
   go_simp
   with_reducible rfl
 rotate_left
 · simp only [Act.put,List.setIfInBounds_toArray,List.set_cons_zero,List.set_cons_succ,zD,zI]
   rfl
 refine pure_ (i:=5) (N:=some 20) (v:=?_) (a':=?_) #[true,false,true,true,true,true,false,false,false] rfl rfl (zK HT_.out (by kernel_rfl)) (fun _ _ _ h=>h) (Or.inl ⟨by rfl,?_⟩) ?_ ?_
 rotate_left
 · intro w'
   go_simp
   with_reducible rfl
 rotate_left
 · simp only [Act.put,List.setIfInBounds_toArray,List.set_cons_zero,List.set_cons_succ,zD,zI]
   rfl
 refine take_ (i:=1) (N:=some 16) (v:=?_) (a':=?_) #[true,true,true,true,true,true,false,false,false] rfl rfl (z1m HT_.out HW_.out (by kernel_rfl)) (fun _ _ _ h=>h) (Or.inl ⟨by rfl,?_⟩) hHeld ?_ ?_
 rotate_left
 · rintro w' ⟨s0,s1⟩
   go_simp
   with_reducible rfl
 rotate_left
 · simp only [Act.put,List.setIfInBounds_toArray,List.set_cons_zero,List.set_cons_succ,zD,zI]
   rfl
 refine pure_ (i:=6) (N:=some 21) (v:=?_) (a':=?_) #[true,true,true,true,true,true,true,false,false] rfl rfl (zK HT_.out (by kernel_rfl)) (fun _ _ _ h=>h) (Or.inl ⟨by rfl,?_⟩) ?_ ?_
 rotate_left
 · intro w'
   go_simp
   with_reducible rfl
 rotate_left
 · simp only [Act.put,List.setIfInBounds_toArray,List.set_cons_zero,List.set_cons_succ,zD,zI]
   rfl
 refine pure_ (i:=7) (N:=some 22) (v:=?_) (a':=?_) #[true,true,true,true,true,true,true,true,false] rfl rfl (zK HT_.out (by kernel_rfl)) (fun _ _ _ h=>h) (Or.inl ⟨by rfl,?_⟩) ?_ ?_
 rotate_left
 · intro w'
   go_simp
   with_reducible rfl
 rotate_left
 · simp only [Act.put,List.setIfInBounds_toArray,List.set_cons_zero,List.set_cons_succ,zD,zI]
   rfl
 refine one_ (i:=8) (N:=none) #[true,true,true,true,true,true,true,true,true] rfl rfl (z1t HT_.out (by kernel_rfl)) (by decide) (fun K hK=>?_)
 have hs21 : w20.cell? ⟨gb102,0,none⟩ = some (.int .u64 0):=(ze BK102.out 0).trans rfl
 have hfs21:=zd BK102.out 0
 have hns21_0:=NB101_102.out
 have hms21_0:=NB102_101.out
 have hs22 : w20.cell? ⟨gb102,1,none⟩ = some (.int .u64 0):=(ze BK102.out 1).trans rfl
 have hfs22:=zd BK102.out 1
 have hns22_0:=NB101_102.out
 have hms22_0:=NB102_101.out
 refine skip_ (w1:=?_) (by rfl) rfl ?_ ?_
 rotate_left
 · go_simp
   rfl
 refine hK.out _ _ ⟨((z1h (p:=⟨gb102,_,none⟩) NB101_102.out _).trans (((z1h (p:=⟨gb102,_,none⟩) NB101_102.out _).trans (hHeld.1)))),((z1h (p:=⟨gb102,_,none⟩) NB101_102.out _).trans (((z1h (p:=⟨gb102,_,none⟩) NB101_102.out _).trans (hHeld.2))))⟩ (fun hHeld=>?_)
 clear hK K
 refine done_ (z1Z HT_.out (by kernel_rfl)) ?_
 try go_wp2
 refine bodyPost_ret (results_cell_row rfl _ _ gb102 51 #[.int .u64 0,.int .u64 (Go.bits .and .u64 a1_1 (IntKind.u64.wrap ((ji17) - 1)))] (0,0) _ rfl (by (with_reducible repeat (first|refine z5 ?_ _|refine z8 ?_|refine z4 ?_ _));refine zN (cs:=#[.int .u64 0,.int .u64 0]) ?_ 1 _ rfl;(with_reducible repeat (first|refine z5 ?_ _|refine z8 ?_|refine z4 ?_ _));refine zN (cs:=#[.int .u64 0,.int .u64 0]) ?_ 0 _ rfl;(with_reducible repeat (first|refine z5 ?_ _|refine z8 ?_|refine z4 ?_ _));exact BK102.out) Try.underlying51 rfl (by kernel_rfl)) rfl ?_
 exact ⟨by first|rfl|(simp [zg,zh] <;> rfl)|(simp only [← hji16,← hji17];first|rfl|(simp [zg,zh] <;> rfl))|(simp [*,zg,zh] <;> rfl),by repeat (first|(with_reducible first|exact HB.out|apply z2|apply z0|apply z1|refine z6 ?_ GE101.out|refine z6 ?_ GE102.out)|exact HB.out)⟩
end Go.Proofs.Ytngcaphdkgihmaa.P
namespace Go.Proofs.Ytngcaphdkgihmaa.P
open Go.RowKit Go.Proofs.YtngcaphdkgihmaaW.PrintWords Go.Proofs.YtngcaphdkgihmaaW.PrintLast Go.Proofs.YtngcaphdkgihmaaW.PrintMore
attribute [local go_sem] zW zY z15 z16 zQ zR zX zZ   -- for this text's walks alone
set_option linter.unusedVariables false
set_option linter.unusedSimpArgs false
def z1d.f (a0_0 : Int) (a0_1 : Int) (a1 : Int) : Option (Int × Int):=if a1 = 0 then (some (a0_0,a0_1)) else (if a1 ≥ 64 then (if 0 ≤ (wrap64 (a1 - 64)) then (some (0,shr .u64 a0_0 (wrap64 (a1 - 64)))) else (none)) else (if 0 ≤ a1 then (if 0 ≤ (wrap64 (64 - a1)) then (some (shr .u64 a0_0 a1,Go.bits .or .u64 (shr .u64 a0_1 a1) (shl .u64 a0_0 (wrap64 (64 - a1))))) else (none)) else (none)))
def z1d.T5 : Bool × List (List Nat × List Nat):=(true,[([],[]),([0],[0]),([],[]),([1,2],[1,2]),([],[]),([4],[4]),([],[]),([5,6],[5,6]),([],[]),([8],[8]),([],[]),([10],[10]),([9,11],[9,11]),([7,12],[7,12]),([3,13],[3,13]),([14,0,1,2,3,4,5,6,7,8,9,10,11,12,13,14],[14])])
def z1d.B5 : List Nat:=[0,1,0,7,0,16,0,112,0,256,0,1024,3840,8176,16383,32767]
theorem z1d.tab5 : rtab .any (opsOf Try.f77 5) = z1d.T5:=by kernel_rfl
theorem z1d.bits5 : waitsOk z1d.T5.2 z1d.B5 = true:=by kernel_rfl
set_option maxHeartbeats 8000000 in
set_option maxRecDepth 100000 in
theorem z1d.calls (a0_0 : Int) (a0_1 : Int) (a1 : Int) (r1 : Int) (r2 : Int) (w : World) (h : z1d.f a0_0 a0_1 a1 = some (r1,r2)) :
 Calls Try.prog 77 #[.agg #[.int .u64 a0_0,.int .u64 a0_1],.int .i64 a1] w fun e w'=>e = .returned (.agg #[.int .u64 r1,.int .u64 r2]) ∧ Below w.heap.size w w':=by
 have hu51:=Try.underlying51
 have HB:=z3.mk (Below.refl w.heap.size w)
 have H : (if a1 = 0 then (some (a0_0,a0_1)) else (if a1 ≥ 64 then (if 0 ≤ (wrap64 (a1 - 64)) then (some (0,shr .u64 a0_0 (wrap64 (a1 - 64)))) else (none)) else (if 0 ≤ a1 then (if 0 ≤ (wrap64 (64 - a1)) then (some (shr .u64 a0_0 a1,Go.bits .or .u64 (shr .u64 a0_1 a1) (shl .u64 a0_0 (wrap64 (64 - a1))))) else (none)) else (none)))) = some (r1,r2):=h
 clear h
 by_cases c3 : a1 = 0
 · rw [if_pos c3] at H
   have c3b0 : (a1 == 0) = true:=beq_iff_eq.mpr c3
   have c3b1 : (a1 != 0) = false:=bne_eq_false_iff_eq.mpr c3
   clear c3
   simp only [Option.some.injEq,Prod.mk.injEq] at H
   obtain ⟨rfl,rfl⟩:=H
   go_enter Try.func77,Try.ntmps77
   go_wp2_with (first|((with_reducible refine zE (N:=2) rfl ?_);refine zC ?hg (N:=2) ?hd (cs:=#[.int .u64 a0_0,.int .u64 a0_1]) (t:=51) ?hr ?_;(case hd=>rfl);(case hg=>rfl);(case hr=>first|(go_simp;done)|(go_simp;rfl));intro gb101 hg w4 hbox hb;have n0_:=z3.mk (zb (by repeat (first|(with_reducible first|exact HB.out|apply z2|apply z0|apply z1)|exact HB.out)) hb);have n1_:=z3.mk (hbox);have n2_:=z3.mk ((by rw [hg];exact (zc (by repeat (first|(with_reducible first|exact HB.out|apply z2|apply z0|apply z1)|exact HB.out))) : w.heap.size ≤ gb101));have n3_:=z3.mk ((by rw [hg];exact (zc (by repeat (first|(with_reducible first|exact HB.out|apply z2|apply z0|apply z1)|exact HB.out))) : w.heap.size ≤ gb101));clear HB;have HB:=n0_;have BK101:=n1_;have GW101:=n2_;have GE101:=n3_;clear n0_ n1_ n2_ n3_;clear hb hbox hg)|((with_reducible refine zE (N:=4) rfl ?_);refine zC ?hg (N:=4) ?hd (cs:=#[.int .u64 0,.int .u64 0]) (t:=51) ?hr ?_;(case hd=>rfl);(case hg=>rfl);(case hr=>first|(go_simp;done)|(go_simp;rfl));intro gb102 hg w5 hbox hb;have n0_:=z3.mk (zn (g:=gb101) (o:=.cells #[.int .u64 a0_0,.int .u64 a0_1] 51 (0,0)) (by (with_reducible repeat (first|refine z5 ?_ _|refine z8 ?_|refine z4 ?_ _));exact BK101.out) hb);have n1_:=z3.mk (zb (by repeat (first|(with_reducible first|exact HB.out|apply z2|apply z0|apply z1|refine z6 ?_ GE101.out)|exact HB.out)) hb);have n2_:=z3.mk (hbox);have n3_:=z3.mk ((by rw [hg];exact (zc (by repeat (first|(with_reducible first|exact HB.out|apply z2|apply z0|apply z1|refine z6 ?_ GE101.out)|exact HB.out))) : w.heap.size ≤ gb102));have n4_:=z3.mk ((by rw [hg];exact (zc (by repeat (first|(with_reducible first|exact HB.out|apply z2|apply z0|apply z1|refine z6 ?_ GE101.out)|exact HB.out))) : w.heap.size ≤ gb102));have n5_:=z3.mk ((by rw [hg];exact Nat.ne_of_lt (zO (g:=gb101) (o:=.cells #[.int .u64 a0_0,.int .u64 a0_1] 51 (0,0)) (by (with_reducible repeat (first|refine z5 ?_ _|refine z8 ?_|refine z4 ?_ _));exact BK101.out)) : gb101 ≠ gb102));have n6_:=z3.mk ((by rw [hg];exact Nat.ne_of_gt (zO (g:=gb101) (o:=.cells #[.int .u64 a0_0,.int .u64 a0_1] 51 (0,0)) (by (with_reducible repeat (first|refine z5 ?_ _|refine z8 ?_|refine z4 ?_ _));exact BK101.out)) : gb102 ≠ gb101));clear BK101;clear HB;have BK101:=n0_;have HB:=n1_;have BK102:=n2_;have GW102:=n3_;have GE102:=n4_;have NB101_102:=n5_;have NB102_101:=n6_;clear n0_ n1_ n2_ n3_ n4_ n5_ n6_;clear hb hbox hg;have hnb6:=NB101_102.out;have hnc6:=NB102_101.out;have hcz7_0 : w5.cell? ⟨gb101,0,none⟩ = some (.int .u64 a0_0):=(ze BK101.out 0).trans rfl;have hcz7_1 : w5.cell? ⟨gb101,1,none⟩ = some (.int .u64 a0_1):=(ze BK101.out 1).trans rfl;have hfz7_0:=zd BK101.out 0;have hfz7_1:=zd BK101.out 1;have hcz8_0 : w5.cell? ⟨gb102,0,none⟩ = some (.int .u64 0):=(ze BK102.out 0).trans rfl;have hcz8_1 : w5.cell? ⟨gb102,1,none⟩ = some (.int .u64 0):=(ze BK102.out 1).trans rfl;have hfz8_0:=zd BK102.out 0;have hfz8_1:=zd BK102.out 1))
   refine bodyPost_ret (results_cell_row rfl _ _ gb102 51 #[.int .u64 a0_0,.int .u64 a0_1] (0,0) _ rfl (by (with_reducible repeat (first|refine z5 ?_ _|refine z8 ?_|refine z4 ?_ _));refine zN (cs:=#[.int .u64 a0_0,.int .u64 0]) ?_ 1 _ rfl;(with_reducible repeat (first|refine z5 ?_ _|refine z8 ?_|refine z4 ?_ _));refine zN (cs:=#[.int .u64 0,.int .u64 0]) ?_ 0 _ rfl;(with_reducible repeat (first|refine z5 ?_ _|refine z8 ?_|refine z4 ?_ _));exact BK102.out) Try.underlying51 rfl (by kernel_rfl)) rfl ?_
   exact ⟨by first|rfl|(simp [zg,zh] <;> rfl)|(simp [*,zg,zh] <;> rfl),by repeat (first|(with_reducible first|exact HB.out|apply z2|apply z0|apply z1|refine z6 ?_ GE101.out|refine z6 ?_ GE102.out)|exact HB.out)⟩
 rw [if_neg c3] at H
 have c3b0 : (a1 == 0) = false:=beq_eq_false_iff_ne.mpr c3
 have c3b1 : (a1 != 0) = true:=bne_iff_ne.mpr c3
 by_cases c9 : a1 ≥ 64
 · rw [if_pos c9] at H
   have c9b0 : decide (64 ≤ a1) = true:=decide_eq_true c9
   clear c9
   obtain ⟨ji10,hji10⟩ : ∃ j_ : Int,(wrap64 (a1 - 64)) = j_:=⟨_,rfl⟩
   replace H : (if 0 ≤ (ji10) then (some (0,shr .u64 a0_0 (ji10))) else (none)) = some (r1,r2):=by first|(rw [hji10] at H;exact H)|(simp only [hji10] at H ⊢;exact H)
   have hji10w : (IntKind.i64.wrap (a1 - 64)) = ji10:=(zD _).trans hji10
   by_cases c11 : 0 ≤ (ji10)
   rotate_left
   · rw [if_neg c11] at H
     exact absurd H (by simp)
   rw [if_pos c11] at H
   have c11b0:=eq_true c11
   have c11b1 : decide (0 ≤ (ji10)) = true:=decide_eq_true c11
   clear c11
   obtain ⟨ji12,hji12⟩ : ∃ j_ : Int,(shr .u64 a0_0 (ji10)) = j_:=⟨_,rfl⟩
   replace H : (some (0,ji12)) = some (r1,r2):=by first|(rw [hji12] at H;exact H)|(simp only [hji12] at H ⊢;exact H)
   have hji12_ : (a0_0 / 2 ^ min (ji10).toNat 64) = ji12:=hji12
   have hji12z : (ji10) ≤ 64 → (a0_0 / 2 ^ (ji10).toNat) = ji12:=z1B hji12
   simp only [Option.some.injEq,Prod.mk.injEq] at H
   obtain ⟨rfl,rfl⟩:=H
   go_enter Try.func77,Try.ntmps77
   go_wp2_with (first|((with_reducible refine zE (N:=2) rfl ?_);refine zC ?hg (N:=2) ?hd (cs:=#[.int .u64 a0_0,.int .u64 a0_1]) (t:=51) ?hr ?_;(case hd=>rfl);(case hg=>rfl);(case hr=>first|(go_simp;done)|(go_simp;rfl));intro gb101 hg w13 hbox hb;have n0_:=z3.mk (zb (by repeat (first|(with_reducible first|exact HB.out|apply z2|apply z0|apply z1)|exact HB.out)) hb);have n1_:=z3.mk (hbox);have n2_:=z3.mk ((by rw [hg];exact (zc (by repeat (first|(with_reducible first|exact HB.out|apply z2|apply z0|apply z1)|exact HB.out))) : w.heap.size ≤ gb101));have n3_:=z3.mk ((by rw [hg];exact (zc (by repeat (first|(with_reducible first|exact HB.out|apply z2|apply z0|apply z1)|exact HB.out))) : w.heap.size ≤ gb101));clear HB;have HB:=n0_;have BK101:=n1_;have GW101:=n2_;have GE101:=n3_;clear n0_ n1_ n2_ n3_;clear hb hbox hg)|((with_reducible refine zE (N:=4) rfl ?_);refine zC ?hg (N:=4) ?hd (cs:=#[.int .u64 0,.int .u64 0]) (t:=51) ?hr ?_;(case hd=>rfl);(case hg=>rfl);(case hr=>first|(go_simp;done)|(go_simp;rfl));intro gb102 hg w14 hbox hb;have n0_:=z3.mk (zn (g:=gb101) (o:=.cells #[.int .u64 a0_0,.int .u64 a0_1] 51 (0,0)) (by (with_reducible repeat (first|refine z5 ?_ _|refine z8 ?_|refine z4 ?_ _));exact BK101.out) hb);have n1_:=z3.mk (zb (by repeat (first|(with_reducible first|exact HB.out|apply z2|apply z0|apply z1|refine z6 ?_ GE101.out)|exact HB.out)) hb);have n2_:=z3.mk (hbox);have n3_:=z3.mk ((by rw [hg];exact (zc (by repeat (first|(with_reducible first|exact HB.out|apply z2|apply z0|apply z1|refine z6 ?_ GE101.out)|exact HB.out))) : w.heap.size ≤ gb102));have n4_:=z3.mk ((by rw [hg];exact (zc (by repeat (first|(with_reducible first|exact HB.out|apply z2|apply z0|apply z1|refine z6 ?_ GE101.out)|exact HB.out))) : w.heap.size ≤ gb102));have n5_:=z3.mk ((by rw [hg];exact Nat.ne_of_lt (zO (g:=gb101) (o:=.cells #[.int .u64 a0_0,.int .u64 a0_1] 51 (0,0)) (by (with_reducible repeat (first|refine z5 ?_ _|refine z8 ?_|refine z4 ?_ _));exact BK101.out)) : gb101 ≠ gb102));have n6_:=z3.mk ((by rw [hg];exact Nat.ne_of_gt (zO (g:=gb101) (o:=.cells #[.int .u64 a0_0,.int .u64 a0_1] 51 (0,0)) (by (with_reducible repeat (first|refine z5 ?_ _|refine z8 ?_|refine z4 ?_ _));exact BK101.out)) : gb102 ≠ gb101));clear BK101;clear HB;have BK101:=n0_;have HB:=n1_;have BK102:=n2_;have GW102:=n3_;have GE102:=n4_;have NB101_102:=n5_;have NB102_101:=n6_;clear n0_ n1_ n2_ n3_ n4_ n5_ n6_;clear hb hbox hg;have hnb15:=NB101_102.out;have hnc15:=NB102_101.out;have hcz16_0 : w14.cell? ⟨gb101,0,none⟩ = some (.int .u64 a0_0):=(ze BK101.out 0).trans rfl;have hcz16_1 : w14.cell? ⟨gb101,1,none⟩ = some (.int .u64 a0_1):=(ze BK101.out 1).trans rfl;have hfz16_0:=zd BK101.out 0;have hfz16_1:=zd BK101.out 1;have hcz17_0 : w14.cell? ⟨gb102,0,none⟩ = some (.int .u64 0):=(ze BK102.out 0).trans rfl;have hcz17_1 : w14.cell? ⟨gb102,1,none⟩ = some (.int .u64 0):=(ze BK102.out 1).trans rfl;have hfz17_0:=zd BK102.out 0;have hfz17_1:=zd BK102.out 1))
   refine bodyPost_ret (results_cell_row rfl _ _ gb102 51 #[.int .u64 0,.int .u64 ji12] (0,0) _ rfl (by (with_reducible repeat (first|refine z5 ?_ _|refine z8 ?_|refine z4 ?_ _));refine zN (cs:=#[.int .u64 0,.int .u64 0]) ?_ 1 _ rfl;(with_reducible repeat (first|refine z5 ?_ _|refine z8 ?_|refine z4 ?_ _));refine zN (cs:=#[.int .u64 0,.int .u64 0]) ?_ 0 _ rfl;(with_reducible repeat (first|refine z5 ?_ _|refine z8 ?_|refine z4 ?_ _));exact BK102.out) Try.underlying51 rfl (by kernel_rfl)) rfl ?_
   exact ⟨by first|rfl|(simp [zg,zh] <;> rfl)|(simp only [← hji10,← hji12];first|rfl|(simp [zg,zh] <;> rfl))|(simp [*,zg,zh] <;> rfl),by repeat (first|(with_reducible first|exact HB.out|apply z2|apply z0|apply z1|refine z6 ?_ GE101.out|refine z6 ?_ GE102.out)|exact HB.out)⟩
 rw [if_neg c9] at H
 have c9b0 : decide (64 ≤ a1) = false:=decide_eq_false c9
 clear c9
 by_cases c18 : 0 ≤ a1
 rotate_left
 · rw [if_neg c18] at H
   exact absurd H (by simp)
 rw [if_pos c18] at H
 have c18b0:=eq_true c18
 have c18b1 : decide (0 ≤ a1) = true:=decide_eq_true c18
 clear c18
 obtain ⟨ji19,hji19⟩ : ∃ j_ : Int,(shr .u64 a0_0 a1) = j_:=⟨_,rfl⟩
 replace H : (if 0 ≤ (wrap64 (64 - a1)) then (some (ji19,Go.bits .or .u64 (shr .u64 a0_1 a1) (shl .u64 a0_0 (wrap64 (64 - a1))))) else (none)) = some (r1,r2):=by first|(rw [hji19] at H;exact H)|(simp only [hji19] at H ⊢;exact H)
 have hji19_ : (a0_0 / 2 ^ min a1.toNat 64) = ji19:=hji19
 have hji19z : a1 ≤ 64 → (a0_0 / 2 ^ a1.toNat) = ji19:=z1B hji19
 have c20b0:=eq_true (of_decide_eq_true (by first|(with_reducible assumption)|assumption) : 0 ≤ a1)
 obtain ⟨ji21,hji21⟩ : ∃ j_ : Int,(shr .u64 a0_1 a1) = j_:=⟨_,rfl⟩
 replace H : (if 0 ≤ (wrap64 (64 - a1)) then (some (ji19,Go.bits .or .u64 (ji21) (shl .u64 a0_0 (wrap64 (64 - a1))))) else (none)) = some (r1,r2):=by first|(rw [hji21] at H;exact H)|(simp only [hji21] at H ⊢;exact H)
 have hji21_ : (a0_1 / 2 ^ min a1.toNat 64) = ji21:=hji21
 have hji21z : a1 ≤ 64 → (a0_1 / 2 ^ a1.toNat) = ji21:=z1B hji21
 obtain ⟨ji22,hji22⟩ : ∃ j_ : Int,(wrap64 (64 - a1)) = j_:=⟨_,rfl⟩
 replace H : (if 0 ≤ (ji22) then (some (ji19,Go.bits .or .u64 (ji21) (shl .u64 a0_0 (ji22)))) else (none)) = some (r1,r2):=by first|(rw [hji22] at H;exact H)|(simp only [hji22] at H ⊢;exact H)
 have hji22w : (IntKind.i64.wrap (64 - a1)) = ji22:=(zD _).trans hji22
 by_cases c23 : 0 ≤ (ji22)
 rotate_left
 · rw [if_neg c23] at H
   exact absurd H (by simp)
 rw [if_pos c23] at H
 have c23b0:=eq_true c23
 have c23b1 : decide (0 ≤ (ji22)) = true:=decide_eq_true c23
 clear c23
 obtain ⟨ji24,hji24⟩ : ∃ j_ : Int,(shl .u64 a0_0 (ji22)) = j_:=⟨_,rfl⟩
 replace H : (some (ji19,Go.bits .or .u64 (ji21) (ji24))) = some (r1,r2):=by first|(rw [hji24] at H;exact H)|(simp only [hji24] at H ⊢;exact H)
 have hji24_ : (IntKind.u64.wrap (a0_0 * 2 ^ min (ji22).toNat 64)) = ji24:=hji24
 have hji24z : (ji22) ≤ 64 → (IntKind.u64.wrap (a0_0 * 2 ^ (ji22).toNat)) = ji24:=z1a hji24
 have hji24n0 : 0 ≤ ji24:=by rw [← hji24];exact Int.emod_nonneg _ (by decide)
 have hji24n1 : decide (0 ≤ ji24) = true:=decide_eq_true hji24n0
 replace hji24n0:=eq_true hji24n0
 simp only [Option.some.injEq,Prod.mk.injEq] at H
 obtain ⟨rfl,rfl⟩:=H
 go_enter Try.func77,Try.ntmps77
 try go_wp2_with (first|((with_reducible refine zE (N:=2) rfl ?_);refine zC ?hg (N:=2) ?hd (cs:=#[.int .u64 a0_0,.int .u64 a0_1]) (t:=51) ?hr ?_;(case hd=>rfl);(case hg=>rfl);(case hr=>first|(go_simp;done)|(go_simp;rfl));intro gb101 hg w25 hbox hb;have n0_:=z3.mk (zb (by repeat (first|(with_reducible first|exact HB.out|apply z2|apply z0|apply z1)|exact HB.out)) hb);have n1_:=z3.mk (hbox);have n2_:=z3.mk ((by rw [hg];exact (zc (by repeat (first|(with_reducible first|exact HB.out|apply z2|apply z0|apply z1)|exact HB.out))) : w.heap.size ≤ gb101));have n3_:=z3.mk ((by rw [hg];exact (zc (by repeat (first|(with_reducible first|exact HB.out|apply z2|apply z0|apply z1)|exact HB.out))) : w.heap.size ≤ gb101));clear HB;have HB:=n0_;have BK101:=n1_;have GW101:=n2_;have GE101:=n3_;clear n0_ n1_ n2_ n3_;clear hb hbox hg)|((with_reducible refine zE (N:=4) rfl ?_);refine zC ?hg (N:=4) ?hd (cs:=#[.int .u64 0,.int .u64 0]) (t:=51) ?hr ?_;(case hd=>rfl);(case hg=>rfl);(case hr=>first|(go_simp;done)|(go_simp;rfl));intro gb102 hg w26 hbox hb;have n0_:=z3.mk (zn (g:=gb101) (o:=.cells #[.int .u64 a0_0,.int .u64 a0_1] 51 (0,0)) (by (with_reducible repeat (first|refine z5 ?_ _|refine z8 ?_|refine z4 ?_ _));exact BK101.out) hb);have n1_:=z3.mk (zb (by repeat (first|(with_reducible first|exact HB.out|apply z2|apply z0|apply z1|refine z6 ?_ GE101.out)|exact HB.out)) hb);have n2_:=z3.mk (hbox);have n3_:=z3.mk ((by rw [hg];exact (zc (by repeat (first|(with_reducible first|exact HB.out|apply z2|apply z0|apply z1|refine z6 ?_ GE101.out)|exact HB.out))) : w.heap.size ≤ gb102));have n4_:=z3.mk ((by rw [hg];exact (zc (by repeat (first|(with_reducible first|exact HB.out|apply z2|apply z0|apply z1|refine z6 ?_ GE101.out)|exact HB.out))) : w.heap.size ≤ gb102));have n5_:=z3.mk ((by rw [hg];exact Nat.ne_of_lt (zO (g:=gb101) (o:=.cells #[.int .u64 a0_0,.int .u64 a0_1] 51 (0,0)) (by (with_reducible repeat (first|refine z5 ?_ _|refine z8 ?_|refine z4 ?_ _));exact BK101.out)) : gb101 ≠ gb102));have n6_:=z3.mk ((by rw [hg];exact Nat.ne_of_gt (zO (g:=gb101) (o:=.cells #[.int .u64 a0_0,.int .u64 a0_1] 51 (0,0)) (by (with_reducible repeat (first|refine z5 ?_ _|refine z8 ?_|refine z4 ?_ _));exact BK101.out)) : gb102 ≠ gb101));clear BK101;clear HB;have BK101:=n0_;have HB:=n1_;have BK102:=n2_;have GW102:=n3_;have GE102:=n4_;have NB101_102:=n5_;have NB102_101:=n6_;clear n0_ n1_ n2_ n3_ n4_ n5_ n6_;clear hb hbox hg))
 have n0_:=z3.mk (z8 BK101.out)
 have n1_:=z3.mk (z8 BK102.out)
 have n2_:=z3.mk (z1 HB.out)
 clear BK101
 clear BK102
 clear HB
 have BK101:=n0_
 have BK102:=n1_
 have HB:=n2_
 clear n0_ n1_ n2_
 refine start_ (n:=16) (S:=fun w'=>w'.cell? ⟨gb101,0,none⟩ = some (.int .u64 a0_0) ∧ w'.cell? ⟨gb101,1,none⟩ = some (.int .u64 a0_1)) (ds:=[]) #[false,false,false,false,false,false,false,false,false,false,false,false,false,false,false,false] (by kernel_rfl) rfl rfl ⟨(ze BK101.out 0).trans rfl,(ze BK101.out 1).trans rfl⟩ (fun hHeld=>?_);refine z1C z1d.tab5 z1d.bits5 (fun HT_ HW_=>?_)
 generalize w26.drew = w27 at BK101 BK102 HB hHeld ⊢
 refine pure_ (i:=0) (N:=some 18) (v:=?_) (a':=?_) #[true,false,false,false,false,false,false,false,false,false,false,false,false,false,false,false] rfl rfl (zK HT_.out (by kernel_rfl)) (fun _ _ _ h=>h) (Or.inl ⟨by rfl,?_⟩) ?_ ?_
 rotate_left
 · intro w'
   go_simp
   with_reducible rfl
 rotate_left
 · simp only [Act.put,List.setIfInBounds_toArray,List.set_cons_zero,List.set_cons_succ,zD,zI]
   rfl
 refine pure_ (i:=2) (N:=some 20) (v:=?_) (a':=?_) #[true,false,true,false,false,false,false,false,false,false,false,false,false,false,false,false] rfl rfl (zK HT_.out (by kernel_rfl)) (fun _ _ _ h=>h) (Or.inl ⟨by rfl,?_⟩) ?_ ?_
 rotate_left
 · intro w'
   go_simp
   with_reducible rfl
 rotate_left
 · simp only [Act.put,List.setIfInBounds_toArray,List.set_cons_zero,List.set_cons_succ,zD,zI]
   rfl
 refine pure_ (i:=4) (N:=some 22) (v:=?_) (a':=?_) #[true,false,true,false,true,false,false,false,false,false,false,false,false,false,false,false] rfl rfl (zK HT_.out (by kernel_rfl)) (fun _ _ _ h=>h) (Or.inl ⟨by rfl,?_⟩) ?_ ?_
 rotate_left
 · intro w'
   go_simp
   with_reducible rfl
 rotate_left
 · simp only [Act.put,List.setIfInBounds_toArray,List.set_cons_zero,List.set_cons_succ,zD,zI]
   rfl
 refine pure_ (i:=6) (N:=some 24) (v:=?_) (a':=?_) #[true,false,true,false,true,false,true,false,false,false,false,false,false,false,false,false] rfl rfl (zK HT_.out (by kernel_rfl)) (fun _ _ _ h=>h) (Or.inl ⟨by rfl,?_⟩) ?_ ?_
 rotate_left
 · intro w'
   go_simp
   with_reducible rfl
 rotate_left
 · simp only [Act.put,List.setIfInBounds_toArray,List.set_cons_zero,List.set_cons_succ,zD,zI]
   rfl
 refine pure_ (i:=8) (N:=some 26) (v:=?_) (a':=?_) #[true,false,true,false,true,false,true,false,true,false,false,false,false,false,false,false] rfl rfl (zK HT_.out (by kernel_rfl)) (fun _ _ _ h=>h) (Or.inl ⟨by rfl,?_⟩) ?_ ?_
 rotate_left
 · intro w'
   go_simp
   with_reducible rfl
 rotate_left
 · simp only [Act.put,List.setIfInBounds_toArray,List.set_cons_zero,List.set_cons_succ,zD,zI]
   rfl
 refine pure_ (i:=10) (N:=some 28) (v:=?_) (a':=?_) #[true,false,true,false,true,false,true,false,true,false,true,false,false,false,false,false] rfl rfl (zK HT_.out (by kernel_rfl)) (fun _ _ _ h=>h) (Or.inl ⟨by rfl,?_⟩) ?_ ?_
 rotate_left
 · intro w'
   go_simp
   with_reducible rfl
 rotate_left
 · simp only [Act.put,List.setIfInBounds_toArray,List.set_cons_zero,List.set_cons_succ,zD,zI]
   rfl
 refine pure_ (i:=11) (N:=some 29) (v:=?_) (a':=?_) #[true,false,true,false,true,false,true,false,true,false,true,true,false,false,false,false] rfl rfl (zK HT_.out (by kernel_rfl)) (fun _ _ _ h=>h) (Or.inl ⟨by rfl,?_⟩) ?_ ?_
 rotate_left
 · intro w'
   go_simp
   with_reducible rfl
 rotate_left
 · simp only [Act.put,List.setIfInBounds_toArray,List.set_cons_zero,List.set_cons_succ,zD,zI]
   rfl
 refine take_ (i:=1) (N:=some 19) (v:=?_) (a':=?_) #[true,true,true,false,true,false,true,false,true,false,true,true,false,false,false,false] rfl rfl (z1m HT_.out HW_.out (by kernel_rfl)) (fun _ _ _ h=>h) (Or.inl ⟨by rfl,?_⟩) hHeld ?_ ?_
 rotate_left
 · rintro w' ⟨s0,s1⟩
   go_simp
   with_reducible rfl
 rotate_left
 · simp only [Act.put,List.setIfInBounds_toArray,List.set_cons_zero,List.set_cons_succ,zD,zI]
   rfl
 refine pure_ (i:=3) (N:=some 21) (v:=?_) (a':=?_) #[true,true,true,true,true,false,true,false,true,false,true,true,false,false,false,false] rfl rfl (zK HT_.out (by kernel_rfl)) (fun _ _ _ h=>h) (Or.inl ⟨by rfl,?_⟩) ?_ ?_
 rotate_left
 · intro w'
   go_simp
   with_reducible rfl
 rotate_left
 · simp only [Act.put,List.setIfInBounds_toArray,List.set_cons_zero,List.set_cons_succ,zD,zI]
   rfl
 refine take_ (i:=5) (N:=some 23) (v:=?_) (a':=?_) #[true,true,true,true,true,true,true,false,true,false,true,true,false,false,false,false] rfl rfl (z1m HT_.out HW_.out (by kernel_rfl)) (fun _ _ _ h=>h) (Or.inl ⟨by rfl,?_⟩) hHeld ?_ ?_
 rotate_left
 · rintro w' ⟨s0,s1⟩
   go_simp
   with_reducible rfl
 rotate_left
 · simp only [Act.put,List.setIfInBounds_toArray,List.set_cons_zero,List.set_cons_succ,zD,zI]
   rfl
 refine pure_ (i:=7) (N:=some 25) (v:=?_) (a':=?_) #[true,true,true,true,true,true,true,true,true,false,true,true,false,false,false,false] rfl rfl (zK HT_.out (by kernel_rfl)) (fun _ _ _ h=>h) (Or.inl ⟨by rfl,?_⟩) ?_ ?_
 rotate_left
 · intro w'
   go_simp
   with_reducible rfl
 rotate_left
 · simp only [Act.put,List.setIfInBounds_toArray,List.set_cons_zero,List.set_cons_succ,zD,zI]
   rfl
 refine take_ (i:=9) (N:=some 27) (v:=?_) (a':=?_) #[true,true,true,true,true,true,true,true,true,true,true,true,false,false,false,false] rfl rfl (z1m HT_.out HW_.out (by kernel_rfl)) (fun _ _ _ h=>h) (Or.inl ⟨by rfl,?_⟩) hHeld ?_ ?_
 rotate_left
 · rintro w' ⟨s0,s1⟩
   go_simp
   with_reducible rfl
 rotate_left
 · simp only [Act.put,List.setIfInBounds_toArray,List.set_cons_zero,List.set_cons_succ,zD,zI]
   rfl
 refine pure_ (i:=12) (N:=some 30) (v:=?_) (a':=?_) #[true,true,true,true,true,true,true,true,true,true,true,true,true,false,false,false] rfl rfl (zK HT_.out (by kernel_rfl)) (fun _ _ _ h=>h) (Or.inl ⟨by rfl,?_⟩) ?_ ?_
 rotate_left
 · intro w'
   go_simp
   with_reducible rfl
 rotate_left
 · simp only [Act.put,List.setIfInBounds_toArray,List.set_cons_zero,List.set_cons_succ,zD,zI]
   rfl
 refine pure_ (i:=13) (N:=some 31) (v:=?_) (a':=?_) #[true,true,true,true,true,true,true,true,true,true,true,true,true,true,false,false] rfl rfl (zK HT_.out (by kernel_rfl)) (fun _ _ _ h=>h) (Or.inl ⟨by rfl,?_⟩) ?_ ?_
 rotate_left
 · intro w'
   go_simp
   with_reducible rfl
 rotate_left
 · simp only [Act.put,List.setIfInBounds_toArray,List.set_cons_zero,List.set_cons_succ,zD,zI]
   rfl
 refine pure_ (i:=14) (N:=some 32) (v:=?_) (a':=?_) #[true,true,true,true,true,true,true,true,true,true,true,true,true,true,true,false] rfl rfl (zK HT_.out (by kernel_rfl)) (fun _ _ _ h=>h) (Or.inl ⟨by rfl,?_⟩) ?_ ?_
 rotate_left
 · intro w'
   go_simp
   with_reducible rfl
 rotate_left
 · simp only [Act.put,List.setIfInBounds_toArray,List.set_cons_zero,List.set_cons_succ,zD,zI]
   rfl
 refine one_ (i:=15) (N:=none) #[true,true,true,true,true,true,true,true,true,true,true,true,true,true,true,true] rfl rfl (z1t HT_.out (by kernel_rfl)) (by decide) (fun K hK=>?_)
 have hs28 : w27.cell? ⟨gb102,0,none⟩ = some (.int .u64 0):=(ze BK102.out 0).trans rfl
 have hfs28:=zd BK102.out 0
 have hns28_0:=NB101_102.out
 have hms28_0:=NB102_101.out
 have hs29 : w27.cell? ⟨gb102,1,none⟩ = some (.int .u64 0):=(ze BK102.out 1).trans rfl
 have hfs29:=zd BK102.out 1
 have hns29_0:=NB101_102.out
 have hms29_0:=NB102_101.out
 refine skip_ (w1:=?_) (by rfl) rfl ?_ ?_
 rotate_left
 · go_simp
   rfl
 refine hK.out _ _ ⟨((z1h (p:=⟨gb102,_,none⟩) NB101_102.out _).trans (((z1h (p:=⟨gb102,_,none⟩) NB101_102.out _).trans (hHeld.1)))),((z1h (p:=⟨gb102,_,none⟩) NB101_102.out _).trans (((z1h (p:=⟨gb102,_,none⟩) NB101_102.out _).trans (hHeld.2))))⟩ (fun hHeld=>?_)
 clear hK K
 refine done_ (z1Z HT_.out (by kernel_rfl)) ?_
 try go_wp2
 refine bodyPost_ret (results_cell_row rfl _ _ gb102 51 #[.int .u64 ji19,.int .u64 (Go.bits .or .u64 (ji21) (ji24))] (0,0) _ rfl (by (with_reducible repeat (first|refine z5 ?_ _|refine z8 ?_|refine z4 ?_ _));refine zN (cs:=#[.int .u64 ji19,.int .u64 0]) ?_ 1 _ rfl;(with_reducible repeat (first|refine z5 ?_ _|refine z8 ?_|refine z4 ?_ _));refine zN (cs:=#[.int .u64 0,.int .u64 0]) ?_ 0 _ rfl;(with_reducible repeat (first|refine z5 ?_ _|refine z8 ?_|refine z4 ?_ _));exact BK102.out) Try.underlying51 rfl (by kernel_rfl)) rfl ?_
 exact ⟨by first|rfl|(simp [zg,zh] <;> rfl)|(simp only [← hji19,← hji21,← hji22,← hji24];first|rfl|(simp [zg,zh] <;> rfl))|(simp [*,zg,zh] <;> rfl),by repeat (first|(with_reducible first|exact HB.out|apply z2|apply z0|apply z1|refine z6 ?_ GE101.out|refine z6 ?_ GE102.out)|exact HB.out)⟩
end Go.Proofs.Ytngcaphdkgihmaa.P
namespace Go.Proofs.Ytngcaphdkgihmaa.P
open Go.RowKit Go.Proofs.YtngcaphdkgihmaaW.PrintWords Go.Proofs.YtngcaphdkgihmaaW.PrintLast Go.Proofs.YtngcaphdkgihmaaW.PrintMore
attribute [local go_sem] zW zY z15 z16 zQ zR zX zZ   -- for this text's walks alone
set_option linter.unusedVariables false
set_option linter.unusedSimpArgs false
mutual
def zk.l0 : Nat → Int → Int → List (S51) → List (S51) → Int → Int → Option ((List (S51)) × Int)
 | 0,_,_,_,_,_,_=>none
 | k + 1,x0,x1,x9,x23,x24,x25=>if x25 < x24 then (if 0 ≤ x25 then (if x25 < (x23.length : Int) then (if 0 ≤ (wrap64 (x1 - x0)) then (zk.l1 k x0 x1 x9 x23 x24 x25 (shl .i64 1 (wrap64 (x1 - x0))) 0 ((zx x23 x25).f0) ((zx x23 x25).f1)) else (none)) else (none)) else (none)) else (some (x9,0))
def zk.l1 : Nat → Int → Int → List (S51) → List (S51) → Int → Int → Int → Int → Int → Int → Option ((List (S51)) × Int)
 | 0,_,_,_,_,_,_,_,_,_,_=>none
 | k + 1,x0,x1,x9,x23,x24,x25,x32,x33,x105000,x105001=>if x33 < x32 then (if 0 ≤ x0 then ((z1d.f x105000 x105001 (shl .i64 x33 x0)).bind fun bt105=>((z1g.f x0 bt105.1 bt105.2).bind fun bt107=>(if x9.length < 8796093022208 then (zk.l1 k x0 x1 (x9 ++ [(⟨bt107.1,bt107.2⟩ : S51)]) x23 x24 x25 x32 (wrap64 (x33 + 1)) x105000 x105001) else (none)))) else (none)) else (zk.l0 k x0 x1 x9 x23 x24 (wrap64 (x25 + 1)))
end
def zk.f (k : Nat) (a0 : Int) (a1 : Int) (l2 : List (S51)) : Option ((List (S51)) × Int):=(z11.f k a0 a1).bind fun t101=>(if t101 = 0 then ((zM.f k a1 l2).bind fun t102=>(if t102 = true then (zk.l0 k a0 a1 ([] : List (S51)) l2 (l2.length : Int) 0) else (some (([] : List (S51)),5)))) else (some (([] : List (S51)),t101)))
theorem zk.z13 : ∀ k,(∀ y0 y1 y2 y3 y4 y5,LeO (zk.l0 k y0 y1 y2 y3 y4 y5) (zk.l0 (k + 1) y0 y1 y2 y3 y4 y5)) ∧ (∀ y0 y1 y2 y3 y4 y5 y6 y7 y8 y9,LeO (zk.l1 k y0 y1 y2 y3 y4 y5 y6 y7 y8 y9) (zk.l1 (k + 1) y0 y1 y2 y3 y4 y5 y6 y7 y8 y9))
 | 0=>⟨fun _ _ _ _ _ _ r h=>by simp [zk.l0] at h,fun _ _ _ _ _ _ _ _ _ _ r h=>by simp [zk.l1] at h⟩
 | k + 1=>by
  obtain ⟨ih0,ih1⟩:=zk.z13 k
  refine ⟨?_,?_⟩
  · intro y0 y1 y2 y3 y4 y5
    unfold zk.l0
    repeat' first
    | (with_reducible exact ih0 _ _ _ _ _ _)
    | (with_reducible exact ih1 _ _ _ _ _ _ _ _ _ _)
    | (with_reducible exact z11.mono _ _ _)
    | (with_reducible exact zM.mono _ _ _)
    | (with_reducible exact LeO.refl _)
    | (with_reducible exact LeO.none _)
    | (with_reducible refine LeO.ite ?_ ?_)
    | (with_reducible refine LeO.bind ?_ (fun _=>?_))
    | exact ih0 _ _ _ _ _ _
    | exact ih1 _ _ _ _ _ _ _ _ _ _
    | exact z11.mono _ _ _
    | exact zM.mono _ _ _
    | exact LeO.none _
    | refine LeO.ite ?_ ?_
    | refine LeO.bind ?_ (fun _=>?_)
  · intro y0 y1 y2 y3 y4 y5 y6 y7 y8 y9
    unfold zk.l1
    repeat' first
    | (with_reducible exact ih0 _ _ _ _ _ _)
    | (with_reducible exact ih1 _ _ _ _ _ _ _ _ _ _)
    | (with_reducible exact z11.mono _ _ _)
    | (with_reducible exact zM.mono _ _ _)
    | (with_reducible exact LeO.refl _)
    | (with_reducible exact LeO.none _)
    | (with_reducible refine LeO.ite ?_ ?_)
    | (with_reducible refine LeO.bind ?_ (fun _=>?_))
    | exact ih0 _ _ _ _ _ _
    | exact ih1 _ _ _ _ _ _ _ _ _ _
    | exact z11.mono _ _ _
    | exact zM.mono _ _ _
    | exact LeO.none _
    | refine LeO.ite ?_ ?_
    | refine LeO.bind ?_ (fun _=>?_)
theorem zk.mono : ∀ a0 a1 a2 k,LeO (zk.f k a0 a1 a2) (zk.f (k + 1) a0 a1 a2):=by
 intro a0 a1 a2 k
 obtain ⟨ih0,ih1⟩:=zk.z13 k
 unfold zk.f
 repeat' first
  | (with_reducible exact ih0 _ _ _ _ _ _)
  | (with_reducible exact ih1 _ _ _ _ _ _ _ _ _ _)
  | (with_reducible exact z11.mono _ _ _)
  | (with_reducible exact zM.mono _ _ _)
  | (with_reducible exact LeO.refl _)
  | (with_reducible exact LeO.none _)
  | (with_reducible refine LeO.ite ?_ ?_)
  | (with_reducible refine LeO.bind ?_ (fun _=>?_))
  | exact ih0 _ _ _ _ _ _
  | exact ih1 _ _ _ _ _ _ _ _ _ _
  | exact z11.mono _ _ _
  | exact zM.mono _ _ _
  | exact LeO.none _
  | refine LeO.ite ?_ ?_
  | refine LeO.bind ?_ (fun _=>?_)
def zk.T13 : Bool × List (List Nat × List Nat):=(true,[([],[]),([],[]),([],[]),([],[]),([],[]),([3,4],[3,4]),([2,5],[2,5]),([1,6,6],[1,6]),([7],[7]),([0,8,7],[0,8]),([9,9,0,1,2,3,4,5,6,7,8,9],[0,9])])
def zk.B13 : List Nat:=[0,0,0,0,0,24,60,126,254,511,1023]
theorem zk.tab13 : rtab .any (opsOf Try.f32 13) = zk.T13:=by kernel_rfl
theorem zk.bits13 : waitsOk zk.T13.2 zk.B13 = true:=by kernel_rfl
set_option maxHeartbeats 8000000 in
set_option maxRecDepth 100000 in
theorem zk.calls (k : Nat) (a0 : Int) (a1 : Int) (A2 : Option Addr) (c2 : Nat) (l2 : List (S51)) (r1 : List (S51)) (r2 : Int) (w : World) (hr2 : Kd.C k51 w A2 l2.length l2) (hc2 : l2.length ≤ c2) (h : zk.f k a0 a1 l2 = some (r1,r2)) :
 Calls Try.prog 32 #[.int .i64 a0,.int .i64 a1,.slice A2 l2.length c2] w fun e w'=>∃ v0_ : Value,e = .returned (.tuple #[v0_,.int .i64 r2]) ∧ Kd.R k51 51 w' w.heap.size (fun _=>True) v0_ r1 ∧ Below w.heap.size w w':=by
 have hu51:=Try.underlying51
 have HR2:=z3.mk hr2
 have HC2:=z3.mk hc2
 clear hr2 hc2
 have HB:=z3.mk (Below.refl w.heap.size w)
 have H : ((z11.f k a0 a1).bind fun t101=>(if t101 = 0 then ((zM.f k a1 l2).bind fun t102=>(if t102 = true then (zk.l0 k a0 a1 ([] : List (S51)) l2 (l2.length : Int) 0) else (some (([] : List (S51)),5)))) else (some (([] : List (S51)),t101)))) = some (r1,r2):=h
 clear h
 replace H:=Option.bind_eq_some_iff.mp H
 obtain ⟨t101,A40,H⟩:=H
 replace H : (if t101 = 0 then ((zM.f k a1 l2).bind fun t102=>(if t102 = true then (zk.l0 k a0 a1 ([] : List (S51)) l2 (l2.length : Int) 0) else (some (([] : List (S51)),5)))) else (some (([] : List (S51)),t101))) = some (r1,r2):=H
 have A4:=z3.mk A40
 clear A40
 by_cases c5 : t101 = 0
 rotate_left
 · rw [if_neg c5] at H
   have c5b0 : (t101 == 0) = false:=beq_eq_false_iff_ne.mpr c5
   have c5b1 : (t101 != 0) = true:=bne_iff_ne.mpr c5
   simp only [Option.some.injEq,Prod.mk.injEq] at H
   obtain ⟨rfl,rfl⟩:=H
   go_enter Try.func32,Try.ntmps32
   go_wp2_with (first|((with_reducible refine zl (f:=69) rfl ?_);refine goesL_ (some 15) rfl rfl Try.func69 (by kernel_rfl) rfl #[.int .i64 a0,.int .i64 a1] rfl (by (try simp only [List.map_toArray,List.map_cons,List.map_nil]);first|done|rfl|(simp only [List.length_drop,List.length_take];rfl)) ?_;(with_reducible refine (z11.calls k a0 a1 t101 _ A4.out).mono ?_);rintro e w' ⟨rfl,⟨nd,rfl⟩⟩;refine ⟨_,rfl,?_⟩))
   go_ret2
   exact ⟨_,by first|rfl|(simp [zg,zh] <;> rfl)|(simp [*,zg,zh] <;> rfl),by first|exact Kd.z1L _ _ _ _ _|exact Kd.z1S _ _ _ _ _|exact Kd.z1V _ _ _ _ _|exact Kd.z1T _ _ _ _ _|exact Kd.z1U _ _ _ _ _,by repeat (first|(with_reducible first|exact HB.out|apply z2|apply z0|apply z1)|exact HB.out)⟩
 rw [if_pos c5] at H
 have c5b0 : (t101 == 0) = true:=beq_iff_eq.mpr c5
 have c5b1 : (t101 != 0) = false:=bne_eq_false_iff_eq.mpr c5
 clear c5
 replace H:=Option.bind_eq_some_iff.mp H
 obtain ⟨t102,A60,H⟩:=H
 replace H : (if t102 = true then (zk.l0 k a0 a1 ([] : List (S51)) l2 (l2.length : Int) 0) else (some (([] : List (S51)),5))) = some (r1,r2):=H
 have A6:=z3.mk A60
 clear A60
 by_cases c7 : t102 = true
 rotate_left
 · replace c7:=Bool.eq_false_iff.mpr c7
   subst c7
   have H1 : (some (([] : List (S51)),5)) = some (r1,r2):=by rw [if_neg (show ¬ (false = true) by decide)] at H;exact H
   clear H
   have H:=H1
   clear H1
   simp only [Option.some.injEq,Prod.mk.injEq] at H
   obtain ⟨rfl,rfl⟩:=H
   go_enter Try.func32,Try.ntmps32
   go_wp2_with (first|((with_reducible refine zl (f:=69) rfl ?_);refine goesL_ (some 15) rfl rfl Try.func69 (by kernel_rfl) rfl #[.int .i64 a0,.int .i64 a1] rfl (by (try simp only [List.map_toArray,List.map_cons,List.map_nil]);first|done|rfl|(simp only [List.length_drop,List.length_take];rfl)) ?_;(with_reducible refine (z11.calls k a0 a1 t101 _ A4.out).mono ?_);rintro e w' ⟨rfl,⟨nd,rfl⟩⟩;refine ⟨_,rfl,?_⟩)|((with_reducible refine zl (f:=70) rfl ?_);refine goesL_ (some 21) rfl rfl Try.func70 (by kernel_rfl) rfl #[.int .i64 a1,.slice A2 l2.length c2] rfl (by (try simp only [List.map_toArray,List.map_cons,List.map_nil]);first|done|rfl|(simp only [List.length_drop,List.length_take];rfl)) ?_;(with_reducible refine (zM.calls k a1 _ _ l2 false _ ?side1 ?side2 A6.out).mono ?_);(case side1=>repeat (first|exact HR2.out|(with_reducible refine Kd.zS ?_ _)|(with_reducible refine Kd.zT ?_ _)|(with_reducible refine Kd.z14 ?_)));(case side2=>exact HC2.out);rintro e w27 ⟨rfl,hb⟩;refine ⟨_,rfl,?_⟩;have n0_:=z3.mk (zb (by repeat (first|(with_reducible first|exact HB.out|apply z2|apply z0|apply z1)|exact HB.out)) hb);clear HB;have HB:=n0_;clear n0_;(try clear hb);(try clear hb2);(try clear hk);(try clear hi)))
   go_ret2
   exact ⟨_,by first|rfl|(simp [zg,zh] <;> rfl)|(simp [*,zg,zh] <;> rfl),by first|exact Kd.z1L _ _ _ _ _|exact Kd.z1S _ _ _ _ _|exact Kd.z1V _ _ _ _ _|exact Kd.z1T _ _ _ _ _|exact Kd.z1U _ _ _ _ _,by repeat (first|(with_reducible first|exact HB.out|apply z2|apply z0|apply z1)|exact HB.out)⟩
 subst c7
 have H1 : (zk.l0 k a0 a1 ([] : List (S51)) l2 (l2.length : Int) 0) = some (r1,r2):=by rw [if_pos rfl] at H;exact H
 clear H
 have H:=H1
 clear H1
 have H':=z3.mk H
 clear H
 go_enter Try.func32,Try.ntmps32
 go_wp2_with (first|((with_reducible refine zl (f:=69) rfl ?_);refine goesL_ (some 15) rfl rfl Try.func69 (by kernel_rfl) rfl #[.int .i64 a0,.int .i64 a1] rfl (by (try simp only [List.map_toArray,List.map_cons,List.map_nil]);first|done|rfl|(simp only [List.length_drop,List.length_take];rfl)) ?_;(with_reducible refine (z11.calls k a0 a1 t101 _ A4.out).mono ?_);rintro e w' ⟨rfl,⟨nd,rfl⟩⟩;refine ⟨_,rfl,?_⟩)|((with_reducible refine zl (f:=70) rfl ?_);refine goesL_ (some 21) rfl rfl Try.func70 (by kernel_rfl) rfl #[.int .i64 a1,.slice A2 l2.length c2] rfl (by (try simp only [List.map_toArray,List.map_cons,List.map_nil]);first|done|rfl|(simp only [List.length_drop,List.length_take];rfl)) ?_;(with_reducible refine (zM.calls k a1 _ _ l2 true _ ?side1 ?side2 A6.out).mono ?_);(case side1=>repeat (first|exact HR2.out|(with_reducible refine Kd.zS ?_ _)|(with_reducible refine Kd.zT ?_ _)|(with_reducible refine Kd.z14 ?_)));(case side2=>exact HC2.out);rintro e w8 ⟨rfl,hb⟩;refine ⟨_,rfl,?_⟩;have n0_:=z3.mk (zb (by repeat (first|(with_reducible first|exact HB.out|apply z2|apply z0|apply z1)|exact HB.out)) hb);clear HB;have HB:=n0_;clear n0_;(try clear hb);(try clear hb2);(try clear hk);(try clear hi)))
 go_loopg [9,25] k (fun kq v9 v25 w'=>∃ (x9_1 : List (S51)) (x25_1 : Int),v25 = .int .i64 x25_1 ∧ z3 (zk.l0 kq a0 a1 x9_1 l2 (l2.length : Int) x25_1 = some (r1,r2)) ∧ z3 (kq ≤ k) ∧ z3 (Kd.R k51 51 w' w.heap.size (fun _=>True) v9 x9_1) ∧ z3 (Below w.heap.size w w'))
 case atStart=>exact ⟨(([] : List (S51))),(0),(by first|rfl|(simp;done)|(simp [*];done)),H',⟨Nat.le_refl _⟩,⟨by first|exact Kd.z1L _ _ _ _ _|exact Kd.z1S _ _ _ _ _|exact Kd.z1V _ _ _ _ _|exact Kd.z1T _ _ _ _ _|exact Kd.z1U _ _ _ _ _⟩,⟨by repeat (first|(with_reducible first|exact HB.out|apply z2|apply z0|apply z1)|exact HB.out)⟩⟩
 case round =>
  clear H'
  (try clear c2);(try clear p2);(try clear c3);(try clear c5);(try clear c5b0);(try clear c5b1);(try clear c6);(try clear c7)
  obtain ⟨x9_1,x25_1,rfl,HA,HK1,HO_9,HB⟩:=hrel
  cases gk with
  | zero=>exact absurd HA.out (by simp [zk.l0])
  | succ k1 =>
   have H:=HA.out
   clear HA
   simp only [zk.l0] at H
   by_cases c9 : x25_1 < (l2.length : Int)
   rotate_left
   · rw [if_neg c9] at H
     have c9b0 : decide (x25_1 < (l2.length : Int)) = false:=decide_eq_false c9
     clear c9
     simp only [Option.some.injEq,Prod.mk.injEq] at H
     obtain ⟨rfl,rfl⟩:=H
     go_wp2
     go_ret2
     exact ⟨_,by first|rfl|(simp [zg,zh] <;> rfl)|(simp [*,zg,zh] <;> rfl),by (with_reducible repeat (first|apply Kd.zr|apply Kd.zs|apply Kd.zy));exact HO_9.out,by repeat (first|(with_reducible first|exact HB.out|apply z2|apply z0|apply z1)|exact HB.out)⟩
   rw [if_pos c9] at H
   have c9b0 : decide (x25_1 < (l2.length : Int)) = true:=decide_eq_true c9
   clear c9
   by_cases c10 : 0 ≤ x25_1
   rotate_left
   · rw [if_neg c10] at H
     exact absurd H (by simp)
   rw [if_pos c10] at H
   have c10b0 : decide (0 ≤ x25_1) = true:=decide_eq_true c10
   clear c10
   by_cases c11 : x25_1 < (l2.length : Int)
   rotate_left
   · rw [if_neg c11] at H
     exact absurd H (by simp)
   rw [if_pos c11] at H
   have c11b0 : decide (x25_1 < (l2.length : Int)) = true:=decide_eq_true c11
   clear c11
   obtain ⟨ji12,hji12⟩ : ∃ j_ : Int,(wrap64 (a1 - a0)) = j_:=⟨_,rfl⟩
   replace H : (if 0 ≤ (ji12) then (zk.l1 k1 a0 a1 x9_1 l2 (l2.length : Int) x25_1 (shl .i64 1 (ji12)) 0 ((zx l2 x25_1).f0) ((zx l2 x25_1).f1)) else (none)) = some (r1,r2):=by first|(rw [hji12] at H;exact H)|(simp only [hji12] at H ⊢;exact H)
   have hji12w : (IntKind.i64.wrap (a1 - a0)) = ji12:=(zD _).trans hji12
   by_cases c13 : 0 ≤ (ji12)
   rotate_left
   · rw [if_neg c13] at H
     exact absurd H (by simp)
   rw [if_pos c13] at H
   have c13b0:=eq_true c13
   have c13b1 : decide (0 ≤ (ji12)) = true:=decide_eq_true c13
   clear c13
   obtain ⟨ji14,hji14⟩ : ∃ j_ : Int,(shl .i64 1 (ji12)) = j_:=⟨_,rfl⟩
   replace H : (zk.l1 k1 a0 a1 x9_1 l2 (l2.length : Int) x25_1 ji14 0 ((zx l2 x25_1).f0) ((zx l2 x25_1).f1)) = some (r1,r2):=by first|(rw [hji14] at H;exact H)|(simp only [hji14] at H ⊢;exact H)
   have hji14_ : (IntKind.i64.wrap (1 * 2 ^ min (ji12).toNat 64)) = ji14:=hji14
   have hji14z : (ji12) ≤ 64 → (IntKind.i64.wrap (1 * 2 ^ (ji12).toNat)) = ji14:=z1a hji14
   have hji14u : (IntKind.i64.wrap (2 ^ min (ji12).toNat 64)) = ji14:=by have h_:=hji14_;rw [Int.one_mul] at h_;exact h_
   have hji14v : (ji12) ≤ 64 → (IntKind.i64.wrap (2 ^ (ji12).toNat)) = ji14:=fun hle_=>by have h_:=hji14z hle_;rw [Int.one_mul] at h_;exact h_
   have hji14y : (wrap64 (1 * 2 ^ min (ji12).toNat 64)) = ji14:=(zD _).symm.trans hji14_
   have hji14x : (ji12) ≤ 64 → (wrap64 (1 * 2 ^ (ji12).toNat)) = ji14:=fun h_=>(zD _).symm.trans (hji14z h_)
   have H':=z3.mk H
   clear H
   have p103 : 0 ≤ (x25_1 : Int):=of_decide_eq_true (by first|(with_reducible assumption)|assumption)
   have q103 : x25_1 < (l2.length : Int):=of_decide_eq_true (by first|(with_reducible assumption)|assumption)
   obtain ⟨ad103,e103,hx103_0,hx103_1⟩:=z2b HR2.out x25_1 p103 q103
   cases e103
   replace hx103_0:=(HB.out.cell (World.block_lt_of_cell? w _ hx103_0)).trans hx103_0
   replace hx103_1:=(HB.out.cell (World.block_lt_of_cell? w _ hx103_1)).trans hx103_1
   replace p103:=eq_true p103
   replace q103:=eq_true q103
   go_wp2_with (first|((with_reducible refine zE (N:=11) rfl ?_);refine zC ?hg (N:=11) ?hd (cs:=#[.int .u64 0,.int .u64 0]) (t:=51) ?hr ?_;(case hd=>rfl);(case hg=>rfl);(case hr=>first|(go_simp;done)|(go_simp;rfl));intro gb104 hg w15 hbox hb;have n0_:=z3.mk (Kd.zG (Kd.z2x (by (with_reducible repeat (first|apply Kd.zr|apply Kd.zs|apply Kd.zy));exact HO_9.out) gb104 (Nat.le_of_eq hg.symm)) hb);have n1_:=z3.mk (zb (by repeat (first|(with_reducible first|exact HB.out|apply z2|apply z0|apply z1)|exact HB.out)) hb);have n2_:=z3.mk (hbox);have n3_:=z3.mk ((by rw [hg];exact (zc (by repeat (first|(with_reducible first|exact HB.out|apply z2|apply z0|apply z1)|exact HB.out))) : w.heap.size ≤ gb104));have n4_:=z3.mk ((by rw [hg];exact (zc (by repeat (first|(with_reducible first|exact HB.out|apply z2|apply z0|apply z1)|exact HB.out))) : w.heap.size ≤ gb104));clear HO_9;clear HB;have HO_9:=n0_;have HB:=n1_;have BK104:=n2_;have GW104:=n3_;have GE104:=n4_;clear n0_ n1_ n2_ n3_ n4_;clear hb hbox hg;have hcz16_0 : w15.cell? ⟨gb104,0,none⟩ = some (.int .u64 0):=(ze BK104.out 0).trans rfl;have hcz16_1 : w15.cell? ⟨gb104,1,none⟩ = some (.int .u64 0):=(ze BK104.out 1).trans rfl;have hfz16_0:=zd BK104.out 0;have hfz16_1:=zd BK104.out 1))
   go_loopg [9,33] k1 (fun kq v9 v33 w'=>∃ (x9_2 : List (S51)) (x33_2 : Int),v33 = .int .i64 x33_2 ∧ z3 (zk.l1 kq a0 a1 x9_2 l2 (l2.length : Int) x25_1 ji14 x33_2 ((zx l2 x25_1).f0) ((zx l2 x25_1).f1) = some (r1,r2)) ∧ z3 (kq ≤ k1) ∧ z3 (Kd.R k51 51 w' w.heap.size (fun k_=>k_ ≠ gb104) v9 x9_2) ∧ z3 (w'.heap[gb104]? = some (.cells #[.int .u64 ((zx l2 x25_1).f0),.int .u64 ((zx l2 x25_1).f1)] 51 (0,0))) ∧ z3 (Below w.heap.size w w'))
   case atStart=>exact ⟨(x9_1),(0),(by first|rfl|(simp;done)|(simp [*];done)),H',⟨Nat.le_refl _⟩,⟨by (with_reducible repeat (first|apply Kd.zr|apply Kd.zs|apply Kd.zy));exact Kd.z1e (Kd.z3l (p:=⟨gb104,1,none⟩) (Kd.z3l (p:=⟨gb104,0,none⟩) (Kd.z1e HO_9.out (fun k_ hk=>(⟨hk,hk.2⟩ : _ ∧ k_ ≠ gb104))) (fun _ hk=>hk.2) (.int .u64 ((zx l2 x25_1).f0))) (fun _ hk=>hk.2) (.int .u64 ((zx l2 x25_1).f1))) (fun _ hk=>hk.1.2)⟩,⟨by (with_reducible repeat (first|refine z5 ?_ _|refine z8 ?_|refine z4 ?_ _));refine zN (cs:=#[.int .u64 ((zx l2 x25_1).f0),.int .u64 0]) ?_ 1 _ rfl;(with_reducible repeat (first|refine z5 ?_ _|refine z8 ?_|refine z4 ?_ _));refine zN (cs:=#[.int .u64 0,.int .u64 0]) ?_ 0 _ rfl;(with_reducible repeat (first|refine z5 ?_ _|refine z8 ?_|refine z4 ?_ _));exact BK104.out⟩,⟨by repeat (first|(with_reducible first|exact HB.out|apply z2|apply z0|apply z1|refine z6 ?_ GE104.out)|exact HB.out)⟩⟩
   case round =>
    clear H'
    (try clear c1);(try clear p1);(try clear q1);(try clear hx1);(try clear c2);(try clear p2);(try clear c3);(try clear c5);(try clear c5b0);(try clear c5b1);(try clear c6);(try clear p6);(try clear c7);(try clear c9);(try clear c9b0);(try clear c10);(try clear c10b0);(try clear p10);(try clear q10);(try clear hx10);(try clear c11);(try clear c11b0);(try clear c13);(try clear c13b0);(try clear c13b1);(try clear hcz16_0);(try clear hcz16_1);(try clear hfz16_0);(try clear hfz16_1);(try clear hx103_0);(try clear hx103_1);(try clear p103);(try clear p2);(try clear q103)
    obtain ⟨x9_2,x33_2,rfl,HA,HK2,HO_9,BK104,HB⟩:=hrel
    cases gk with
    | zero=>exact absurd HA.out (by simp [zk.l1])
    | succ k2 =>
     have H:=HA.out
     clear HA
     simp only [zk.l1] at H
     by_cases c17 : x33_2 < ji14
     rotate_left
     · rw [if_neg c17] at H
       have c17b0 : decide (x33_2 < ji14) = false:=decide_eq_false c17
       clear c17
       have H':=z3.mk H
       clear H
       go_wp2
       go_roundg k2
       case measure=>have:=HK1.out;have:=HK2.out;omega
       case rel=>exact ⟨(x9_2),(wrap64 (x25_1 + 1)),(by first|rfl|(simp;done)|(simp [*];done)),H',⟨by have:=HK1.out;have:=HK2.out;omega⟩,⟨by (with_reducible repeat (first|apply Kd.zr|apply Kd.zs|apply Kd.zy));exact Kd.z1e HO_9.out (fun _ hk=>trivial)⟩,⟨by repeat (first|(with_reducible first|exact HB.out|apply z2|apply z0|apply z1|refine z6 ?_ GE104.out)|exact HB.out)⟩⟩
     rw [if_pos c17] at H
     have c17b0 : decide (x33_2 < ji14) = true:=decide_eq_true c17
     clear c17
     by_cases c18 : 0 ≤ a0
     rotate_left
     · rw [if_neg c18] at H
       exact absurd H (by simp)
     rw [if_pos c18] at H
     have c18b0:=eq_true c18
     have c18b1 : decide (0 ≤ a0) = true:=decide_eq_true c18
     clear c18
     obtain ⟨ji19,hji19⟩ : ∃ j_ : Int,(shl .i64 x33_2 a0) = j_:=⟨_,rfl⟩
     replace H : ((z1d.f ((zx l2 x25_1).f0) ((zx l2 x25_1).f1) (ji19)).bind fun bt105=>((z1g.f a0 bt105.1 bt105.2).bind fun bt107=>(if x9_2.length < 8796093022208 then (zk.l1 k2 a0 a1 (x9_2 ++ [(⟨bt107.1,bt107.2⟩ : S51)]) l2 (l2.length : Int) x25_1 ji14 (wrap64 (x33_2 + 1)) ((zx l2 x25_1).f0) ((zx l2 x25_1).f1)) else (none)))) = some (r1,r2):=by first|(rw [hji19] at H;exact H)|(simp only [hji19] at H ⊢;exact H)
     have hji19_ : (IntKind.i64.wrap (x33_2 * 2 ^ min a0.toNat 64)) = ji19:=hji19
     have hji19z : a0 ≤ 64 → (IntKind.i64.wrap (x33_2 * 2 ^ a0.toNat)) = ji19:=z1a hji19
     have hji19y : (wrap64 (x33_2 * 2 ^ min a0.toNat 64)) = ji19:=(zD _).symm.trans hji19_
     have hji19x : a0 ≤ 64 → (wrap64 (x33_2 * 2 ^ a0.toNat)) = ji19:=fun h_=>(zD _).symm.trans (hji19z h_)
     replace H:=Option.bind_eq_some_iff.mp H
     obtain ⟨⟨t105,t106⟩,A200,H⟩:=H
     replace H : ((z1g.f a0 t105 t106).bind fun bt107=>(if x9_2.length < 8796093022208 then (zk.l1 k2 a0 a1 (x9_2 ++ [(⟨bt107.1,bt107.2⟩ : S51)]) l2 (l2.length : Int) x25_1 ji14 (wrap64 (x33_2 + 1)) ((zx l2 x25_1).f0) ((zx l2 x25_1).f1)) else (none))) = some (r1,r2):=H
     have A20:=z3.mk A200
     clear A200
     replace H:=Option.bind_eq_some_iff.mp H
     obtain ⟨⟨t107,t108⟩,A210,H⟩:=H
     replace H : (if x9_2.length < 8796093022208 then (zk.l1 k2 a0 a1 (x9_2 ++ [(⟨t107,t108⟩ : S51)]) l2 (l2.length : Int) x25_1 ji14 (wrap64 (x33_2 + 1)) ((zx l2 x25_1).f0) ((zx l2 x25_1).f1)) else (none)) = some (r1,r2):=H
     have A21:=z3.mk A210
     clear A210
     by_cases c22 : x9_2.length < 8796093022208
     rotate_left
     · rw [if_neg c22] at H
       exact absurd H (by simp)
     rw [if_pos c22] at H
     have LMc22:=z3.mk c22
     clear c22
     obtain ⟨y109,hy109⟩ : ∃ y_ : List (S51),y_ = (x9_2 ++ [(⟨t107,t108⟩ : S51)]):=⟨_,rfl⟩
     replace H : (zk.l1 k2 a0 a1 y109 l2 (l2.length : Int) x25_1 ji14 (wrap64 (x33_2 + 1)) ((zx l2 x25_1).f0) ((zx l2 x25_1).f1)) = some (r1,r2):=by first|(rw [hy109];with_reducible exact H)|(have H2_:=(Option.bind_some _ _).symm.trans H;rw [hy109];with_reducible exact H2_)|(have H2_:=(Option.bind_some _ _).symm.trans H;with_reducible exact H2_)|with_reducible exact H|(rw [hy109];exact H)|exact H
     have Ny109:=z3.mk hy109
     clear hy109
     have H':=z3.mk H
     clear H
     try go_wp2
     have n0_:=z3.mk (Kd.zy HO_9.out)
     have n1_:=z3.mk (z8 BK104.out)
     have n2_:=z3.mk (z1 HB.out)
     clear HO_9
     clear BK104
     clear HB
     have HO_9:=n0_
     have BK104:=n1_
     have HB:=n2_
     clear n0_ n1_ n2_
     refine start_ (n:=11) (S:=fun w'=>w'.cell? ⟨gb104,0,none⟩ = some (.int .u64 ((zx l2 x25_1).f0)) ∧ w'.cell? ⟨gb104,1,none⟩ = some (.int .u64 ((zx l2 x25_1).f1))) (ds:=[]) #[false,false,false,false,false,false,false,false,false,false,false] (by kernel_rfl) rfl rfl ⟨(ze BK104.out 0).trans rfl,(ze BK104.out 1).trans rfl⟩ (fun hHeld=>?_);refine z1C zk.tab13 zk.bits13 (fun HT_ HW_=>?_)
     generalize wr.drew = w23 at HO_9 BK104 HB hHeld ⊢
     refine pure_ (i:=0) (N:=some 36) (v:=?_) (a':=?_) #[true,false,false,false,false,false,false,false,false,false,false] rfl rfl (zK HT_.out (by kernel_rfl)) (fun _ _ _ h=>h) (Or.inl ⟨by rfl,?_⟩) ?_ ?_
     rotate_left
     · intro w'
       go_simp
       with_reducible rfl
     rotate_left
     · simp only [Act.put,List.setIfInBounds_toArray,List.set_cons_zero,List.set_cons_succ,zD,zI]
       rfl
     refine pure_ (i:=1) (N:=some 37) (v:=?_) (a':=?_) #[true,true,false,false,false,false,false,false,false,false,false] rfl rfl (zK HT_.out (by kernel_rfl)) (fun _ _ _ h=>h) (Or.inl ⟨by rfl,?_⟩) ?_ ?_
     rotate_left
     · intro w'
       go_simp
       with_reducible rfl
     rotate_left
     · simp only [Act.put,List.setIfInBounds_toArray,List.set_cons_zero,List.set_cons_succ,zD,zI]
       rfl
     refine pure_ (i:=3) (N:=some 39) (v:=?_) (a':=?_) #[true,true,false,true,false,false,false,false,false,false,false] rfl rfl (zK HT_.out (by kernel_rfl)) (fun _ _ _ h=>h) (Or.inl ⟨by rfl,?_⟩) ?_ ?_
     rotate_left
     · intro w'
       go_simp
       with_reducible rfl
     rotate_left
     · simp only [Act.put,List.setIfInBounds_toArray,List.set_cons_zero,List.set_cons_succ,zD,zI]
       rfl
     refine pure_ (i:=4) (N:=some 40) (v:=?_) (a':=?_) #[true,true,false,true,true,false,false,false,false,false,false] rfl rfl (zK HT_.out (by kernel_rfl)) (fun _ _ _ h=>h) (Or.inl ⟨by rfl,?_⟩) ?_ ?_
     rotate_left
     · intro w'
       go_simp
       with_reducible rfl
     rotate_left
     · simp only [Act.put,List.setIfInBounds_toArray,List.set_cons_zero,List.set_cons_succ,zD,zI]
       rfl
     refine pure_ (i:=5) (N:=some 41) (v:=?_) (a':=?_) #[true,true,false,true,true,true,false,false,false,false,false] rfl rfl (zK HT_.out (by kernel_rfl)) (fun _ _ _ h=>h) (Or.inl ⟨by rfl,?_⟩) ?_ ?_
     rotate_left
     · intro w'
       go_simp
       with_reducible rfl
     rotate_left
     · simp only [Act.put,List.setIfInBounds_toArray,List.set_cons_zero,List.set_cons_succ,zD,zI]
       rfl
     refine take_ (i:=2) (N:=some 38) (v:=?_) (a':=?_) #[true,true,true,true,true,true,false,false,false,false,false] rfl rfl (z1m HT_.out HW_.out (by kernel_rfl)) (fun _ _ _ h=>h) (Or.inl ⟨by rfl,?_⟩) hHeld ?_ ?_
     rotate_left
     · rintro w' ⟨s0,s1⟩
       go_simp
       with_reducible rfl
     rotate_left
     · simp only [Act.put,List.setIfInBounds_toArray,List.set_cons_zero,List.set_cons_succ,zD,zI]
       rfl
     refine one_ (i:=6) (N:=some 42) #[true,true,true,true,true,true,true,false,false,false,false] rfl rfl (z1t HT_.out (by kernel_rfl)) (by decide) (fun K hK=>?_)
     refine goes_ Try.func77 (by kernel_rfl) rfl #[.agg #[.int .u64 ((zx l2 x25_1).f0),.int .u64 ((zx l2 x25_1).f1)],.int .i64 ji19] (by rfl) rfl rfl (by (try simp only [List.map_toArray,List.map_cons,List.map_nil]);first|done|(simp only [hji19];rfl)|rfl|(simp only [List.length_drop,List.length_take];rfl)) ?_
     with_reducible refine (z1d.calls ((zx l2 x25_1).f0) ((zx l2 x25_1).f1) ji19 t105 t106 _ A20.out).mono ?_
     rintro e w24 ⟨rfl,hb⟩
     refine ⟨_,rfl,?_⟩
     have n0_:=z3.mk (Kd.zG (by (with_reducible repeat (first|apply Kd.zr|apply Kd.zs|apply Kd.zy));exact HO_9.out) hb)
     have n1_:=z3.mk (zn (g:=gb104) (o:=.cells #[.int .u64 ((zx l2 x25_1).f0),.int .u64 ((zx l2 x25_1).f1)] 51 (0,0)) (by (with_reducible repeat (first|refine z5 ?_ _|refine z8 ?_|refine z4 ?_ _));exact BK104.out) hb)
     have n2_:=z3.mk (zb (by repeat (first|(with_reducible first|exact HB.out|apply z2|apply z0|apply z1|refine z6 ?_ GE104.out)|exact HB.out)) hb)
     clear HO_9
     clear BK104
     clear HB
     have HO_9:=n0_
     have BK104:=n1_
     have HB:=n2_
     clear n0_ n1_ n2_
     (try clear hb)
     (try clear hb2)
     (try clear hk)
     (try clear hi)
     refine hK.out _ _ ⟨(ze BK104.out 0).trans rfl,(ze BK104.out 1).trans rfl⟩ (fun hHeld=>?_)
     clear hK K
     refine norm_ (a':=?_) ?_ ?_
     rotate_left
     · show Act.put _ (some 42) _ = _
       simp only [Act.put,List.setIfInBounds_toArray,List.set_cons_zero,List.set_cons_succ,zD,zI]
       rfl
     refine one_ (i:=7) (N:=some 43) #[true,true,true,true,true,true,true,true,false,false,false] rfl rfl (z1t HT_.out (by kernel_rfl)) (by decide) (fun K hK=>?_)
     refine goes_ Try.func76 (by kernel_rfl) rfl #[.int .i64 a0,.agg #[.int .u64 t105,.int .u64 t106]] (by rfl) rfl rfl (by (try simp only [List.map_toArray,List.map_cons,List.map_nil]);first|done|rfl|(simp only [List.length_drop,List.length_take];rfl)) ?_
     with_reducible refine (z1g.calls a0 t105 t106 t107 t108 _ A21.out).mono ?_
     rintro e w25 ⟨rfl,hb⟩
     refine ⟨_,rfl,?_⟩
     have n0_:=z3.mk (Kd.zG (by (with_reducible repeat (first|apply Kd.zr|apply Kd.zs|apply Kd.zy));exact HO_9.out) hb)
     have n1_:=z3.mk (zn (g:=gb104) (o:=.cells #[.int .u64 ((zx l2 x25_1).f0),.int .u64 ((zx l2 x25_1).f1)] 51 (0,0)) (by (with_reducible repeat (first|refine z5 ?_ _|refine z8 ?_|refine z4 ?_ _));exact BK104.out) hb)
     have n2_:=z3.mk (zb (by repeat (first|(with_reducible first|exact HB.out|apply z2|apply z0|apply z1|refine z6 ?_ GE104.out)|exact HB.out)) hb)
     clear HO_9
     clear BK104
     clear HB
     have HO_9:=n0_
     have BK104:=n1_
     have HB:=n2_
     clear n0_ n1_ n2_
     (try clear hb)
     (try clear hb2)
     (try clear hk)
     (try clear hi)
     refine hK.out _ _ ⟨(ze BK104.out 0).trans rfl,(ze BK104.out 1).trans rfl⟩ (fun hHeld=>?_)
     clear hK K
     refine norm_ (a':=?_) ?_ ?_
     rotate_left
     · show Act.put _ (some 43) _ = _
       simp only [Act.put,List.setIfInBounds_toArray,List.set_cons_zero,List.set_cons_succ,zD,zI]
       rfl
     refine one_ (i:=8) (N:=some 44) #[true,true,true,true,true,true,true,true,true,false,false] rfl rfl (z1t HT_.out (by kernel_rfl)) (by decide) (fun K hK=>?_)
     refine value_ (w1:=?_) (v:=?_) (by rfl) rfl ?_ ?_
     rotate_left 2
     · go_simp
       constructor
       · rfl
       · rfl
     refine hK.out _ _ ⟨(ze (z4 BK104.out _) 0).trans rfl,(ze (z4 BK104.out _) 1).trans rfl⟩ (fun hHeld=>?_)
     clear hK K
     refine norm_ (a':=?_) ?_ ?_
     rotate_left
     · show Act.put _ (some 44) _ = _
       simp only [Act.put,List.setIfInBounds_toArray,List.set_cons_zero,List.set_cons_succ,zD,zI]
       rfl
     refine one_ (i:=9) (N:=some 45) #[true,true,true,true,true,true,true,true,true,true,false] rfl rfl (z1t HT_.out (by kernel_rfl)) (by decide) (fun K hK=>?_)
     refine Kd.z3C k51 (w0:=w) w.heap.size (by rfl) (.tmp 36) (.tmp 44) 37 51 (.agg #[(.int .u64 0),(.int .u64 0)]) 16 rfl Try.underlying37 info51 rfl (by decide) (by omega) u9 x9_2 (⟨t107,t108⟩ : S51) [.int .u64 t107,.int .u64 t108] (fun k_=>k_ ≠ gb104) (fun _=>False) rfl rfl ?aP (fun _ hk=>hk.elim) ?aF ?aO ?aB ?aS ?aL ?_
     (case aP=>exact z1j _ _ _ (⟨t107,t108⟩ : S51))
     (case aB=>exact (by repeat (first|(with_reducible first|exact HB.out|apply z2|apply z0|apply z1|refine z6 ?_ GE104.out)|exact HB.out)))
     (case aF=>exact (fun k_ hk=>Kd.freshB (g:=gb104) (o:=.cells #[.int .u64 ((zx l2 x25_1).f0),.int .u64 ((zx l2 x25_1).f1)] 51 (0,0)) (by (with_reducible repeat (first|refine z5 ?_ _|refine z8 ?_|refine z4 ?_ _));exact BK104.out) k_ hk))
     (case aO=>exact (by (with_reducible repeat (first|apply Kd.zr|apply Kd.zs|apply Kd.zy));exact HO_9.out))
     (case aS=>exact (zc (by repeat (first|(with_reducible first|exact HB.out|apply z2|apply z0|apply z1|refine z6 ?_ GE104.out)|exact HB.out))))
     (case aL=>have:=LMc22.out;omega)
     intro v110 w26 ho hb hg hat
     rw [← Ny109.out] at ho
     have n0_:=z3.mk (z2y (g:=gb104) (o:=.cells #[.int .u64 ((zx l2 x25_1).f0),.int .u64 ((zx l2 x25_1).f1)] 51 (0,0)) (by (with_reducible repeat (first|refine z5 ?_ _|refine z8 ?_|refine z4 ?_ _));exact BK104.out) hg (Kd.z4q HO_9.out (fun _ hk=>hk)))
     have n1_:=z3.mk (hb)
     have n2_:=z3.mk (ho)
     clear BK104
     clear HB
     clear HO_9
     have BK104:=n0_
     have HB:=n1_
     have HO111:=n2_
     clear n0_ n1_ n2_
     clear ho hb hg hat
     refine hK.out _ _ ⟨(ze BK104.out 0).trans rfl,(ze BK104.out 1).trans rfl⟩ (fun hHeld=>?_)
     clear hK K
     refine norm_ (a':=?_) ?_ ?_
     rotate_left
     · show Act.put _ (some 45) _ = _
       simp only [Act.put,List.setIfInBounds_toArray,List.set_cons_zero,List.set_cons_succ,zD,zI]
       rfl
     refine pure_ (i:=10) (N:=some 9) (v:=?_) (a':=?_) #[true,true,true,true,true,true,true,true,true,true,true] rfl rfl (zK HT_.out (by kernel_rfl)) (fun _ _ _ h=>h) (Or.inl ⟨by rfl,?_⟩) ?_ ?_
     rotate_left
     · intro w'
       go_simp
       with_reducible rfl
     rotate_left
     · simp only [Act.put,List.setIfInBounds_toArray,List.set_cons_zero,List.set_cons_succ,zD,zI]
       rfl
     refine done_ (z1Z HT_.out (by kernel_rfl)) ?_
     try go_wp2
     go_roundg k2
     case measure=>have:=HK1.out;have:=HK2.out;omega
     case rel=>exact ⟨(y109),(wrap64 (x33_2 + 1)),(by first|rfl|(simp;done)|(simp [*];done)),H',⟨by have:=HK1.out;have:=HK2.out;omega⟩,⟨by (with_reducible repeat (first|apply Kd.zr|apply Kd.zs|apply Kd.zy));exact HO111.out⟩,⟨by (with_reducible repeat (first|refine z5 ?_ _|refine z8 ?_|refine z4 ?_ _));exact BK104.out⟩,⟨by repeat (first|(with_reducible first|exact HB.out|apply z2|apply z0|apply z1|refine z6 ?_ GE104.out)|exact HB.out)⟩⟩
end Go.Proofs.Ytngcaphdkgihmaa.P
namespace Go.Proofs.Ytngcaphdkgihmaa.P
open Go.RowKit Go.Proofs.YtngcaphdkgihmaaW.PrintWords Go.Proofs.YtngcaphdkgihmaaW.PrintLast Go.Proofs.YtngcaphdkgihmaaW.PrintMore
attribute [local go_sem] zW zY z15 z16 zQ zR zX zZ   -- for this text's walks alone
set_option linter.unusedVariables false
set_option linter.unusedSimpArgs false
mutual
def z9.j0 : Nat → Int → Int → List (S61) → List (S61) → Bool → Option ((List (S61)) × Int)
 | 0,_,_,_,_,_=>none
 | k + 1,x0,x1,x2,x8,x23=>if x23 = true then (some (([] : List (S61)),1)) else ((zo.f k x1 x2).bind fun t101=>(if t101 = true then (z9.l0 k x0 x1 x2 x8 0) else (some (([] : List (S61)),5))))
def z9.l0 : Nat → Int → Int → List (S61) → List (S61) → Int → Option ((List (S61)) × Int)
 | 0,_,_,_,_,_=>none
 | k + 1,x0,x1,x2,x8,x9=>if x9 < (x2.length : Int) then (z9.l1 k x0 x1 x2 x8 x9 0) else (some (x8,0))
def z9.l1 : Nat → Int → Int → List (S61) → List (S61) → Int → Int → Option ((List (S61)) × Int)
 | 0,_,_,_,_,_,_=>none
 | k + 1,x0,x1,x2,x8,x9,x10=>(zt.f x1).bind fun t102=>(if x10 < t102 then (z9.l2 k x0 x1 x2 x8 x9 x10 0 0 0) else (z9.l0 k x0 x1 x2 x8 (wrap64 (x9 + 1))))
def z9.l2 : Nat → Int → Int → List (S61) → List (S61) → Int → Int → Int → Int → Int → Option ((List (S61)) × Int)
 | 0,_,_,_,_,_,_,_,_,_=>none
 | k + 1,x0,x1,x2,x8,x9,x10,x12,x104000,x104001=>(zt.f x0).bind fun t104=>(if x12 < t104 then (if 0 ≤ x9 then (if x9 < (x2.length : Int) then ((zv.f k ((z12 x2 x9).f0) ((z12 x2 x9).f1) (wrap64 (x10 + x12))).bind fun t110=>(if t110 = true then ((zj.f k x12).bind fun bt111=>((zJ.f x104000 x104001 bt111.1 bt111.2).bind fun bt113=>(z9.l2 k x0 x1 x2 x8 x9 x10 (wrap64 (x12 + 1)) bt113.1 bt113.2))) else (z9.l2 k x0 x1 x2 x8 x9 x10 (wrap64 (x12 + 1)) x104000 x104001))) else (none)) else (none)) else (if x8.length < 8796093022208 then ((zt.f x0).bind fun t108=>(z9.l1 k x0 x1 x2 (x8 ++ [(⟨x104000,x104001⟩ : S61)]) x9 (wrap64 (x10 + t108)))) else (none)))
end
def z9.f (k : Nat) (a0 : Int) (a1 : Int) (l2 : List (S61)) : Option ((List (S61)) × Int):=if a0 < 0 then (z9.j0 k a0 a1 l2 ([] : List (S61)) true) else (if a1 > 7 then (z9.j0 k a0 a1 l2 ([] : List (S61)) true) else (z9.j0 k a0 a1 l2 ([] : List (S61)) (decide (a1 < a0))))
theorem z9.z13 : ∀ k,(∀ y0 y1 y2 y3 y4,LeO (z9.j0 k y0 y1 y2 y3 y4) (z9.j0 (k + 1) y0 y1 y2 y3 y4)) ∧ (∀ y0 y1 y2 y3 y4,LeO (z9.l0 k y0 y1 y2 y3 y4) (z9.l0 (k + 1) y0 y1 y2 y3 y4)) ∧ (∀ y0 y1 y2 y3 y4 y5,LeO (z9.l1 k y0 y1 y2 y3 y4 y5) (z9.l1 (k + 1) y0 y1 y2 y3 y4 y5)) ∧ (∀ y0 y1 y2 y3 y4 y5 y6 y7 y8,LeO (z9.l2 k y0 y1 y2 y3 y4 y5 y6 y7 y8) (z9.l2 (k + 1) y0 y1 y2 y3 y4 y5 y6 y7 y8))
 | 0=>⟨fun _ _ _ _ _ r h=>by simp [z9.j0] at h,fun _ _ _ _ _ r h=>by simp [z9.l0] at h,fun _ _ _ _ _ _ r h=>by simp [z9.l1] at h,fun _ _ _ _ _ _ _ _ _ r h=>by simp [z9.l2] at h⟩
 | k + 1=>by
  obtain ⟨ih0,ih1,ih2,ih3⟩:=z9.z13 k
  refine ⟨?_,?_,?_,?_⟩
  · intro y0 y1 y2 y3 y4
    unfold z9.j0
    repeat' first
    | (with_reducible exact ih0 _ _ _ _ _)
    | (with_reducible exact ih1 _ _ _ _ _)
    | (with_reducible exact ih2 _ _ _ _ _ _)
    | (with_reducible exact ih3 _ _ _ _ _ _ _ _ _)
    | (with_reducible exact zj.mono _ _)
    | (with_reducible exact zv.mono _ _ _ _)
    | (with_reducible exact zo.mono _ _ _)
    | (with_reducible exact LeO.refl _)
    | (with_reducible exact LeO.none _)
    | (with_reducible refine LeO.ite ?_ ?_)
    | (with_reducible refine LeO.bind ?_ (fun _=>?_))
    | exact ih0 _ _ _ _ _
    | exact ih1 _ _ _ _ _
    | exact ih2 _ _ _ _ _ _
    | exact ih3 _ _ _ _ _ _ _ _ _
    | exact zj.mono _ _
    | exact zv.mono _ _ _ _
    | exact zo.mono _ _ _
    | exact LeO.none _
    | refine LeO.ite ?_ ?_
    | refine LeO.bind ?_ (fun _=>?_)
  · intro y0 y1 y2 y3 y4
    unfold z9.l0
    repeat' first
    | (with_reducible exact ih0 _ _ _ _ _)
    | (with_reducible exact ih1 _ _ _ _ _)
    | (with_reducible exact ih2 _ _ _ _ _ _)
    | (with_reducible exact ih3 _ _ _ _ _ _ _ _ _)
    | (with_reducible exact zj.mono _ _)
    | (with_reducible exact zv.mono _ _ _ _)
    | (with_reducible exact zo.mono _ _ _)
    | (with_reducible exact LeO.refl _)
    | (with_reducible exact LeO.none _)
    | (with_reducible refine LeO.ite ?_ ?_)
    | (with_reducible refine LeO.bind ?_ (fun _=>?_))
    | exact ih0 _ _ _ _ _
    | exact ih1 _ _ _ _ _
    | exact ih2 _ _ _ _ _ _
    | exact ih3 _ _ _ _ _ _ _ _ _
    | exact zj.mono _ _
    | exact zv.mono _ _ _ _
    | exact zo.mono _ _ _
    | exact LeO.none _
    | refine LeO.ite ?_ ?_
    | refine LeO.bind ?_ (fun _=>?_)
  · intro y0 y1 y2 y3 y4 y5
    unfold z9.l1
    repeat' first
    | (with_reducible exact ih0 _ _ _ _ _)
    | (with_reducible exact ih1 _ _ _ _ _)
    | (with_reducible exact ih2 _ _ _ _ _ _)
    | (with_reducible exact ih3 _ _ _ _ _ _ _ _ _)
    | (with_reducible exact zj.mono _ _)
    | (with_reducible exact zv.mono _ _ _ _)
    | (with_reducible exact zo.mono _ _ _)
    | (with_reducible exact LeO.refl _)
    | (with_reducible exact LeO.none _)
    | (with_reducible refine LeO.ite ?_ ?_)
    | (with_reducible refine LeO.bind ?_ (fun _=>?_))
    | exact ih0 _ _ _ _ _
    | exact ih1 _ _ _ _ _
    | exact ih2 _ _ _ _ _ _
    | exact ih3 _ _ _ _ _ _ _ _ _
    | exact zj.mono _ _
    | exact zv.mono _ _ _ _
    | exact zo.mono _ _ _
    | exact LeO.none _
    | refine LeO.ite ?_ ?_
    | refine LeO.bind ?_ (fun _=>?_)
  · intro y0 y1 y2 y3 y4 y5 y6 y7 y8
    unfold z9.l2
    repeat' first
    | (with_reducible exact ih0 _ _ _ _ _)
    | (with_reducible exact ih1 _ _ _ _ _)
    | (with_reducible exact ih2 _ _ _ _ _ _)
    | (with_reducible exact ih3 _ _ _ _ _ _ _ _ _)
    | (with_reducible exact zj.mono _ _)
    | (with_reducible exact zv.mono _ _ _ _)
    | (with_reducible exact zo.mono _ _ _)
    | (with_reducible exact LeO.refl _)
    | (with_reducible exact LeO.none _)
    | (with_reducible refine LeO.ite ?_ ?_)
    | (with_reducible refine LeO.bind ?_ (fun _=>?_))
    | exact ih0 _ _ _ _ _
    | exact ih1 _ _ _ _ _
    | exact ih2 _ _ _ _ _ _
    | exact ih3 _ _ _ _ _ _ _ _ _
    | exact zj.mono _ _
    | exact zv.mono _ _ _ _
    | exact zo.mono _ _ _
    | exact LeO.none _
    | refine LeO.ite ?_ ?_
    | refine LeO.bind ?_ (fun _=>?_)
theorem z9.mono : ∀ a0 a1 a2 k,LeO (z9.f k a0 a1 a2) (z9.f (k + 1) a0 a1 a2):=by
 intro a0 a1 a2 k
 obtain ⟨ih0,ih1,ih2,ih3⟩:=z9.z13 k
 unfold z9.f
 repeat' first
  | (with_reducible exact ih0 _ _ _ _ _)
  | (with_reducible exact ih1 _ _ _ _ _)
  | (with_reducible exact ih2 _ _ _ _ _ _)
  | (with_reducible exact ih3 _ _ _ _ _ _ _ _ _)
  | (with_reducible exact zj.mono _ _)
  | (with_reducible exact zv.mono _ _ _ _)
  | (with_reducible exact zo.mono _ _ _)
  | (with_reducible exact LeO.refl _)
  | (with_reducible exact LeO.none _)
  | (with_reducible refine LeO.ite ?_ ?_)
  | (with_reducible refine LeO.bind ?_ (fun _=>?_))
  | exact ih0 _ _ _ _ _
  | exact ih1 _ _ _ _ _
  | exact ih2 _ _ _ _ _ _
  | exact ih3 _ _ _ _ _ _ _ _ _
  | exact zj.mono _ _
  | exact zv.mono _ _ _ _
  | exact zo.mono _ _ _
  | exact LeO.none _
  | refine LeO.ite ?_ ?_
  | refine LeO.bind ?_ (fun _=>?_)
set_option maxHeartbeats 8000000 in
set_option maxRecDepth 100000 in
theorem z9.calls (k : Nat) (a0 : Int) (a1 : Int) (A2 : Option Addr) (c2 : Nat) (l2 : List (S61)) (r1 : List (S61)) (r2 : Int) (w : World) (hr2 : Kd.C k61 w A2 l2.length l2) (hc2 : l2.length ≤ c2) (h : z9.f k a0 a1 l2 = some (r1,r2)) :
 Calls Try.prog 33 #[.int .i64 a0,.int .i64 a1,.slice A2 l2.length c2] w fun e w'=>∃ v0_ : Value,e = .returned (.tuple #[v0_,.int .i64 r2]) ∧ Kd.R k61 61 w' w.heap.size (fun _=>True) v0_ r1 ∧ Below w.heap.size w w':=by
 have hu61:=Try.underlying61
 have HR2:=z3.mk hr2
 have HC2:=z3.mk hc2
 clear hr2 hc2
 have HB:=z3.mk (Below.refl w.heap.size w)
 have H : (if a0 < 0 then (z9.j0 k a0 a1 l2 ([] : List (S61)) true) else (if a1 > 7 then (z9.j0 k a0 a1 l2 ([] : List (S61)) true) else (z9.j0 k a0 a1 l2 ([] : List (S61)) (decide (a1 < a0))))) = some (r1,r2):=h
 clear h
 have HC4:=z3.mk H
 clear H
 go_enter Try.func33,Try.ntmps33
 go_upto_region 2 with (fail)
 go_cut [23] (fun v23 wc=>∃ (kq : Nat) (x23_3 : Bool),v23 = .bool x23_3 ∧ z3 (z9.j0 kq a0 a1 l2 ([] : List (S61)) x23_3 = some (r1,r2)) ∧ z3 (kq ≤ k) ∧ z3 (Kd.R k61 61 wc w.heap.size (fun _=>True) (.slice none 0 0) ([] : List (S61))) ∧ z3 (Below w.heap.size w wc))
 case first =>
  have H:=HC4.out
  clear HC4
  by_cases c5 : a0 < 0
  · rw [if_pos c5] at H
    have c5b0 : decide (a0 < 0) = true:=decide_eq_true c5
    clear c5
    (first|rw [c5b0]|(simp only [zD,zI];rw [c5b0])|skip)
    have H':=z3.mk H
    clear H
    go_wp2
    go_meet
    case rel=>exact ⟨_,(true),(by first|rfl|(simp;done)|(simp [*];done)),H',⟨by first|omega|exact Nat.le_refl _⟩,⟨by first|exact Kd.z1L _ _ _ _ _|exact Kd.z1S _ _ _ _ _|exact Kd.z1V _ _ _ _ _|exact Kd.z1T _ _ _ _ _|exact Kd.z1U _ _ _ _ _⟩,⟨by repeat (first|(with_reducible first|exact HB.out|apply z2|apply z0|apply z1)|exact HB.out)⟩⟩
  rw [if_neg c5] at H
  have c5b0 : decide (a0 < 0) = false:=decide_eq_false c5
  clear c5
  (first|rw [c5b0]|(simp only [zD,zI];rw [c5b0])|skip)
  by_cases c6 : a1 > 7
  rotate_left
  · rw [if_neg c6] at H
    have c6b0 : decide (7 < a1) = false:=decide_eq_false c6
    clear c6
    have H':=z3.mk H
    clear H
    go_wp2
    go_meet
    case rel=>exact ⟨_,(decide (a1 < a0)),(by first|rfl|(simp;done)|(simp [*];done)),H',⟨by first|omega|exact Nat.le_refl _⟩,⟨by first|exact Kd.z1L _ _ _ _ _|exact Kd.z1S _ _ _ _ _|exact Kd.z1V _ _ _ _ _|exact Kd.z1T _ _ _ _ _|exact Kd.z1U _ _ _ _ _⟩,⟨by repeat (first|(with_reducible first|exact HB.out|apply z2|apply z0|apply z1)|exact HB.out)⟩⟩
  rw [if_pos c6] at H
  have c6b0 : decide (7 < a1) = true:=decide_eq_true c6
  clear c6
  have H':=z3.mk H
  clear H
  go_wp2
  go_meet
  case rel=>exact ⟨_,(true),(by first|rfl|(simp;done)|(simp [*];done)),H',⟨by first|omega|exact Nat.le_refl _⟩,⟨by first|exact Kd.z1L _ _ _ _ _|exact Kd.z1S _ _ _ _ _|exact Kd.z1V _ _ _ _ _|exact Kd.z1T _ _ _ _ _|exact Kd.z1U _ _ _ _ _⟩,⟨by repeat (first|(with_reducible first|exact HB.out|apply z2|apply z0|apply z1)|exact HB.out)⟩⟩
 case rest =>
  clear HC4
  (try clear c2);(try clear p2);(try clear c3);(try clear c5);(try clear c5b0);(try clear c6);(try clear c6b0)
  obtain ⟨kq,x23_3,rfl,HA,HJ3,HO_8,HB⟩:=hcut
  cases kq with
  | zero=>exact absurd HA.out (by simp [z9.j0])
  | succ kj3 =>
   have H:=HA.out
   clear HA
   simp only [z9.j0] at H
   by_cases c7 : x23_3 = true
   · subst c7
     have H1 : (some (([] : List (S61)),1)) = some (r1,r2):=by rw [if_pos rfl] at H;exact H
     clear H
     have H:=H1
     clear H1
     simp only [Option.some.injEq,Prod.mk.injEq] at H
     obtain ⟨rfl,rfl⟩:=H
     go_wp2
     go_ret2
     exact ⟨_,by first|rfl|(simp [zg,zh] <;> rfl)|(simp [*,zg,zh] <;> rfl),by first|exact Kd.z1L _ _ _ _ _|exact Kd.z1S _ _ _ _ _|exact Kd.z1V _ _ _ _ _|exact Kd.z1T _ _ _ _ _|exact Kd.z1U _ _ _ _ _,by repeat (first|(with_reducible first|exact HB.out|apply z2|apply z0|apply z1)|exact HB.out)⟩
   replace c7:=Bool.eq_false_iff.mpr c7
   subst c7
   have H1 : ((zo.f kj3 a1 l2).bind fun t101=>(if t101 = true then (z9.l0 kj3 a0 a1 l2 ([] : List (S61)) 0) else (some (([] : List (S61)),5)))) = some (r1,r2):=by rw [if_neg (show ¬ (false = true) by decide)] at H;exact H
   clear H
   have H:=H1
   clear H1
   replace H:=Option.bind_eq_some_iff.mp H
   obtain ⟨t101,A80,H⟩:=H
   replace H : (if t101 = true then (z9.l0 kj3 a0 a1 l2 ([] : List (S61)) 0) else (some (([] : List (S61)),5))) = some (r1,r2):=H
   have A8:=z3.mk A80
   clear A80
   by_cases c9 : t101 = true
   rotate_left
   · replace c9:=Bool.eq_false_iff.mpr c9
     subst c9
     have H1 : (some (([] : List (S61)),5)) = some (r1,r2):=by rw [if_neg (show ¬ (false = true) by decide)] at H;exact H
     clear H
     have H:=H1
     clear H1
     simp only [Option.some.injEq,Prod.mk.injEq] at H
     obtain ⟨rfl,rfl⟩:=H
     go_wp2_with (first|((with_reducible refine zl (f:=46) rfl ?_);refine goesL_ (some 26) rfl rfl Try.func46 (by kernel_rfl) rfl #[.int .i64 a1,.slice A2 l2.length c2] rfl (by (try simp only [List.map_toArray,List.map_cons,List.map_nil]);first|done|rfl|(simp only [List.length_drop,List.length_take];rfl)) ?_;(with_reducible refine (zo.calls kj3 a1 _ _ l2 false _ ?side1 ?side2 A8.out).mono ?_);(case side1=>repeat (first|exact (Kd.z1y HR2.out HB.out)|(with_reducible refine Kd.zS ?_ _)|(with_reducible refine Kd.zT ?_ _)|(with_reducible refine Kd.z14 ?_)));(case side2=>exact HC2.out);rintro e w40 ⟨rfl,hb⟩;refine ⟨_,rfl,?_⟩;have n0_:=z3.mk (Kd.zG (by (with_reducible repeat (first|apply Kd.zr|apply Kd.zs|apply Kd.zy));exact HO_8.out) hb);have n1_:=z3.mk (zb (by repeat (first|(with_reducible first|exact HB.out|apply z2|apply z0|apply z1)|exact HB.out)) hb);clear HO_8;clear HB;have HO_8:=n0_;have HB:=n1_;clear n0_ n1_;(try clear hb);(try clear hb2);(try clear hk);(try clear hi)))
     go_ret2
     exact ⟨_,by first|rfl|(simp [zg,zh] <;> rfl)|(simp [*,zg,zh] <;> rfl),by first|exact Kd.z1L _ _ _ _ _|exact Kd.z1S _ _ _ _ _|exact Kd.z1V _ _ _ _ _|exact Kd.z1T _ _ _ _ _|exact Kd.z1U _ _ _ _ _,by repeat (first|(with_reducible first|exact HB.out|apply z2|apply z0|apply z1)|exact HB.out)⟩
   subst c9
   have H1 : (z9.l0 kj3 a0 a1 l2 ([] : List (S61)) 0) = some (r1,r2):=by rw [if_pos rfl] at H;exact H
   clear H
   have H:=H1
   clear H1
   have H':=z3.mk H
   clear H
   go_wp2_with (first|((with_reducible refine zl (f:=46) rfl ?_);refine goesL_ (some 26) rfl rfl Try.func46 (by kernel_rfl) rfl #[.int .i64 a1,.slice A2 l2.length c2] rfl (by (try simp only [List.map_toArray,List.map_cons,List.map_nil]);first|done|rfl|(simp only [List.length_drop,List.length_take];rfl)) ?_;(with_reducible refine (zo.calls kj3 a1 _ _ l2 true _ ?side1 ?side2 A8.out).mono ?_);(case side1=>repeat (first|exact (Kd.z1y HR2.out HB.out)|(with_reducible refine Kd.zS ?_ _)|(with_reducible refine Kd.zT ?_ _)|(with_reducible refine Kd.z14 ?_)));(case side2=>exact HC2.out);rintro e w10 ⟨rfl,hb⟩;refine ⟨_,rfl,?_⟩;have n0_:=z3.mk (Kd.zG (by (with_reducible repeat (first|apply Kd.zr|apply Kd.zs|apply Kd.zy));exact HO_8.out) hb);have n1_:=z3.mk (zb (by repeat (first|(with_reducible first|exact HB.out|apply z2|apply z0|apply z1)|exact HB.out)) hb);clear HO_8;clear HB;have HO_8:=n0_;have HB:=n1_;clear n0_ n1_;(try clear hb);(try clear hb2);(try clear hk);(try clear hi)))
   go_loopg [8,9] kj3 (fun kq v8 v9 w'=>∃ (x8_2 : List (S61)) (x9_2 : Int),v9 = .int .i64 x9_2 ∧ z3 (z9.l0 kq a0 a1 l2 x8_2 x9_2 = some (r1,r2)) ∧ z3 (kq ≤ kj3) ∧ z3 (Kd.R k61 61 w' w.heap.size (fun _=>True) v8 x8_2) ∧ z3 (Below w.heap.size w w'))
   case atStart=>exact ⟨(([] : List (S61))),(0),(by first|rfl|(simp;done)|(simp [*];done)),H',⟨Nat.le_refl _⟩,⟨by (with_reducible repeat (first|apply Kd.zr|apply Kd.zs|apply Kd.zy));exact HO_8.out⟩,⟨by repeat (first|(with_reducible first|exact HB.out|apply z2|apply z0|apply z1)|exact HB.out)⟩⟩
   case round =>
    clear H'
    (try clear c2);(try clear p2);(try clear c3);(try clear c4);(try clear c5);(try clear c5b0);(try clear c6);(try clear c6b0);(try clear c7);(try clear c9);(try clear p2)
    obtain ⟨x8_2,x9_2,rfl,HA,HK2,HO_8,HB⟩:=hrel
    cases gk with
    | zero=>exact absurd HA.out (by simp [z9.l0])
    | succ k2 =>
     have H:=HA.out
     clear HA
     simp only [z9.l0] at H
     by_cases c11 : x9_2 < (l2.length : Int)
     rotate_left
     · rw [if_neg c11] at H
       have c11b0 : decide (x9_2 < (l2.length : Int)) = false:=decide_eq_false c11
       clear c11
       simp only [Option.some.injEq,Prod.mk.injEq] at H
       obtain ⟨rfl,rfl⟩:=H
       go_wp2
       go_ret2
       exact ⟨_,by first|rfl|(simp [zg,zh] <;> rfl)|(simp [*,zg,zh] <;> rfl),by (with_reducible repeat (first|apply Kd.zr|apply Kd.zs|apply Kd.zy));exact HO_8.out,by repeat (first|(with_reducible first|exact HB.out|apply z2|apply z0|apply z1)|exact HB.out)⟩
     rw [if_pos c11] at H
     have c11b0 : decide (x9_2 < (l2.length : Int)) = true:=decide_eq_true c11
     clear c11
     have H':=z3.mk H
     clear H
     go_wp2
     go_loopg [8,10] k2 (fun kq v8 v10 w'=>∃ (x8_3 : List (S61)) (x10_3 : Int),v10 = .int .i64 x10_3 ∧ z3 (z9.l1 kq a0 a1 l2 x8_3 x9_2 x10_3 = some (r1,r2)) ∧ z3 (kq ≤ k2) ∧ z3 (Kd.R k61 61 w' w.heap.size (fun _=>True) v8 x8_3) ∧ z3 (Below w.heap.size w w'))
     case atStart=>exact ⟨(x8_2),(0),(by first|rfl|(simp;done)|(simp [*];done)),H',⟨Nat.le_refl _⟩,⟨by (with_reducible repeat (first|apply Kd.zr|apply Kd.zs|apply Kd.zy));exact HO_8.out⟩,⟨by repeat (first|(with_reducible first|exact HB.out|apply z2|apply z0|apply z1)|exact HB.out)⟩⟩
     case round =>
      clear H'
      (try clear c1);(try clear c2);(try clear p2);(try clear c3);(try clear c4);(try clear c5);(try clear c5b0);(try clear c6);(try clear c6b0);(try clear c7);(try clear c9);(try clear c11);(try clear c11b0);(try clear p2)
      obtain ⟨x8_3,x10_3,rfl,HA,HK3,HO_8,HB⟩:=hrel
      cases gk with
      | zero=>exact absurd HA.out (by simp [z9.l1])
      | succ k3 =>
       have H:=HA.out
       clear HA
       simp only [z9.l1] at H
       replace H:=Option.bind_eq_some_iff.mp H
       obtain ⟨t102,A120,H⟩:=H
       replace H : (if x10_3 < t102 then (z9.l2 k3 a0 a1 l2 x8_3 x9_2 x10_3 0 0 0) else (z9.l0 k3 a0 a1 l2 x8_3 (wrap64 (x9_2 + 1)))) = some (r1,r2):=H
       have A12:=z3.mk A120
       clear A120
       by_cases c13 : x10_3 < t102
       rotate_left
       · rw [if_neg c13] at H
         have c13b0 : decide (x10_3 < t102) = false:=decide_eq_false c13
         clear c13
         have H':=z3.mk H
         clear H
         go_wp2_with (first|((with_reducible refine zl (f:=72) rfl ?_);refine goesL_ (some 36) rfl rfl Try.func72 (by kernel_rfl) rfl #[.int .i64 a1] rfl (by (try simp only [List.map_toArray,List.map_cons,List.map_nil]);first|done|rfl|(simp only [List.length_drop,List.length_take];rfl)) ?_;(with_reducible refine (zt.calls a1 t102 _ A12.out).mono ?_);rintro e w39 ⟨rfl,hb⟩;refine ⟨_,rfl,?_⟩;have n0_:=z3.mk (Kd.zG (by (with_reducible repeat (first|apply Kd.zr|apply Kd.zs|apply Kd.zy));exact HO_8.out) hb);have n1_:=z3.mk (zb (by repeat (first|(with_reducible first|exact HB.out|apply z2|apply z0|apply z1)|exact HB.out)) hb);clear HO_8;clear HB;have HO_8:=n0_;have HB:=n1_;clear n0_ n1_;(try clear hb);(try clear hb2);(try clear hk);(try clear hi)))
         go_roundg k3
         case measure=>have:=HJ3.out;have:=HK2.out;have:=HK3.out;omega
         case rel=>exact ⟨(x8_3),(wrap64 (x9_2 + 1)),(by first|rfl|(simp;done)|(simp [*];done)),H',⟨by have:=HJ3.out;have:=HK2.out;have:=HK3.out;omega⟩,⟨by (with_reducible repeat (first|apply Kd.zr|apply Kd.zs|apply Kd.zy));exact HO_8.out⟩,⟨by repeat (first|(with_reducible first|exact HB.out|apply z2|apply z0|apply z1)|exact HB.out)⟩⟩
       rw [if_pos c13] at H
       have c13b0 : decide (x10_3 < t102) = true:=decide_eq_true c13
       clear c13
       have H':=z3.mk H
       clear H
       go_wp2_with (first|((with_reducible refine zl (f:=72) rfl ?_);refine goesL_ (some 36) rfl rfl Try.func72 (by kernel_rfl) rfl #[.int .i64 a1] rfl (by (try simp only [List.map_toArray,List.map_cons,List.map_nil]);first|done|rfl|(simp only [List.length_drop,List.length_take];rfl)) ?_;(with_reducible refine (zt.calls a1 t102 _ A12.out).mono ?_);rintro e w14 ⟨rfl,hb⟩;refine ⟨_,rfl,?_⟩;have n0_:=z3.mk (Kd.zG (by (with_reducible repeat (first|apply Kd.zr|apply Kd.zs|apply Kd.zy));exact HO_8.out) hb);have n1_:=z3.mk (zb (by repeat (first|(with_reducible first|exact HB.out|apply z2|apply z0|apply z1)|exact HB.out)) hb);clear HO_8;clear HB;have HO_8:=n0_;have HB:=n1_;clear n0_ n1_;(try clear hb);(try clear hb2);(try clear hk);(try clear hi))|((with_reducible refine zE (N:=11) rfl ?_);refine zC ?hg (N:=11) ?hd (cs:=#[.int .u64 0,.int .u64 0]) (t:=61) ?hr ?_;(case hd=>rfl);(case hg=>rfl);(case hr=>first|(go_simp;done)|(go_simp;rfl));intro gb103 hg w15 hbox hb;have n0_:=z3.mk (Kd.zG (Kd.z2x (by (with_reducible repeat (first|apply Kd.zr|apply Kd.zs|apply Kd.zy));exact HO_8.out) gb103 (Nat.le_of_eq hg.symm)) hb);have n1_:=z3.mk (zb (by repeat (first|(with_reducible first|exact HB.out|apply z2|apply z0|apply z1)|exact HB.out)) hb);have n2_:=z3.mk (hbox);have n3_:=z3.mk ((by rw [hg];exact (zc (by repeat (first|(with_reducible first|exact HB.out|apply z2|apply z0|apply z1)|exact HB.out))) : w.heap.size ≤ gb103));have n4_:=z3.mk ((by rw [hg];exact (zc (by repeat (first|(with_reducible first|exact HB.out|apply z2|apply z0|apply z1)|exact HB.out))) : w.heap.size ≤ gb103));clear HO_8;clear HB;have HO_8:=n0_;have HB:=n1_;have BK103:=n2_;have GW103:=n3_;have GE103:=n4_;clear n0_ n1_ n2_ n3_ n4_;clear hb hbox hg))
       go_loopg [12] k3 (fun kq v12 w'=>∃ (x12_4 : Int) (x104000_4 : Int) (x104001_4 : Int),v12 = .int .i64 x12_4 ∧ z3 (z9.l2 kq a0 a1 l2 x8_3 x9_2 x10_3 x12_4 x104000_4 x104001_4 = some (r1,r2)) ∧ z3 (kq ≤ k3) ∧ z3 (Kd.R k61 61 w' w.heap.size (fun k_=>k_ ≠ gb103) u8 x8_3) ∧ z3 (w'.heap[gb103]? = some (.cells #[.int .u64 x104000_4,.int .u64 x104001_4] 61 (0,0))) ∧ z3 (Below w.heap.size w w'))
       case atStart=>exact ⟨(0),(0),(0),(by first|rfl|(simp;done)|(simp [*];done)),H',⟨Nat.le_refl _⟩,⟨by (with_reducible repeat (first|apply Kd.zr|apply Kd.zs|apply Kd.zy));exact Kd.z1e HO_8.out (fun _ hk=>hk.2)⟩,⟨by (with_reducible repeat (first|refine z5 ?_ _|refine z8 ?_|refine z4 ?_ _));exact BK103.out⟩,⟨by repeat (first|(with_reducible first|exact HB.out|apply z2|apply z0|apply z1|refine z6 ?_ GE103.out)|exact HB.out)⟩⟩
       case round =>
        clear H'
        (try clear c1);(try clear c2);(try clear p2);(try clear c3);(try clear c4);(try clear c5);(try clear c5b0);(try clear c6);(try clear c6b0);(try clear p6);(try clear c7);(try clear c9);(try clear c11);(try clear c11b0);(try clear c13);(try clear c13b0);(try clear p2)
        obtain ⟨x12_4,x104000_4,x104001_4,rfl,HA,HK4,HO_8,BK103,HB⟩:=hrel
        cases gk with
        | zero=>exact absurd HA.out (by simp [z9.l2])
        | succ k4 =>
         have H:=HA.out
         clear HA
         simp only [z9.l2] at H
         replace H:=Option.bind_eq_some_iff.mp H
         obtain ⟨t104,A160,H⟩:=H
         replace H : (if x12_4 < t104 then (if 0 ≤ x9_2 then (if x9_2 < (l2.length : Int) then ((zv.f k4 ((z12 l2 x9_2).f0) ((z12 l2 x9_2).f1) (wrap64 (x10_3 + x12_4))).bind fun t110=>(if t110 = true then ((zj.f k4 x12_4).bind fun bt111=>((zJ.f x104000_4 x104001_4 bt111.1 bt111.2).bind fun bt113=>(z9.l2 k4 a0 a1 l2 x8_3 x9_2 x10_3 (wrap64 (x12_4 + 1)) bt113.1 bt113.2))) else (z9.l2 k4 a0 a1 l2 x8_3 x9_2 x10_3 (wrap64 (x12_4 + 1)) x104000_4 x104001_4))) else (none)) else (none)) else (if x8_3.length < 8796093022208 then ((zt.f a0).bind fun t108=>(z9.l1 k4 a0 a1 l2 (x8_3 ++ [(⟨x104000_4,x104001_4⟩ : S61)]) x9_2 (wrap64 (x10_3 + t108)))) else (none))) = some (r1,r2):=H
         have A16:=z3.mk A160
         clear A160
         by_cases c17 : x12_4 < t104
         rotate_left
         · rw [if_neg c17] at H
           have c17b0 : decide (x12_4 < t104) = false:=decide_eq_false c17
           clear c17
           by_cases c33 : x8_3.length < 8796093022208
           rotate_left
           · rw [if_neg c33] at H
             exact absurd H (by simp)
           rw [if_pos c33] at H
           have LMc33:=z3.mk c33
           clear c33
           obtain ⟨y105,hy105⟩ : ∃ y_ : List (S61),y_ = (x8_3 ++ [(⟨x104000_4,x104001_4⟩ : S61)]):=⟨_,rfl⟩
           replace H : ((zt.f a0).bind fun t108=>(z9.l1 k4 a0 a1 l2 y105 x9_2 (wrap64 (x10_3 + t108)))) = some (r1,r2):=by first|(rw [hy105];with_reducible exact H)|(have H2_:=(Option.bind_some _ _).symm.trans H;rw [hy105];with_reducible exact H2_)|(have H2_:=(Option.bind_some _ _).symm.trans H;with_reducible exact H2_)|with_reducible exact H|(rw [hy105];exact H)|exact H
           have Ny105:=z3.mk hy105
           clear hy105
           replace H:=Option.bind_eq_some_iff.mp H
           obtain ⟨t108,A340,H⟩:=H
           replace H : (z9.l1 k4 a0 a1 l2 y105 x9_2 (wrap64 (x10_3 + t108))) = some (r1,r2):=H
           have A34:=z3.mk A340
           clear A340
           have H':=z3.mk H
           clear H
           go_wp2_with (first|((with_reducible refine zl (f:=72) rfl ?_);refine goesL_ (some 44) rfl rfl Try.func72 (by kernel_rfl) rfl #[.int .i64 a0] rfl (by (try simp only [List.map_toArray,List.map_cons,List.map_nil]);first|done|rfl|(simp only [List.length_drop,List.length_take];rfl)) ?_;(with_reducible refine (zt.calls a0 t104 _ A16.out).mono ?_);rintro e w35 ⟨rfl,hb⟩;refine ⟨_,rfl,?_⟩;have n0_:=z3.mk (Kd.zG (by (with_reducible repeat (first|apply Kd.zr|apply Kd.zs|apply Kd.zy));exact HO_8.out) hb);have n1_:=z3.mk (zn (g:=gb103) (o:=.cells #[.int .u64 x104000_4,.int .u64 x104001_4] 61 (0,0)) (by (with_reducible repeat (first|refine z5 ?_ _|refine z8 ?_|refine z4 ?_ _));exact BK103.out) hb);have n2_:=z3.mk (zb (by repeat (first|(with_reducible first|exact HB.out|apply z2|apply z0|apply z1|refine z6 ?_ GE103.out)|exact HB.out)) hb);clear HO_8;clear BK103;clear HB;have HO_8:=n0_;have BK103:=n1_;have HB:=n2_;clear n0_ n1_ n2_;(try clear hb);(try clear hb2);(try clear hk);(try clear hi);have hcz36_0 : w35.cell? ⟨gb103,0,none⟩ = some (.int .u64 x104000_4):=(ze BK103.out 0).trans rfl;have hcz36_1 : w35.cell? ⟨gb103,1,none⟩ = some (.int .u64 x104001_4):=(ze BK103.out 1).trans rfl;have hfz36_0:=zd BK103.out 0;have hfz36_1:=zd BK103.out 1)|((with_reducible refine z1E (b:=.append) (xs:=#[.tmp 60,.tmp 62]) rfl ?_);at_builtin;refine Kd.z2w k61 (w0:=w) w.heap.size rfl (.tmp 60) (.tmp 62) 43 61 (.agg #[(.int .u64 0),(.int .u64 0)]) 16 rfl Try.underlying43 info61 rfl (by decide) (by omega) u8 x8_3 (⟨x104000_4,x104001_4⟩ : S61) [.int .u64 x104000_4,.int .u64 x104001_4] (fun k_=>k_ ≠ gb103) (fun _=>False) rfl rfl ?aP (fun _ hk=>hk.elim) ?aF ?aO ?aB ?aS ?aL ?_;(case aP=>exact z3I _ _ _ (⟨x104000_4,x104001_4⟩ : S61));(case aB=>exact (by repeat (first|(with_reducible first|exact HB.out|apply z2|apply z0|apply z1|refine z6 ?_ GE103.out)|exact HB.out)));(case aF=>exact (fun k_ hk=>Kd.freshB (g:=gb103) (o:=.cells #[.int .u64 x104000_4,.int .u64 x104001_4] 61 (0,0)) (by (with_reducible repeat (first|refine z5 ?_ _|refine z8 ?_|refine z4 ?_ _));exact BK103.out) k_ hk));(case aO=>exact (by (with_reducible repeat (first|apply Kd.zr|apply Kd.zs|apply Kd.zy));exact HO_8.out));(case aS=>exact (zc (by repeat (first|(with_reducible first|exact HB.out|apply z2|apply z0|apply z1|refine z6 ?_ GE103.out)|exact HB.out))));(case aL=>have:=LMc33.out;omega);intro v106 w37 ho hb hg hat;rw [← Ny105.out] at ho;have n0_:=z3.mk (z2y (g:=gb103) (o:=.cells #[.int .u64 x104000_4,.int .u64 x104001_4] 61 (0,0)) (by (with_reducible repeat (first|refine z5 ?_ _|refine z8 ?_|refine z4 ?_ _));exact BK103.out) hg (Kd.z4q HO_8.out (fun _ hk=>hk)));have n1_:=z3.mk (hb);have n2_:=z3.mk (ho);clear BK103;clear HB;clear HO_8;have BK103:=n0_;have HB:=n1_;have HO107:=n2_;clear n0_ n1_ n2_;clear ho hb hg hat)|((with_reducible refine zl (f:=72) rfl ?_);refine goesL_ (some 40) rfl rfl Try.func72 (by kernel_rfl) rfl #[.int .i64 a0] rfl (by (try simp only [List.map_toArray,List.map_cons,List.map_nil]);first|done|rfl|(simp only [List.length_drop,List.length_take];rfl)) ?_;(with_reducible refine (zt.calls a0 t108 _ A34.out).mono ?_);rintro e w38 ⟨rfl,hb⟩;refine ⟨_,rfl,?_⟩;have n0_:=z3.mk (Kd.zG (by (with_reducible repeat (first|apply Kd.zr|apply Kd.zs|apply Kd.zy));exact HO107.out) hb);have n1_:=z3.mk (zn (g:=gb103) (o:=.cells #[.int .u64 x104000_4,.int .u64 x104001_4] 61 (0,0)) (by (with_reducible repeat (first|refine z5 ?_ _|refine z8 ?_|refine z4 ?_ _));exact BK103.out) hb);have n2_:=z3.mk (zb (by repeat (first|(with_reducible first|exact HB.out|apply z2|apply z0|apply z1|refine z6 ?_ GE103.out)|exact HB.out)) hb);clear HO107;clear BK103;clear HB;have HO107:=n0_;have BK103:=n1_;have HB:=n2_;clear n0_ n1_ n2_;(try clear hb);(try clear hb2);(try clear hk);(try clear hi)))
           go_roundg k4
           case measure=>have:=HJ3.out;have:=HK2.out;have:=HK3.out;have:=HK4.out;omega
           case rel=>exact ⟨(y105),(wrap64 (x10_3 + t108)),(by first|rfl|(simp;done)|(simp [*];done)),H',⟨by have:=HJ3.out;have:=HK2.out;have:=HK3.out;have:=HK4.out;omega⟩,⟨by (with_reducible repeat (first|apply Kd.zr|apply Kd.zs|apply Kd.zy));exact Kd.z1e HO107.out (fun _ hk=>trivial)⟩,⟨by repeat (first|(with_reducible first|exact HB.out|apply z2|apply z0|apply z1|refine z6 ?_ GE103.out)|exact HB.out)⟩⟩
         rw [if_pos c17] at H
         have c17b0 : decide (x12_4 < t104) = true:=decide_eq_true c17
         clear c17
         by_cases c18 : 0 ≤ x9_2
         rotate_left
         · rw [if_neg c18] at H
           exact absurd H (by simp)
         rw [if_pos c18] at H
         have c18b0 : decide (0 ≤ x9_2) = true:=decide_eq_true c18
         clear c18
         by_cases c19 : x9_2 < (l2.length : Int)
         rotate_left
         · rw [if_neg c19] at H
           exact absurd H (by simp)
         rw [if_pos c19] at H
         have c19b0 : decide (x9_2 < (l2.length : Int)) = true:=decide_eq_true c19
         clear c19
         replace H:=Option.bind_eq_some_iff.mp H
         obtain ⟨t110,A200,H⟩:=H
         replace H : (if t110 = true then ((zj.f k4 x12_4).bind fun bt111=>((zJ.f x104000_4 x104001_4 bt111.1 bt111.2).bind fun bt113=>(z9.l2 k4 a0 a1 l2 x8_3 x9_2 x10_3 (wrap64 (x12_4 + 1)) bt113.1 bt113.2))) else (z9.l2 k4 a0 a1 l2 x8_3 x9_2 x10_3 (wrap64 (x12_4 + 1)) x104000_4 x104001_4)) = some (r1,r2):=H
         have A20:=z3.mk A200
         clear A200
         by_cases c21 : t110 = true
         rotate_left
         · replace c21:=Bool.eq_false_iff.mpr c21
           subst c21
           have H1 : (z9.l2 k4 a0 a1 l2 x8_3 x9_2 x10_3 (wrap64 (x12_4 + 1)) x104000_4 x104001_4) = some (r1,r2):=by rw [if_neg (show ¬ (false = true) by decide)] at H;exact H
           clear H
           have H:=H1
           clear H1
           have H':=z3.mk H
           clear H
           go_wp2_with (first|((with_reducible refine zl (f:=72) rfl ?_);refine goesL_ (some 44) rfl rfl Try.func72 (by kernel_rfl) rfl #[.int .i64 a0] rfl (by (try simp only [List.map_toArray,List.map_cons,List.map_nil]);first|done|rfl|(simp only [List.length_drop,List.length_take];rfl)) ?_;(with_reducible refine (zt.calls a0 t104 _ A16.out).mono ?_);rintro e w31 ⟨rfl,hb⟩;refine ⟨_,rfl,?_⟩;have n0_:=z3.mk (Kd.zG (by (with_reducible repeat (first|apply Kd.zr|apply Kd.zs|apply Kd.zy));exact HO_8.out) hb);have n1_:=z3.mk (zn (g:=gb103) (o:=.cells #[.int .u64 x104000_4,.int .u64 x104001_4] 61 (0,0)) (by (with_reducible repeat (first|refine z5 ?_ _|refine z8 ?_|refine z4 ?_ _));exact BK103.out) hb);have n2_:=z3.mk (zb (by repeat (first|(with_reducible first|exact HB.out|apply z2|apply z0|apply z1|refine z6 ?_ GE103.out)|exact HB.out)) hb);clear HO_8;clear BK103;clear HB;have HO_8:=n0_;have BK103:=n1_;have HB:=n2_;clear n0_ n1_ n2_;(try clear hb);(try clear hb2);(try clear hk);(try clear hi);have p109 : 0 ≤ (x9_2 : Int):=of_decide_eq_true (by first|(with_reducible assumption)|assumption);have q109 : x9_2 < (l2.length : Int):=of_decide_eq_true (by first|(with_reducible assumption)|assumption);obtain ⟨ad109,e109,hx109_0,hx109_1⟩:=z2N HR2.out x9_2 p109 q109;cases e109;replace hx109_0:=(HB.out.cell (World.block_lt_of_cell? w _ hx109_0)).trans hx109_0;replace hx109_1:=(HB.out.cell (World.block_lt_of_cell? w _ hx109_1)).trans hx109_1;replace p109:=eq_true p109;replace q109:=eq_true q109)|((with_reducible refine zl (f:=73) rfl ?_);refine goesL_ (some 55) rfl rfl Try.func73 (by kernel_rfl) rfl #[.agg #[.int .u64 ((z12 l2 x9_2).f0),.int .u64 ((z12 l2 x9_2).f1)],.int .i64 (wrap64 (x10_3 + x12_4))] rfl (by (try simp only [List.map_toArray,List.map_cons,List.map_nil]);first|done|rfl|(simp only [List.length_drop,List.length_take];rfl)) ?_;(with_reducible refine (zv.calls k4 ((z12 l2 x9_2).f0) ((z12 l2 x9_2).f1) (wrap64 (x10_3 + x12_4)) false _ A20.out).mono ?_);rintro e w32 ⟨rfl,hb⟩;refine ⟨_,rfl,?_⟩;have n0_:=z3.mk (Kd.zG (by (with_reducible repeat (first|apply Kd.zr|apply Kd.zs|apply Kd.zy));exact HO_8.out) hb);have n1_:=z3.mk (zn (g:=gb103) (o:=.cells #[.int .u64 x104000_4,.int .u64 x104001_4] 61 (0,0)) (by (with_reducible repeat (first|refine z5 ?_ _|refine z8 ?_|refine z4 ?_ _));exact BK103.out) hb);have n2_:=z3.mk (zb (by repeat (first|(with_reducible first|exact HB.out|apply z2|apply z0|apply z1|refine z6 ?_ GE103.out)|exact HB.out)) hb);clear HO_8;clear BK103;clear HB;have HO_8:=n0_;have BK103:=n1_;have HB:=n2_;clear n0_ n1_ n2_;(try clear hb);(try clear hb2);(try clear hk);(try clear hi)))
           go_roundg k4
           case measure=>have:=HJ3.out;have:=HK2.out;have:=HK3.out;have:=HK4.out;omega
           case rel=>exact ⟨(wrap64 (x12_4 + 1)),(x104000_4),(x104001_4),(by first|rfl|(simp;done)|(simp [*];done)),H',⟨by have:=HJ3.out;have:=HK2.out;have:=HK3.out;have:=HK4.out;omega⟩,⟨by (with_reducible repeat (first|apply Kd.zr|apply Kd.zs|apply Kd.zy));exact HO_8.out⟩,⟨by (with_reducible repeat (first|refine z5 ?_ _|refine z8 ?_|refine z4 ?_ _));exact BK103.out⟩,⟨by repeat (first|(with_reducible first|exact HB.out|apply z2|apply z0|apply z1|refine z6 ?_ GE103.out)|exact HB.out)⟩⟩
         subst c21
         have H1 : ((zj.f k4 x12_4).bind fun bt111=>((zJ.f x104000_4 x104001_4 bt111.1 bt111.2).bind fun bt113=>(z9.l2 k4 a0 a1 l2 x8_3 x9_2 x10_3 (wrap64 (x12_4 + 1)) bt113.1 bt113.2))) = some (r1,r2):=by rw [if_pos rfl] at H;exact H
         clear H
         have H:=H1
         clear H1
         replace H:=Option.bind_eq_some_iff.mp H
         obtain ⟨⟨t111,t112⟩,A220,H⟩:=H
         replace H : ((zJ.f x104000_4 x104001_4 t111 t112).bind fun bt113=>(z9.l2 k4 a0 a1 l2 x8_3 x9_2 x10_3 (wrap64 (x12_4 + 1)) bt113.1 bt113.2)) = some (r1,r2):=H
         have A22:=z3.mk A220
         clear A220
         replace H:=Option.bind_eq_some_iff.mp H
         obtain ⟨⟨t113,t114⟩,A230,H⟩:=H
         replace H : (z9.l2 k4 a0 a1 l2 x8_3 x9_2 x10_3 (wrap64 (x12_4 + 1)) t113 t114) = some (r1,r2):=H
         have A23:=z3.mk A230
         clear A230
         have H':=z3.mk H
         clear H
         try go_wp2_with (first|((with_reducible refine zl (f:=72) rfl ?_);refine goesL_ (some 44) rfl rfl Try.func72 (by kernel_rfl) rfl #[.int .i64 a0] rfl (by (try simp only [List.map_toArray,List.map_cons,List.map_nil]);first|done|rfl|(simp only [List.length_drop,List.length_take];rfl)) ?_;(with_reducible refine (zt.calls a0 t104 _ A16.out).mono ?_);rintro e w24 ⟨rfl,hb⟩;refine ⟨_,rfl,?_⟩;have n0_:=z3.mk (Kd.zG (by (with_reducible repeat (first|apply Kd.zr|apply Kd.zs|apply Kd.zy));exact HO_8.out) hb);have n1_:=z3.mk (zn (g:=gb103) (o:=.cells #[.int .u64 x104000_4,.int .u64 x104001_4] 61 (0,0)) (by (with_reducible repeat (first|refine z5 ?_ _|refine z8 ?_|refine z4 ?_ _));exact BK103.out) hb);have n2_:=z3.mk (zb (by repeat (first|(with_reducible first|exact HB.out|apply z2|apply z0|apply z1|refine z6 ?_ GE103.out)|exact HB.out)) hb);clear HO_8;clear BK103;clear HB;have HO_8:=n0_;have BK103:=n1_;have HB:=n2_;clear n0_ n1_ n2_;(try clear hb);(try clear hb2);(try clear hk);(try clear hi);have p109 : 0 ≤ (x9_2 : Int):=of_decide_eq_true (by first|(with_reducible assumption)|assumption);have q109 : x9_2 < (l2.length : Int):=of_decide_eq_true (by first|(with_reducible assumption)|assumption);obtain ⟨ad109,e109,hx109_0,hx109_1⟩:=z2N HR2.out x9_2 p109 q109;cases e109;replace hx109_0:=(HB.out.cell (World.block_lt_of_cell? w _ hx109_0)).trans hx109_0;replace hx109_1:=(HB.out.cell (World.block_lt_of_cell? w _ hx109_1)).trans hx109_1;replace p109:=eq_true p109;replace q109:=eq_true q109)|((with_reducible refine zl (f:=73) rfl ?_);refine goesL_ (some 55) rfl rfl Try.func73 (by kernel_rfl) rfl #[.agg #[.int .u64 ((z12 l2 x9_2).f0),.int .u64 ((z12 l2 x9_2).f1)],.int .i64 (wrap64 (x10_3 + x12_4))] rfl (by (try simp only [List.map_toArray,List.map_cons,List.map_nil]);first|done|rfl|(simp only [List.length_drop,List.length_take];rfl)) ?_;(with_reducible refine (zv.calls k4 ((z12 l2 x9_2).f0) ((z12 l2 x9_2).f1) (wrap64 (x10_3 + x12_4)) true _ A20.out).mono ?_);rintro e w25 ⟨rfl,hb⟩;refine ⟨_,rfl,?_⟩;have n0_:=z3.mk (Kd.zG (by (with_reducible repeat (first|apply Kd.zr|apply Kd.zs|apply Kd.zy));exact HO_8.out) hb);have n1_:=z3.mk (zn (g:=gb103) (o:=.cells #[.int .u64 x104000_4,.int .u64 x104001_4] 61 (0,0)) (by (with_reducible repeat (first|refine z5 ?_ _|refine z8 ?_|refine z4 ?_ _));exact BK103.out) hb);have n2_:=z3.mk (zb (by repeat (first|(with_reducible first|exact HB.out|apply z2|apply z0|apply z1|refine z6 ?_ GE103.out)|exact HB.out)) hb);clear HO_8;clear BK103;clear HB;have HO_8:=n0_;have BK103:=n1_;have HB:=n2_;clear n0_ n1_ n2_;(try clear hb);(try clear hb2);(try clear hk);(try clear hi)))
         have n0_:=z3.mk (Kd.zy HO_8.out)
         have n1_:=z3.mk (z8 BK103.out)
         have n2_:=z3.mk (z1 HB.out)
         clear HO_8
         clear BK103
         clear HB
         have HO_8:=n0_
         have BK103:=n1_
         have HB:=n2_
         clear n0_ n1_ n2_
         refine start_ (n:=5) (S:=fun w'=>w'.cell? ⟨gb103,0,none⟩ = some (.int .u64 x104000_4) ∧ w'.cell? ⟨gb103,1,none⟩ = some (.int .u64 x104001_4)) (ds:=[4]) #[false,false,false,false,false] (by kernel_rfl) rfl rfl ⟨(ze BK103.out 0).trans rfl,(ze BK103.out 1).trans rfl⟩ (fun hHeld=>?_)
         generalize w25.drew = w26 at HO_8 BK103 HB hHeld ⊢
         refine pure_ (i:=1) (N:=some 57) (v:=?_) (a':=?_) #[false,true,false,false,false] rfl rfl (by kernel_rfl) (fun _ _ _ h=>h) (Or.inl ⟨by rfl,?_⟩) ?_ ?_
         rotate_left
         · intro w'
           go_simp
           with_reducible rfl
         rotate_left
         · simp only [Act.put,List.setIfInBounds_toArray,List.set_cons_zero,List.set_cons_succ,zD,zI]
           rfl
         refine take_ (i:=0) (N:=some 56) (v:=?_) (a':=?_) #[true,true,false,false,false] rfl rfl (by kernel_rfl) (fun _ _ _ h=>h) (Or.inl ⟨by rfl,?_⟩) hHeld ?_ ?_
         rotate_left
         · rintro w' ⟨s0,s1⟩
           go_simp
           with_reducible rfl
         rotate_left
         · simp only [Act.put,List.setIfInBounds_toArray,List.set_cons_zero,List.set_cons_succ,zD,zI]
           rfl
         refine one_ (i:=2) (N:=some 58) #[true,true,true,false,false] rfl rfl (by kernel_rfl) (by decide) (fun K hK=>?_)
         refine goes_ Try.func75 (by kernel_rfl) rfl #[.int .i64 x12_4] (by rfl) rfl rfl (by (try simp only [List.map_toArray,List.map_cons,List.map_nil]);first|done|rfl|(simp only [List.length_drop,List.length_take];rfl)) ?_
         with_reducible refine (zj.calls k4 x12_4 t111 t112 _ A22.out).mono ?_
         rintro e w27 ⟨rfl,hb⟩
         refine ⟨_,rfl,?_⟩
         have n0_:=z3.mk (Kd.zG (by (with_reducible repeat (first|apply Kd.zr|apply Kd.zs|apply Kd.zy));exact HO_8.out) hb)
         have n1_:=z3.mk (zn (g:=gb103) (o:=.cells #[.int .u64 x104000_4,.int .u64 x104001_4] 61 (0,0)) (by (with_reducible repeat (first|refine z5 ?_ _|refine z8 ?_|refine z4 ?_ _));exact BK103.out) hb)
         have n2_:=z3.mk (zb (by repeat (first|(with_reducible first|exact HB.out|apply z2|apply z0|apply z1|refine z6 ?_ GE103.out)|exact HB.out)) hb)
         clear HO_8
         clear BK103
         clear HB
         have HO_8:=n0_
         have BK103:=n1_
         have HB:=n2_
         clear n0_ n1_ n2_
         (try clear hb)
         (try clear hb2)
         (try clear hk)
         (try clear hi)
         refine hK.out _ _ ⟨(ze BK103.out 0).trans rfl,(ze BK103.out 1).trans rfl⟩ (fun hHeld=>?_)
         clear hK K
         refine norm_ (a':=?_) ?_ ?_
         rotate_left
         · show Act.put _ (some 58) _ = _
           simp only [Act.put,List.setIfInBounds_toArray,List.set_cons_zero,List.set_cons_succ,zD,zI]
           rfl
         refine one_ (i:=3) (N:=some 59) #[true,true,true,true,false] rfl rfl (by kernel_rfl) (by decide) (fun K hK=>?_)
         refine goes_ Try.func74 (by kernel_rfl) rfl #[.agg #[.int .u64 x104000_4,.int .u64 x104001_4],.agg #[.int .u64 t111,.int .u64 t112]] (by rfl) rfl rfl (by (try simp only [List.map_toArray,List.map_cons,List.map_nil]);first|done|rfl|(simp only [List.length_drop,List.length_take];rfl)) ?_
         with_reducible refine (zJ.calls x104000_4 x104001_4 t111 t112 t113 t114 _ A23.out).mono ?_
         rintro e w28 ⟨rfl,hb⟩
         refine ⟨_,rfl,?_⟩
         have n0_:=z3.mk (Kd.zG (by (with_reducible repeat (first|apply Kd.zr|apply Kd.zs|apply Kd.zy));exact HO_8.out) hb)
         have n1_:=z3.mk (zn (g:=gb103) (o:=.cells #[.int .u64 x104000_4,.int .u64 x104001_4] 61 (0,0)) (by (with_reducible repeat (first|refine z5 ?_ _|refine z8 ?_|refine z4 ?_ _));exact BK103.out) hb)
         have n2_:=z3.mk (zb (by repeat (first|(with_reducible first|exact HB.out|apply z2|apply z0|apply z1|refine z6 ?_ GE103.out)|exact HB.out)) hb)
         clear HO_8
         clear BK103
         clear HB
         have HO_8:=n0_
         have BK103:=n1_
         have HB:=n2_
         clear n0_ n1_ n2_
         (try clear hb)
         (try clear hb2)
         (try clear hk)
         (try clear hi)
         refine hK.out _ _ ⟨(ze BK103.out 0).trans rfl,(ze BK103.out 1).trans rfl⟩ (fun hHeld=>?_)
         clear hK K
         refine norm_ (a':=?_) ?_ ?_
         rotate_left
         · show Act.put _ (some 59) _ = _
           simp only [Act.put,List.setIfInBounds_toArray,List.set_cons_zero,List.set_cons_succ,zD,zI]
           rfl
         refine last_ (i:=4) (N:=none) #[true,true,true,true,true] rfl rfl (by kernel_rfl) (by decide) (fun K hK=>?_)
         have hs29 : w28.cell? ⟨gb103,0,none⟩ = some (.int .u64 x104000_4):=(ze BK103.out 0).trans rfl
         have hfs29:=zd BK103.out 0
         have hs30 : w28.cell? ⟨gb103,1,none⟩ = some (.int .u64 x104001_4):=(ze BK103.out 1).trans rfl
         have hfs30:=zd BK103.out 1
         refine skip_ (w1:=?_) (by rfl) rfl ?_ ?_
         rotate_left
         · go_simp
           rfl
         refine hK.out _ _ ?_
         clear hK K
         refine done_ (by kernel_rfl) ?_
         try go_wp2
         go_roundg k4
         case measure=>have:=HJ3.out;have:=HK2.out;have:=HK3.out;have:=HK4.out;omega
         case rel=>exact ⟨(wrap64 (x12_4 + 1)),(t113),(t114),(by first|rfl|(simp;done)|(simp [*];done)),H',⟨by have:=HJ3.out;have:=HK2.out;have:=HK3.out;have:=HK4.out;omega⟩,⟨by (with_reducible repeat (first|apply Kd.zr|apply Kd.zs|apply Kd.zy));exact Kd.z1e (Kd.z3l (p:=⟨gb103,1,none⟩) (Kd.z3l (p:=⟨gb103,0,none⟩) (Kd.z1e HO_8.out (fun k_ hk=>(⟨hk,hk⟩ : _ ∧ k_ ≠ gb103))) (fun _ hk=>hk.2) (.int .u64 t113)) (fun _ hk=>hk.2) (.int .u64 t114)) (fun _ hk=>hk.1)⟩,⟨by (with_reducible repeat (first|refine z5 ?_ _|refine z8 ?_|refine z4 ?_ _));refine zN (cs:=#[.int .u64 t113,.int .u64 x104001_4]) ?_ 1 _ rfl;(with_reducible repeat (first|refine z5 ?_ _|refine z8 ?_|refine z4 ?_ _));refine zN (cs:=#[.int .u64 x104000_4,.int .u64 x104001_4]) ?_ 0 _ rfl;(with_reducible repeat (first|refine z5 ?_ _|refine z8 ?_|refine z4 ?_ _));exact BK103.out⟩,⟨by repeat (first|(with_reducible first|exact HB.out|apply z2|apply z0|apply z1|refine z6 ?_ GE103.out)|exact HB.out)⟩⟩
end Go.Proofs.Ytngcaphdkgihmaa.P

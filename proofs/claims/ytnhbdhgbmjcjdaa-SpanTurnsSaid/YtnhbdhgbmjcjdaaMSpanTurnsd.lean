/- Own text: merged by wip/tools/pack.py out of what the law SpanTurns reaches. -/
import Derived.Deep.Slices
import Derived.OpenShut
import Derived.ProofKit
import Derived.Laws.BitsLemmas
import Derived.Test.YtnhbdhgbmjcjdaaMSpanTurnsa
import Derived.Test.YtnhbdhgbmjcjdaaMSpanTurnsb
import Derived.Test.YtnhbdhgbmjcjdaaMSpanTurnsc
namespace Go.Proofs.Ytnhbdhgbmjcjdaa.P
open Go.RowKit Go.Proofs.YtnhbdhgbmjcjdaaW.PrintWords Go.Proofs.YtnhbdhgbmjcjdaaW.PrintLast Go.Proofs.YtnhbdhgbmjcjdaaW.PrintMore
attribute [local go_sem] zX zZ z1a z1b zL zM zY z10   -- for this text's walks alone
set_option linter.unusedVariables false
set_option linter.unusedSimpArgs false
def zv.l0 : Nat → Int → Int → Int → Int → Option (Int)
 | 0,_,_,_,_=>none
 | k + 1,x3,x4,x102000,x102001=>if x4 < 128 then ((zy.f k x102000 x102001 x4).bind fun t102=>(if t102 = true then (zv.l0 k x4 (wrap64 (x4 + 1)) x102000 x102001) else (zv.l0 k x3 (wrap64 (x4 + 1)) x102000 x102001))) else (some x3)
def zv.f (k : Nat) (a0_0 : Int) (a0_1 : Int) : Option (Int):=zv.l0 k (-1) 0 a0_0 a0_1
theorem zv.z11 : ∀ k,(∀ y0 y1 y2 y3,LeO (zv.l0 k y0 y1 y2 y3) (zv.l0 (k + 1) y0 y1 y2 y3))
 | 0=>fun _ _ _ _ r h=>by simp [zv.l0] at h
 | k + 1=>by
  have ih0:=zv.z11 k
  · intro y0 y1 y2 y3
    unfold zv.l0
    repeat' first
    | (with_reducible exact ih0 _ _ _ _)
    | (with_reducible exact zy.mono _ _ _ _)
    | (with_reducible exact LeO.refl _)
    | (with_reducible exact LeO.none _)
    | (with_reducible refine LeO.ite ?_ ?_)
    | (with_reducible refine LeO.bind ?_ (fun _=>?_))
    | exact ih0 _ _ _ _
    | exact zy.mono _ _ _ _
    | exact LeO.none _
    | refine LeO.ite ?_ ?_
    | refine LeO.bind ?_ (fun _=>?_)
theorem zv.mono : ∀ a0 a1 k,LeO (zv.f k a0 a1) (zv.f (k + 1) a0 a1):=by
 intro a0 a1 k
 have ih0:=zv.z11 k
 unfold zv.f
 repeat' first
  | (with_reducible exact ih0 _ _ _ _)
  | (with_reducible exact zy.mono _ _ _ _)
  | (with_reducible exact LeO.refl _)
  | (with_reducible exact LeO.none _)
  | (with_reducible refine LeO.ite ?_ ?_)
  | (with_reducible refine LeO.bind ?_ (fun _=>?_))
  | exact ih0 _ _ _ _
  | exact zy.mono _ _ _ _
  | exact LeO.none _
  | refine LeO.ite ?_ ?_
  | refine LeO.bind ?_ (fun _=>?_)
set_option maxHeartbeats 8000000 in
set_option maxRecDepth 100000 in
theorem zv.calls (k : Nat) (a0_0 : Int) (a0_1 : Int) (r : Int) (w : World) (h : zv.f k a0_0 a0_1 = some r) :
 Calls Try.prog 51 #[.agg #[.int .u64 a0_0,.int .u64 a0_1]] w fun e w'=>e = .returned (.int .i64 r) ∧ Below w.heap.size w w':=by
 have hu38:=Try.underlying38
 have HB:=z1.mk (Below.refl w.heap.size w)
 have H : (zv.l0 k (-1) 0 a0_0 a0_1) = some r:=h
 clear h
 have H':=z1.mk H
 clear H
 go_enter Try.func51,Try.ntmps51
 go_wp2_with (first|((with_reducible refine zC (N:=1) rfl ?_);refine zD ?hg (N:=1) ?hd (cs:=#[.int .u64 a0_0,.int .u64 a0_1]) (t:=38) ?hr ?_;(case hd=>rfl);(case hg=>rfl);(case hr=>first|(go_simp;done)|(go_simp;rfl));intro gb101 hg w2 hbox hb;have n0_:=z1.mk (z8 zz20 hb);have n1_:=z1.mk (hbox);have n2_:=z1.mk ((by rw [hg];exact (zd zz20) : w.heap.size ≤ gb101));have n3_:=z1.mk ((by rw [hg];exact (zd zz20) : w.heap.size ≤ gb101));clear HB;have HB:=n0_;have BK101:=n1_;have GW101:=n2_;have GE101:=n3_;clear n0_ n1_ n2_ n3_;clear hb hbox hg))
 go_loopg [3,4] k (fun kq v3 v4 w'=>∃ (x3_1 : Int) (x4_1 : Int),v3 = .int .i64 x3_1 ∧ v4 = .int .i64 x4_1 ∧ z1 (zv.l0 kq x3_1 x4_1 a0_0 a0_1 = some r) ∧ z1 (kq ≤ k) ∧ z1 (w'.heap[gb101]? = some (.cells #[.int .u64 a0_0,.int .u64 a0_1] 38 (0,0))) ∧ z1 (Below w.heap.size w w'))
 case atStart=>exact ⟨((-1)),(0),zz50,zz50,H',⟨Nat.le_refl _⟩,⟨by (with_reducible repeat (first|refine zc ?_ _|refine ze ?_|refine zb ?_ _));exact BK101.out⟩,⟨by repeat (first|(with_reducible first|exact HB.out|apply z7|apply z3|apply z5|refine zf ?_ GE101.out)|exact HB.out)⟩⟩
 case round =>
  clear H'
  (try clear p2)
  obtain ⟨x3_1,x4_1,rfl,rfl,HA,HK1,BK101,HB⟩:=hrel
  cases gk with
  | zero=>exact absurd HA.out (by simp [zv.l0])
  | succ k1 =>
   have H:=HA.out
   clear HA
   simp only [zv.l0] at H
   by_cases c3 : x4_1 < 128
   rotate_left
   · rw [if_neg c3] at H
     have c3b0 : decide (x4_1 < 128) = false:=decide_eq_false c3
     clear c3
     obtain rfl:=Option.some.inj H
     go_wp2
     go_ret
     exact ⟨by first|rfl|(simp [zk,zl] <;> rfl)|(simp [*,zk,zl] <;> rfl),by repeat (first|(with_reducible first|exact HB.out|apply z7|apply z3|apply z5|refine zf ?_ GE101.out)|exact HB.out)⟩
   rw [if_pos c3] at H
   have c3b0 : decide (x4_1 < 128) = true:=decide_eq_true c3
   clear c3
   replace H:=Option.bind_eq_some_iff.mp H
   obtain ⟨t102,A40,H⟩:=H
   replace H : (if t102 = true then (zv.l0 k1 x4_1 (wrap64 (x4_1 + 1)) a0_0 a0_1) else (zv.l0 k1 x3_1 (wrap64 (x4_1 + 1)) a0_0 a0_1)) = some r:=H
   have A4:=z1.mk A40
   clear A40
   by_cases c5 : t102 = true
   · subst c5
     have H1 : (zv.l0 k1 x4_1 (wrap64 (x4_1 + 1)) a0_0 a0_1) = some r:=by rw [if_pos rfl] at H;exact H
     clear H
     have H:=H1
     clear H1
     have H':=z1.mk H
     clear H
     have hcz6_0 : wr.cell? ⟨gb101,0,none⟩ = some (.int .u64 a0_0):=(z4 BK101.out 0).trans rfl
     have hcz6_1 : wr.cell? ⟨gb101,1,none⟩ = some (.int .u64 a0_1):=(z4 BK101.out 1).trans rfl
     have hfz6_0:=z6 BK101.out 0
     have hfz6_1:=z6 BK101.out 1
     go_wp2_with (first|((with_reducible refine zp (f:=46) rfl ?_);refine goesL_ (some 11) rfl rfl Try.func46 zz52 rfl #[.agg #[.int .u64 a0_0,.int .u64 a0_1],.int .i64 x4_1] rfl zz19 ?_;(with_reducible refine (zy.calls k1 a0_0 a0_1 x4_1 true _ A4.out).mono ?_);rintro e w7 ⟨rfl,hb⟩;refine ⟨_,rfl,?_⟩;have n0_:=z1.mk (zj (g:=gb101) (o:=.cells #[.int .u64 a0_0,.int .u64 a0_1] 38 (0,0)) zz22 hb);have n1_:=z1.mk (z8 zz16 hb);clear BK101;clear HB;have BK101:=n0_;have HB:=n1_;clear n0_ n1_;(try clear hb);(try clear hb2);(try clear hk);(try clear hi)))
     go_roundg k1
     case measure=>have:=HK1.out;omega
     case rel=>exact ⟨(x4_1),(wrap64 (x4_1 + 1)),zz50,zz50,H',⟨by have:=HK1.out;omega⟩,⟨by (with_reducible repeat (first|refine zc ?_ _|refine ze ?_|refine zb ?_ _));exact BK101.out⟩,⟨by repeat (first|(with_reducible first|exact HB.out|apply z7|apply z3|apply z5|refine zf ?_ GE101.out)|exact HB.out)⟩⟩
   replace c5:=Bool.eq_false_iff.mpr c5
   subst c5
   have H1 : (zv.l0 k1 x3_1 (wrap64 (x4_1 + 1)) a0_0 a0_1) = some r:=by rw [if_neg (show ¬ (false = true) by decide)] at H;exact H
   clear H
   have H:=H1
   clear H1
   have H':=z1.mk H
   clear H
   have hcz8_0 : wr.cell? ⟨gb101,0,none⟩ = some (.int .u64 a0_0):=(z4 BK101.out 0).trans rfl
   have hcz8_1 : wr.cell? ⟨gb101,1,none⟩ = some (.int .u64 a0_1):=(z4 BK101.out 1).trans rfl
   have hfz8_0:=z6 BK101.out 0
   have hfz8_1:=z6 BK101.out 1
   go_wp2_with (first|((with_reducible refine zp (f:=46) rfl ?_);refine goesL_ (some 11) rfl rfl Try.func46 zz52 rfl #[.agg #[.int .u64 a0_0,.int .u64 a0_1],.int .i64 x4_1] rfl zz19 ?_;(with_reducible refine (zy.calls k1 a0_0 a0_1 x4_1 false _ A4.out).mono ?_);rintro e w9 ⟨rfl,hb⟩;refine ⟨_,rfl,?_⟩;have n0_:=z1.mk (zj (g:=gb101) (o:=.cells #[.int .u64 a0_0,.int .u64 a0_1] 38 (0,0)) zz22 hb);have n1_:=z1.mk (z8 zz16 hb);clear BK101;clear HB;have BK101:=n0_;have HB:=n1_;clear n0_ n1_;(try clear hb);(try clear hb2);(try clear hk);(try clear hi)))
   go_roundg k1
   case measure=>have:=HK1.out;omega
   case rel=>exact ⟨(x3_1),(wrap64 (x4_1 + 1)),zz50,zz50,H',⟨by have:=HK1.out;omega⟩,⟨by (with_reducible repeat (first|refine zc ?_ _|refine ze ?_|refine zb ?_ _));exact BK101.out⟩,⟨by repeat (first|(with_reducible first|exact HB.out|apply z7|apply z3|apply z5|refine zf ?_ GE101.out)|exact HB.out)⟩⟩
end Go.Proofs.Ytnhbdhgbmjcjdaa.P
namespace Go.Proofs.Ytnhbdhgbmjcjdaa.P
open Go.RowKit Go.Proofs.YtnhbdhgbmjcjdaaW.PrintWords Go.Proofs.YtnhbdhgbmjcjdaaW.PrintLast Go.Proofs.YtnhbdhgbmjcjdaaW.PrintMore
attribute [local go_sem] zX zZ z1a z1b zL zM zY z10   -- for this text's walks alone
set_option linter.unusedVariables false
set_option linter.unusedSimpArgs false
def zu.l0 : Nat → List (S38) → Int → Int → Option (Bool)
 | 0,_,_,_=>none
 | k + 1,x0,x1,x5=>if x5 < (x0.length : Int) then (if 0 ≤ x5 then ((zv.f k ((z1v x0 x5).f0) ((z1v x0 x5).f1)).bind fun t102=>(if t102 ≥ x1 then (some false) else (zu.l0 k x0 x1 (wrap64 (x5 + 1))))) else (none)) else (some true)
def zu.f (k : Nat) (l0 : List (S38)) (a1 : Int) : Option (Bool):=zu.l0 k l0 a1 0
theorem zu.z11 : ∀ k,(∀ y0 y1 y2,LeO (zu.l0 k y0 y1 y2) (zu.l0 (k + 1) y0 y1 y2))
 | 0=>fun _ _ _ r h=>by simp [zu.l0] at h
 | k + 1=>by
  have ih0:=zu.z11 k
  · intro y0 y1 y2
    unfold zu.l0
    repeat' first
    | (with_reducible exact ih0 _ _ _)
    | (with_reducible exact zv.mono _ _ _)
    | (with_reducible exact LeO.refl _)
    | (with_reducible exact LeO.none _)
    | (with_reducible refine LeO.ite ?_ ?_)
    | (with_reducible refine LeO.bind ?_ (fun _=>?_))
    | exact ih0 _ _ _
    | exact zv.mono _ _ _
    | exact LeO.none _
    | refine LeO.ite ?_ ?_
    | refine LeO.bind ?_ (fun _=>?_)
theorem zu.mono : ∀ a0 a1 k,LeO (zu.f k a0 a1) (zu.f (k + 1) a0 a1):=by
 intro a0 a1 k
 have ih0:=zu.z11 k
 unfold zu.f
 repeat' first
  | (with_reducible exact ih0 _ _ _)
  | (with_reducible exact zv.mono _ _ _)
  | (with_reducible exact LeO.refl _)
  | (with_reducible exact LeO.none _)
  | (with_reducible refine LeO.ite ?_ ?_)
  | (with_reducible refine LeO.bind ?_ (fun _=>?_))
  | exact ih0 _ _ _
  | exact zv.mono _ _ _
  | exact LeO.none _
  | refine LeO.ite ?_ ?_
  | refine LeO.bind ?_ (fun _=>?_)
set_option maxHeartbeats 8000000 in
set_option maxRecDepth 100000 in
theorem zu.calls (k : Nat) (A0 : Option Addr) (c0 : Nat) (l0 : List (S38)) (a1 : Int) (r : Bool) (w : World) (hr0 : Kd.C k38 w A0 l0.length l0) (hc0 : l0.length ≤ c0) (h : zu.f k l0 a1 = some r) :
 Calls Try.prog 45 #[.slice A0 l0.length c0,.int .i64 a1] w fun e w'=>e = .returned (.bool r) ∧ Below w.heap.size w w':=by
 have hu38:=Try.underlying38
 have HR0:=z1.mk hr0
 have HC0:=z1.mk hc0
 clear hr0 hc0
 have HB:=z1.mk (Below.refl w.heap.size w)
 have H : (zu.l0 k l0 a1 0) = some r:=h
 clear h
 have H':=z1.mk H
 clear H
 go_enter Try.func45,Try.ntmps45
 go_wp2
 go_loopg [5] k (fun kq v5 w'=>∃ (x5_1 : Int),v5 = .int .i64 x5_1 ∧ z1 (zu.l0 kq l0 a1 x5_1 = some r) ∧ z1 (kq ≤ k) ∧ z1 (Below w.heap.size w w'))
 case atStart=>exact ⟨(0),zz50,H',⟨Nat.le_refl _⟩,⟨by repeat (first|(with_reducible first|exact HB.out|apply z7|apply z3|apply z5)|exact HB.out)⟩⟩
 case round =>
  clear H'
  (try clear p2)
  obtain ⟨x5_1,rfl,HA,HK1,HB⟩:=hrel
  cases gk with
  | zero=>exact absurd HA.out (by simp [zu.l0])
  | succ k1 =>
   have H:=HA.out
   clear HA
   simp only [zu.l0] at H
   by_cases c3 : x5_1 < (l0.length : Int)
   rotate_left
   · rw [if_neg c3] at H
     have c3b0 : decide (x5_1 < (l0.length : Int)) = false:=decide_eq_false c3
     clear c3
     obtain rfl:=Option.some.inj H
     go_wp2
     go_ret
     exact ⟨by first|rfl|(simp [zk,zl] <;> rfl)|(simp [*,zk,zl] <;> rfl),by repeat (first|(with_reducible first|exact HB.out|apply z7|apply z3|apply z5)|exact HB.out)⟩
   rw [if_pos c3] at H
   have c3b0 : decide (x5_1 < (l0.length : Int)) = true:=decide_eq_true c3
   clear c3
   by_cases c4 : 0 ≤ x5_1
   rotate_left
   · rw [if_neg c4] at H
     exact absurd H zz55
   rw [if_pos c4] at H
   have c4b0 : decide (0 ≤ x5_1) = true:=decide_eq_true c4
   clear c4
   replace H:=Option.bind_eq_some_iff.mp H
   obtain ⟨t102,A50,H⟩:=H
   replace H : (if t102 ≥ a1 then (some false) else (zu.l0 k1 l0 a1 (wrap64 (x5_1 + 1)))) = some r:=H
   have A5:=z1.mk A50
   clear A50
   by_cases c6 : t102 ≥ a1
   · rw [if_pos c6] at H
     have c6b0 : decide (a1 ≤ t102) = true:=decide_eq_true c6
     clear c6
     obtain rfl:=Option.some.inj H
     have p101 : 0 ≤ (x5_1 : Int):=of_decide_eq_true zz49
     have q101 : x5_1 < (l0.length : Int):=of_decide_eq_true zz49
     obtain ⟨ad101,e101,hx101_0,hx101_1⟩:=z3G HR0.out x5_1 p101 q101
     cases e101
     replace hx101_0:=(HB.out.cell (World.block_lt_of_cell? w _ hx101_0)).trans hx101_0
     replace hx101_1:=(HB.out.cell (World.block_lt_of_cell? w _ hx101_1)).trans hx101_1
     replace p101:=eq_true p101
     replace q101:=eq_true q101
     go_wp2_with (first|((with_reducible refine zp (f:=51) rfl ?_);refine goesL_ (some 16) rfl rfl Try.func51 zz52 rfl #[.agg #[.int .u64 ((z1v l0 x5_1).f0),.int .u64 ((z1v l0 x5_1).f1)]] rfl zz19 ?_;(with_reducible refine (zv.calls k1 ((z1v l0 x5_1).f0) ((z1v l0 x5_1).f1) t102 _ A5.out).mono ?_);rintro e w7 ⟨rfl,hb⟩;refine ⟨_,rfl,?_⟩;have n0_:=z1.mk (z8 zz20 hb);clear HB;have HB:=n0_;clear n0_;(try clear hb);(try clear hb2);(try clear hk);(try clear hi)))
     go_ret
     exact ⟨by first|rfl|(simp [zk,zl] <;> rfl)|(simp [*,zk,zl] <;> rfl),by repeat (first|(with_reducible first|exact HB.out|apply z7|apply z3|apply z5)|exact HB.out)⟩
   rw [if_neg c6] at H
   have c6b0 : decide (a1 ≤ t102) = false:=decide_eq_false c6
   clear c6
   have H':=z1.mk H
   clear H
   have p101 : 0 ≤ (x5_1 : Int):=of_decide_eq_true zz49
   have q101 : x5_1 < (l0.length : Int):=of_decide_eq_true zz49
   obtain ⟨ad101,e101,hx101_0,hx101_1⟩:=z3G HR0.out x5_1 p101 q101
   cases e101
   replace hx101_0:=(HB.out.cell (World.block_lt_of_cell? w _ hx101_0)).trans hx101_0
   replace hx101_1:=(HB.out.cell (World.block_lt_of_cell? w _ hx101_1)).trans hx101_1
   replace p101:=eq_true p101
   replace q101:=eq_true q101
   go_wp2_with (first|((with_reducible refine zp (f:=51) rfl ?_);refine goesL_ (some 16) rfl rfl Try.func51 zz52 rfl #[.agg #[.int .u64 ((z1v l0 x5_1).f0),.int .u64 ((z1v l0 x5_1).f1)]] rfl zz19 ?_;(with_reducible refine (zv.calls k1 ((z1v l0 x5_1).f0) ((z1v l0 x5_1).f1) t102 _ A5.out).mono ?_);rintro e w8 ⟨rfl,hb⟩;refine ⟨_,rfl,?_⟩;have n0_:=z1.mk (z8 zz20 hb);clear HB;have HB:=n0_;clear n0_;(try clear hb);(try clear hb2);(try clear hk);(try clear hi)))
   go_roundg k1
   case measure=>have:=HK1.out;omega
   case rel=>exact ⟨(wrap64 (x5_1 + 1)),zz50,H',⟨by have:=HK1.out;omega⟩,⟨by repeat (first|(with_reducible first|exact HB.out|apply z7|apply z3|apply z5)|exact HB.out)⟩⟩
end Go.Proofs.Ytnhbdhgbmjcjdaa.P
namespace Go.Proofs.Ytnhbdhgbmjcjdaa.P
open Go.RowKit Go.Proofs.YtnhbdhgbmjcjdaaW.PrintWords Go.Proofs.YtnhbdhgbmjcjdaaW.PrintLast Go.Proofs.YtnhbdhgbmjcjdaaW.PrintMore
attribute [local go_sem] zX zZ z1a z1b zL zM zY z10   -- for this text's walks alone
set_option linter.unusedVariables false
set_option linter.unusedSimpArgs false
def z1h.f (a0_0 : Int) (a0_1 : Int) (a1_0 : Int) (a1_1 : Int) : Option (Int × Int):=some (Go.bits .xor .u64 a0_0 a1_0,Go.bits .xor .u64 a0_1 a1_1)
set_option maxHeartbeats 8000000 in
set_option maxRecDepth 100000 in
theorem z1h.calls (a0_0 : Int) (a0_1 : Int) (a1_0 : Int) (a1_1 : Int) (r1 : Int) (r2 : Int) (w : World) (h : z1h.f a0_0 a0_1 a1_0 a1_1 = some (r1,r2)) :
 Calls Try.prog 47 #[.agg #[.int .u64 a0_0,.int .u64 a0_1],.agg #[.int .u64 a1_0,.int .u64 a1_1]] w fun e w'=>e = .returned (.agg #[.int .u64 r1,.int .u64 r2]) ∧ Below w.heap.size w w':=by
 have hu38:=Try.underlying38
 have HB:=z1.mk (Below.refl w.heap.size w)
 have H : (some (Go.bits .xor .u64 a0_0 a1_0,Go.bits .xor .u64 a0_1 a1_1)) = some (r1,r2):=h
 clear h
 simp only [Option.some.injEq,Prod.mk.injEq] at H
 obtain ⟨rfl,rfl⟩:=H
 go_enter Try.func47,Try.ntmps47
 go_wp2_with (first|((with_reducible refine zC (N:=2) rfl ?_);refine zD ?hg (N:=2) ?hd (cs:=#[.int .u64 a0_0,.int .u64 a0_1]) (t:=38) ?hr ?_;(case hd=>rfl);(case hg=>rfl);(case hr=>first|(go_simp;done)|(go_simp;rfl));intro gb101 hg w3 hbox hb;have n0_:=z1.mk (z8 zz20 hb);have n1_:=z1.mk (hbox);have n2_:=z1.mk ((by rw [hg];exact (zd zz20) : w.heap.size ≤ gb101));have n3_:=z1.mk ((by rw [hg];exact (zd zz20) : w.heap.size ≤ gb101));clear HB;have HB:=n0_;have BK101:=n1_;have GW101:=n2_;have GE101:=n3_;clear n0_ n1_ n2_ n3_;clear hb hbox hg)|((with_reducible refine zC (N:=3) rfl ?_);refine zD ?hg (N:=3) ?hd (cs:=#[.int .u64 a1_0,.int .u64 a1_1]) (t:=38) ?hr ?_;(case hd=>rfl);(case hg=>rfl);(case hr=>first|(go_simp;done)|(go_simp;rfl));intro gb102 hg w4 hbox hb;have n0_:=z1.mk (zj (g:=gb101) (o:=.cells #[.int .u64 a0_0,.int .u64 a0_1] 38 (0,0)) zz22 hb);have n1_:=z1.mk (z8 zz16 hb);have n2_:=z1.mk (hbox);have n3_:=z1.mk ((by rw [hg];exact (zd zz16) : w.heap.size ≤ gb102));have n4_:=z1.mk ((by rw [hg];exact (zd zz16) : w.heap.size ≤ gb102));have n5_:=z1.mk ((by rw [hg];exact Nat.ne_of_lt (zP (g:=gb101) (o:=.cells #[.int .u64 a0_0,.int .u64 a0_1] 38 (0,0)) zz22) : gb101 ≠ gb102));have n6_:=z1.mk ((by rw [hg];exact Nat.ne_of_gt (zP (g:=gb101) (o:=.cells #[.int .u64 a0_0,.int .u64 a0_1] 38 (0,0)) zz22) : gb102 ≠ gb101));clear BK101;clear HB;have BK101:=n0_;have HB:=n1_;have BK102:=n2_;have GW102:=n3_;have GE102:=n4_;have NB101_102:=n5_;have NB102_101:=n6_;clear n0_ n1_ n2_ n3_ n4_ n5_ n6_;clear hb hbox hg)|((with_reducible refine zC (N:=4) rfl ?_);refine zD ?hg (N:=4) ?hd (cs:=#[.int .u64 0,.int .u64 0]) (t:=38) ?hr ?_;(case hd=>rfl);(case hg=>rfl);(case hr=>first|(go_simp;done)|(go_simp;rfl));intro gb103 hg w5 hbox hb;have n0_:=z1.mk (zj (g:=gb101) (o:=.cells #[.int .u64 a0_0,.int .u64 a0_1] 38 (0,0)) zz22 hb);have n1_:=z1.mk (zj (g:=gb102) (o:=.cells #[.int .u64 a1_0,.int .u64 a1_1] 38 (0,0)) zz23 hb);have n2_:=z1.mk (z8 zz12 hb);have n3_:=z1.mk (hbox);have n4_:=z1.mk ((by rw [hg];exact (zd zz12) : w.heap.size ≤ gb103));have n5_:=z1.mk ((by rw [hg];exact (zd zz12) : w.heap.size ≤ gb103));have n6_:=z1.mk ((by rw [hg];exact Nat.ne_of_lt (zP (g:=gb101) (o:=.cells #[.int .u64 a0_0,.int .u64 a0_1] 38 (0,0)) zz22) : gb101 ≠ gb103));have n7_:=z1.mk ((by rw [hg];exact Nat.ne_of_gt (zP (g:=gb101) (o:=.cells #[.int .u64 a0_0,.int .u64 a0_1] 38 (0,0)) zz22) : gb103 ≠ gb101));have n8_:=z1.mk ((by rw [hg];exact Nat.ne_of_lt (zP (g:=gb102) (o:=.cells #[.int .u64 a1_0,.int .u64 a1_1] 38 (0,0)) zz23) : gb102 ≠ gb103));have n9_:=z1.mk ((by rw [hg];exact Nat.ne_of_gt (zP (g:=gb102) (o:=.cells #[.int .u64 a1_0,.int .u64 a1_1] 38 (0,0)) zz23) : gb103 ≠ gb102));clear BK101;clear BK102;clear HB;have BK101:=n0_;have BK102:=n1_;have HB:=n2_;have BK103:=n3_;have GW103:=n4_;have GE103:=n5_;have NB101_103:=n6_;have NB103_101:=n7_;have NB102_103:=n8_;have NB103_102:=n9_;clear n0_ n1_ n2_ n3_ n4_ n5_ n6_ n7_ n8_ n9_;clear hb hbox hg;have hnb6:=NB101_102.out;have hnc6:=NB102_101.out;have hnb7:=NB101_103.out;have hnc7:=NB103_101.out;have hcz8_0 : w5.cell? ⟨gb101,0,none⟩ = some (.int .u64 a0_0):=(z4 BK101.out 0).trans rfl;have hcz8_1 : w5.cell? ⟨gb101,1,none⟩ = some (.int .u64 a0_1):=(z4 BK101.out 1).trans rfl;have hfz8_0:=z6 BK101.out 0;have hfz8_1:=z6 BK101.out 1;have hnb9:=NB102_103.out;have hnc9:=NB103_102.out;have hcz10_0 : w5.cell? ⟨gb102,0,none⟩ = some (.int .u64 a1_0):=(z4 BK102.out 0).trans rfl;have hcz10_1 : w5.cell? ⟨gb102,1,none⟩ = some (.int .u64 a1_1):=(z4 BK102.out 1).trans rfl;have hfz10_0:=z6 BK102.out 0;have hfz10_1:=z6 BK102.out 1;have hcz11_0 : w5.cell? ⟨gb103,0,none⟩ = some (.int .u64 0):=(z4 BK103.out 0).trans rfl;have hcz11_1 : w5.cell? ⟨gb103,1,none⟩ = some (.int .u64 0):=(z4 BK103.out 1).trans rfl;have hfz11_0:=z6 BK103.out 0;have hfz11_1:=z6 BK103.out 1))
 refine bodyPost_ret (results_cell_row rfl _ _ gb103 38 #[.int .u64 (Go.bits .xor .u64 a0_0 a1_0),.int .u64 (Go.bits .xor .u64 a0_1 a1_1)] (0,0) _ rfl zz1 Try.underlying38 rfl zz52) rfl ?_
 exact ⟨by first|rfl|(simp [zk,zl] <;> rfl)|(simp [*,zk,zl] <;> rfl),by repeat (first|(with_reducible first|exact HB.out|apply z7|apply z3|apply z5|refine zf ?_ GE101.out|refine zf ?_ GE102.out|refine zf ?_ GE103.out)|exact HB.out)⟩
end Go.Proofs.Ytnhbdhgbmjcjdaa.P
namespace Go.Proofs.Ytnhbdhgbmjcjdaa.P
open Go.RowKit Go.Proofs.YtnhbdhgbmjcjdaaW.PrintWords Go.Proofs.YtnhbdhgbmjcjdaaW.PrintLast Go.Proofs.YtnhbdhgbmjcjdaaW.PrintMore
attribute [local go_sem] zX zZ z1a z1b zL zM zY z10   -- for this text's walks alone
set_option linter.unusedVariables false
set_option linter.unusedSimpArgs false
mutual
def za.j0 : Nat → List (S38) → Int → List (S38) → Bool → Option ((List (S38)) × Int)
 | 0,_,_,_,_=>none
 | k + 1,x0,x1,x6,x20=>if x20 = true then (some (([] : List (S38)),1)) else ((zu.f k x0 x1).bind fun t101=>(if t101 = true then (za.l0 k x0 x1 x6 0) else (some (([] : List (S38)),6))))
def za.l0 : Nat → List (S38) → Int → List (S38) → Int → Option ((List (S38)) × Int)
 | 0,_,_,_,_=>none
 | k + 1,x0,x1,x6,x7=>if x7 < x1 then (za.l1 k x0 x1 x6 x7 0 0 0) else (some (x6,0))
def za.l1 : Nat → List (S38) → Int → List (S38) → Int → Int → Int → Int → Option ((List (S38)) × Int)
 | 0,_,_,_,_,_,_,_=>none
 | k + 1,x0,x1,x6,x7,x9,x103000,x103001=>if x9 < (x0.length : Int) then (if 0 ≤ x9 then ((zy.f k ((z1v x0 x9).f0) ((z1v x0 x9).f1) x7).bind fun t107=>(if t107 = true then ((zt.f k x9).bind fun bt108=>((z1h.f x103000 x103001 bt108.1 bt108.2).bind fun bt110=>(za.l1 k x0 x1 x6 x7 (wrap64 (x9 + 1)) bt110.1 bt110.2))) else (za.l1 k x0 x1 x6 x7 (wrap64 (x9 + 1)) x103000 x103001))) else (none)) else (if x6.length < 8796093022208 then (za.l0 k x0 x1 (x6 ++ [(⟨x103000,x103001⟩ : S38)]) (wrap64 (x7 + 1))) else (none))
end
def za.f (k : Nat) (l0 : List (S38)) (a1 : Int) : Option ((List (S38)) × Int):=if (l0.length : Int) > 128 then (za.j0 k l0 a1 ([] : List (S38)) true) else (if a1 < 0 then (za.j0 k l0 a1 ([] : List (S38)) true) else (za.j0 k l0 a1 ([] : List (S38)) (decide (a1 > 128))))
theorem za.z11 : ∀ k,(∀ y0 y1 y2 y3,LeO (za.j0 k y0 y1 y2 y3) (za.j0 (k + 1) y0 y1 y2 y3)) ∧ (∀ y0 y1 y2 y3,LeO (za.l0 k y0 y1 y2 y3) (za.l0 (k + 1) y0 y1 y2 y3)) ∧ (∀ y0 y1 y2 y3 y4 y5 y6,LeO (za.l1 k y0 y1 y2 y3 y4 y5 y6) (za.l1 (k + 1) y0 y1 y2 y3 y4 y5 y6))
 | 0=>⟨fun _ _ _ _ r h=>by simp [za.j0] at h,fun _ _ _ _ r h=>by simp [za.l0] at h,fun _ _ _ _ _ _ _ r h=>by simp [za.l1] at h⟩
 | k + 1=>by
  obtain ⟨ih0,ih1,ih2⟩:=za.z11 k
  refine ⟨?_,?_,?_⟩
  · intro y0 y1 y2 y3
    unfold za.j0
    repeat' first
    | (with_reducible exact ih0 _ _ _ _)
    | (with_reducible exact ih1 _ _ _ _)
    | (with_reducible exact ih2 _ _ _ _ _ _ _)
    | (with_reducible exact zt.mono _ _)
    | (with_reducible exact zy.mono _ _ _ _)
    | (with_reducible exact zu.mono _ _ _)
    | (with_reducible exact LeO.refl _)
    | (with_reducible exact LeO.none _)
    | (with_reducible refine LeO.ite ?_ ?_)
    | (with_reducible refine LeO.bind ?_ (fun _=>?_))
    | exact ih0 _ _ _ _
    | exact ih1 _ _ _ _
    | exact ih2 _ _ _ _ _ _ _
    | exact zt.mono _ _
    | exact zy.mono _ _ _ _
    | exact zu.mono _ _ _
    | exact LeO.none _
    | refine LeO.ite ?_ ?_
    | refine LeO.bind ?_ (fun _=>?_)
  · intro y0 y1 y2 y3
    unfold za.l0
    repeat' first
    | (with_reducible exact ih0 _ _ _ _)
    | (with_reducible exact ih1 _ _ _ _)
    | (with_reducible exact ih2 _ _ _ _ _ _ _)
    | (with_reducible exact zt.mono _ _)
    | (with_reducible exact zy.mono _ _ _ _)
    | (with_reducible exact zu.mono _ _ _)
    | (with_reducible exact LeO.refl _)
    | (with_reducible exact LeO.none _)
    | (with_reducible refine LeO.ite ?_ ?_)
    | (with_reducible refine LeO.bind ?_ (fun _=>?_))
    | exact ih0 _ _ _ _
    | exact ih1 _ _ _ _
    | exact ih2 _ _ _ _ _ _ _
    | exact zt.mono _ _
    | exact zy.mono _ _ _ _
    | exact zu.mono _ _ _
    | exact LeO.none _
    | refine LeO.ite ?_ ?_
    | refine LeO.bind ?_ (fun _=>?_)
  · intro y0 y1 y2 y3 y4 y5 y6
    unfold za.l1
    repeat' first
    | (with_reducible exact ih0 _ _ _ _)
    | (with_reducible exact ih1 _ _ _ _)
    | (with_reducible exact ih2 _ _ _ _ _ _ _)
    | (with_reducible exact zt.mono _ _)
    | (with_reducible exact zy.mono _ _ _ _)
    | (with_reducible exact zu.mono _ _ _)
    | (with_reducible exact LeO.refl _)
    | (with_reducible exact LeO.none _)
    | (with_reducible refine LeO.ite ?_ ?_)
    | (with_reducible refine LeO.bind ?_ (fun _=>?_))
    | exact ih0 _ _ _ _
    | exact ih1 _ _ _ _
    | exact ih2 _ _ _ _ _ _ _
    | exact zt.mono _ _
    | exact zy.mono _ _ _ _
    | exact zu.mono _ _ _
    | exact LeO.none _
    | refine LeO.ite ?_ ?_
    | refine LeO.bind ?_ (fun _=>?_)
theorem za.mono : ∀ a0 a1 k,LeO (za.f k a0 a1) (za.f (k + 1) a0 a1):=by
 intro a0 a1 k
 obtain ⟨ih0,ih1,ih2⟩:=za.z11 k
 unfold za.f
 repeat' first
  | (with_reducible exact ih0 _ _ _ _)
  | (with_reducible exact ih1 _ _ _ _)
  | (with_reducible exact ih2 _ _ _ _ _ _ _)
  | (with_reducible exact zt.mono _ _)
  | (with_reducible exact zy.mono _ _ _ _)
  | (with_reducible exact zu.mono _ _ _)
  | (with_reducible exact LeO.refl _)
  | (with_reducible exact LeO.none _)
  | (with_reducible refine LeO.ite ?_ ?_)
  | (with_reducible refine LeO.bind ?_ (fun _=>?_))
  | exact ih0 _ _ _ _
  | exact ih1 _ _ _ _
  | exact ih2 _ _ _ _ _ _ _
  | exact zt.mono _ _
  | exact zy.mono _ _ _ _
  | exact zu.mono _ _ _
  | exact LeO.none _
  | refine LeO.ite ?_ ?_
  | refine LeO.bind ?_ (fun _=>?_)
set_option maxHeartbeats 8000000 in
set_option maxRecDepth 100000 in
theorem za.calls (k : Nat) (A0 : Option Addr) (c0 : Nat) (l0 : List (S38)) (a1 : Int) (r1 : List (S38)) (r2 : Int) (w : World) (hr0 : Kd.C k38 w A0 l0.length l0) (hc0 : l0.length ≤ c0) (h : za.f k l0 a1 = some (r1,r2)) :
 Calls Try.prog 12 #[.slice A0 l0.length c0,.int .i64 a1] w fun e w'=>∃ v0_ : Value,e = .returned (.tuple #[v0_,.int .i64 r2]) ∧ Kd.R k38 38 w' w.heap.size (fun _=>True) v0_ r1 ∧ Below w.heap.size w w':=by
 have hu38:=Try.underlying38
 have HR0:=z1.mk hr0
 have HC0:=z1.mk hc0
 clear hr0 hc0
 have HB:=z1.mk (Below.refl w.heap.size w)
 have H : (if (l0.length : Int) > 128 then (za.j0 k l0 a1 ([] : List (S38)) true) else (if a1 < 0 then (za.j0 k l0 a1 ([] : List (S38)) true) else (za.j0 k l0 a1 ([] : List (S38)) (decide (a1 > 128))))) = some (r1,r2):=h
 clear h
 have HC3:=z1.mk H
 clear H
 go_enter Try.func12,Try.ntmps12
 go_upto_region 2 with (fail)
 go_cut [20] (fun v20 wc=>∃ (kq : Nat) (x20_2 : Bool),v20 = .bool x20_2 ∧ z1 (za.j0 kq l0 a1 ([] : List (S38)) x20_2 = some (r1,r2)) ∧ z1 (kq ≤ k) ∧ z1 (Kd.R k38 38 wc w.heap.size (fun _=>True) (.slice none 0 0) ([] : List (S38))) ∧ z1 (Below w.heap.size w wc))
 case first =>
  have H:=HC3.out
  clear HC3
  by_cases c4 : (l0.length : Int) > 128
  · rw [if_pos c4] at H
    have c4b0 : decide (128 < (l0.length : Int)) = true:=decide_eq_true c4
    have c4b1 : decide (128 < l0.length) = true:=decide_eq_true zz54
    clear c4
    (first|rw [c4b0]|(simp only [zF,zG];rw [c4b0])|skip)
    have H':=z1.mk H
    clear H
    go_wp2
    go_meet
    case rel=>exact ⟨_,(true),zz50,H',⟨by first|omega|exact Nat.le_refl _⟩,⟨by first|exact Kd.z2C _ _ _ _ _|exact Kd.z33 _ _ _ _ _|exact Kd.z3a _ _ _ _ _|exact Kd.z36 _ _ _ _ _|exact Kd.z39 _ _ _ _ _⟩,⟨by repeat (first|(with_reducible first|exact HB.out|apply z7|apply z3|apply z5)|exact HB.out)⟩⟩
  rw [if_neg c4] at H
  have c4b0 : decide (128 < (l0.length : Int)) = false:=decide_eq_false c4
  have c4b1 : decide (128 < l0.length) = false:=decide_eq_false zz54
  clear c4
  (first|rw [c4b0]|(simp only [zF,zG];rw [c4b0])|skip)
  by_cases c5 : a1 < 0
  rotate_left
  · rw [if_neg c5] at H
    have c5b0 : decide (a1 < 0) = false:=decide_eq_false c5
    clear c5
    have H':=z1.mk H
    clear H
    go_wp2
    go_meet
    case rel=>exact ⟨_,(decide (a1 > 128)),zz50,H',⟨by first|omega|exact Nat.le_refl _⟩,⟨by first|exact Kd.z2C _ _ _ _ _|exact Kd.z33 _ _ _ _ _|exact Kd.z3a _ _ _ _ _|exact Kd.z36 _ _ _ _ _|exact Kd.z39 _ _ _ _ _⟩,⟨by repeat (first|(with_reducible first|exact HB.out|apply z7|apply z3|apply z5)|exact HB.out)⟩⟩
  rw [if_pos c5] at H
  have c5b0 : decide (a1 < 0) = true:=decide_eq_true c5
  clear c5
  have H':=z1.mk H
  clear H
  go_wp2
  go_meet
  case rel=>exact ⟨_,(true),zz50,H',⟨by first|omega|exact Nat.le_refl _⟩,⟨by first|exact Kd.z2C _ _ _ _ _|exact Kd.z33 _ _ _ _ _|exact Kd.z3a _ _ _ _ _|exact Kd.z36 _ _ _ _ _|exact Kd.z39 _ _ _ _ _⟩,⟨by repeat (first|(with_reducible first|exact HB.out|apply z7|apply z3|apply z5)|exact HB.out)⟩⟩
 case rest =>
  clear HC3
  (try clear c1);(try clear p2);(try clear c4);(try clear c4b0);(try clear c4b1);(try clear c5);(try clear c5b0)
  obtain ⟨kq,x20_2,rfl,HA,HJ2,HO_6,HB⟩:=hcut
  cases kq with
  | zero=>exact absurd HA.out (by simp [za.j0])
  | succ kj2 =>
   have H:=HA.out
   clear HA
   simp only [za.j0] at H
   by_cases c6 : x20_2 = true
   · subst c6
     have H1 : (some (([] : List (S38)),1)) = some (r1,r2):=by rw [if_pos rfl] at H;exact H
     clear H
     have H:=H1
     clear H1
     simp only [Option.some.injEq,Prod.mk.injEq] at H
     obtain ⟨rfl,rfl⟩:=H
     go_wp2
     go_ret2
     exact ⟨_,by first|rfl|(simp [zk,zl] <;> rfl)|(simp [*,zk,zl] <;> rfl),by first|exact Kd.z2C _ _ _ _ _|exact Kd.z33 _ _ _ _ _|exact Kd.z3a _ _ _ _ _|exact Kd.z36 _ _ _ _ _|exact Kd.z39 _ _ _ _ _,by repeat (first|(with_reducible first|exact HB.out|apply z7|apply z3|apply z5)|exact HB.out)⟩
   replace c6:=Bool.eq_false_iff.mpr c6
   subst c6
   have H1 : ((zu.f kj2 l0 a1).bind fun t101=>(if t101 = true then (za.l0 kj2 l0 a1 ([] : List (S38)) 0) else (some (([] : List (S38)),6)))) = some (r1,r2):=by rw [if_neg (show ¬ (false = true) by decide)] at H;exact H
   clear H
   have H:=H1
   clear H1
   replace H:=Option.bind_eq_some_iff.mp H
   obtain ⟨t101,A70,H⟩:=H
   replace H : (if t101 = true then (za.l0 kj2 l0 a1 ([] : List (S38)) 0) else (some (([] : List (S38)),6))) = some (r1,r2):=H
   have A7:=z1.mk A70
   clear A70
   by_cases c8 : t101 = true
   rotate_left
   · replace c8:=Bool.eq_false_iff.mpr c8
     subst c8
     have H1 : (some (([] : List (S38)),6)) = some (r1,r2):=by rw [if_neg (show ¬ (false = true) by decide)] at H;exact H
     clear H
     have H:=H1
     clear H1
     simp only [Option.some.injEq,Prod.mk.injEq] at H
     obtain ⟨rfl,rfl⟩:=H
     go_wp2_with (first|((with_reducible refine zp (f:=45) rfl ?_);refine goesL_ (some 23) rfl rfl Try.func45 zz52 rfl #[.slice A0 l0.length c0,.int .i64 a1] rfl zz19 ?_;(with_reducible refine (zu.calls kj2 _ _ l0 a1 false _ ?side1 ?side2 A7.out).mono ?_);(case side1=>repeat (first|exact (Kd.z1S HR0.out HB.out)|(with_reducible refine Kd.z15 ?_ _)|(with_reducible refine Kd.z16 ?_ _)|(with_reducible refine Kd.z1k ?_)));(case side2=>exact HC0.out);rintro e w28 ⟨rfl,hb⟩;refine ⟨_,rfl,?_⟩;have n0_:=z1.mk (Kd.zs zz42 hb);have n1_:=z1.mk (z8 zz20 hb);clear HO_6;clear HB;have HO_6:=n0_;have HB:=n1_;clear n0_ n1_;(try clear hb);(try clear hb2);(try clear hk);(try clear hi)))
     go_ret2
     exact ⟨_,by first|rfl|(simp [zk,zl] <;> rfl)|(simp [*,zk,zl] <;> rfl),by first|exact Kd.z2C _ _ _ _ _|exact Kd.z33 _ _ _ _ _|exact Kd.z3a _ _ _ _ _|exact Kd.z36 _ _ _ _ _|exact Kd.z39 _ _ _ _ _,by repeat (first|(with_reducible first|exact HB.out|apply z7|apply z3|apply z5)|exact HB.out)⟩
   subst c8
   have H1 : (za.l0 kj2 l0 a1 ([] : List (S38)) 0) = some (r1,r2):=by rw [if_pos rfl] at H;exact H
   clear H
   have H:=H1
   clear H1
   have H':=z1.mk H
   clear H
   go_wp2_with (first|((with_reducible refine zp (f:=45) rfl ?_);refine goesL_ (some 23) rfl rfl Try.func45 zz52 rfl #[.slice A0 l0.length c0,.int .i64 a1] rfl zz19 ?_;(with_reducible refine (zu.calls kj2 _ _ l0 a1 true _ ?side1 ?side2 A7.out).mono ?_);(case side1=>repeat (first|exact (Kd.z1S HR0.out HB.out)|(with_reducible refine Kd.z15 ?_ _)|(with_reducible refine Kd.z16 ?_ _)|(with_reducible refine Kd.z1k ?_)));(case side2=>exact HC0.out);rintro e w9 ⟨rfl,hb⟩;refine ⟨_,rfl,?_⟩;have n0_:=z1.mk (Kd.zs zz42 hb);have n1_:=z1.mk (z8 zz20 hb);clear HO_6;clear HB;have HO_6:=n0_;have HB:=n1_;clear n0_ n1_;(try clear hb);(try clear hb2);(try clear hk);(try clear hi)))
   go_loopg [6,7] kj2 (fun kq v6 v7 w'=>∃ (x6_2 : List (S38)) (x7_2 : Int),v7 = .int .i64 x7_2 ∧ z1 (za.l0 kq l0 a1 x6_2 x7_2 = some (r1,r2)) ∧ z1 (kq ≤ kj2) ∧ z1 (Kd.R k38 38 w' w.heap.size (fun _=>True) v6 x6_2) ∧ z1 (Below w.heap.size w w'))
   case atStart=>exact ⟨(([] : List (S38))),(0),zz50,H',⟨Nat.le_refl _⟩,⟨by (with_reducible repeat (first|apply Kd.zH|apply Kd.zI|apply Kd.zS));exact HO_6.out⟩,⟨by repeat (first|(with_reducible first|exact HB.out|apply z7|apply z3|apply z5)|exact HB.out)⟩⟩
   case round =>
    clear H'
    (try clear c1);(try clear p2);(try clear c4);(try clear c4b0);(try clear c4b1);(try clear c5);(try clear c5b0);(try clear c6);(try clear c8);(try clear p2)
    obtain ⟨x6_2,x7_2,rfl,HA,HK2,HO_6,HB⟩:=hrel
    cases gk with
    | zero=>exact absurd HA.out (by simp [za.l0])
    | succ k2 =>
     have H:=HA.out
     clear HA
     simp only [za.l0] at H
     by_cases c10 : x7_2 < a1
     rotate_left
     · rw [if_neg c10] at H
       have c10b0 : decide (x7_2 < a1) = false:=decide_eq_false c10
       clear c10
       simp only [Option.some.injEq,Prod.mk.injEq] at H
       obtain ⟨rfl,rfl⟩:=H
       go_wp2
       go_ret2
       exact ⟨_,by first|rfl|(simp [zk,zl] <;> rfl)|(simp [*,zk,zl] <;> rfl),by (with_reducible repeat (first|apply Kd.zH|apply Kd.zI|apply Kd.zS));exact HO_6.out,by repeat (first|(with_reducible first|exact HB.out|apply z7|apply z3|apply z5)|exact HB.out)⟩
     rw [if_pos c10] at H
     have c10b0 : decide (x7_2 < a1) = true:=decide_eq_true c10
     clear c10
     have H':=z1.mk H
     clear H
     go_wp2_with (first|((with_reducible refine zC (N:=8) rfl ?_);refine zD ?hg (N:=8) ?hd (cs:=#[.int .u64 0,.int .u64 0]) (t:=38) ?hr ?_;(case hd=>rfl);(case hg=>rfl);(case hr=>first|(go_simp;done)|(go_simp;rfl));intro gb102 hg w11 hbox hb;have n0_:=z1.mk (Kd.zs (Kd.z1Q zz42 gb102 (Nat.le_of_eq hg.symm)) hb);have n1_:=z1.mk (z8 zz20 hb);have n2_:=z1.mk (hbox);have n3_:=z1.mk ((by rw [hg];exact (zd zz20) : w.heap.size ≤ gb102));have n4_:=z1.mk ((by rw [hg];exact (zd zz20) : w.heap.size ≤ gb102));clear HO_6;clear HB;have HO_6:=n0_;have HB:=n1_;have BK102:=n2_;have GW102:=n3_;have GE102:=n4_;clear n0_ n1_ n2_ n3_ n4_;clear hb hbox hg))
     go_loopg [9] k2 (fun kq v9 w'=>∃ (x9_3 : Int) (x103000_3 : Int) (x103001_3 : Int),v9 = .int .i64 x9_3 ∧ z1 (za.l1 kq l0 a1 x6_2 x7_2 x9_3 x103000_3 x103001_3 = some (r1,r2)) ∧ z1 (kq ≤ k2) ∧ z1 (Kd.R k38 38 w' w.heap.size (fun k_=>k_ ≠ gb102) u6 x6_2) ∧ z1 (w'.heap[gb102]? = some (.cells #[.int .u64 x103000_3,.int .u64 x103001_3] 38 (0,0))) ∧ z1 (Below w.heap.size w w'))
     case atStart=>exact ⟨(0),(0),(0),zz50,H',⟨Nat.le_refl _⟩,⟨by (with_reducible repeat (first|apply Kd.zH|apply Kd.zI|apply Kd.zS));exact Kd.z1j HO_6.out (fun _ hk=>hk.2)⟩,⟨by (with_reducible repeat (first|refine zc ?_ _|refine ze ?_|refine zb ?_ _));exact BK102.out⟩,⟨by repeat (first|(with_reducible first|exact HB.out|apply z7|apply z3|apply z5|refine zf ?_ GE102.out)|exact HB.out)⟩⟩
     case round =>
      clear H'
      (try clear c1);(try clear p2);(try clear c4);(try clear c4b0);(try clear c4b1);(try clear c5);(try clear c5b0);(try clear c6);(try clear c8);(try clear c10);(try clear c10b0);(try clear p2)
      obtain ⟨x9_3,x103000_3,x103001_3,rfl,HA,HK3,HO_6,BK102,HB⟩:=hrel
      cases gk with
      | zero=>exact absurd HA.out (by simp [za.l1])
      | succ k3 =>
       have H:=HA.out
       clear HA
       simp only [za.l1] at H
       by_cases c12 : x9_3 < (l0.length : Int)
       rotate_left
       · rw [if_neg c12] at H
         have c12b0 : decide (x9_3 < (l0.length : Int)) = false:=decide_eq_false c12
         clear c12
         by_cases c25 : x6_2.length < 8796093022208
         rotate_left
         · rw [if_neg c25] at H
           exact absurd H zz55
         rw [if_pos c25] at H
         have LMc25:=z1.mk c25
         clear c25
         obtain ⟨y103,hy103⟩ : ∃ y_ : List (S38),y_ = (x6_2 ++ [(⟨x103000_3,x103001_3⟩ : S38)]):=⟨_,rfl⟩
         replace H : (za.l0 k3 l0 a1 y103 (wrap64 (x7_2 + 1))) = some (r1,r2):=by first|(rw [hy103];with_reducible exact H)|(have H2_:=(Option.bind_some _ _).symm.trans H;rw [hy103];with_reducible exact H2_)|(have H2_:=(Option.bind_some _ _).symm.trans H;with_reducible exact H2_)|with_reducible exact H|(rw [hy103];exact H)|exact H
         have Ny103:=z1.mk hy103
         clear hy103
         have H':=z1.mk H
         clear H
         have hcz26_0 : wr.cell? ⟨gb102,0,none⟩ = some (.int .u64 x103000_3):=(z4 BK102.out 0).trans rfl
         have hcz26_1 : wr.cell? ⟨gb102,1,none⟩ = some (.int .u64 x103001_3):=(z4 BK102.out 1).trans rfl
         have hfz26_0:=z6 BK102.out 0
         have hfz26_1:=z6 BK102.out 1
         go_wp2_with (first|((with_reducible refine z1F (b:=.append) (xs:=#[.tmp 46,.tmp 48]) rfl ?_);at_builtin;refine Kd.z2o k38 (w0:=w) w.heap.size rfl (.tmp 46) (.tmp 48) 27 38 (.agg #[(.int .u64 0),(.int .u64 0)]) 16 rfl Try.underlying27 info38 rfl zz53 zz54 u6 x6_2 (⟨x103000_3,x103001_3⟩ : S38) [.int .u64 x103000_3,.int .u64 x103001_3] (fun k_=>k_ ≠ gb102) (fun _=>False) rfl rfl ?aP (fun _ hk=>hk.elim) ?aF ?aO ?aB ?aS ?aL ?_;(case aP=>exact z5K _ _ _ (⟨x103000_3,x103001_3⟩ : S38));(case aB=>exact zz18);(case aF=>exact (fun k_ hk=>Kd.freshB (g:=gb102) (o:=.cells #[.int .u64 x103000_3,.int .u64 x103001_3] 38 (0,0)) zz23 k_ hk));(case aO=>exact zz42);(case aS=>exact (zd zz18));(case aL=>have:=LMc25.out;omega);intro v104 w27 ho hb hg hat;rw [← Ny103.out] at ho;have n0_:=z1.mk (z26 (g:=gb102) (o:=.cells #[.int .u64 x103000_3,.int .u64 x103001_3] 38 (0,0)) zz23 hg (Kd.z2t HO_6.out (fun _ hk=>hk)));have n1_:=z1.mk (hb);have n2_:=z1.mk (ho);clear BK102;clear HB;clear HO_6;have BK102:=n0_;have HB:=n1_;have HO105:=n2_;clear n0_ n1_ n2_;clear ho hb hg hat))
         go_roundg k3
         case measure=>have:=HJ2.out;have:=HK2.out;have:=HK3.out;omega
         case rel=>exact ⟨(y103),(wrap64 (x7_2 + 1)),zz50,H',⟨by have:=HJ2.out;have:=HK2.out;have:=HK3.out;omega⟩,⟨by (with_reducible repeat (first|apply Kd.zH|apply Kd.zI|apply Kd.zS));exact Kd.z1j HO105.out (fun _ hk=>trivial)⟩,⟨by repeat (first|(with_reducible first|exact HB.out|apply z7|apply z3|apply z5|refine zf ?_ GE102.out)|exact HB.out)⟩⟩
       rw [if_pos c12] at H
       have c12b0 : decide (x9_3 < (l0.length : Int)) = true:=decide_eq_true c12
       clear c12
       by_cases c13 : 0 ≤ x9_3
       rotate_left
       · rw [if_neg c13] at H
         exact absurd H zz55
       rw [if_pos c13] at H
       have c13b0 : decide (0 ≤ x9_3) = true:=decide_eq_true c13
       clear c13
       replace H:=Option.bind_eq_some_iff.mp H
       obtain ⟨t107,A140,H⟩:=H
       replace H : (if t107 = true then ((zt.f k3 x9_3).bind fun bt108=>((z1h.f x103000_3 x103001_3 bt108.1 bt108.2).bind fun bt110=>(za.l1 k3 l0 a1 x6_2 x7_2 (wrap64 (x9_3 + 1)) bt110.1 bt110.2))) else (za.l1 k3 l0 a1 x6_2 x7_2 (wrap64 (x9_3 + 1)) x103000_3 x103001_3)) = some (r1,r2):=H
       have A14:=z1.mk A140
       clear A140
       by_cases c15 : t107 = true
       rotate_left
       · replace c15:=Bool.eq_false_iff.mpr c15
         subst c15
         have H1 : (za.l1 k3 l0 a1 x6_2 x7_2 (wrap64 (x9_3 + 1)) x103000_3 x103001_3) = some (r1,r2):=by rw [if_neg (show ¬ (false = true) by decide)] at H;exact H
         clear H
         have H:=H1
         clear H1
         have H':=z1.mk H
         clear H
         have p106 : 0 ≤ (x9_3 : Int):=of_decide_eq_true zz49
         have q106 : x9_3 < (l0.length : Int):=of_decide_eq_true zz49
         obtain ⟨ad106,e106,hx106_0,hx106_1⟩:=z3G HR0.out x9_3 p106 q106
         cases e106
         replace hx106_0:=(HB.out.cell (World.block_lt_of_cell? w _ hx106_0)).trans hx106_0
         replace hx106_1:=(HB.out.cell (World.block_lt_of_cell? w _ hx106_1)).trans hx106_1
         replace p106:=eq_true p106
         replace q106:=eq_true q106
         go_wp2_with (first|((with_reducible refine zp (f:=46) rfl ?_);refine goesL_ (some 41) rfl rfl Try.func46 zz52 rfl #[.agg #[.int .u64 ((z1v l0 x9_3).f0),.int .u64 ((z1v l0 x9_3).f1)],.int .i64 x7_2] rfl zz19 ?_;(with_reducible refine (zy.calls k3 ((z1v l0 x9_3).f0) ((z1v l0 x9_3).f1) x7_2 false _ A14.out).mono ?_);rintro e w24 ⟨rfl,hb⟩;refine ⟨_,rfl,?_⟩;have n0_:=z1.mk (Kd.zs zz42 hb);have n1_:=z1.mk (zj (g:=gb102) (o:=.cells #[.int .u64 x103000_3,.int .u64 x103001_3] 38 (0,0)) zz23 hb);have n2_:=z1.mk (z8 zz18 hb);clear HO_6;clear BK102;clear HB;have HO_6:=n0_;have BK102:=n1_;have HB:=n2_;clear n0_ n1_ n2_;(try clear hb);(try clear hb2);(try clear hk);(try clear hi)))
         go_roundg k3
         case measure=>have:=HJ2.out;have:=HK2.out;have:=HK3.out;omega
         case rel=>exact ⟨(wrap64 (x9_3 + 1)),(x103000_3),(x103001_3),zz50,H',⟨by have:=HJ2.out;have:=HK2.out;have:=HK3.out;omega⟩,⟨by (with_reducible repeat (first|apply Kd.zH|apply Kd.zI|apply Kd.zS));exact HO_6.out⟩,⟨by (with_reducible repeat (first|refine zc ?_ _|refine ze ?_|refine zb ?_ _));exact BK102.out⟩,⟨by repeat (first|(with_reducible first|exact HB.out|apply z7|apply z3|apply z5|refine zf ?_ GE102.out)|exact HB.out)⟩⟩
       subst c15
       have H1 : ((zt.f k3 x9_3).bind fun bt108=>((z1h.f x103000_3 x103001_3 bt108.1 bt108.2).bind fun bt110=>(za.l1 k3 l0 a1 x6_2 x7_2 (wrap64 (x9_3 + 1)) bt110.1 bt110.2))) = some (r1,r2):=by rw [if_pos rfl] at H;exact H
       clear H
       have H:=H1
       clear H1
       replace H:=Option.bind_eq_some_iff.mp H
       obtain ⟨⟨t108,t109⟩,A160,H⟩:=H
       replace H : ((z1h.f x103000_3 x103001_3 t108 t109).bind fun bt110=>(za.l1 k3 l0 a1 x6_2 x7_2 (wrap64 (x9_3 + 1)) bt110.1 bt110.2)) = some (r1,r2):=H
       have A16:=z1.mk A160
       clear A160
       replace H:=Option.bind_eq_some_iff.mp H
       obtain ⟨⟨t110,t111⟩,A170,H⟩:=H
       replace H : (za.l1 k3 l0 a1 x6_2 x7_2 (wrap64 (x9_3 + 1)) t110 t111) = some (r1,r2):=H
       have A17:=z1.mk A170
       clear A170
       have H':=z1.mk H
       clear H
       have p106 : 0 ≤ (x9_3 : Int):=of_decide_eq_true zz49
       have q106 : x9_3 < (l0.length : Int):=of_decide_eq_true zz49
       obtain ⟨ad106,e106,hx106_0,hx106_1⟩:=z3G HR0.out x9_3 p106 q106
       cases e106
       replace hx106_0:=(HB.out.cell (World.block_lt_of_cell? w _ hx106_0)).trans hx106_0
       replace hx106_1:=(HB.out.cell (World.block_lt_of_cell? w _ hx106_1)).trans hx106_1
       replace p106:=eq_true p106
       replace q106:=eq_true q106
       try go_wp2_with (first|((with_reducible refine zp (f:=46) rfl ?_);refine goesL_ (some 41) rfl rfl Try.func46 zz52 rfl #[.agg #[.int .u64 ((z1v l0 x9_3).f0),.int .u64 ((z1v l0 x9_3).f1)],.int .i64 x7_2] rfl zz19 ?_;(with_reducible refine (zy.calls k3 ((z1v l0 x9_3).f0) ((z1v l0 x9_3).f1) x7_2 true _ A14.out).mono ?_);rintro e w18 ⟨rfl,hb⟩;refine ⟨_,rfl,?_⟩;have n0_:=z1.mk (Kd.zs zz42 hb);have n1_:=z1.mk (zj (g:=gb102) (o:=.cells #[.int .u64 x103000_3,.int .u64 x103001_3] 38 (0,0)) zz23 hb);have n2_:=z1.mk (z8 zz18 hb);clear HO_6;clear BK102;clear HB;have HO_6:=n0_;have BK102:=n1_;have HB:=n2_;clear n0_ n1_ n2_;(try clear hb);(try clear hb2);(try clear hk);(try clear hi)))
       have n0_:=z1.mk (Kd.zS HO_6.out)
       have n1_:=z1.mk (ze BK102.out)
       have n2_:=z1.mk (z5 HB.out)
       clear HO_6
       clear BK102
       clear HB
       have HO_6:=n0_
       have BK102:=n1_
       have HB:=n2_
       clear n0_ n1_ n2_
       refine start_ (n:=5) (S:=fun w'=>w'.cell? ⟨gb102,0,none⟩ = some (.int .u64 x103000_3) ∧ w'.cell? ⟨gb102,1,none⟩ = some (.int .u64 x103001_3)) (ds:=[4]) #[false,false,false,false,false] zz52 rfl rfl ⟨(z4 BK102.out 0).trans rfl,(z4 BK102.out 1).trans rfl⟩ (fun hHeld=>?_)
       generalize w18.drew = w19 at HO_6 BK102 HB hHeld ⊢
       refine pure_ (i:=1) (N:=some 43) (v:=?_) (a':=?_) #[false,true,false,false,false] rfl rfl zz52 (fun _ _ _ h=>h) (Or.inl ⟨by rfl,?_⟩) ?_ ?_
       rotate_left
       · intro w'
         go_simp
         with_reducible rfl
       rotate_left
       · simp only [Act.put,List.setIfInBounds_toArray,List.set_cons_zero,List.set_cons_succ,zF,zG]
         rfl
       refine take_ (i:=0) (N:=some 42) (v:=?_) (a':=?_) #[true,true,false,false,false] rfl rfl zz52 (fun _ _ _ h=>h) (Or.inl ⟨by rfl,?_⟩) hHeld ?_ ?_
       rotate_left
       · rintro w' ⟨s0,s1⟩
         go_simp
         with_reducible rfl
       rotate_left
       · simp only [Act.put,List.setIfInBounds_toArray,List.set_cons_zero,List.set_cons_succ,zF,zG]
         rfl
       refine one_ (i:=2) (N:=some 44) #[true,true,true,false,false] rfl rfl zz52 zz53 (fun K hK=>?_)
       refine goes_ Try.func48 zz52 rfl #[.int .i64 x9_3] zz56 rfl rfl zz19 ?_
       with_reducible refine (zt.calls k3 x9_3 t108 t109 _ A16.out).mono ?_
       rintro e w20 ⟨rfl,hb⟩
       refine ⟨_,rfl,?_⟩
       have n0_:=z1.mk (Kd.zs zz42 hb)
       have n1_:=z1.mk (zj (g:=gb102) (o:=.cells #[.int .u64 x103000_3,.int .u64 x103001_3] 38 (0,0)) zz23 hb)
       have n2_:=z1.mk (z8 zz18 hb)
       clear HO_6
       clear BK102
       clear HB
       have HO_6:=n0_
       have BK102:=n1_
       have HB:=n2_
       clear n0_ n1_ n2_
       (try clear hb)
       (try clear hb2)
       (try clear hk)
       (try clear hi)
       refine hK.out _ _ ⟨(z4 BK102.out 0).trans rfl,(z4 BK102.out 1).trans rfl⟩ (fun hHeld=>?_)
       clear hK K
       refine norm_ (a':=?_) ?_ ?_
       rotate_left
       · show Act.put _ (some 44) _ = _
         simp only [Act.put,List.setIfInBounds_toArray,List.set_cons_zero,List.set_cons_succ,zF,zG]
         rfl
       refine one_ (i:=3) (N:=some 45) #[true,true,true,true,false] rfl rfl zz52 zz53 (fun K hK=>?_)
       refine goes_ Try.func47 zz52 rfl #[.agg #[.int .u64 x103000_3,.int .u64 x103001_3],.agg #[.int .u64 t108,.int .u64 t109]] zz56 rfl rfl zz19 ?_
       with_reducible refine (z1h.calls x103000_3 x103001_3 t108 t109 t110 t111 _ A17.out).mono ?_
       rintro e w21 ⟨rfl,hb⟩
       refine ⟨_,rfl,?_⟩
       have n0_:=z1.mk (Kd.zs zz42 hb)
       have n1_:=z1.mk (zj (g:=gb102) (o:=.cells #[.int .u64 x103000_3,.int .u64 x103001_3] 38 (0,0)) zz23 hb)
       have n2_:=z1.mk (z8 zz18 hb)
       clear HO_6
       clear BK102
       clear HB
       have HO_6:=n0_
       have BK102:=n1_
       have HB:=n2_
       clear n0_ n1_ n2_
       (try clear hb)
       (try clear hb2)
       (try clear hk)
       (try clear hi)
       refine hK.out _ _ ⟨(z4 BK102.out 0).trans rfl,(z4 BK102.out 1).trans rfl⟩ (fun hHeld=>?_)
       clear hK K
       refine norm_ (a':=?_) ?_ ?_
       rotate_left
       · show Act.put _ (some 45) _ = _
         simp only [Act.put,List.setIfInBounds_toArray,List.set_cons_zero,List.set_cons_succ,zF,zG]
         rfl
       refine last_ (i:=4) (N:=none) #[true,true,true,true,true] rfl rfl zz52 zz53 (fun K hK=>?_)
       have hs22 : w21.cell? ⟨gb102,0,none⟩ = some (.int .u64 x103000_3):=(z4 BK102.out 0).trans rfl
       have hfs22:=z6 BK102.out 0
       have hs23 : w21.cell? ⟨gb102,1,none⟩ = some (.int .u64 x103001_3):=(z4 BK102.out 1).trans rfl
       have hfs23:=z6 BK102.out 1
       refine skip_ (w1:=?_) zz56 rfl ?_ ?_
       rotate_left
       · go_simp
         rfl
       refine hK.out _ _ ?_
       clear hK K
       refine done_ zz52 ?_
       try go_wp2
       go_roundg k3
       case measure=>have:=HJ2.out;have:=HK2.out;have:=HK3.out;omega
       case rel=>exact ⟨(wrap64 (x9_3 + 1)),(t110),(t111),zz50,H',⟨by have:=HJ2.out;have:=HK2.out;have:=HK3.out;omega⟩,⟨by (with_reducible repeat (first|apply Kd.zH|apply Kd.zI|apply Kd.zS));exact Kd.z1j (Kd.z1R (p:=⟨gb102,1,none⟩) (Kd.z1R (p:=⟨gb102,0,none⟩) (Kd.z1j HO_6.out (fun k_ hk=>(⟨hk,hk⟩ : _ ∧ k_ ≠ gb102))) (fun _ hk=>hk.2) (.int .u64 t110)) (fun _ hk=>hk.2) (.int .u64 t111)) (fun _ hk=>hk.1)⟩,⟨by (with_reducible repeat (first|refine zc ?_ _|refine ze ?_|refine zb ?_ _));refine z18 (cs:=#[.int .u64 t110,.int .u64 x103001_3]) ?_ 1 _ rfl;(with_reducible repeat (first|refine zc ?_ _|refine ze ?_|refine zb ?_ _));refine z18 (cs:=#[.int .u64 x103000_3,.int .u64 x103001_3]) ?_ 0 _ rfl;(with_reducible repeat (first|refine zc ?_ _|refine ze ?_|refine zb ?_ _));exact BK102.out⟩,⟨by repeat (first|(with_reducible first|exact HB.out|apply z7|apply z3|apply z5|refine zf ?_ GE102.out)|exact HB.out)⟩⟩
end Go.Proofs.Ytnhbdhgbmjcjdaa.P
namespace Go.Proofs.Ytnhbdhgbmjcjdaa.P
open Go.RowKit Go.Proofs.YtnhbdhgbmjcjdaaW.PrintWords Go.Proofs.YtnhbdhgbmjcjdaaW.PrintLast Go.Proofs.YtnhbdhgbmjcjdaaW.PrintMore
attribute [local go_sem] zX zZ z1a z1b zL zM zY z10   -- for this text's walks alone
set_option linter.unusedVariables false
set_option linter.unusedSimpArgs false
def zm.j0 : Nat → List (S35) → List (S35) → Int → Bool → Option (Bool)
 | 0,_,_,_,_=>none
 | k + 1,x0,x5,x6,x36=>if x36 = true then (some false) else (if x6 = 0 then ((zq.f k x5 (x0.length : Int)).bind fun bt115=>((zB.f k).bind fun t119=>(if t119 = true then (if bt115.2 = 0 then ((zg.f k x0).bind fun t120=>((z9.f k bt115.1 t120).bind fun t123=>(some t123))) else (some false)) else (some false)))) else ((zB.f k).bind fun t114=>(some t114)))
def zm.f (k : Nat) (l0 : List (S35)) (a1 : Int) : Option (Bool):=if (l0.length : Int) > 140 then ((zB.f k).bind fun t101=>(some t101)) else ((zq.f k l0 a1).bind fun bt102=>((zg.f k l0).bind fun t106=>((za.f k t106 a1).bind fun bt109=>((z9.f k bt102.1 bt109.1).bind fun t113=>(if t113 = true then (zm.j0 k l0 bt102.1 bt102.2 (bt102.2 != bt109.2)) else (zm.j0 k l0 bt102.1 bt102.2 true))))))
theorem zm.z11 : ∀ k,(∀ y0 y1 y2 y3,LeO (zm.j0 k y0 y1 y2 y3) (zm.j0 (k + 1) y0 y1 y2 y3))
 | 0=>fun _ _ _ _ r h=>by simp [zm.j0] at h
 | k + 1=>by
  have ih0:=zm.z11 k
  · intro y0 y1 y2 y3
    unfold zm.j0
    repeat' first
    | (with_reducible exact ih0 _ _ _ _)
    | (with_reducible exact zq.mono _ _ _)
    | (with_reducible exact zg.mono _ _)
    | (with_reducible exact z9.mono _ _ _)
    | (with_reducible exact zB.mono _)
    | (with_reducible exact za.mono _ _ _)
    | (with_reducible exact LeO.refl _)
    | (with_reducible exact LeO.none _)
    | (with_reducible refine LeO.ite ?_ ?_)
    | (with_reducible refine LeO.bind ?_ (fun _=>?_))
    | exact ih0 _ _ _ _
    | exact zq.mono _ _ _
    | exact zg.mono _ _
    | exact z9.mono _ _ _
    | exact zB.mono _
    | exact za.mono _ _ _
    | exact LeO.none _
    | refine LeO.ite ?_ ?_
    | refine LeO.bind ?_ (fun _=>?_)
theorem zm.mono : ∀ a0 a1 k,LeO (zm.f k a0 a1) (zm.f (k + 1) a0 a1):=by
 intro a0 a1 k
 have ih0:=zm.z11 k
 unfold zm.f
 repeat' first
  | (with_reducible exact ih0 _ _ _ _)
  | (with_reducible exact zq.mono _ _ _)
  | (with_reducible exact zg.mono _ _)
  | (with_reducible exact z9.mono _ _ _)
  | (with_reducible exact zB.mono _)
  | (with_reducible exact za.mono _ _ _)
  | (with_reducible exact LeO.refl _)
  | (with_reducible exact LeO.none _)
  | (with_reducible refine LeO.ite ?_ ?_)
  | (with_reducible refine LeO.bind ?_ (fun _=>?_))
  | exact ih0 _ _ _ _
  | exact zq.mono _ _ _
  | exact zg.mono _ _
  | exact z9.mono _ _ _
  | exact zB.mono _
  | exact za.mono _ _ _
  | exact LeO.none _
  | refine LeO.ite ?_ ?_
  | refine LeO.bind ?_ (fun _=>?_)
set_option maxHeartbeats 8000000 in
set_option maxRecDepth 100000 in
theorem zm.calls (k : Nat) (A0 : Option Addr) (c0 : Nat) (l0 : List (S35)) (a1 : Int) (r : Bool) (w : World) (hr0 : Kd.C k35 w A0 l0.length l0) (hc0 : l0.length ≤ c0) (h : zm.f k l0 a1 = some r) :
 Calls Try.prog 3 #[.slice A0 l0.length c0,.int .i64 a1] w fun e w'=>e = .returned (.bool r) ∧ Below w.heap.size w w':=by
 have HR0:=z1.mk hr0
 have HC0:=z1.mk hc0
 clear hr0 hc0
 have HB:=z1.mk (Below.refl w.heap.size w)
 have H : (if (l0.length : Int) > 140 then ((zB.f k).bind fun t101=>(some t101)) else ((zq.f k l0 a1).bind fun bt102=>((zg.f k l0).bind fun t106=>((za.f k t106 a1).bind fun bt109=>((z9.f k bt102.1 bt109.1).bind fun t113=>(if t113 = true then (zm.j0 k l0 bt102.1 bt102.2 (bt102.2 != bt109.2)) else (zm.j0 k l0 bt102.1 bt102.2 true))))))) = some r:=h
 clear h
 by_cases c3 : (l0.length : Int) > 140
 · rw [if_pos c3] at H
   have c3b0 : decide (140 < (l0.length : Int)) = true:=decide_eq_true c3
   have c3b1 : decide (140 < l0.length) = true:=decide_eq_true zz54
   clear c3
   replace H:=Option.bind_eq_some_iff.mp H
   obtain ⟨t101,A40,H⟩:=H
   replace H : (some t101) = some r:=H
   have A4:=z1.mk A40
   clear A40
   obtain rfl:=Option.some.inj H
   go_enter Try.func3,Try.ntmps3
   go_wp2_with (first|((with_reducible refine zp (f:=10) rfl ?_);refine goesL_ (some 14) rfl rfl Try.func10 zz52 rfl #[] rfl zz19 ?_;(with_reducible refine (zB.calls k  t101 _ A4.out).mono ?_);rintro e w5 ⟨rfl,hb⟩;refine ⟨_,rfl,?_⟩;have n0_:=z1.mk (z8 zz20 hb);clear HB;have HB:=n0_;clear n0_;(try clear hb);(try clear hb2);(try clear hk);(try clear hi)))
   go_ret
   exact ⟨by first|rfl|(simp [zk,zl] <;> rfl)|(simp [*,zk,zl] <;> rfl),by repeat (first|(with_reducible first|exact HB.out|apply z7|apply z3|apply z5)|exact HB.out)⟩
 rw [if_neg c3] at H
 have c3b0 : decide (140 < (l0.length : Int)) = false:=decide_eq_false c3
 have c3b1 : decide (140 < l0.length) = false:=decide_eq_false zz54
 clear c3
 replace H:=Option.bind_eq_some_iff.mp H
 obtain ⟨⟨t102,t103⟩,A60,H⟩:=H
 replace H : ((zg.f k l0).bind fun t106=>((za.f k t106 a1).bind fun bt109=>((z9.f k t102 bt109.1).bind fun t113=>(if t113 = true then (zm.j0 k l0 t102 t103 (t103 != bt109.2)) else (zm.j0 k l0 t102 t103 true))))) = some r:=H
 have A6:=z1.mk A60
 clear A60
 replace H:=Option.bind_eq_some_iff.mp H
 obtain ⟨t106,A70,H⟩:=H
 replace H : ((za.f k t106 a1).bind fun bt109=>((z9.f k t102 bt109.1).bind fun t113=>(if t113 = true then (zm.j0 k l0 t102 t103 (t103 != bt109.2)) else (zm.j0 k l0 t102 t103 true)))) = some r:=H
 have A7:=z1.mk A70
 clear A70
 replace H:=Option.bind_eq_some_iff.mp H
 obtain ⟨⟨t109,t110⟩,A80,H⟩:=H
 replace H : ((z9.f k t102 t109).bind fun t113=>(if t113 = true then (zm.j0 k l0 t102 t103 (t103 != t110)) else (zm.j0 k l0 t102 t103 true))) = some r:=H
 have A8:=z1.mk A80
 clear A80
 have HC9:=z1.mk H
 clear H
 go_enter Try.func3,Try.ntmps3
 go_upto_region 5 with (first|((with_reducible refine zp (f:=11) rfl ?_);refine goesL_ (some 18) rfl rfl Try.func11 zz52 rfl #[.slice A0 l0.length c0,.int .i64 a1] rfl zz19 ?_;(with_reducible refine (zq.calls k _ _ l0 a1 t102 t103 _ ?side1 ?side2 A6.out).mono ?_);(case side1=>repeat (first|exact HR0.out|(with_reducible refine Kd.z15 ?_ _)|(with_reducible refine Kd.z16 ?_ _)|(with_reducible refine Kd.z1k ?_)));(case side2=>exact HC0.out);rintro e w10 ⟨v104,rfl,ho0,hb⟩;refine ⟨_,rfl,?_⟩;have n0_:=z1.mk (Kd.z1c ho0 (zd zz20));have n1_:=z1.mk (z8 zz20 hb);clear HB;have HO105:=n0_;have HB:=n1_;clear n0_ n1_;(try clear hb);(try clear hb2);(try clear hk);(try clear hi);(try clear ho0))|((with_reducible refine zp (f:=13) rfl ?_);refine goesL_ (some 23) rfl rfl Try.func13 zz52 rfl #[.slice A0 l0.length c0] rfl zz19 ?_;(with_reducible refine (zg.calls k _ _ l0 t106 _ ?side1 ?side2 A7.out).mono ?_);(case side1=>repeat (first|exact (Kd.z1S HR0.out HB.out)|(with_reducible refine Kd.z15 ?_ _)|(with_reducible refine Kd.z16 ?_ _)|(with_reducible refine Kd.z1k ?_)));(case side2=>exact HC0.out);rintro e w11 ⟨v107,rfl,ho0,hb⟩;refine ⟨_,rfl,?_⟩;have n0_:=z1.mk (Kd.zs zz39 hb);have n1_:=z1.mk (Kd.z1c ho0 (zd zz20));have n2_:=z1.mk (z8 zz20 hb);clear HO105;clear HB;have HO105:=n0_;have HO108:=n1_;have HB:=n2_;clear n0_ n1_ n2_;(try clear hb);(try clear hb2);(try clear hk);(try clear hi);(try clear ho0);obtain ⟨Ao12,co12,eo12⟩:=Kd.z14 HO108.out;subst eo12)|((with_reducible refine zp (f:=12) rfl ?_);refine goesL_ (some 25) rfl rfl Try.func12 zz52 rfl #[.slice Ao12 t106.length co12,.int .i64 a1] rfl zz19 ?_;(with_reducible refine (za.calls k _ _ t106 a1 t109 t110 _ ?side1 ?side2 A8.out).mono ?_);(case side1=>repeat (first|exact (Kd.zx HO108.out).2.2|(with_reducible refine Kd.z15 ?_ _)|(with_reducible refine Kd.z16 ?_ _)|(with_reducible refine Kd.z1k ?_)));(case side2=>exact (Kd.zx HO108.out).2.1);rintro e w13 ⟨v111,rfl,ho0,hb⟩;refine ⟨_,rfl,?_⟩;have n0_:=z1.mk (Kd.zs zz39 hb);have n1_:=z1.mk (Kd.zK zz40 (Kd.z1f ho0) hb);have n2_:=z1.mk (Kd.z1c (Kd.z1g ho0 (Kd.R_lt zz40)) (zd zz20));have n3_:=z1.mk (z8 zz20 hb);clear HO105;clear HO108;clear HB;have HO105:=n0_;have HO108:=n1_;have HO112:=n2_;have HB:=n3_;clear n0_ n1_ n2_ n3_;(try clear hb);(try clear hb2);(try clear hk);(try clear hi);(try clear ho0)))
 (try simp only [Act.put,List.setIfInBounds_toArray,List.set_cons_zero,List.set_cons_succ])
 go_cut [36] (fun v36 wc=>∃ (kq : Nat) (x36_8 : Bool),v36 = .bool x36_8 ∧ z1 (zm.j0 kq l0 t102 t103 x36_8 = some r) ∧ z1 (kq ≤ k) ∧ z1 (Kd.R k35 35 wc w.heap.size (fun _=>True) v104 t102) ∧ z1 (Below w.heap.size w wc))
 case first =>
  have H:=HC9.out
  clear HC9
  replace H:=Option.bind_eq_some_iff.mp H
  obtain ⟨t113,A140,H⟩:=H
  replace H : (if t113 = true then (zm.j0 k l0 t102 t103 (t103 != t110)) else (zm.j0 k l0 t102 t103 true)) = some r:=H
  have A14:=z1.mk A140
  clear A140
  by_cases c15 : t113 = true
  · subst c15
    have H1 : (zm.j0 k l0 t102 t103 (t103 != t110)) = some r:=by rw [if_pos rfl] at H;exact H
    clear H
    have H:=H1
    clear H1
    have H':=z1.mk H
    clear H
    obtain ⟨Ao16,co16,eo16⟩:=Kd.z14 HO105.out
    subst eo16
    obtain ⟨Ao17,co17,eo17⟩:=Kd.z14 HO112.out
    subst eo17
    go_wp2_with (first|((with_reducible refine zp (f:=14) rfl ?_);refine goesL_ (some 30) rfl rfl Try.func14 zz52 rfl #[.slice Ao16 t102.length co16,.slice Ao17 t109.length co17] rfl zz19 ?_;(with_reducible refine (z9.calls k _ _ t102 _ _ t109 true _ ?side1 ?side2 ?side3 ?side4 A14.out).mono ?_);(case side1=>repeat (first|exact (Kd.zx HO105.out).2.2|(with_reducible refine Kd.z15 ?_ _)|(with_reducible refine Kd.z16 ?_ _)|(with_reducible refine Kd.z1k ?_)));(case side2=>exact (Kd.zx HO105.out).2.1);(case side3=>repeat (first|exact (Kd.zx HO112.out).2.2|(with_reducible refine Kd.z15 ?_ _)|(with_reducible refine Kd.z16 ?_ _)|(with_reducible refine Kd.z1k ?_)));(case side4=>exact (Kd.zx HO112.out).2.1);rintro e w' ⟨rfl,⟨nd,rfl⟩⟩;refine ⟨_,rfl,?_⟩))
    go_meet
    case rel=>exact ⟨_,((t103 != t110)),zz50,H',⟨by first|omega|exact Nat.le_refl _⟩,⟨by (with_reducible repeat (first|apply Kd.zH|apply Kd.zI|apply Kd.zS));exact HO105.out⟩,⟨by repeat (first|(with_reducible first|exact HB.out|apply z7|apply z3|apply z5)|exact HB.out)⟩⟩
  replace c15:=Bool.eq_false_iff.mpr c15
  subst c15
  have H1 : (zm.j0 k l0 t102 t103 true) = some r:=by rw [if_neg (show ¬ (false = true) by decide)] at H;exact H
  clear H
  have H:=H1
  clear H1
  have H':=z1.mk H
  clear H
  obtain ⟨Ao18,co18,eo18⟩:=Kd.z14 HO105.out
  subst eo18
  obtain ⟨Ao19,co19,eo19⟩:=Kd.z14 HO112.out
  subst eo19
  go_wp2_with (first|((with_reducible refine zp (f:=14) rfl ?_);refine goesL_ (some 30) rfl rfl Try.func14 zz52 rfl #[.slice Ao18 t102.length co18,.slice Ao19 t109.length co19] rfl zz19 ?_;(with_reducible refine (z9.calls k _ _ t102 _ _ t109 false _ ?side1 ?side2 ?side3 ?side4 A14.out).mono ?_);(case side1=>repeat (first|exact (Kd.zx HO105.out).2.2|(with_reducible refine Kd.z15 ?_ _)|(with_reducible refine Kd.z16 ?_ _)|(with_reducible refine Kd.z1k ?_)));(case side2=>exact (Kd.zx HO105.out).2.1);(case side3=>repeat (first|exact (Kd.zx HO112.out).2.2|(with_reducible refine Kd.z15 ?_ _)|(with_reducible refine Kd.z16 ?_ _)|(with_reducible refine Kd.z1k ?_)));(case side4=>exact (Kd.zx HO112.out).2.1);rintro e w' ⟨rfl,⟨nd,rfl⟩⟩;refine ⟨_,rfl,?_⟩))
  go_meet
  case rel=>exact ⟨_,(true),zz50,H',⟨by first|omega|exact Nat.le_refl _⟩,⟨by (with_reducible repeat (first|apply Kd.zH|apply Kd.zI|apply Kd.zS));exact HO105.out⟩,⟨by repeat (first|(with_reducible first|exact HB.out|apply z7|apply z3|apply z5)|exact HB.out)⟩⟩
 case rest =>
  clear HC9
  (try clear c1);(try clear p2);(try clear c3);(try clear c3b0);(try clear c3b1);(try clear c10);(try clear c11);(try clear c12);(try clear c13);(try clear c14);(try clear c15)
  obtain ⟨kq,x36_8,rfl,HA,HJ8,HO_5,HB⟩:=hcut
  cases kq with
  | zero=>exact absurd HA.out (by simp [zm.j0])
  | succ kj8 =>
   have H:=HA.out
   clear HA
   simp only [zm.j0] at H
   by_cases c20 : x36_8 = true
   · subst c20
     have H1 : (some false) = some r:=by rw [if_pos rfl] at H;exact H
     clear H
     have H:=H1
     clear H1
     obtain rfl:=Option.some.inj H
     go_wp2
     go_ret
     exact ⟨by first|rfl|(simp [zk,zl] <;> rfl)|(simp [*,zk,zl] <;> rfl),by repeat (first|(with_reducible first|exact HB.out|apply z7|apply z3|apply z5)|exact HB.out)⟩
   replace c20:=Bool.eq_false_iff.mpr c20
   subst c20
   have H1 : (if t103 = 0 then ((zq.f kj8 t102 (l0.length : Int)).bind fun bt115=>((zB.f kj8).bind fun t119=>(if t119 = true then (if bt115.2 = 0 then ((zg.f kj8 l0).bind fun t120=>((z9.f kj8 bt115.1 t120).bind fun t123=>(some t123))) else (some false)) else (some false)))) else ((zB.f kj8).bind fun t114=>(some t114))) = some r:=by rw [if_neg (show ¬ (false = true) by decide)] at H;exact H
   clear H
   have H:=H1
   clear H1
   by_cases c21 : t103 = 0
   rotate_left
   · rw [if_neg c21] at H
     have c21b0 : (t103 == 0) = false:=beq_eq_false_iff_ne.mpr c21
     have c21b1 : (t103 != 0) = true:=bne_iff_ne.mpr c21
     replace H:=Option.bind_eq_some_iff.mp H
     obtain ⟨t114,A400,H⟩:=H
     replace H : (some t114) = some r:=H
     have A40:=z1.mk A400
     clear A400
     obtain rfl:=Option.some.inj H
     go_wp2_with (first|((with_reducible refine zp (f:=10) rfl ?_);refine goesL_ (some 39) rfl rfl Try.func10 zz52 rfl #[] rfl zz19 ?_;(with_reducible refine (zB.calls kj8  t114 _ A40.out).mono ?_);rintro e w41 ⟨rfl,hb⟩;refine ⟨_,rfl,?_⟩;have n0_:=z1.mk (Kd.zs zz45 hb);have n1_:=z1.mk (z8 zz20 hb);clear HO_5;clear HB;have HO_5:=n0_;have HB:=n1_;clear n0_ n1_;(try clear hb);(try clear hb2);(try clear hk);(try clear hi)))
     go_ret
     exact ⟨by first|rfl|(simp [zk,zl] <;> rfl)|(simp [*,zk,zl] <;> rfl),by repeat (first|(with_reducible first|exact HB.out|apply z7|apply z3|apply z5)|exact HB.out)⟩
   rw [if_pos c21] at H
   have c21b0 : (t103 == 0) = true:=beq_iff_eq.mpr c21
   have c21b1 : (t103 != 0) = false:=bne_eq_false_iff_eq.mpr c21
   clear c21
   replace H:=Option.bind_eq_some_iff.mp H
   obtain ⟨⟨t115,t116⟩,A220,H⟩:=H
   replace H : ((zB.f kj8).bind fun t119=>(if t119 = true then (if t116 = 0 then ((zg.f kj8 l0).bind fun t120=>((z9.f kj8 t115 t120).bind fun t123=>(some t123))) else (some false)) else (some false))) = some r:=H
   have A22:=z1.mk A220
   clear A220
   replace H:=Option.bind_eq_some_iff.mp H
   obtain ⟨t119,A230,H⟩:=H
   replace H : (if t119 = true then (if t116 = 0 then ((zg.f kj8 l0).bind fun t120=>((z9.f kj8 t115 t120).bind fun t123=>(some t123))) else (some false)) else (some false)) = some r:=H
   have A23:=z1.mk A230
   clear A230
   by_cases c24 : t119 = true
   rotate_left
   · replace c24:=Bool.eq_false_iff.mpr c24
     subst c24
     have H1 : (some false) = some r:=by rw [if_neg (show ¬ (false = true) by decide)] at H;exact H
     clear H
     have H:=H1
     clear H1
     obtain rfl:=Option.some.inj H
     obtain ⟨Ao37,co37,eo37⟩:=Kd.z14 HO_5.out
     subst eo37
     go_wp2_with (first|((with_reducible refine zp (f:=11) rfl ?_);refine goesL_ (some 44) rfl rfl Try.func11 zz52 rfl #[.slice Ao37 t102.length co37,.int .i64 (l0.length : Int)] rfl zz19 ?_;(with_reducible refine (zq.calls kj8 _ _ t102 (l0.length : Int) t115 t116 _ ?side1 ?side2 A22.out).mono ?_);(case side1=>repeat (first|exact (Kd.zx HO_5.out).2.2|(with_reducible refine Kd.z15 ?_ _)|(with_reducible refine Kd.z16 ?_ _)|(with_reducible refine Kd.z1k ?_)));(case side2=>exact (Kd.zx HO_5.out).2.1);rintro e w38 ⟨v117,rfl,ho0,hb⟩;refine ⟨_,rfl,?_⟩;have n0_:=z1.mk (Kd.zK zz45 (Kd.z1f ho0) hb);have n1_:=z1.mk (Kd.z1c (Kd.z1g ho0 (Kd.R_lt zz45)) (zd zz20));have n2_:=z1.mk (z8 zz20 hb);clear HO_5;clear HB;have HO_5:=n0_;have HO118:=n1_;have HB:=n2_;clear n0_ n1_ n2_;(try clear hb);(try clear hb2);(try clear hk);(try clear hi);(try clear ho0))|((with_reducible refine zp (f:=10) rfl ?_);refine goesL_ (some 47) rfl rfl Try.func10 zz52 rfl #[] rfl zz19 ?_;(with_reducible refine (zB.calls kj8  false _ A23.out).mono ?_);rintro e w39 ⟨rfl,hb⟩;refine ⟨_,rfl,?_⟩;have n0_:=z1.mk (Kd.zs zz45 hb);have n1_:=z1.mk (Kd.zs zz41 hb);have n2_:=z1.mk (z8 zz20 hb);clear HO_5;clear HO118;clear HB;have HO_5:=n0_;have HO118:=n1_;have HB:=n2_;clear n0_ n1_ n2_;(try clear hb);(try clear hb2);(try clear hk);(try clear hi)))
     go_ret
     exact ⟨by first|rfl|(simp [zk,zl] <;> rfl)|(simp [*,zk,zl] <;> rfl),by repeat (first|(with_reducible first|exact HB.out|apply z7|apply z3|apply z5)|exact HB.out)⟩
   subst c24
   have H1 : (if t116 = 0 then ((zg.f kj8 l0).bind fun t120=>((z9.f kj8 t115 t120).bind fun t123=>(some t123))) else (some false)) = some r:=by rw [if_pos rfl] at H;exact H
   clear H
   have H:=H1
   clear H1
   by_cases c25 : t116 = 0
   rotate_left
   · rw [if_neg c25] at H
     have c25b0 : (t116 == 0) = false:=beq_eq_false_iff_ne.mpr c25
     have c25b1 : (t116 != 0) = true:=bne_iff_ne.mpr c25
     obtain rfl:=Option.some.inj H
     obtain ⟨Ao34,co34,eo34⟩:=Kd.z14 HO_5.out
     subst eo34
     go_wp2_with (first|((with_reducible refine zp (f:=11) rfl ?_);refine goesL_ (some 44) rfl rfl Try.func11 zz52 rfl #[.slice Ao34 t102.length co34,.int .i64 (l0.length : Int)] rfl zz19 ?_;(with_reducible refine (zq.calls kj8 _ _ t102 (l0.length : Int) t115 t116 _ ?side1 ?side2 A22.out).mono ?_);(case side1=>repeat (first|exact (Kd.zx HO_5.out).2.2|(with_reducible refine Kd.z15 ?_ _)|(with_reducible refine Kd.z16 ?_ _)|(with_reducible refine Kd.z1k ?_)));(case side2=>exact (Kd.zx HO_5.out).2.1);rintro e w35 ⟨v117,rfl,ho0,hb⟩;refine ⟨_,rfl,?_⟩;have n0_:=z1.mk (Kd.zK zz45 (Kd.z1f ho0) hb);have n1_:=z1.mk (Kd.z1c (Kd.z1g ho0 (Kd.R_lt zz45)) (zd zz20));have n2_:=z1.mk (z8 zz20 hb);clear HO_5;clear HB;have HO_5:=n0_;have HO118:=n1_;have HB:=n2_;clear n0_ n1_ n2_;(try clear hb);(try clear hb2);(try clear hk);(try clear hi);(try clear ho0))|((with_reducible refine zp (f:=10) rfl ?_);refine goesL_ (some 47) rfl rfl Try.func10 zz52 rfl #[] rfl zz19 ?_;(with_reducible refine (zB.calls kj8  true _ A23.out).mono ?_);rintro e w36 ⟨rfl,hb⟩;refine ⟨_,rfl,?_⟩;have n0_:=z1.mk (Kd.zs zz45 hb);have n1_:=z1.mk (Kd.zs zz41 hb);have n2_:=z1.mk (z8 zz20 hb);clear HO_5;clear HO118;clear HB;have HO_5:=n0_;have HO118:=n1_;have HB:=n2_;clear n0_ n1_ n2_;(try clear hb);(try clear hb2);(try clear hk);(try clear hi)))
     go_ret
     exact ⟨by first|rfl|(simp [zk,zl] <;> rfl)|(simp [*,zk,zl] <;> rfl),by repeat (first|(with_reducible first|exact HB.out|apply z7|apply z3|apply z5)|exact HB.out)⟩
   rw [if_pos c25] at H
   have c25b0 : (t116 == 0) = true:=beq_iff_eq.mpr c25
   have c25b1 : (t116 != 0) = false:=bne_eq_false_iff_eq.mpr c25
   clear c25
   replace H:=Option.bind_eq_some_iff.mp H
   obtain ⟨t120,A260,H⟩:=H
   replace H : ((z9.f kj8 t115 t120).bind fun t123=>(some t123)) = some r:=H
   have A26:=z1.mk A260
   clear A260
   replace H:=Option.bind_eq_some_iff.mp H
   obtain ⟨t123,A270,H⟩:=H
   replace H : (some t123) = some r:=H
   have A27:=z1.mk A270
   clear A270
   obtain rfl:=Option.some.inj H
   obtain ⟨Ao28,co28,eo28⟩:=Kd.z14 HO_5.out
   subst eo28
   go_wp2_with (first|((with_reducible refine zp (f:=11) rfl ?_);refine goesL_ (some 44) rfl rfl Try.func11 zz52 rfl #[.slice Ao28 t102.length co28,.int .i64 (l0.length : Int)] rfl zz19 ?_;(with_reducible refine (zq.calls kj8 _ _ t102 (l0.length : Int) t115 t116 _ ?side1 ?side2 A22.out).mono ?_);(case side1=>repeat (first|exact (Kd.zx HO_5.out).2.2|(with_reducible refine Kd.z15 ?_ _)|(with_reducible refine Kd.z16 ?_ _)|(with_reducible refine Kd.z1k ?_)));(case side2=>exact (Kd.zx HO_5.out).2.1);rintro e w29 ⟨v117,rfl,ho0,hb⟩;refine ⟨_,rfl,?_⟩;have n0_:=z1.mk (Kd.zK zz45 (Kd.z1f ho0) hb);have n1_:=z1.mk (Kd.z1c (Kd.z1g ho0 (Kd.R_lt zz45)) (zd zz20));have n2_:=z1.mk (z8 zz20 hb);clear HO_5;clear HB;have HO_5:=n0_;have HO118:=n1_;have HB:=n2_;clear n0_ n1_ n2_;(try clear hb);(try clear hb2);(try clear hk);(try clear hi);(try clear ho0))|((with_reducible refine zp (f:=10) rfl ?_);refine goesL_ (some 47) rfl rfl Try.func10 zz52 rfl #[] rfl zz19 ?_;(with_reducible refine (zB.calls kj8  true _ A23.out).mono ?_);rintro e w30 ⟨rfl,hb⟩;refine ⟨_,rfl,?_⟩;have n0_:=z1.mk (Kd.zs zz45 hb);have n1_:=z1.mk (Kd.zs zz41 hb);have n2_:=z1.mk (z8 zz20 hb);clear HO_5;clear HO118;clear HB;have HO_5:=n0_;have HO118:=n1_;have HB:=n2_;clear n0_ n1_ n2_;(try clear hb);(try clear hb2);(try clear hk);(try clear hi))|(go_at_call 13;(with_reducible refine (zg.calls kj8 _ _ l0 t120 _ ?side1 ?side2 A26.out).mono ?_);(case side1=>repeat (first|exact (Kd.z1S HR0.out HB.out)|(with_reducible refine Kd.z15 ?_ _)|(with_reducible refine Kd.z16 ?_ _)|(with_reducible refine Kd.z1k ?_)));(case side2=>exact HC0.out);rintro e w31 ⟨v121,rfl,ho0,hb⟩;have n0_:=z1.mk (Kd.zs zz45 hb);have n1_:=z1.mk (Kd.zs zz41 hb);have n2_:=z1.mk (Kd.z1c ho0 (zd zz20));have n3_:=z1.mk (z8 zz20 hb);clear HO_5;clear HO118;clear HB;have HO_5:=n0_;have HO118:=n1_;have HO122:=n2_;have HB:=n3_;clear n0_ n1_ n2_ n3_;(try clear hb);(try clear hb2);(try clear hk);(try clear hi);(try clear ho0);obtain ⟨Ao32,co32,eo32⟩:=Kd.z14 HO118.out;subst eo32;obtain ⟨Ao33,co33,eo33⟩:=Kd.z14 HO122.out;subst eo33)|(go_at_call 14;(with_reducible refine (z9.calls kj8 _ _ t115 _ _ t120 t123 _ ?side1 ?side2 ?side3 ?side4 A27.out).mono ?_);(case side1=>repeat (first|exact (Kd.zx HO118.out).2.2|(with_reducible refine Kd.z15 ?_ _)|(with_reducible refine Kd.z16 ?_ _)|(with_reducible refine Kd.z1k ?_)));(case side2=>exact (Kd.zx HO118.out).2.1);(case side3=>repeat (first|exact (Kd.zx HO122.out).2.2|(with_reducible refine Kd.z15 ?_ _)|(with_reducible refine Kd.z16 ?_ _)|(with_reducible refine Kd.z1k ?_)));(case side4=>exact (Kd.zx HO122.out).2.1);rintro e w' ⟨rfl,⟨nd,rfl⟩⟩))
   go_ret
   exact ⟨by first|rfl|(simp [zk,zl] <;> rfl)|(simp [*,zk,zl] <;> rfl),by repeat (first|(with_reducible first|exact HB.out|apply z7|apply z3|apply z5)|exact HB.out)⟩
end Go.Proofs.Ytnhbdhgbmjcjdaa.P
/- What the arguments of a law read as: for each type that can be told, any reading of it is one of a value of its kind, with its numbers in their ranges. Own text. -/
namespace Go.Proofs.Ytnhbdhgbmjcjdaa.Reads
open Go.ChangeShapes Go.WideShapes Go.ChangeAt Go.RowKit Go.Deep Go.Proofs.YtnhbdhgbmjcjdaaW.PrintWords
set_option linter.unusedVariables false

/-- Whatever is read at type t is of kind d, and good. -/
def ReadsAs {α : Type} (P : Program) (t : TypeId) (d : Kd α) (good : α → Prop) : Prop :=
  ∀ {H : Type} (enc : TypeId × Value → H) (w : World) (base : Nat) (spare : Nat → Bool) (held : Bool) (fuel : Nat) (cs : List Value) (x : DataW H × List MemPlace), DataW.trod enc P w base spare held fuel t cs = some x → ∃ a, d.K w a cs ∧ good a

theorem z5R {P : Program} {t : TypeId} {k : IntKind} (ht : P.underlying t = some (.int k)) : ReadsAs P t (Kd.int k) (fun n => (Lit.int k n).wf = true) := by
  intro H enc w base spare held fuel cs x h
  obtain ⟨n, rfl, _, hw⟩ := DataW.trod_int ht h
  exact ⟨n, rfl, hw⟩
theorem op_bool {P : Program} {t : TypeId} (ht : P.underlying t = some .bool) : ReadsAs P t Kd.bool (fun _ => True) := by
  intro H enc w base spare held fuel cs x h
  obtain ⟨n, rfl, _⟩ := DataW.trod_bool ht h
  exact ⟨n, rfl, trivial⟩
theorem z4w (a : Addr) (i j : Nat) : (a.add i).add j = a.add (i + j) := Go.Deep.add_add a i j
theorem op_slice {α : Type} {P : Program} {t e : TypeId} {d : Kd α} {good : α → Prop} (ht : P.underlying t = some (.slice e)) (hc : P.cellsOf e = d.sz) (he : ReadsAs P e d good) : ReadsAs P t (Kd.slice e d) (fun l => (∀ x ∈ l, good x) ∧ l.length ≤ maxLen) := by
  intro H enc w base spare held fuel cs x h
  rcases open_slice ht h with ⟨rfl, _⟩ | ⟨a, len, cap, m, n, D, Pl, rfl, hb, hl, hm, hmm, rfl, hx⟩
  · exact ⟨[], ⟨none, 0, rfl, Nat.le_refl _, Kd.C_nil d w⟩, ⟨by simp, Nat.zero_le _⟩⟩
  · have hlm : len ≤ m := by rw [hmm]; split <;> omega
    have hex : ∀ i, i < len → ∃ y : α, ∃ c, c.length = d.sz ∧ d.K w y c ∧ good y ∧ ∀ j u, c[j]? = some u → w.cell? (a.add (i * d.sz + j)) = some u := by
      intro i hi
      obtain ⟨cs', h1, h2⟩ := hx i (by omega)
      obtain ⟨_, hlen, hcell⟩ := World.cells?_some h1
      obtain ⟨y, hK, hg⟩ := he enc w base spare held n cs' _ h2
      refine ⟨y, cs', by rw [hlen, hc], hK, hg, fun j u hu => ?_⟩
      have hj : j < P.cellsOf e := by rw [← hlen]; exact (List.getElem?_eq_some_iff.1 hu).1
      have := hcell j hj
      rw [z4w] at this
      rw [← hc, this]; exact hu
    have hmax : len ≤ 9223372036854775807 := by
      have h9 : len ≤ maxLen := by omega
      simpa [maxLen] using h9
    have hlen : (List.ofFn (fun i : Fin len => Classical.choose (hex i.1 i.2))).length = len := List.length_ofFn
    refine ⟨List.ofFn (fun i : Fin len => Classical.choose (hex i.1 i.2)), ⟨some a, cap, by rw [hlen], by rw [hlen]; exact hl, rfl, by rw [hlen]; exact hmax, fun _ => ⟨a, rfl, ?_⟩⟩, ?_, by rw [hlen]; omega⟩
    · intro j p hp
      obtain ⟨hj, hpj⟩ := List.getElem?_eq_some_iff.1 hp
      rw [List.length_ofFn] at hj
      rw [List.getElem_ofFn] at hpj
      obtain ⟨c, h1, h2, _, h4⟩ := Classical.choose_spec (hex j hj)
      exact ⟨c, h1, by rw [← hpj]; exact h2, h4⟩
    · intro y hy
      obtain ⟨i, rfl⟩ := List.mem_ofFn.1 hy
      obtain ⟨c, _, _, h3, _⟩ := Classical.choose_spec (hex i.1 i.2)
      exact h3

/-- Fields that lie one behind the other. -/
def ReadsFs {α : Type} (P : Program) (fs : List Field) (off : Nat) (d : Kd α) (good : α → Prop) : Prop :=
  ∀ {H : Type} (enc : TypeId × Value → H) (w : World) (base : Nat) (spare : Nat → Bool) (held : Bool) (n : Nat) (cs : List Value), cs.length = d.sz →
    (∀ f ∈ fs, off ≤ f.offset ∧ ∃ x, DataW.trod enc P w base spare held n f.type ((cs.drop (f.offset - off)).take (P.cellsOf f.type)) = some x) → ∃ a, d.K w a cs ∧ good a
theorem z5U {α : Type} {P : Program} {f : Field} {off : Nat} {d : Kd α} {good : α → Prop} (hs : P.cellsOf f.type = d.sz) (ho : f.offset = off) (he : ReadsAs P f.type d good) : ReadsFs P [f] off d good := by
  intro H enc w base spare held n cs hl h
  obtain ⟨_, x, hx⟩ := h f (by simp)
  rw [ho, Nat.sub_self, List.drop_zero, hs, ← hl, List.take_length] at hx
  exact he enc w base spare held n cs x hx
theorem z5T {α β : Type} {P : Program} {f : Field} {fs : List Field} {off : Nat} {d : Kd α} {d' : Kd β} {good : α → Prop} {good' : β → Prop} (hs : P.cellsOf f.type = d.sz) (ho : f.offset = off) (he : ReadsAs P f.type d good)
    (hr : ReadsFs P fs (off + d.sz) d' good') (hoff : ∀ g ∈ fs, off + d.sz ≤ g.offset) : ReadsFs P (f :: fs) off (Kd.pair d d') (fun x => good x.1 ∧ good' x.2) := by
  intro H enc w base spare held n cs hl h
  have hl' : cs.length = d.sz + d'.sz := hl
  obtain ⟨_, x, hx⟩ := h f (by simp)
  rw [ho, Nat.sub_self, List.drop_zero, hs] at hx
  obtain ⟨a, hK, hg⟩ := he enc w base spare held n _ x hx
  obtain ⟨b, hK', hg'⟩ := hr enc w base spare held n (cs.drop d.sz) (by rw [List.length_drop]; omega) (fun g hgm => by
    obtain ⟨_, y, hy⟩ := h g (by simp [hgm])
    have ho' := hoff g hgm
    refine ⟨ho', y, ?_⟩
    rw [List.drop_drop, show d.sz + (g.offset - (off + d.sz)) = g.offset - off by omega]
    exact hy)
  exact ⟨(a, b), ⟨cs.take d.sz, cs.drop d.sz, (List.take_append_drop _ _).symm, hK, hK'⟩, hg, hg'⟩
theorem z5S {α β : Type} {P : Program} {t : TypeId} {fs : Array Field} {l : List Field} {d : Kd α} {good : α → Prop} (f : β → α) (hsurj : ∀ a, ∃ b, f b = a) (ht : P.underlying t = some (.struct fs)) (hfl : fs.toList = l) (hs : P.cellsOf t = d.sz) (h : ReadsFs P l 0 d good) :
    ReadsAs P t (Kd.iso d f) (fun b => good (f b)) := by
  intro H enc w base spare held fuel cs x hx
  obtain ⟨xs, n, rfl, _, hlen, hxs, hall⟩ := DataW.trod_struct ht hx
  obtain ⟨a, hK, hg⟩ := h enc w base spare held n cs (by rw [hlen, hs]) (fun g hgm => by
    rw [← hfl] at hgm
    obtain ⟨i, hi, rfl⟩ := List.mem_iff_getElem.1 hgm
    have h1 := hall i fs.toList[i] (by simp at hi ⊢)
    have hi' : i < xs.length := by rw [hxs]; simpa using hi
    refine ⟨Nat.zero_le _, xs[i], ?_⟩
    rw [Nat.sub_zero, h1, List.getElem?_eq_getElem hi'])
  obtain ⟨b, rfl⟩ := hsurj a
  exact ⟨b, hK, hg⟩

/-- Elements of an array, one behind the other. -/
def ReadsAr {α : Type} (P : Program) (e : TypeId) (m : Nat) (d : Kd α) (good : α → Prop) : Prop :=
  ∀ {H : Type} (enc : TypeId × Value → H) (w : World) (base : Nat) (spare : Nat → Bool) (held : Bool) (n : Nat) (cs : List Value), cs.length = d.sz →
    (∀ i, i < m → ∃ x, DataW.trod enc P w base spare held n e ((cs.drop (i * P.cellsOf e)).take (P.cellsOf e)) = some x) → ∃ a, d.K w a cs ∧ good a
theorem opas_last {α : Type} {P : Program} {e : TypeId} {d : Kd α} {good : α → Prop} (hs : P.cellsOf e = d.sz) (he : ReadsAs P e d good) : ReadsAr P e 1 d good := by
  intro H enc w base spare held n cs hl h
  obtain ⟨x, hx⟩ := h 0 (by omega)
  rw [Nat.zero_mul, List.drop_zero, hs, ← hl, List.take_length] at hx
  exact he enc w base spare held n cs x hx
theorem opas_cons {α β : Type} {P : Program} {e : TypeId} {m : Nat} {d : Kd α} {d' : Kd β} {good : α → Prop} {good' : β → Prop} (hs : P.cellsOf e = d.sz) (he : ReadsAs P e d good) (hr : ReadsAr P e m d' good') :
    ReadsAr P e (m + 1) (Kd.pair d d') (fun x => good x.1 ∧ good' x.2) := by
  intro H enc w base spare held n cs hl h
  have hl' : cs.length = d.sz + d'.sz := hl
  obtain ⟨x, hx⟩ := h 0 (by omega)
  rw [Nat.zero_mul, List.drop_zero, hs] at hx
  obtain ⟨a, hK, hg⟩ := he enc w base spare held n _ x hx
  obtain ⟨b, hK', hg'⟩ := hr enc w base spare held n (cs.drop d.sz) (by rw [List.length_drop]; omega) (fun i hi => by
    obtain ⟨y, hy⟩ := h (i + 1) (by omega)
    refine ⟨y, ?_⟩
    rw [List.drop_drop, show d.sz + i * P.cellsOf e = (i + 1) * P.cellsOf e by rw [hs, Nat.add_mul]; omega]
    exact hy)
  exact ⟨(a, b), ⟨cs.take d.sz, cs.drop d.sz, (List.take_append_drop _ _).symm, hK, hK'⟩, hg, hg'⟩
theorem op_array {α β : Type} {P : Program} {t e : TypeId} {m : Nat} {d : Kd α} {good : α → Prop} (f : β → α) (hsurj : ∀ a, ∃ b, f b = a) (ht : P.underlying t = some (.array m e)) (hs : P.cellsOf t = d.sz) (h : ReadsAr P e m d good) :
    ReadsAs P t (Kd.iso d f) (fun b => good (f b)) := by
  intro H enc w base spare held fuel cs x hx
  obtain ⟨xs, n, rfl, _, hlen, hxs, hall⟩ := DataW.trod_array ht hx
  obtain ⟨a, hK, hg⟩ := h enc w base spare held n cs (by rw [hlen, hs]) (fun i hi => by
    have hi' : i < xs.length := by omega
    exact ⟨xs[i], by rw [hall i hi, List.getElem?_eq_getElem hi']⟩)
  obtain ⟨b, rfl⟩ := hsurj a
  exact ⟨b, hK, hg⟩
theorem z4i {P : Program} {w : World} {r : Reach} {base : Nat} {t e : TypeId} {m : Nat} {v : Value} (ht : P.underlying t = some (.array m e)) (h : Value.okWide P w r base t v) : ∃ cs, v = .agg cs ∧ cs.size = P.cellsOf t := by
  simp only [Value.okWide, ht] at h
  cases v <;> simp_all

/-- An argument that is a slice. -/
theorem z5w {α : Type} {P : Program} {H : Type} {enc : TypeId × Value → H} {W : World} {base : Nat} {spare : Nat → Bool} {held : Bool} {t e : TypeId} {d : Kd α} {good : List α → Prop} {v : Value} {dd : DataW H} {ps : List MemPlace}
    (hop : ReadsAs P t (Kd.slice e d) good) {e' : TypeId} (ht : P.underlying t = some (.slice e')) {r : Reach} {b : Nat} (hv : Value.okWide P W r b t v) (h : DataW.Trod enc P W base spare held t v dd ps) :
    ∃ (l : List α) (A : Option Addr) (c : Nat), v = .slice A l.length c ∧ l.length ≤ c ∧ Kd.C d W A l.length l ∧ good l := by
  obtain ⟨A, len, cap, rfl⟩ := okWide_slice ht hv
  obtain ⟨fuel, hf⟩ := h
  obtain ⟨l, ⟨A', c, hcs, hl, hC⟩, hg⟩ := hop enc W base spare held fuel _ _ hf
  simp [Value.cells] at hcs
  obtain ⟨rfl, rfl, rfl⟩ := hcs
  exact ⟨l, A, cap, rfl, hl, hC, hg⟩
theorem arg_int {P : Program} {H : Type} {enc : TypeId × Value → H} {W : World} {base : Nat} {spare : Nat → Bool} {held : Bool} {t : TypeId} {k : IntKind} {v : Value} {dd : DataW H} {ps : List MemPlace}
    (ht : P.underlying t = some (.int k)) {r : Reach} {b : Nat} (hv : Value.okWide P W r b t v) (h : DataW.Trod enc P W base spare held t v dd ps) :
    ∃ n, v = .int k n ∧ (Lit.int k n).wf = true := by
  obtain ⟨n, rfl⟩ := okWide_int ht hv
  obtain ⟨fuel, hf⟩ := h
  obtain ⟨l, hcs, hg⟩ := z5R ht enc W base spare held fuel _ _ hf
  have : n = l := by
    have h1 : ([Value.int k n] : List Value) = [.int k l] := hcs
    simpa using h1
  subst this
  exact ⟨n, rfl, hg⟩
theorem arg_bool {P : Program} {W : World} {t : TypeId} {v : Value} (ht : P.underlying t = some .bool) {r : Reach} {b : Nat} (hv : Value.okWide P W r b t v) : ∃ n, v = .bool n := okWide_bool ht hv
/-- An argument that is a struct: its cells. -/
theorem arg_struct {α : Type} {P : Program} {H : Type} {enc : TypeId × Value → H} {W : World} {base : Nat} {spare : Nat → Bool} {held : Bool} {t : TypeId} {fs : Array Field} {d : Kd α} {good : α → Prop} {v : Value} {dd : DataW H} {ps : List MemPlace}
    (hop : ReadsAs P t d good) (ht : P.underlying t = some (.struct fs)) {r : Reach} {b : Nat} (hv : Value.okWide P W r b t v) (h : DataW.Trod enc P W base spare held t v dd ps) :
    ∃ (a : α) (cs : List Value), v = .agg cs.toArray ∧ d.K W a cs ∧ good a := by
  obtain ⟨cs, rfl, _⟩ := okWide_struct ht hv
  obtain ⟨fuel, hf⟩ := h
  obtain ⟨a, hK, hg⟩ := hop enc W base spare held fuel _ _ hf
  exact ⟨a, cs.toList, by simp, hK, hg⟩
/-- An argument that is an array: its cells. -/
theorem arg_array {α : Type} {P : Program} {H : Type} {enc : TypeId × Value → H} {W : World} {base : Nat} {spare : Nat → Bool} {held : Bool} {t e : TypeId} {m : Nat} {d : Kd α} {good : α → Prop} {v : Value} {dd : DataW H} {ps : List MemPlace}
    (hop : ReadsAs P t d good) (ht : P.underlying t = some (.array m e)) {r : Reach} {b : Nat} (hv : Value.okWide P W r b t v) (h : DataW.Trod enc P W base spare held t v dd ps) :
    ∃ (a : α) (cs : List Value), v = .agg cs.toArray ∧ d.K W a cs ∧ good a := by
  obtain ⟨cs, rfl, _⟩ := z4i ht hv
  obtain ⟨fuel, hf⟩ := h
  obtain ⟨a, hK, hg⟩ := hop enc W base spare held fuel _ _ hf
  exact ⟨a, cs.toList, by simp, hK, hg⟩
end Go.Proofs.Ytnhbdhgbmjcjdaa.Reads
-- Own text: the statement that is left of the law SpanTurns, and what a reading of its arguments is.
namespace Go.Proofs.Ytnhbdhgbmjcjdaa.Stated.spanTurns
open Go.RowKit Go.Proofs.YtnhbdhgbmjcjdaaW.PrintWords Go.Proofs.Ytnhbdhgbmjcjdaa.P Go.Proofs.Ytnhbdhgbmjcjdaa.Reads
def Pure : Prop := ∀ (x0 : List (S35)) (x1 : Int), (((∀ x_ ∈ x0, ((Lit.int .u64 x_.f0).wf = true) ∧ ((Lit.int .u64 x_.f1).wf = true)) ∧ x0.length ≤ maxLen)) → ((Lit.int .i64 x1).wf = true) → ∃ k, zm.f k x0 x1 = some true
end Go.Proofs.Ytnhbdhgbmjcjdaa.Stated.spanTurns
/- Rounds: what is told by enough of them; and the arithmetic of whole numbers as the printed functions spell it. Own text. -/
namespace Go.Proofs.YtnhbdhgbmjcjdaaW.PrintWords
set_option linter.unusedVariables false
set_option linter.unusedSimpArgs false
namespace Ev
variable {α β : Type}
theorem ret (r : α) : Ev (fun _ => some r) r := ⟨0, fun _ _ => rfl⟩
theorem ret' {a r : α} (h : a = r) : Ev (fun _ => some a) r := h ▸ Ev.ret a
theorem const {o : Option α} {r : α} (h : o = some r) : Ev (fun _ => o) r := ⟨0, fun _ _ => h⟩
theorem pos {c : Prop} [Decidable c] {f g : Nat → Option α} {r : α} (h : c) (k : Ev f r) : Ev (fun n => if c then f n else g n) r := by
  simp only [if_pos h]; exact k
theorem neg {c : Prop} [Decidable c] {f g : Nat → Option α} {r : α} (h : ¬ c) (k : Ev g r) : Ev (fun n => if c then f n else g n) r := by
  simp only [if_neg h]; exact k
theorem bnd {g : Nat → Option α} {f : Nat → α → Option β} {a : α} {r : β} (h : Ev g a) (k : Ev (fun n => f n a) r) : Ev (fun n => (g n).bind (f n)) r := Ev.bind h k
theorem bnd0 {o : Option α} {f : Nat → α → Option β} {a : α} {r : β} (h : o = some a) (k : Ev (fun n => f n a) r) : Ev (fun n => o.bind (f n)) r := Ev.bind (Ev.const h) k
theorem uniq {g : Nat → Option α} {a b : α} (h : Ev g a) (k : Ev g b) : a = b := by
  obtain ⟨K, hK⟩ := h; obtain ⟨L, hL⟩ := k
  have := hK (max K L) (Nat.le_max_left _ _); rw [hL _ (Nat.le_max_right _ _)] at this
  exact (Option.some.inj this).symm
theorem eqn {g : Nat → Option α} {a b : α} (h : Ev g a) (e : a = b) : Ev g b := e ▸ h
end Ev
end Go.Proofs.YtnhbdhgbmjcjdaaW.PrintWords
namespace Go.Proofs.Ytnhbdhgbmjcjdaa.Ar
open Go.RowKit Go.Proofs.YtnhbdhgbmjcjdaaW.PrintWords Go.Proofs.YtnhbdhgbmjcjdaaW.PrintMore
set_option linter.unusedVariables false
set_option linter.unusedSimpArgs false
theorem i64_id {x : Int} (h0 : -9223372036854775808 ≤ x) (h1 : x ≤ 9223372036854775807) : IntKind.i64.wrap x = x := by rw [IntKind.wrap_i64]; omega
theorem z1P {x : Int} (h0 : -9223372036854775808 ≤ x) (h1 : x ≤ 9223372036854775807) : wrap64 x = x := by unfold wrap64; omega
theorem z1D {i L : Nat} (h : i < L) (hL : L ≤ 4611686018427387904) : wrap64 ((i : Int) + 1) = ((i + 1 : Nat) : Int) := by rw [z1P (by omega) (by omega)]; omega
theorem w64_add {i j : Nat} (h : i ≤ 2305843009213693952) (h' : j ≤ 2305843009213693952) : wrap64 ((i : Int) + (j : Int)) = ((i + j : Nat) : Int) := by rw [z1P (by omega) (by omega)]; omega
theorem w64_sub {i j : Nat} (h : j ≤ i) (h' : i ≤ 4611686018427387904) : wrap64 ((i : Int) - (j : Int)) = ((i - j : Nat) : Int) := by rw [z1P (by omega) (by omega)]; omega
theorem z2e {x : Int} (h0 : 0 ≤ x) (h1 : x < 18446744073709551616) : IntKind.u64.wrap x = x := by
  simp [IntKind.wrap, IntKind.bits, IntKind.signed]; omega
theorem z61 (w : Nat) (h : w ≤ 62) : shl .i64 1 (w : Int) = ((2 ^ w : Nat) : Int) := by
  unfold shl
  have h64 : IntKind.i64.bits = 64 := rfl
  rw [h64, Int.toNat_natCast, Nat.min_eq_left (by omega), Int.one_mul]
  have hp : (2 : Nat) ^ w ≤ 2 ^ 62 := Nat.pow_le_pow_right (by decide) h
  have hc : ((2 : Int) ^ w) = ((2 ^ w : Nat) : Int) := by simp
  rw [hc]
  have h62 : (2 : Nat) ^ 62 = 4611686018427387904 := by decide
  generalize 2 ^ w = p at hp ⊢
  exact i64_id (by omega) (by omega)
theorem z2l (w : Nat) (h : w ≤ 63) : shl .u64 1 (w : Int) = ((2 ^ w : Nat) : Int) := by
  unfold shl
  have h64 : IntKind.u64.bits = 64 := rfl
  rw [h64, Int.toNat_natCast, Nat.min_eq_left (by omega), Int.one_mul]
  have hp : (2 : Nat) ^ w ≤ 2 ^ 63 := Nat.pow_le_pow_right (by decide) h
  have hc : ((2 : Int) ^ w) = ((2 ^ w : Nat) : Int) := by simp
  rw [hc]
  have h63 : (2 : Nat) ^ 63 = 9223372036854775808 := by decide
  generalize 2 ^ w = p at hp ⊢
  exact z2e (by omega) (by omega)
theorem z46 (a w : Nat) (h : w ≤ 64) : shr .u64 (a : Int) (w : Int) = ((a / 2 ^ w : Nat) : Int) := by
  unfold shr
  have h64 : IntKind.u64.bits = 64 := rfl
  rw [h64, Int.toNat_natCast, Nat.min_eq_left h]; simp
theorem shr_i64 (a w : Nat) (h : w ≤ 64) : shr .i64 (a : Int) (w : Int) = ((a / 2 ^ w : Nat) : Int) := by
  unfold shr
  have h64 : IntKind.i64.bits = 64 := rfl
  rw [h64, Int.toNat_natCast, Nat.min_eq_left h]; simp
theorem z3R (op : BinOp) (a b : Nat) (ha : a < 2 ^ 64) (hb : b < 2 ^ 64) :
    (op = .and → Go.bits op .u64 a b = ((a &&& b : Nat) : Int)) ∧ (op = .or → Go.bits op .u64 a b = ((a ||| b : Nat) : Int)) ∧ (op = .xor → Go.bits op .u64 a b = ((a ^^^ b : Nat) : Int)) := by
  have ha' : a % 2 ^ IntKind.u64.bits = a := Nat.mod_eq_of_lt ha
  have hb' : b % 2 ^ IntKind.u64.bits = b := Nat.mod_eq_of_lt hb
  refine ⟨?_, ?_, ?_⟩ <;> rintro rfl <;> simp only [Go.bits, BitVec.ofInt_natCast, BitVec.toNat_and, BitVec.toNat_or, BitVec.toNat_xor, BitVec.toNat_ofNat, ha', hb']
  · exact z2e (Int.natCast_nonneg _) (by have := Nat.and_lt_two_pow a hb; omega)
  · exact z2e (Int.natCast_nonneg _) (by have := Nat.or_lt_two_pow ha hb; omega)
  · exact z2e (Int.natCast_nonneg _) (by have := Nat.xor_lt_two_pow ha hb; omega)
theorem z20 (a b : Nat) (ha : a < 2 ^ 64) (hb : b < 2 ^ 64) : Go.bits .and .u64 a b = ((a &&& b : Nat) : Int) := (z3R .and a b ha hb).1 rfl
theorem z4N (a b : Nat) (ha : a < 2 ^ 64) (hb : b < 2 ^ 64) : Go.bits .or .u64 a b = ((a ||| b : Nat) : Int) := (z3R .or a b ha hb).2.1 rfl
theorem z1B (a b : Nat) (ha : a < 2 ^ 64) (hb : b < 2 ^ 64) : Go.bits .xor .u64 a b = ((a ^^^ b : Nat) : Int) := (z3R .xor a b ha hb).2.2 rfl
theorem z4a (x w : Nat) (hx : x < 2 ^ 63) (hw : w ≤ 62) : Go.bits .and .i64 (x : Int) (((2 ^ w : Nat) : Int) - 1) = ((x % 2 ^ w : Nat) : Int) := by
  have := Go.bits_mask .i64 63 (by decide) (fun n h0 h1 => i64_id (by omega) (by omega)) w (by omega) (x : Int) (by omega) (by exact_mod_cast hx)
  have hc : (((2 ^ w : Nat) : Int) - 1) = 2 ^ w - 1 := by simp
  rw [hc, this]; simp
theorem two_pow_le {w : Nat} (h : w ≤ 6) : 2 ^ w ≤ 64 := Nat.pow_le_pow_right (n := 2) (by decide) h
theorem wf_i64 {x : Int} (h : (Lit.int .i64 x).wf = true) : -9223372036854775808 ≤ x ∧ x ≤ 9223372036854775807 := by
  simp only [Lit.wf, IntKind.min, IntKind.max, IntKind.signed, IntKind.bits, Bool.and_eq_true, decide_eq_true_eq] at h; simp at h; omega
theorem wf_u64 {x : Int} (h : (Lit.int .u64 x).wf = true) : 0 ≤ x ∧ x < 18446744073709551616 := by
  simp only [Lit.wf, IntKind.min, IntKind.max, IntKind.signed, IntKind.bits, Bool.and_eq_true, decide_eq_true_eq] at h; simp at h; omega
theorem rdOf_eq {α : Type} (d : α) (l : List α) (i : Nat) : rdOf d l (i : Int) = l.getD i d := by unfold rdOf; rw [Int.toNat_natCast]
end Go.Proofs.Ytnhbdhgbmjcjdaa.Ar
/- The tower of fields of characteristic two, as pairs of pairs of bits: its laws. Own text; nothing of the program in it. -/
namespace Go.Proofs.Ytnhbdhgbmjcjdaa.Tw
set_option linter.unusedVariables false
set_option linter.unusedSimpArgs false

/-- Level n: a bit, or two halves: the higher one and the lower one. -/
def T : Nat → Type
  | 0 => Bool
  | n + 1 => T n × T n
def zero : (n : Nat) → T n
  | 0 => false
  | n + 1 => (zero n, zero n)
def one : (n : Nat) → T n
  | 0 => true
  | n + 1 => (zero n, one n)
/-- The generator. -/
def gen : (n : Nat) → T n
  | 0 => true
  | n + 1 => (one n, zero n)
def add : {n : Nat} → T n → T n → T n
  | 0, a, b => Bool.xor a b
  | _ + 1, a, b => (add a.1 b.1, add a.2 b.2)
def mul : {n : Nat} → T n → T n → T n
  | 0, a, b => Bool.and a b
  | n + 1, a, b => (add (add (mul a.1 b.2) (mul a.2 b.1)) (mul (gen n) (mul a.1 b.1)), add (mul a.2 b.2) (mul a.1 b.1))
instance {n : Nat} : Add (T n) := ⟨add⟩
instance {n : Nat} : Mul (T n) := ⟨mul⟩
instance {n : Nat} : Zero (T n) := ⟨zero n⟩
instance {n : Nat} : One (T n) := ⟨one n⟩
instance : {n : Nat} → DecidableEq (T n)
  | 0 => inferInstanceAs (DecidableEq Bool)
  | n + 1 => let _ : DecidableEq (T n) := instDecidableEqT; inferInstanceAs (DecidableEq (T n × T n))
theorem z3b {n : Nat} (a b : T (n + 1)) : (a + b).1 = a.1 + b.1 := rfl
theorem z3Q {n : Nat} (a b : T (n + 1)) : (a + b).2 = a.2 + b.2 := rfl
theorem z1K {n : Nat} (a b : T (n + 1)) : (a * b).1 = (a.1 * b.2 + a.2 * b.1) + gen n * (a.1 * b.1) := rfl
theorem z1L {n : Nat} (a b : T (n + 1)) : (a * b).2 = a.2 * b.2 + a.1 * b.1 := rfl
theorem z31 {n : Nat} : (0 : T (n + 1)).1 = 0 := rfl
theorem z32 {n : Nat} : (0 : T (n + 1)).2 = 0 := rfl
theorem z40 {n : Nat} : (1 : T (n + 1)).1 = 0 := rfl
theorem z41 {n : Nat} : (1 : T (n + 1)).2 = 1 := rfl
theorem z2h {n : Nat} : (gen (n + 1)).1 = 1 := rfl
theorem z2i {n : Nat} : (gen (n + 1)).2 = 0 := rfl
theorem z4I : gen 0 = 1 := rfl
/-- The element of two halves. -/
def mk {n : Nat} (a b : T n) : T (n + 1) := (a, b)
theorem z1Y {n : Nat} (a b : T n) : (mk a b).1 = a := rfl
theorem z27 {n : Nat} (a b : T n) : (mk a b).2 = b := rfl
theorem ext {n : Nat} {a b : T (n + 1)} (h1 : a.1 = b.1) (h2 : a.2 = b.2) : a = b := Prod.ext h1 h2

theorem add_comm : {n : Nat} → (a b : T n) → a + b = b + a
  | 0, a, b => Bool.xor_comm a b
  | n + 1, a, b => ext (add_comm a.1 b.1) (add_comm a.2 b.2)
theorem add_assoc : {n : Nat} → (a b c : T n) → a + b + c = a + (b + c)
  | 0, a, b, c => Bool.xor_assoc a b c
  | n + 1, a, b, c => ext (add_assoc a.1 b.1 c.1) (add_assoc a.2 b.2 c.2)
theorem zero_add : {n : Nat} → (a : T n) → 0 + a = a
  | 0, a => Bool.false_xor a
  | n + 1, a => ext (zero_add a.1) (zero_add a.2)
theorem z1N : {n : Nat} → (a : T n) → a + a = 0
  | 0, a => Bool.xor_self a
  | n + 1, a => ext (z1N a.1) (z1N a.2)
theorem add_zero {n : Nat} (a : T n) : a + 0 = a := by rw [add_comm, zero_add]
theorem z1C {n : Nat} (a b c : T n) : a + (b + c) = b + (a + c) := by rw [← add_assoc, add_comm a b, add_assoc]
theorem z49 {n : Nat} (a b : T n) : a + (a + b) = b := by rw [← add_assoc, z1N, zero_add]
theorem z5v {n : Nat} {a b c : T n} (h : a + b = a + c) : b = c := by
  have := congrArg (a + ·) h
  simpa only [z49] using this
theorem add_eq_zero {n : Nat} {a b : T n} (h : a + b = 0) : a = b := by
  have := congrArg (· + b) h
  simp only [add_assoc, z1N, add_zero, zero_add] at this
  exact this
theorem eq_add_of {n : Nat} {a b c : T n} (h : a + b = c) : a = c + b := by rw [← h, add_assoc, z1N, add_zero]

/-- The laws of products, all at once. -/
structure Laws (n : Nat) : Prop where
  comm : ∀ a b : T n, a * b = b * a
  zero_mul : ∀ a : T n, 0 * a = 0
  one_mul : ∀ a : T n, 1 * a = a
  mul_add : ∀ a b c : T n, a * (b + c) = a * b + a * c
  assoc : ∀ a b c : T n, a * b * c = a * (b * c)
theorem laws : (n : Nat) → Laws n
  | 0 => ⟨Bool.and_comm, Bool.false_and, Bool.true_and, by intro a b c; cases a <;> cases b <;> cases c <;> rfl, Bool.and_assoc⟩
  | n + 1 => by
    obtain ⟨comm, zmul, omul, madd, massoc⟩ := laws n
    have addm : ∀ a b c : T n, (a + b) * c = a * c + b * c := fun a b c => by rw [comm, madd, comm c a, comm c b]
    have mulz : ∀ a : T n, a * 0 = 0 := fun a => by rw [comm, zmul]
    have mulo : ∀ a : T n, a * 1 = a := fun a => by rw [comm, omul]
    have lcomm : ∀ a b c : T n, a * (b * c) = b * (a * c) := fun a b c => by rw [← massoc, comm a b, massoc]
    refine ⟨fun a b => ext ?_ ?_, fun a => ext ?_ ?_, fun a => ext ?_ ?_, fun a b c => ext ?_ ?_, fun a b c => ext ?_ ?_⟩
    · simp only [z1K]; rw [comm a.1 b.2, comm a.2 b.1, comm a.1 b.1, add_comm (b.2 * a.1)]
    · simp only [z1L]; rw [comm a.2 b.2, comm a.1 b.1]
    · simp only [z1K, z31, z32, zmul, mulz, add_zero]
    · simp only [z1L, z31, z32, zmul, mulz, add_zero]
    · simp only [z1K, z40, z41, zmul, mulz, omul, add_zero, zero_add]
    · simp only [z1L, z40, z41, zmul, mulz, omul, add_zero, zero_add]
    · simp only [z1K, z3b, z3Q, madd, addm, add_assoc, z1C, add_comm]
    · simp only [z1L, z3b, z3Q, madd, addm, add_assoc, z1C, add_comm]
    · simp only [z1K, z1L, madd, addm, massoc, lcomm, comm, add_assoc, z1C, add_comm]
    · simp only [z1K, z1L, madd, addm, massoc, lcomm, comm, add_assoc, z1C, add_comm]
section
variable {n : Nat} (a b c d : T n)
theorem mul_comm : a * b = b * a := (laws n).comm a b
theorem mul_assoc : a * b * c = a * (b * c) := (laws n).assoc a b c
theorem mul_left_comm : a * (b * c) = b * (a * c) := by rw [← mul_assoc, mul_comm a b, mul_assoc]
theorem zero_mul : 0 * a = 0 := (laws n).zero_mul a
theorem mul_zero : a * 0 = 0 := by rw [mul_comm, zero_mul]
theorem one_mul : 1 * a = a := (laws n).one_mul a
theorem mul_one : a * 1 = a := by rw [mul_comm, one_mul]
theorem mul_add : a * (b + c) = a * b + a * c := (laws n).mul_add a b c
theorem add_mul : (a + b) * c = a * c + b * c := by rw [mul_comm, mul_add, mul_comm c a, mul_comm c b]
theorem add_sq : (a + b) * (a + b) = a * a + b * b := by
  rw [mul_add, add_mul, add_mul, mul_comm b a, add_assoc, ← add_assoc (a * b), z1N, zero_add]
end
end Go.Proofs.Ytnhbdhgbmjcjdaa.Tw
/- Elements of the tower as numbers: bits of the lower half first. Own text; nothing of the program in it. -/
namespace Go.Proofs.Ytnhbdhgbmjcjdaa.Tw
set_option linter.unusedVariables false
set_option linter.unusedSimpArgs false
/-- How many words of bits an element of a level is: 2 to the power 2^n. -/
def Q (n : Nat) : Nat := 2 ^ 2 ^ n
theorem z23 (n : Nat) : 0 < Q n := Nat.two_pow_pos _
theorem z2f (n : Nat) : Q (n + 1) = Q n * Q n := by unfold Q; rw [← Nat.pow_add, Nat.pow_succ 2 n, Nat.mul_two]
theorem z5p (n : Nat) : Q n ≤ Q (n + 1) := by rw [z2f]; exact Nat.le_mul_of_pos_left _ (z23 n)
theorem z2B {m n : Nat} (h : m ≤ n) : Q m ≤ Q n := Nat.pow_le_pow_right (by decide) (Nat.pow_le_pow_right (by decide) h)
theorem z4Y : Q 6 = 2 ^ 64 := rfl
theorem z3P : Q 7 = 2 ^ 128 := rfl
def val : {n : Nat} → T n → Nat
  | 0, a => Bool.toNat a
  | n + 1, a => val a.1 * Q n + val a.2
def of : (n : Nat) → Nat → T n
  | 0, x => x % 2 == 1
  | n + 1, x => mk (of n (x / Q n)) (of n (x % Q n))
theorem val_zero_lvl (a : T 0) : val a = Bool.toNat a := rfl
theorem z1w {n : Nat} (a : T (n + 1)) : val a = val a.1 * Q n + val a.2 := rfl
theorem z1M (n x : Nat) : of (n + 1) x = mk (of n (x / Q n)) (of n (x % Q n)) := rfl
theorem z1i : {n : Nat} → (a : T n) → val a < Q n
  | 0, a => by cases a <;> decide
  | n + 1, a => by
    rw [z1w, z2f]
    have h1 := z1i a.1
    have h2 := z1i a.2
    have h3 : val a.1 * Q n + Q n ≤ Q n * Q n := by
      have := Nat.mul_le_mul_right (Q n) h1
      rw [Nat.succ_mul] at this; exact this
    omega
theorem val_div {n : Nat} (a : T (n + 1)) : val a / Q n = val a.1 := by
  rw [z1w, Nat.mul_comm, Nat.mul_add_div (z23 n), Nat.div_eq_of_lt (z1i a.2), Nat.add_zero]
theorem val_mod {n : Nat} (a : T (n + 1)) : val a % Q n = val a.2 := by
  rw [z1w, Nat.mul_comm, Nat.mul_add_mod, Nat.mod_eq_of_lt (z1i a.2)]
theorem z1A : {n : Nat} → (a : T n) → of n (val a) = a
  | 0, a => by cases a <;> rfl
  | n + 1, a => by rw [z1M, val_div, val_mod, z1A a.1, z1A a.2]; rfl
theorem z1J : (n : Nat) → (x : Nat) → x < Q n → val (of n x) = x
  | 0, x, h => by
    have h' : x < 2 := h
    have : x = 0 ∨ x = 1 := by omega
    rcases this with rfl | rfl <;> rfl
  | n + 1, x, h => by
    rw [z1M, z1w, z1Y, z27]
    rw [z2f] at h
    rw [z1J n _ (Nat.div_lt_of_lt_mul h), z1J n _ (Nat.mod_lt _ (z23 n)), Nat.mul_comm]
    exact Nat.div_add_mod x (Q n)
theorem z22 {n : Nat} {a b : T n} (h : val a = val b) : a = b := by rw [← z1A a, h, z1A]
theorem z1r : (n : Nat) → val (0 : T n) = 0
  | 0 => rfl
  | n + 1 => by rw [z1w, z31, z32, z1r n, Nat.zero_mul]
theorem z2c : (n : Nat) → val (1 : T n) = 1
  | 0 => rfl
  | n + 1 => by rw [z1w, z40, z41, z1r n, z2c n, Nat.zero_mul]
theorem z2j (n : Nat) : of n 0 = 0 := by rw [← z1r n, z1A]
theorem of_one (n : Nat) : of n 1 = 1 := by rw [← z2c n, z1A]
theorem val_eq_zero {n : Nat} {a : T n} : val a = 0 ↔ a = 0 := ⟨fun h => z22 (h.trans (z1r n).symm), fun h => by rw [h, z1r]⟩
theorem z4W {n a b c d : Nat} (hb : b < Q n) (hd : d < Q n) : (a * Q n + b) ^^^ (c * Q n + d) = (a ^^^ c) * Q n + (b ^^^ d) := by
  have h1 : ((a * Q n + b) ^^^ (c * Q n + d)) / Q n = a ^^^ c := by
    unfold Q at *
    rw [Nat.xor_div_two_pow, Nat.mul_comm a, Nat.mul_comm c, Nat.mul_add_div (Nat.two_pow_pos _), Nat.mul_add_div (Nat.two_pow_pos _), Nat.div_eq_of_lt hb, Nat.div_eq_of_lt hd]; rfl
  have h2 : ((a * Q n + b) ^^^ (c * Q n + d)) % Q n = b ^^^ d := by
    unfold Q at *
    rw [Nat.xor_mod_two_pow, Nat.mul_comm a, Nat.mul_comm c, Nat.mul_add_mod, Nat.mul_add_mod, Nat.mod_eq_of_lt hb, Nat.mod_eq_of_lt hd]
  have := Nat.div_add_mod ((a * Q n + b) ^^^ (c * Q n + d)) (Q n)
  rw [h1, h2, Nat.mul_comm] at this
  exact this.symm
theorem z1u : {n : Nat} → (a b : T n) → val (a + b) = val a ^^^ val b
  | 0, a, b => by cases a <;> cases b <;> rfl
  | n + 1, a, b => by
    rw [z1w, z1w, z1w, z3b, z3Q, z1u a.1 b.1, z1u a.2 b.2, z4W (z1i _) (z1i _)]
theorem z1W {n x y : Nat} (hx : x < Q n) (hy : y < Q n) : x ^^^ y < Q n := Nat.xor_lt_two_pow hx hy
theorem z5Q {n x y : Nat} (hx : x < Q n) (hy : y < Q n) : of n (x ^^^ y) = of n x + of n y :=
  z22 (by rw [z1J _ _ (z1W hx hy), z1u, z1J _ _ hx, z1J _ _ hy])
/-- A number of a lower level: the higher half is 0. -/
theorem z4h {n x : Nat} (h : x < Q n) : of (n + 1) x = mk 0 (of n x) := by
  rw [z1M, Nat.div_eq_of_lt h, Nat.mod_eq_of_lt h, z2j]
/-- One level up. -/
def up {n : Nat} (a : T n) : T (n + 1) := mk 0 a
theorem z2u {n : Nat} (a : T n) : (up a).1 = 0 := rfl
theorem z3M {n : Nat} (a : T n) : (up a).2 = a := rfl
theorem val_up {n : Nat} (a : T n) : val (up a) = val a := by rw [z1w, z2u, z3M, z1r, Nat.zero_mul, Nat.zero_add]
theorem up_add {n : Nat} (a b : T n) : up (a + b) = up a + up b := ext (by rw [z3b, z2u, z2u, z2u, add_zero]) rfl
theorem up_mul {n : Nat} (a b : T n) : up (a * b) = up a * up b :=
  ext (by simp only [z1K, z2u, z3M, zero_mul, mul_zero, add_zero]) (by simp only [z1L, z2u, z3M, zero_mul, add_zero])
theorem z2P {n : Nat} (a : T n) (b : T (n + 1)) : up a * b = mk (a * b.1) (a * b.2) :=
  ext (by simp only [z1K, z2u, z3M, zero_mul, mul_zero, add_zero, zero_add, z1Y]) (by simp only [z1L, z2u, z3M, zero_mul, add_zero, z27])
theorem up_zero (n : Nat) : up (0 : T n) = 0 := rfl
theorem up_one (n : Nat) : up (1 : T n) = 1 := rfl
theorem up_inj {n : Nat} {a b : T n} (h : up a = up b) : a = b := congrArg (fun x : T (n + 1) => x.2) h
/-- Many levels up. -/
def ups {n : Nat} : (d : Nat) → T n → T (n + d)
  | 0, a => a
  | d + 1, a => up (ups d a)
theorem ups_add {n : Nat} (a b : T n) : (d : Nat) → ups d (a + b) = ups d a + ups d b
  | 0 => rfl
  | d + 1 => by show up (ups d (a + b)) = _; rw [ups_add a b d, up_add]; rfl
theorem z67 {n : Nat} (a b : T n) : (d : Nat) → ups d (a * b) = ups d a * ups d b
  | 0 => rfl
  | d + 1 => by show up (ups d (a * b)) = _; rw [z67 a b d, up_mul]; rfl
theorem z3u {n : Nat} (a : T n) : (d : Nat) → val (ups d a) = val a
  | 0 => rfl
  | d + 1 => by show val (up (ups d a)) = _; rw [val_up, z3u a d]
theorem ups_zero {n : Nat} (d : Nat) : ups d (0 : T n) = 0 := z22 (by rw [z3u, z1r, z1r])
theorem ups_one {n : Nat} (d : Nat) : ups d (1 : T n) = 1 := z22 (by rw [z3u, z2c, z2c])
theorem ups_of {n d x : Nat} (h : x < Q n) : ups d (of n x) = of (n + d) x := z22 (by rw [z3u, z1J _ _ h, z1J _ _ (Nat.lt_of_lt_of_le h (z2B (Nat.le_add_right _ _)))])
/-- Products of numbers of a lower level are of it. -/
theorem z3t {n d x y : Nat} (hx : x < Q n) (hy : y < Q n) : val (of (n + d) x * of (n + d) y) = val (of n x * of n y) := by
  rw [← ups_of hx, ← ups_of hy, ← z67, z3u]
theorem z2L {l m x y : Nat} (h : l ≤ m) (hx : x < Q l) (hy : y < Q l) : val (of m x * of m y) = val (of l x * of l y) := by
  obtain ⟨d, rfl⟩ := Nat.le.dest h
  exact z3t hx hy
theorem z5k {l m x y : Nat} (h : l ≤ m) (hx : x < Q l) (hy : y < Q l) : val (of m x * of m y) < Q l := by
  rw [z2L h hx hy]; exact z1i _
end Go.Proofs.Ytnhbdhgbmjcjdaa.Tw
namespace Go.Proofs.Ytnhbdhgbmjcjdaa.P
open Go.RowKit Go.Proofs.YtnhbdhgbmjcjdaaW.PrintWords Go.Proofs.YtnhbdhgbmjcjdaaW.PrintLast Go.Proofs.YtnhbdhgbmjcjdaaW.PrintMore
attribute [local go_sem] zX zZ z1a z1b zL zM zY z10   -- for this text's walks alone
set_option linter.unusedVariables false
set_option linter.unusedSimpArgs false
def zU.j0 : Nat → Int → Bool → Int → Int → Option (Bool)
 | 0,_,_,_,_=>none
 | k + 1,x0,x5,x102000,x102001=>if x5 = true then (some false) else (if x0 = 7 then (some true) else (if x0 = 6 then (some (x102000 == 0)) else (if x102000 = 0 then (if 0 ≤ x0 then (some ((shr .u64 x102001 (shl .u64 1 x0)) == 0)) else (none)) else (some false))))
def zU.f (k : Nat) (a0 : Int) (a1_0 : Int) (a1_1 : Int) : Option (Bool):=if a0 < 0 then (zU.j0 k a0 true a1_0 a1_1) else (zU.j0 k a0 (decide (a0 > 7)) a1_0 a1_1)
theorem zU.z11 : ∀ k,(∀ y0 y1 y2 y3,LeO (zU.j0 k y0 y1 y2 y3) (zU.j0 (k + 1) y0 y1 y2 y3))
 | 0=>fun _ _ _ _ r h=>by simp [zU.j0] at h
 | k + 1=>by
  have ih0:=zU.z11 k
  · intro y0 y1 y2 y3
    unfold zU.j0
    repeat' first
    | (with_reducible exact ih0 _ _ _ _)
    | (with_reducible exact LeO.refl _)
    | (with_reducible exact LeO.none _)
    | (with_reducible refine LeO.ite ?_ ?_)
    | (with_reducible refine LeO.bind ?_ (fun _=>?_))
    | exact ih0 _ _ _ _
    | exact LeO.none _
    | refine LeO.ite ?_ ?_
    | refine LeO.bind ?_ (fun _=>?_)
theorem zU.mono : ∀ a0 a1 a2 k,LeO (zU.f k a0 a1 a2) (zU.f (k + 1) a0 a1 a2):=by
 intro a0 a1 a2 k
 have ih0:=zU.z11 k
 unfold zU.f
 repeat' first
  | (with_reducible exact ih0 _ _ _ _)
  | (with_reducible exact LeO.refl _)
  | (with_reducible exact LeO.none _)
  | (with_reducible refine LeO.ite ?_ ?_)
  | (with_reducible refine LeO.bind ?_ (fun _=>?_))
  | exact ih0 _ _ _ _
  | exact LeO.none _
  | refine LeO.ite ?_ ?_
  | refine LeO.bind ?_ (fun _=>?_)
set_option maxHeartbeats 8000000 in
set_option maxRecDepth 100000 in
theorem zU.calls (k : Nat) (a0 : Int) (a1_0 : Int) (a1_1 : Int) (r : Bool) (w : World) (h : zU.f k a0 a1_0 a1_1 = some r) :
 Calls Try.prog 57 #[.int .i64 a0,.agg #[.int .u64 a1_0,.int .u64 a1_1]] w fun e w'=>e = .returned (.bool r) ∧ Below w.heap.size w w':=by
 have hu35:=Try.underlying35
 have HB:=z1.mk (Below.refl w.heap.size w)
 have H : (if a0 < 0 then (zU.j0 k a0 true a1_0 a1_1) else (zU.j0 k a0 (decide (a0 > 7)) a1_0 a1_1)) = some r:=h
 clear h
 have HC3:=z1.mk H
 clear H
 go_enter Try.func57,Try.ntmps57
 go_upto_region 1 with (first|((with_reducible refine zC (N:=3) rfl ?_);refine zD ?hg (N:=3) ?hd (cs:=#[.int .u64 a1_0,.int .u64 a1_1]) (t:=35) ?hr ?_;(case hd=>rfl);(case hg=>rfl);(case hr=>first|(go_simp;done)|(go_simp;rfl));intro gb101 hg w4 hbox hb;have n0_:=z1.mk (z8 zz20 hb);have n1_:=z1.mk (hbox);have n2_:=z1.mk ((by rw [hg];exact (zd zz20) : w.heap.size ≤ gb101));have n3_:=z1.mk ((by rw [hg];exact (zd zz20) : w.heap.size ≤ gb101));clear HB;have HB:=n0_;have BK101:=n1_;have GW101:=n2_;have GE101:=n3_;clear n0_ n1_ n2_ n3_;clear hb hbox hg))
 repeat (go_quiet (first|((with_reducible refine zC (N:=3) rfl ?_);refine zD ?hg (N:=3) ?hd (cs:=#[.int .u64 a1_0,.int .u64 a1_1]) (t:=35) ?hr ?_;(case hd=>rfl);(case hg=>rfl);(case hr=>first|(go_simp;done)|(go_simp;rfl));intro gb101 hg w4 hbox hb;have n0_:=z1.mk (z8 zz20 hb);have n1_:=z1.mk (hbox);have n2_:=z1.mk ((by rw [hg];exact (zd zz20) : w.heap.size ≤ gb101));have n3_:=z1.mk ((by rw [hg];exact (zd zz20) : w.heap.size ≤ gb101));clear HB;have HB:=n0_;have BK101:=n1_;have GW101:=n2_;have GE101:=n3_;clear n0_ n1_ n2_ n3_;clear hb hbox hg));go_upto_region 1 with (first|((with_reducible refine zC (N:=3) rfl ?_);refine zD ?hg (N:=3) ?hd (cs:=#[.int .u64 a1_0,.int .u64 a1_1]) (t:=35) ?hr ?_;(case hd=>rfl);(case hg=>rfl);(case hr=>first|(go_simp;done)|(go_simp;rfl));intro gb101 hg w4 hbox hb;have n0_:=z1.mk (z8 zz20 hb);have n1_:=z1.mk (hbox);have n2_:=z1.mk ((by rw [hg];exact (zd zz20) : w.heap.size ≤ gb101));have n3_:=z1.mk ((by rw [hg];exact (zd zz20) : w.heap.size ≤ gb101));clear HB;have HB:=n0_;have BK101:=n1_;have GW101:=n2_;have GE101:=n3_;clear n0_ n1_ n2_ n3_;clear hb hbox hg)))
 (try simp only [Act.put,List.setIfInBounds_toArray,List.set_cons_zero,List.set_cons_succ])
 go_cut [5] (fun v5 wc=>∃ (kq : Nat) (x5_2 : Bool),v5 = .bool x5_2 ∧ z1 (zU.j0 kq a0 x5_2 a1_0 a1_1 = some r) ∧ z1 (kq ≤ k) ∧ z1 (wc.heap[gb101]? = some (.cells #[.int .u64 a1_0,.int .u64 a1_1] 35 (0,0))) ∧ z1 (Below w.heap.size w wc))
 case first =>
  have H:=HC3.out
  clear HC3
  by_cases c5 : a0 < 0
  rotate_left
  · rw [if_neg c5] at H
    have c5b0 : decide (a0 < 0) = false:=decide_eq_false c5
    clear c5
    (first|rw [c5b0]|(simp only [zF,zG];rw [c5b0])|skip)
    have H':=z1.mk H
    clear H
    go_wp2
    repeat (go_quiet (fail);try go_wp2)
    go_meet
    case rel=>exact ⟨_,(decide (a0 > 7)),zz50,H',⟨by first|omega|exact Nat.le_refl _⟩,⟨by (with_reducible repeat (first|refine zc ?_ _|refine ze ?_|refine zb ?_ _));exact BK101.out⟩,⟨by repeat (first|(with_reducible first|exact HB.out|apply z7|apply z3|apply z5|refine zf ?_ GE101.out)|exact HB.out)⟩⟩
  rw [if_pos c5] at H
  have c5b0 : decide (a0 < 0) = true:=decide_eq_true c5
  clear c5
  (first|rw [c5b0]|(simp only [zF,zG];rw [c5b0])|skip)
  have H':=z1.mk H
  clear H
  go_wp2
  repeat (go_quiet (fail);try go_wp2)
  go_meet
  case rel=>exact ⟨_,(true),zz50,H',⟨by first|omega|exact Nat.le_refl _⟩,⟨by (with_reducible repeat (first|refine zc ?_ _|refine ze ?_|refine zb ?_ _));exact BK101.out⟩,⟨by repeat (first|(with_reducible first|exact HB.out|apply z7|apply z3|apply z5|refine zf ?_ GE101.out)|exact HB.out)⟩⟩
 case rest =>
  clear HC3
  (try clear p2);(try clear c5);(try clear c5b0)
  obtain ⟨kq,x5_2,rfl,HA,HJ2,BK101,HB⟩:=hcut
  cases kq with
  | zero=>exact absurd HA.out (by simp [zU.j0])
  | succ kj2 =>
   have H:=HA.out
   clear HA
   simp only [zU.j0] at H
   by_cases c6 : x5_2 = true
   · subst c6
     have H1 : (some false) = some r:=by rw [if_pos rfl] at H;exact H
     clear H
     have H:=H1
     clear H1
     obtain rfl:=Option.some.inj H
     go_wp2
     repeat (go_quiet (fail);try go_wp2)
     go_ret
     exact ⟨by first|rfl|(simp [zk,zl] <;> rfl)|(simp [*,zk,zl] <;> rfl),by repeat (first|(with_reducible first|exact HB.out|apply z7|apply z3|apply z5|refine zf ?_ GE101.out)|exact HB.out)⟩
   replace c6:=Bool.eq_false_iff.mpr c6
   subst c6
   have H1 : (if a0 = 7 then (some true) else (if a0 = 6 then (some (a1_0 == 0)) else (if a1_0 = 0 then (if 0 ≤ a0 then (some ((shr .u64 a1_1 (shl .u64 1 a0)) == 0)) else (none)) else (some false)))) = some r:=by rw [if_neg (show ¬ (false = true) by decide)] at H;exact H
   clear H
   have H:=H1
   clear H1
   by_cases c7 : a0 = 7
   · rw [if_pos c7] at H
     have c7b0 : (a0 == 7) = true:=beq_iff_eq.mpr c7
     have c7b1 : (a0 != 7) = false:=bne_eq_false_iff_eq.mpr c7
     clear c7
     obtain rfl:=Option.some.inj H
     go_wp2
     repeat (go_quiet (fail);try go_wp2)
     go_ret
     exact ⟨by first|rfl|(simp [zk,zl] <;> rfl)|(simp [*,zk,zl] <;> rfl),by repeat (first|(with_reducible first|exact HB.out|apply z7|apply z3|apply z5|refine zf ?_ GE101.out)|exact HB.out)⟩
   rw [if_neg c7] at H
   have c7b0 : (a0 == 7) = false:=beq_eq_false_iff_ne.mpr c7
   have c7b1 : (a0 != 7) = true:=bne_iff_ne.mpr c7
   by_cases c8 : a0 = 6
   · rw [if_pos c8] at H
     have c8b0 : (a0 == 6) = true:=beq_iff_eq.mpr c8
     have c8b1 : (a0 != 6) = false:=bne_eq_false_iff_eq.mpr c8
     clear c8
     obtain rfl:=Option.some.inj H
     have hcz9_0 : wc.cell? ⟨gb101,0,none⟩ = some (.int .u64 a1_0):=(z4 BK101.out 0).trans rfl
     have hcz9_1 : wc.cell? ⟨gb101,1,none⟩ = some (.int .u64 a1_1):=(z4 BK101.out 1).trans rfl
     have hfz9_0:=z6 BK101.out 0
     have hfz9_1:=z6 BK101.out 1
     go_wp2
     repeat (go_quiet (fail);try go_wp2)
     go_ret
     exact ⟨by first|rfl|(simp [zk,zl] <;> rfl)|(simp [*,zk,zl] <;> rfl),by repeat (first|(with_reducible first|exact HB.out|apply z7|apply z3|apply z5|refine zf ?_ GE101.out)|exact HB.out)⟩
   rw [if_neg c8] at H
   have c8b0 : (a0 == 6) = false:=beq_eq_false_iff_ne.mpr c8
   have c8b1 : (a0 != 6) = true:=bne_iff_ne.mpr c8
   by_cases c10 : a1_0 = 0
   rotate_left
   · rw [if_neg c10] at H
     have c10b0 : (a1_0 == 0) = false:=beq_eq_false_iff_ne.mpr c10
     have c10b1 : (a1_0 != 0) = true:=bne_iff_ne.mpr c10
     obtain rfl:=Option.some.inj H
     have hcz15_0 : wc.cell? ⟨gb101,0,none⟩ = some (.int .u64 a1_0):=(z4 BK101.out 0).trans rfl
     have hcz15_1 : wc.cell? ⟨gb101,1,none⟩ = some (.int .u64 a1_1):=(z4 BK101.out 1).trans rfl
     have hfz15_0:=z6 BK101.out 0
     have hfz15_1:=z6 BK101.out 1
     go_wp2
     repeat (go_quiet (fail);try go_wp2)
     go_ret
     exact ⟨by first|rfl|(simp [zk,zl] <;> rfl)|(simp [*,zk,zl] <;> rfl),by repeat (first|(with_reducible first|exact HB.out|apply z7|apply z3|apply z5|refine zf ?_ GE101.out)|exact HB.out)⟩
   rw [if_pos c10] at H
   have c10b0 : (a1_0 == 0) = true:=beq_iff_eq.mpr c10
   have c10b1 : (a1_0 != 0) = false:=bne_eq_false_iff_eq.mpr c10
   clear c10
   by_cases c11 : 0 ≤ a0
   rotate_left
   · rw [if_neg c11] at H
     exact absurd H zz55
   rw [if_pos c11] at H
   have c11b0:=eq_true c11
   have c11b1 : decide (0 ≤ a0) = true:=decide_eq_true c11
   clear c11
   obtain ⟨ji12,hji12⟩ : ∃ j_ : Int,(shl .u64 1 a0) = j_:=⟨_,rfl⟩
   replace H : (some ((shr .u64 a1_1 (ji12)) == 0)) = some r:=by first|(rw [hji12] at H;exact H)|(simp only [hji12] at H ⊢;exact H)
   have hji12_ : (IntKind.u64.wrap (1 * 2 ^ min a0.toNat 64)) = ji12:=hji12
   have hji12z : a0 ≤ 64 → (IntKind.u64.wrap (1 * 2 ^ a0.toNat)) = ji12:=z1x hji12
   have hji12n0 : 0 ≤ ji12:=by rw [← hji12];exact Int.emod_nonneg _ zz53
   have hji12n1 : decide (0 ≤ ji12) = true:=decide_eq_true hji12n0
   replace hji12n0:=eq_true hji12n0
   have hji12u : (IntKind.u64.wrap (2 ^ min a0.toNat 64)) = ji12:=by have h_:=hji12_;rw [Int.one_mul] at h_;exact h_
   have hji12v : a0 ≤ 64 → (IntKind.u64.wrap (2 ^ a0.toNat)) = ji12:=fun hle_=>by have h_:=hji12z hle_;rw [Int.one_mul] at h_;exact h_
   obtain ⟨ji13,hji13⟩ : ∃ j_ : Int,(shr .u64 a1_1 (ji12)) = j_:=⟨_,rfl⟩
   replace H : (some ((ji13) == 0)) = some r:=by first|(rw [hji13] at H;exact H)|(simp only [hji13] at H ⊢;exact H)
   have hji13_ : (a1_1 / 2 ^ min (ji12).toNat 64) = ji13:=hji13
   have hji13z : (ji12) ≤ 64 → (a1_1 / 2 ^ (ji12).toNat) = ji13:=z28 hji13
   obtain rfl:=Option.some.inj H
   have hcz14_0 : wc.cell? ⟨gb101,0,none⟩ = some (.int .u64 a1_0):=(z4 BK101.out 0).trans rfl
   have hcz14_1 : wc.cell? ⟨gb101,1,none⟩ = some (.int .u64 a1_1):=(z4 BK101.out 1).trans rfl
   have hfz14_0:=z6 BK101.out 0
   have hfz14_1:=z6 BK101.out 1
   go_wp2
   repeat (go_quiet (fail);try go_wp2)
   go_ret
   exact ⟨by first|rfl|(simp [zk,zl] <;> rfl)|(simp only [← hji12,← hji13];first|rfl|(simp [zk,zl] <;> rfl))|(simp [*,zk,zl] <;> rfl),by repeat (first|(with_reducible first|exact HB.out|apply z7|apply z3|apply z5|refine zf ?_ GE101.out)|exact HB.out)⟩
end Go.Proofs.Ytnhbdhgbmjcjdaa.P
namespace Go.Proofs.Ytnhbdhgbmjcjdaa.P
open Go.RowKit Go.Proofs.YtnhbdhgbmjcjdaaW.PrintWords Go.Proofs.YtnhbdhgbmjcjdaaW.PrintLast Go.Proofs.YtnhbdhgbmjcjdaaW.PrintMore
attribute [local go_sem] zX zZ z1a z1b zL zM zY z10   -- for this text's walks alone
set_option linter.unusedVariables false
set_option linter.unusedSimpArgs false
def z1m.f (a0 : Int) (a1 : Int) : Option (Int × Int):=if 0 ≤ (wrap64 (a0 - 1)) then (if 0 ≤ (shl .i64 1 (wrap64 (a0 - 1))) then (some (shr .u64 a1 (shl .i64 1 (wrap64 (a0 - 1))),Go.bits .and .u64 a1 (IntKind.u64.wrap ((shl .u64 1 (shl .i64 1 (wrap64 (a0 - 1)))) - 1)))) else (none)) else (none)
set_option maxHeartbeats 8000000 in
set_option maxRecDepth 100000 in
theorem z1m.calls (a0 : Int) (a1 : Int) (r1 : Int) (r2 : Int) (w : World) (h : z1m.f a0 a1 = some (r1,r2)) :
 Calls Try.prog 85 #[.int .i64 a0,.int .u64 a1] w fun e w'=>e = .returned (.tuple #[.int .u64 r1,.int .u64 r2]) ∧ Drawn0 w w':=by
 have H : (if 0 ≤ (wrap64 (a0 - 1)) then (if 0 ≤ (shl .i64 1 (wrap64 (a0 - 1))) then (some (shr .u64 a1 (shl .i64 1 (wrap64 (a0 - 1))),Go.bits .and .u64 a1 (IntKind.u64.wrap ((shl .u64 1 (shl .i64 1 (wrap64 (a0 - 1)))) - 1)))) else (none)) else (none)) = some (r1,r2):=h
 clear h
 obtain ⟨ji3,hji3⟩ : ∃ j_ : Int,(wrap64 (a0 - 1)) = j_:=⟨_,rfl⟩
 replace H : (if 0 ≤ (ji3) then (if 0 ≤ (shl .i64 1 (ji3)) then (some (shr .u64 a1 (shl .i64 1 (ji3)),Go.bits .and .u64 a1 (IntKind.u64.wrap ((shl .u64 1 (shl .i64 1 (ji3))) - 1)))) else (none)) else (none)) = some (r1,r2):=by first|(rw [hji3] at H;exact H)|(simp only [hji3] at H ⊢;exact H)
 have hji3w : (IntKind.i64.wrap (a0 - 1)) = ji3:=(zF _).trans hji3
 by_cases c4 : 0 ≤ (ji3)
 rotate_left
 · rw [if_neg c4] at H
   exact absurd H zz55
 rw [if_pos c4] at H
 have c4b0:=eq_true c4
 have c4b1 : decide (0 ≤ (ji3)) = true:=decide_eq_true c4
 clear c4
 obtain ⟨ji5,hji5⟩ : ∃ j_ : Int,(shl .i64 1 (ji3)) = j_:=⟨_,rfl⟩
 replace H : (if 0 ≤ (ji5) then (some (shr .u64 a1 (ji5),Go.bits .and .u64 a1 (IntKind.u64.wrap ((shl .u64 1 (ji5)) - 1)))) else (none)) = some (r1,r2):=by first|(rw [hji5] at H;exact H)|(simp only [hji5] at H ⊢;exact H)
 have hji5_ : (IntKind.i64.wrap (1 * 2 ^ min (ji3).toNat 64)) = ji5:=hji5
 have hji5z : (ji3) ≤ 64 → (IntKind.i64.wrap (1 * 2 ^ (ji3).toNat)) = ji5:=z1x hji5
 have hji5u : (IntKind.i64.wrap (2 ^ min (ji3).toNat 64)) = ji5:=by have h_:=hji5_;rw [Int.one_mul] at h_;exact h_
 have hji5v : (ji3) ≤ 64 → (IntKind.i64.wrap (2 ^ (ji3).toNat)) = ji5:=fun hle_=>by have h_:=hji5z hle_;rw [Int.one_mul] at h_;exact h_
 have hji5y : (wrap64 (1 * 2 ^ min (ji3).toNat 64)) = ji5:=(zF _).symm.trans hji5_
 have hji5x : (ji3) ≤ 64 → (wrap64 (1 * 2 ^ (ji3).toNat)) = ji5:=fun h_=>(zF _).symm.trans (hji5z h_)
 by_cases c6 : 0 ≤ (ji5)
 rotate_left
 · rw [if_neg c6] at H
   exact absurd H zz55
 rw [if_pos c6] at H
 have c6b0:=eq_true c6
 have c6b1 : decide (0 ≤ (ji5)) = true:=decide_eq_true c6
 clear c6
 obtain ⟨ji7,hji7⟩ : ∃ j_ : Int,(shr .u64 a1 (ji5)) = j_:=⟨_,rfl⟩
 replace H : (some (ji7,Go.bits .and .u64 a1 (IntKind.u64.wrap ((shl .u64 1 (ji5)) - 1)))) = some (r1,r2):=by first|(rw [hji7] at H;exact H)|(simp only [hji7] at H ⊢;exact H)
 have hji7_ : (a1 / 2 ^ min (ji5).toNat 64) = ji7:=hji7
 have hji7z : (ji5) ≤ 64 → (a1 / 2 ^ (ji5).toNat) = ji7:=z28 hji7
 have c8b0:=eq_true (of_decide_eq_true zz49 : 0 ≤ (ji5))
 obtain ⟨ji9,hji9⟩ : ∃ j_ : Int,(shl .u64 1 (ji5)) = j_:=⟨_,rfl⟩
 replace H : (some (ji7,Go.bits .and .u64 a1 (IntKind.u64.wrap ((ji9) - 1)))) = some (r1,r2):=by first|(rw [hji9] at H;exact H)|(simp only [hji9] at H ⊢;exact H)
 have hji9_ : (IntKind.u64.wrap (1 * 2 ^ min (ji5).toNat 64)) = ji9:=hji9
 have hji9z : (ji5) ≤ 64 → (IntKind.u64.wrap (1 * 2 ^ (ji5).toNat)) = ji9:=z1x hji9
 have hji9n0 : 0 ≤ ji9:=by rw [← hji9];exact Int.emod_nonneg _ zz53
 have hji9n1 : decide (0 ≤ ji9) = true:=decide_eq_true hji9n0
 replace hji9n0:=eq_true hji9n0
 have hji9u : (IntKind.u64.wrap (2 ^ min (ji5).toNat 64)) = ji9:=by have h_:=hji9_;rw [Int.one_mul] at h_;exact h_
 have hji9v : (ji5) ≤ 64 → (IntKind.u64.wrap (2 ^ (ji5).toNat)) = ji9:=fun hle_=>by have h_:=hji9z hle_;rw [Int.one_mul] at h_;exact h_
 simp only [Option.some.injEq,Prod.mk.injEq] at H
 obtain ⟨rfl,rfl⟩:=H
 go_enter Try.func85,Try.ntmps85
 go_wp2
 repeat (go_quiet (fail);try go_wp2)
 go_ret2
 exact ⟨by first|rfl|(simp;done)|(simp only [← hji3,← hji5,← hji7,← hji9] <;> (first|rfl|simp))|(simp [*];done),by repeat (first|exact Drawn0.refl _|apply Drawn0.step)⟩
end Go.Proofs.Ytnhbdhgbmjcjdaa.P
namespace Go.Proofs.Ytnhbdhgbmjcjdaa.P
open Go.RowKit Go.Proofs.YtnhbdhgbmjcjdaaW.PrintWords Go.Proofs.YtnhbdhgbmjcjdaaW.PrintLast Go.Proofs.YtnhbdhgbmjcjdaaW.PrintMore
attribute [local go_sem] zX zZ z1a z1b zL zM zY z10   -- for this text's walks alone
set_option linter.unusedVariables false
set_option linter.unusedSimpArgs false
def z1n.f (a0 : Int) (a1 : Int) (a2 : Int) : Option (Int):=if 0 ≤ (wrap64 (a0 - 1)) then (some (Go.bits .or .u64 (shl .u64 a1 (shl .u64 1 (wrap64 (a0 - 1)))) a2)) else (none)
set_option maxHeartbeats 8000000 in
set_option maxRecDepth 100000 in
theorem z1n.calls (a0 : Int) (a1 : Int) (a2 : Int) (r : Int) (w : World) (h : z1n.f a0 a1 a2 = some r) :
 Calls Try.prog 86 #[.int .i64 a0,.int .u64 a1,.int .u64 a2] w fun e w'=>e = .returned (.int .u64 r) ∧ Drawn0 w w':=by
 have H : (if 0 ≤ (wrap64 (a0 - 1)) then (some (Go.bits .or .u64 (shl .u64 a1 (shl .u64 1 (wrap64 (a0 - 1)))) a2)) else (none)) = some r:=h
 clear h
 obtain ⟨ji4,hji4⟩ : ∃ j_ : Int,(wrap64 (a0 - 1)) = j_:=⟨_,rfl⟩
 replace H : (if 0 ≤ (ji4) then (some (Go.bits .or .u64 (shl .u64 a1 (shl .u64 1 (ji4))) a2)) else (none)) = some r:=by first|(rw [hji4] at H;exact H)|(simp only [hji4] at H ⊢;exact H)
 have hji4w : (IntKind.i64.wrap (a0 - 1)) = ji4:=(zF _).trans hji4
 by_cases c5 : 0 ≤ (ji4)
 rotate_left
 · rw [if_neg c5] at H
   exact absurd H zz55
 rw [if_pos c5] at H
 have c5b0:=eq_true c5
 have c5b1 : decide (0 ≤ (ji4)) = true:=decide_eq_true c5
 clear c5
 obtain ⟨ji6,hji6⟩ : ∃ j_ : Int,(shl .u64 1 (ji4)) = j_:=⟨_,rfl⟩
 replace H : (some (Go.bits .or .u64 (shl .u64 a1 (ji6)) a2)) = some r:=by first|(rw [hji6] at H;exact H)|(simp only [hji6] at H ⊢;exact H)
 have hji6_ : (IntKind.u64.wrap (1 * 2 ^ min (ji4).toNat 64)) = ji6:=hji6
 have hji6z : (ji4) ≤ 64 → (IntKind.u64.wrap (1 * 2 ^ (ji4).toNat)) = ji6:=z1x hji6
 have hji6n0 : 0 ≤ ji6:=by rw [← hji6];exact Int.emod_nonneg _ zz53
 have hji6n1 : decide (0 ≤ ji6) = true:=decide_eq_true hji6n0
 replace hji6n0:=eq_true hji6n0
 have hji6u : (IntKind.u64.wrap (2 ^ min (ji4).toNat 64)) = ji6:=by have h_:=hji6_;rw [Int.one_mul] at h_;exact h_
 have hji6v : (ji4) ≤ 64 → (IntKind.u64.wrap (2 ^ (ji4).toNat)) = ji6:=fun hle_=>by have h_:=hji6z hle_;rw [Int.one_mul] at h_;exact h_
 obtain ⟨ji7,hji7⟩ : ∃ j_ : Int,(shl .u64 a1 (ji6)) = j_:=⟨_,rfl⟩
 replace H : (some (Go.bits .or .u64 (ji7) a2)) = some r:=by first|(rw [hji7] at H;exact H)|(simp only [hji7] at H ⊢;exact H)
 have hji7_ : (IntKind.u64.wrap (a1 * 2 ^ min (ji6).toNat 64)) = ji7:=hji7
 have hji7z : (ji6) ≤ 64 → (IntKind.u64.wrap (a1 * 2 ^ (ji6).toNat)) = ji7:=z1x hji7
 have hji7n0 : 0 ≤ ji7:=by rw [← hji7];exact Int.emod_nonneg _ zz53
 have hji7n1 : decide (0 ≤ ji7) = true:=decide_eq_true hji7n0
 replace hji7n0:=eq_true hji7n0
 obtain rfl:=Option.some.inj H
 go_enter Try.func86,Try.ntmps86
 go_wp2
 go_ret
 exact ⟨by first|rfl|(simp;done)|(simp only [← hji4,← hji6,← hji7] <;> (first|rfl|simp))|(simp [*];done),by repeat (first|exact Drawn0.refl _|apply Drawn0.step)⟩
end Go.Proofs.Ytnhbdhgbmjcjdaa.P
namespace Go.Proofs.Ytnhbdhgbmjcjdaa.P
open Go.RowKit Go.Proofs.YtnhbdhgbmjcjdaaW.PrintWords Go.Proofs.YtnhbdhgbmjcjdaaW.PrintLast Go.Proofs.YtnhbdhgbmjcjdaaW.PrintMore
attribute [local go_sem] zX zZ z1a z1b zL zM zY z10   -- for this text's walks alone
set_option linter.unusedVariables false
set_option linter.unusedSimpArgs false
def zE.f : Nat → Int → Int → Option (Int)
 | 0,_,_=>none
 | k + 1,a0,a1=>if a0 = 0 then (some a1) else ((z1m.f a0 a1).bind fun bt101=>((zE.f k (wrap64 (a0 - 1)) bt101.1).bind fun t103=>((z1n.f a0 (Go.bits .xor .u64 bt101.2 t103) bt101.1).bind fun t104=>(some t104))))
theorem zE.z11 : ∀ k,(∀ y0 y1,LeO (zE.f k y0 y1) (zE.f (k + 1) y0 y1))
 | 0=>fun _ _ r h=>by simp [zE.f] at h
 | k + 1=>by
  have ih0:=zE.z11 k
  · intro y0 y1
    unfold zE.f
    repeat' first
    | (with_reducible exact ih0 _ _)
    | (with_reducible exact LeO.refl _)
    | (with_reducible exact LeO.none _)
    | (with_reducible refine LeO.ite ?_ ?_)
    | (with_reducible refine LeO.bind ?_ (fun _=>?_))
    | exact ih0 _ _
    | exact LeO.none _
    | refine LeO.ite ?_ ?_
    | refine LeO.bind ?_ (fun _=>?_)
theorem zE.mono : ∀ a0 a1 k,LeO (zE.f k a0 a1) (zE.f (k + 1) a0 a1):=by
 intro a0 a1 k
 have ih0:=zE.z11 k
 exact ih0 a0 a1
set_option maxHeartbeats 8000000 in
set_option maxRecDepth 100000 in
theorem zE.calls (k : Nat) : ∀ (a0 : Int) (a1 : Int) (r : Int) (w : World) (h : zE.f k a0 a1 = some r),
 Calls Try.prog 77 #[.int .i64 a0,.int .u64 a1] w fun e w'=>e = .returned (.int .u64 r) ∧ Drawn0 w w':=by
 induction k using Nat.strongRecOn with
 | _ k ih =>
 intro a0 a1 r w h
 cases k with
 | zero=>exact absurd h (by simp [zE.f])
 | succ k =>
 simp only [zE.f] at h
 have H : (if a0 = 0 then (some a1) else ((z1m.f a0 a1).bind fun bt101=>((zE.f k (wrap64 (a0 - 1)) bt101.1).bind fun t103=>((z1n.f a0 (Go.bits .xor .u64 bt101.2 t103) bt101.1).bind fun t104=>(some t104))))) = some r:=h
 clear h
 by_cases c3 : a0 = 0
 · rw [if_pos c3] at H
   have c3b0 : (a0 == 0) = true:=beq_iff_eq.mpr c3
   have c3b1 : (a0 != 0) = false:=bne_eq_false_iff_eq.mpr c3
   clear c3
   obtain rfl:=Option.some.inj H
   go_enter Try.func77,Try.ntmps77
   go_wp2
   go_ret
   exact ⟨by first|rfl|(simp;done)|(simp [*];done),by repeat (first|exact Drawn0.refl _|apply Drawn0.step)⟩
 rw [if_neg c3] at H
 have c3b0 : (a0 == 0) = false:=beq_eq_false_iff_ne.mpr c3
 have c3b1 : (a0 != 0) = true:=bne_iff_ne.mpr c3
 replace H:=Option.bind_eq_some_iff.mp H
 obtain ⟨⟨t101,t102⟩,A40,H⟩:=H
 replace H : ((zE.f k (wrap64 (a0 - 1)) t101).bind fun t103=>((z1n.f a0 (Go.bits .xor .u64 t102 t103) t101).bind fun t104=>(some t104))) = some r:=H
 have A4:=z1.mk A40
 clear A40
 replace H:=Option.bind_eq_some_iff.mp H
 obtain ⟨t103,A50,H⟩:=H
 replace H : ((z1n.f a0 (Go.bits .xor .u64 t102 t103) t101).bind fun t104=>(some t104)) = some r:=H
 have A5:=z1.mk A50
 clear A50
 replace H:=Option.bind_eq_some_iff.mp H
 obtain ⟨t104,A60,H⟩:=H
 replace H : (some t104) = some r:=H
 have A6:=z1.mk A60
 clear A60
 obtain rfl:=Option.some.inj H
 go_enter Try.func77,Try.ntmps77
 go_wp2_with (first|((with_reducible refine zp (f:=85) rfl ?_);refine goesL_ (some 13) rfl rfl Try.func85 zz52 rfl #[.int .i64 a0,.int .u64 a1] rfl zz19 ?_;(with_reducible refine (z1m.calls a0 a1 t101 t102 _ A4.out).mono ?_);rintro e w' ⟨rfl,⟨nd,rfl⟩⟩;refine ⟨_,rfl,?_⟩)|((with_reducible refine zp (f:=77) rfl ?_);refine goesL_ (some 21) rfl rfl Try.func77 zz52 rfl #[.int .i64 (wrap64 (a0 - 1)),.int .u64 t101] rfl zz19 ?_;(with_reducible refine (ih k zz54 (wrap64 (a0 - 1)) t101 t103 _ A5.out).mono ?_);rintro e w' ⟨rfl,⟨nd,rfl⟩⟩;refine ⟨_,rfl,?_⟩)|((with_reducible refine zp (f:=86) rfl ?_);refine goesL_ (some 24) rfl rfl Try.func86 zz52 rfl #[.int .i64 a0,.int .u64 (Go.bits .xor .u64 t102 t103),.int .u64 t101] rfl zz19 ?_;(with_reducible refine (z1n.calls a0 (Go.bits .xor .u64 t102 t103) t101 t104 _ A6.out).mono ?_);rintro e w' ⟨rfl,⟨nd,rfl⟩⟩;refine ⟨_,rfl,?_⟩))
 go_ret
 exact ⟨by first|rfl|(simp;done)|(simp [*];done),by repeat (first|exact Drawn0.refl _|apply Drawn0.step)⟩
end Go.Proofs.Ytnhbdhgbmjcjdaa.P
namespace Go.Proofs.Ytnhbdhgbmjcjdaa.P
open Go.RowKit Go.Proofs.YtnhbdhgbmjcjdaaW.PrintWords Go.Proofs.YtnhbdhgbmjcjdaaW.PrintLast Go.Proofs.YtnhbdhgbmjcjdaaW.PrintMore
attribute [local go_sem] zX zZ z1a z1b zL zM zY z10   -- for this text's walks alone
set_option linter.unusedVariables false
set_option linter.unusedSimpArgs false
mutual
def zz.j0 : Nat → Int → Int → Int → Bool → Option (Int)
 | 0,_,_,_,_=>none
 | k + 1,x0,x1,x2,x23=>if x23 = true then (some (Go.bits .and .u64 (Go.bits .and .u64 x1 x2) 1)) else ((z1m.f x0 x1).bind fun bt101=>((z1m.f x0 x2).bind fun bt103=>((zz.f k (wrap64 (x0 - 1)) bt101.1 bt103.1).bind fun t105=>((zz.f k (wrap64 (x0 - 1)) bt101.2 bt103.2).bind fun t106=>((zz.f k (wrap64 (x0 - 1)) (Go.bits .xor .u64 bt101.1 bt101.2) (Go.bits .xor .u64 bt103.1 bt103.2)).bind fun t107=>((zE.f k (wrap64 (x0 - 1)) t105).bind fun t108=>((z1n.f x0 (Go.bits .xor .u64 (Go.bits .xor .u64 (Go.bits .xor .u64 t107 t105) t106) t108) (Go.bits .xor .u64 t106 t105)).bind fun t109=>(some t109))))))))
def zz.f : Nat → Int → Int → Int → Option (Int)
 | 0,_,_,_=>none
 | k + 1,a0,a1,a2=>if a0 = 0 then (zz.j0 k a0 a1 a2 true) else (if a1 = 0 then (zz.j0 k a0 a1 a2 true) else (zz.j0 k a0 a1 a2 (a2 == 0)))
end
theorem zz.z11 : ∀ k,(∀ y0 y1 y2,LeO (zz.f k y0 y1 y2) (zz.f (k + 1) y0 y1 y2)) ∧ (∀ y0 y1 y2 y3,LeO (zz.j0 k y0 y1 y2 y3) (zz.j0 (k + 1) y0 y1 y2 y3))
 | 0=>⟨fun _ _ _ r h=>by simp [zz.f] at h,fun _ _ _ _ r h=>by simp [zz.j0] at h⟩
 | k + 1=>by
  obtain ⟨ih0,ih1⟩:=zz.z11 k
  refine ⟨?_,?_⟩
  · intro y0 y1 y2
    unfold zz.f
    repeat' first
    | (with_reducible exact ih0 _ _ _)
    | (with_reducible exact ih1 _ _ _ _)
    | (with_reducible exact zE.mono _ _ _)
    | (with_reducible exact LeO.refl _)
    | (with_reducible exact LeO.none _)
    | (with_reducible refine LeO.ite ?_ ?_)
    | (with_reducible refine LeO.bind ?_ (fun _=>?_))
    | exact ih0 _ _ _
    | exact ih1 _ _ _ _
    | exact zE.mono _ _ _
    | exact LeO.none _
    | refine LeO.ite ?_ ?_
    | refine LeO.bind ?_ (fun _=>?_)
  · intro y0 y1 y2 y3
    unfold zz.j0
    repeat' first
    | (with_reducible exact ih0 _ _ _)
    | (with_reducible exact ih1 _ _ _ _)
    | (with_reducible exact zE.mono _ _ _)
    | (with_reducible exact LeO.refl _)
    | (with_reducible exact LeO.none _)
    | (with_reducible refine LeO.ite ?_ ?_)
    | (with_reducible refine LeO.bind ?_ (fun _=>?_))
    | exact ih0 _ _ _
    | exact ih1 _ _ _ _
    | exact zE.mono _ _ _
    | exact LeO.none _
    | refine LeO.ite ?_ ?_
    | refine LeO.bind ?_ (fun _=>?_)
theorem zz.mono : ∀ a0 a1 a2 k,LeO (zz.f k a0 a1 a2) (zz.f (k + 1) a0 a1 a2):=by
 intro a0 a1 a2 k
 obtain ⟨ih0,ih1⟩:=zz.z11 k
 exact ih0 a0 a1 a2
set_option maxHeartbeats 8000000 in
set_option maxRecDepth 100000 in
theorem zz.calls (k : Nat) : ∀ (a0 : Int) (a1 : Int) (a2 : Int) (r : Int) (w : World) (h : zz.f k a0 a1 a2 = some r),
 Calls Try.prog 78 #[.int .i64 a0,.int .u64 a1,.int .u64 a2] w fun e w'=>e = .returned (.int .u64 r) ∧ Drawn0 w w':=by
 induction k using Nat.strongRecOn with
 | _ k ih =>
 intro a0 a1 a2 r w h
 cases k with
 | zero=>exact absurd h (by simp [zz.f])
 | succ k =>
 simp only [zz.f] at h
 have H : (if a0 = 0 then (zz.j0 k a0 a1 a2 true) else (if a1 = 0 then (zz.j0 k a0 a1 a2 true) else (zz.j0 k a0 a1 a2 (a2 == 0)))) = some r:=h
 clear h
 have HC4:=z1.mk H
 clear H
 go_enter Try.func78,Try.ntmps78
 go_upto_region 1 with (fail)
 go_cut [23] (fun v23 wc=>∃ (kq : Nat) (x23_3 : Bool),v23 = .bool x23_3 ∧ z1 (zz.j0 kq a0 a1 a2 x23_3 = some r) ∧ z1 (kq ≤ k) ∧ Drawn0 w wc)
 case first =>
  have H:=HC4.out
  clear HC4
  by_cases c5 : a0 = 0
  · rw [if_pos c5] at H
    have c5b0 : (a0 == 0) = true:=beq_iff_eq.mpr c5
    have c5b1 : (a0 != 0) = false:=bne_eq_false_iff_eq.mpr c5
    clear c5
    (first|rw [c5b0]|(simp only [zF,zG];rw [c5b0])|skip)
    have H':=z1.mk H
    clear H
    go_wp2
    go_meet
    case rel=>exact ⟨_,(true),zz50,H',⟨by first|omega|exact Nat.le_refl _⟩,by repeat (first|exact Drawn0.refl _|apply Drawn0.step)⟩
  rw [if_neg c5] at H
  have c5b0 : (a0 == 0) = false:=beq_eq_false_iff_ne.mpr c5
  have c5b1 : (a0 != 0) = true:=bne_iff_ne.mpr c5
  (first|rw [c5b0]|(simp only [zF,zG];rw [c5b0])|skip)
  by_cases c6 : a1 = 0
  rotate_left
  · rw [if_neg c6] at H
    have c6b0 : (a1 == 0) = false:=beq_eq_false_iff_ne.mpr c6
    have c6b1 : (a1 != 0) = true:=bne_iff_ne.mpr c6
    have H':=z1.mk H
    clear H
    go_wp2
    go_meet
    case rel=>exact ⟨_,((a2 == 0)),zz50,H',⟨by first|omega|exact Nat.le_refl _⟩,by repeat (first|exact Drawn0.refl _|apply Drawn0.step)⟩
  rw [if_pos c6] at H
  have c6b0 : (a1 == 0) = true:=beq_iff_eq.mpr c6
  have c6b1 : (a1 != 0) = false:=bne_eq_false_iff_eq.mpr c6
  clear c6
  have H':=z1.mk H
  clear H
  go_wp2
  go_meet
  case rel=>exact ⟨_,(true),zz50,H',⟨by first|omega|exact Nat.le_refl _⟩,by repeat (first|exact Drawn0.refl _|apply Drawn0.step)⟩
 case rest =>
  clear HC4
  (try clear p2);(try clear c5);(try clear c5b0);(try clear c5b1);(try clear c6);(try clear c6b0);(try clear c6b1)
  obtain ⟨kq,x23_3,rfl,HA,HJ3,⟨mc3,rfl⟩⟩:=hcut
  cases kq with
  | zero=>exact absurd HA.out (by simp [zz.j0])
  | succ kj3 =>
   have H:=HA.out
   clear HA
   simp only [zz.j0] at H
   by_cases c7 : x23_3 = true
   · subst c7
     have H1 : (some (Go.bits .and .u64 (Go.bits .and .u64 a1 a2) 1)) = some r:=by rw [if_pos rfl] at H;exact H
     clear H
     have H:=H1
     clear H1
     obtain rfl:=Option.some.inj H
     go_wp2
     go_ret
     exact ⟨by first|rfl|(simp;done)|(simp [*];done),by repeat (first|exact Drawn0.refl _|apply Drawn0.step)⟩
   replace c7:=Bool.eq_false_iff.mpr c7
   subst c7
   have H1 : ((z1m.f a0 a1).bind fun bt101=>((z1m.f a0 a2).bind fun bt103=>((zz.f kj3 (wrap64 (a0 - 1)) bt101.1 bt103.1).bind fun t105=>((zz.f kj3 (wrap64 (a0 - 1)) bt101.2 bt103.2).bind fun t106=>((zz.f kj3 (wrap64 (a0 - 1)) (Go.bits .xor .u64 bt101.1 bt101.2) (Go.bits .xor .u64 bt103.1 bt103.2)).bind fun t107=>((zE.f kj3 (wrap64 (a0 - 1)) t105).bind fun t108=>((z1n.f a0 (Go.bits .xor .u64 (Go.bits .xor .u64 (Go.bits .xor .u64 t107 t105) t106) t108) (Go.bits .xor .u64 t106 t105)).bind fun t109=>(some t109)))))))) = some r:=by rw [if_neg (show ¬ (false = true) by decide)] at H;exact H
   clear H
   have H:=H1
   clear H1
   replace H:=Option.bind_eq_some_iff.mp H
   obtain ⟨⟨t101,t102⟩,A80,H⟩:=H
   replace H : ((z1m.f a0 a2).bind fun bt103=>((zz.f kj3 (wrap64 (a0 - 1)) t101 bt103.1).bind fun t105=>((zz.f kj3 (wrap64 (a0 - 1)) t102 bt103.2).bind fun t106=>((zz.f kj3 (wrap64 (a0 - 1)) (Go.bits .xor .u64 t101 t102) (Go.bits .xor .u64 bt103.1 bt103.2)).bind fun t107=>((zE.f kj3 (wrap64 (a0 - 1)) t105).bind fun t108=>((z1n.f a0 (Go.bits .xor .u64 (Go.bits .xor .u64 (Go.bits .xor .u64 t107 t105) t106) t108) (Go.bits .xor .u64 t106 t105)).bind fun t109=>(some t109))))))) = some r:=H
   have A8:=z1.mk A80
   clear A80
   replace H:=Option.bind_eq_some_iff.mp H
   obtain ⟨⟨t103,t104⟩,A90,H⟩:=H
   replace H : ((zz.f kj3 (wrap64 (a0 - 1)) t101 t103).bind fun t105=>((zz.f kj3 (wrap64 (a0 - 1)) t102 t104).bind fun t106=>((zz.f kj3 (wrap64 (a0 - 1)) (Go.bits .xor .u64 t101 t102) (Go.bits .xor .u64 t103 t104)).bind fun t107=>((zE.f kj3 (wrap64 (a0 - 1)) t105).bind fun t108=>((z1n.f a0 (Go.bits .xor .u64 (Go.bits .xor .u64 (Go.bits .xor .u64 t107 t105) t106) t108) (Go.bits .xor .u64 t106 t105)).bind fun t109=>(some t109)))))) = some r:=H
   have A9:=z1.mk A90
   clear A90
   replace H:=Option.bind_eq_some_iff.mp H
   obtain ⟨t105,A100,H⟩:=H
   replace H : ((zz.f kj3 (wrap64 (a0 - 1)) t102 t104).bind fun t106=>((zz.f kj3 (wrap64 (a0 - 1)) (Go.bits .xor .u64 t101 t102) (Go.bits .xor .u64 t103 t104)).bind fun t107=>((zE.f kj3 (wrap64 (a0 - 1)) t105).bind fun t108=>((z1n.f a0 (Go.bits .xor .u64 (Go.bits .xor .u64 (Go.bits .xor .u64 t107 t105) t106) t108) (Go.bits .xor .u64 t106 t105)).bind fun t109=>(some t109))))) = some r:=H
   have A10:=z1.mk A100
   clear A100
   replace H:=Option.bind_eq_some_iff.mp H
   obtain ⟨t106,A110,H⟩:=H
   replace H : ((zz.f kj3 (wrap64 (a0 - 1)) (Go.bits .xor .u64 t101 t102) (Go.bits .xor .u64 t103 t104)).bind fun t107=>((zE.f kj3 (wrap64 (a0 - 1)) t105).bind fun t108=>((z1n.f a0 (Go.bits .xor .u64 (Go.bits .xor .u64 (Go.bits .xor .u64 t107 t105) t106) t108) (Go.bits .xor .u64 t106 t105)).bind fun t109=>(some t109)))) = some r:=H
   have A11:=z1.mk A110
   clear A110
   replace H:=Option.bind_eq_some_iff.mp H
   obtain ⟨t107,A120,H⟩:=H
   replace H : ((zE.f kj3 (wrap64 (a0 - 1)) t105).bind fun t108=>((z1n.f a0 (Go.bits .xor .u64 (Go.bits .xor .u64 (Go.bits .xor .u64 t107 t105) t106) t108) (Go.bits .xor .u64 t106 t105)).bind fun t109=>(some t109))) = some r:=H
   have A12:=z1.mk A120
   clear A120
   replace H:=Option.bind_eq_some_iff.mp H
   obtain ⟨t108,A130,H⟩:=H
   replace H : ((z1n.f a0 (Go.bits .xor .u64 (Go.bits .xor .u64 (Go.bits .xor .u64 t107 t105) t106) t108) (Go.bits .xor .u64 t106 t105)).bind fun t109=>(some t109)) = some r:=H
   have A13:=z1.mk A130
   clear A130
   replace H:=Option.bind_eq_some_iff.mp H
   obtain ⟨t109,A140,H⟩:=H
   replace H : (some t109) = some r:=H
   have A14:=z1.mk A140
   clear A140
   obtain rfl:=Option.some.inj H
   go_wp2_with (first|((with_reducible refine zp (f:=85) rfl ?_);refine goesL_ (some 31) rfl rfl Try.func85 zz52 rfl #[.int .i64 a0,.int .u64 a1] rfl zz19 ?_;(with_reducible refine (z1m.calls a0 a1 t101 t102 _ A8.out).mono ?_);rintro e w' ⟨rfl,⟨nd,rfl⟩⟩;refine ⟨_,rfl,?_⟩)|((with_reducible refine zp (f:=85) rfl ?_);refine goesL_ (some 37) rfl rfl Try.func85 zz52 rfl #[.int .i64 a0,.int .u64 a2] rfl zz19 ?_;(with_reducible refine (z1m.calls a0 a2 t103 t104 _ A9.out).mono ?_);rintro e w' ⟨rfl,⟨nd,rfl⟩⟩;refine ⟨_,rfl,?_⟩)|((with_reducible refine zp (f:=78) rfl ?_);refine goesL_ (some 44) rfl rfl Try.func78 zz52 rfl #[.int .i64 (wrap64 (a0 - 1)),.int .u64 t101,.int .u64 t103] rfl zz19 ?_;(with_reducible refine (ih kj3 (by have:=HJ3.out;omega) (wrap64 (a0 - 1)) t101 t103 t105 _ A10.out).mono ?_);rintro e w' ⟨rfl,⟨nd,rfl⟩⟩;refine ⟨_,rfl,?_⟩)|((with_reducible refine zp (f:=78) rfl ?_);refine goesL_ (some 49) rfl rfl Try.func78 zz52 rfl #[.int .i64 (wrap64 (a0 - 1)),.int .u64 t102,.int .u64 t104] rfl zz19 ?_;(with_reducible refine (ih kj3 (by have:=HJ3.out;omega) (wrap64 (a0 - 1)) t102 t104 t106 _ A11.out).mono ?_);rintro e w' ⟨rfl,⟨nd,rfl⟩⟩;refine ⟨_,rfl,?_⟩)|((with_reducible refine zp (f:=78) rfl ?_);refine goesL_ (some 58) rfl rfl Try.func78 zz52 rfl #[.int .i64 (wrap64 (a0 - 1)),.int .u64 (Go.bits .xor .u64 t101 t102),.int .u64 (Go.bits .xor .u64 t103 t104)] rfl zz19 ?_;(with_reducible refine (ih kj3 (by have:=HJ3.out;omega) (wrap64 (a0 - 1)) (Go.bits .xor .u64 t101 t102) (Go.bits .xor .u64 t103 t104) t107 _ A12.out).mono ?_);rintro e w' ⟨rfl,⟨nd,rfl⟩⟩;refine ⟨_,rfl,?_⟩)|((with_reducible refine zp (f:=77) rfl ?_);refine goesL_ (some 68) rfl rfl Try.func77 zz52 rfl #[.int .i64 (wrap64 (a0 - 1)),.int .u64 t105] rfl zz19 ?_;(with_reducible refine (zE.calls kj3 (wrap64 (a0 - 1)) t105 t108 _ A13.out).mono ?_);rintro e w' ⟨rfl,⟨nd,rfl⟩⟩;refine ⟨_,rfl,?_⟩)|((with_reducible refine zp (f:=86) rfl ?_);refine goesL_ (some 73) rfl rfl Try.func86 zz52 rfl #[.int .i64 a0,.int .u64 (Go.bits .xor .u64 (Go.bits .xor .u64 (Go.bits .xor .u64 t107 t105) t106) t108),.int .u64 (Go.bits .xor .u64 t106 t105)] rfl zz19 ?_;(with_reducible refine (z1n.calls a0 (Go.bits .xor .u64 (Go.bits .xor .u64 (Go.bits .xor .u64 t107 t105) t106) t108) (Go.bits .xor .u64 t106 t105) t109 _ A14.out).mono ?_);rintro e w' ⟨rfl,⟨nd,rfl⟩⟩;refine ⟨_,rfl,?_⟩))
   go_ret
   exact ⟨by first|rfl|(simp;done)|(simp [*];done),by repeat (first|exact Drawn0.refl _|apply Drawn0.step)⟩
end Go.Proofs.Ytnhbdhgbmjcjdaa.P
namespace Go.Proofs.Ytnhbdhgbmjcjdaa.P
open Go.RowKit Go.Proofs.YtnhbdhgbmjcjdaaW.PrintWords Go.Proofs.YtnhbdhgbmjcjdaaW.PrintLast Go.Proofs.YtnhbdhgbmjcjdaaW.PrintMore
attribute [local go_sem] zX zZ z1a z1b zL zM zY z10   -- for this text's walks alone
set_option linter.unusedVariables false
set_option linter.unusedSimpArgs false
def z13.j0 : Nat → Int → Bool → Int → Int → Int → Int → Option (Int × Int)
 | 0,_,_,_,_,_,_=>none
 | k + 1,x0,x10,x102000,x102001,x103000,x103001=>if x10 = true then (some (0,0)) else (if x0 ≤ 6 then ((zz.f k x0 x102001 x103001).bind fun t106=>(some (0,t106))) else ((zz.f k 6 x102000 x103000).bind fun t107=>((zz.f k 6 x102001 x103001).bind fun t108=>((zz.f k 6 (Go.bits .xor .u64 x102000 x102001) (Go.bits .xor .u64 x103000 x103001)).bind fun t109=>((zE.f k 6 t107).bind fun t110=>(some (Go.bits .xor .u64 (Go.bits .xor .u64 (Go.bits .xor .u64 t109 t107) t108) t110,Go.bits .xor .u64 t108 t107)))))))
def z13.f (k : Nat) (a0 : Int) (a1_0 : Int) (a1_1 : Int) (a2_0 : Int) (a2_1 : Int) : Option (Int × Int):=(zU.f k a0 a1_0 a1_1).bind fun t104=>(if t104 = true then ((zU.f k a0 a2_0 a2_1).bind fun t105=>(z13.j0 k a0 (!t105) a1_0 a1_1 a2_0 a2_1)) else (z13.j0 k a0 true a1_0 a1_1 a2_0 a2_1))
theorem z13.z11 : ∀ k,(∀ y0 y1 y2 y3 y4 y5,LeO (z13.j0 k y0 y1 y2 y3 y4 y5) (z13.j0 (k + 1) y0 y1 y2 y3 y4 y5))
 | 0=>fun _ _ _ _ _ _ r h=>by simp [z13.j0] at h
 | k + 1=>by
  have ih0:=z13.z11 k
  · intro y0 y1 y2 y3 y4 y5
    unfold z13.j0
    repeat' first
    | (with_reducible exact ih0 _ _ _ _ _ _)
    | (with_reducible exact zU.mono _ _ _ _)
    | (with_reducible exact zz.mono _ _ _ _)
    | (with_reducible exact zE.mono _ _ _)
    | (with_reducible exact LeO.refl _)
    | (with_reducible exact LeO.none _)
    | (with_reducible refine LeO.ite ?_ ?_)
    | (with_reducible refine LeO.bind ?_ (fun _=>?_))
    | exact ih0 _ _ _ _ _ _
    | exact zU.mono _ _ _ _
    | exact zz.mono _ _ _ _
    | exact zE.mono _ _ _
    | exact LeO.none _
    | refine LeO.ite ?_ ?_
    | refine LeO.bind ?_ (fun _=>?_)
theorem z13.mono : ∀ a0 a1 a2 a3 a4 k,LeO (z13.f k a0 a1 a2 a3 a4) (z13.f (k + 1) a0 a1 a2 a3 a4):=by
 intro a0 a1 a2 a3 a4 k
 have ih0:=z13.z11 k
 unfold z13.f
 repeat' first
  | (with_reducible exact ih0 _ _ _ _ _ _)
  | (with_reducible exact zU.mono _ _ _ _)
  | (with_reducible exact zz.mono _ _ _ _)
  | (with_reducible exact zE.mono _ _ _)
  | (with_reducible exact LeO.refl _)
  | (with_reducible exact LeO.none _)
  | (with_reducible refine LeO.ite ?_ ?_)
  | (with_reducible refine LeO.bind ?_ (fun _=>?_))
  | exact ih0 _ _ _ _ _ _
  | exact zU.mono _ _ _ _
  | exact zz.mono _ _ _ _
  | exact zE.mono _ _ _
  | exact LeO.none _
  | refine LeO.ite ?_ ?_
  | refine LeO.bind ?_ (fun _=>?_)
set_option maxHeartbeats 8000000 in
set_option maxRecDepth 100000 in
theorem z13.calls (k : Nat) (a0 : Int) (a1_0 : Int) (a1_1 : Int) (a2_0 : Int) (a2_1 : Int) (r1 : Int) (r2 : Int) (w : World) (h : z13.f k a0 a1_0 a1_1 a2_0 a2_1 = some (r1,r2)) :
 Calls Try.prog 59 #[.int .i64 a0,.agg #[.int .u64 a1_0,.int .u64 a1_1],.agg #[.int .u64 a2_0,.int .u64 a2_1]] w fun e w'=>e = .returned (.agg #[.int .u64 r1,.int .u64 r2]) ∧ Below w.heap.size w w':=by
 have hu35:=Try.underlying35
 have HB:=z1.mk (Below.refl w.heap.size w)
 have H : ((zU.f k a0 a1_0 a1_1).bind fun t104=>(if t104 = true then ((zU.f k a0 a2_0 a2_1).bind fun t105=>(z13.j0 k a0 (!t105) a1_0 a1_1 a2_0 a2_1)) else (z13.j0 k a0 true a1_0 a1_1 a2_0 a2_1))) = some (r1,r2):=h
 clear h
 have HC4:=z1.mk H
 clear H
 go_enter Try.func59,Try.ntmps59
 go_upto_region 1 with (first|((with_reducible refine zC (N:=4) rfl ?_);refine zD ?hg (N:=4) ?hd (cs:=#[.int .u64 a1_0,.int .u64 a1_1]) (t:=35) ?hr ?_;(case hd=>rfl);(case hg=>rfl);(case hr=>first|(go_simp;done)|(go_simp;rfl));intro gb101 hg w5 hbox hb;have n0_:=z1.mk (z8 zz20 hb);have n1_:=z1.mk (hbox);have n2_:=z1.mk ((by rw [hg];exact (zd zz20) : w.heap.size ≤ gb101));have n3_:=z1.mk ((by rw [hg];exact (zd zz20) : w.heap.size ≤ gb101));clear HB;have HB:=n0_;have BK101:=n1_;have GW101:=n2_;have GE101:=n3_;clear n0_ n1_ n2_ n3_;clear hb hbox hg)|((with_reducible refine zC (N:=5) rfl ?_);refine zD ?hg (N:=5) ?hd (cs:=#[.int .u64 a2_0,.int .u64 a2_1]) (t:=35) ?hr ?_;(case hd=>rfl);(case hg=>rfl);(case hr=>first|(go_simp;done)|(go_simp;rfl));intro gb102 hg w6 hbox hb;have n0_:=z1.mk (zj (g:=gb101) (o:=.cells #[.int .u64 a1_0,.int .u64 a1_1] 35 (0,0)) zz22 hb);have n1_:=z1.mk (z8 zz16 hb);have n2_:=z1.mk (hbox);have n3_:=z1.mk ((by rw [hg];exact (zd zz16) : w.heap.size ≤ gb102));have n4_:=z1.mk ((by rw [hg];exact (zd zz16) : w.heap.size ≤ gb102));have n5_:=z1.mk ((by rw [hg];exact Nat.ne_of_lt (zP (g:=gb101) (o:=.cells #[.int .u64 a1_0,.int .u64 a1_1] 35 (0,0)) zz22) : gb101 ≠ gb102));have n6_:=z1.mk ((by rw [hg];exact Nat.ne_of_gt (zP (g:=gb101) (o:=.cells #[.int .u64 a1_0,.int .u64 a1_1] 35 (0,0)) zz22) : gb102 ≠ gb101));clear BK101;clear HB;have BK101:=n0_;have HB:=n1_;have BK102:=n2_;have GW102:=n3_;have GE102:=n4_;have NB101_102:=n5_;have NB102_101:=n6_;clear n0_ n1_ n2_ n3_ n4_ n5_ n6_;clear hb hbox hg)|((with_reducible refine zC (N:=6) rfl ?_);refine zD ?hg (N:=6) ?hd (cs:=#[.int .u64 0,.int .u64 0]) (t:=35) ?hr ?_;(case hd=>rfl);(case hg=>rfl);(case hr=>first|(go_simp;done)|(go_simp;rfl));intro gb103 hg w7 hbox hb;have n0_:=z1.mk (zj (g:=gb101) (o:=.cells #[.int .u64 a1_0,.int .u64 a1_1] 35 (0,0)) zz22 hb);have n1_:=z1.mk (zj (g:=gb102) (o:=.cells #[.int .u64 a2_0,.int .u64 a2_1] 35 (0,0)) zz23 hb);have n2_:=z1.mk (z8 zz12 hb);have n3_:=z1.mk (hbox);have n4_:=z1.mk ((by rw [hg];exact (zd zz12) : w.heap.size ≤ gb103));have n5_:=z1.mk ((by rw [hg];exact (zd zz12) : w.heap.size ≤ gb103));have n6_:=z1.mk ((by rw [hg];exact Nat.ne_of_lt (zP (g:=gb101) (o:=.cells #[.int .u64 a1_0,.int .u64 a1_1] 35 (0,0)) zz22) : gb101 ≠ gb103));have n7_:=z1.mk ((by rw [hg];exact Nat.ne_of_gt (zP (g:=gb101) (o:=.cells #[.int .u64 a1_0,.int .u64 a1_1] 35 (0,0)) zz22) : gb103 ≠ gb101));have n8_:=z1.mk ((by rw [hg];exact Nat.ne_of_lt (zP (g:=gb102) (o:=.cells #[.int .u64 a2_0,.int .u64 a2_1] 35 (0,0)) zz23) : gb102 ≠ gb103));have n9_:=z1.mk ((by rw [hg];exact Nat.ne_of_gt (zP (g:=gb102) (o:=.cells #[.int .u64 a2_0,.int .u64 a2_1] 35 (0,0)) zz23) : gb103 ≠ gb102));clear BK101;clear BK102;clear HB;have BK101:=n0_;have BK102:=n1_;have HB:=n2_;have BK103:=n3_;have GW103:=n4_;have GE103:=n5_;have NB101_103:=n6_;have NB103_101:=n7_;have NB102_103:=n8_;have NB103_102:=n9_;clear n0_ n1_ n2_ n3_ n4_ n5_ n6_ n7_ n8_ n9_;clear hb hbox hg))
 repeat (go_quiet (first|((with_reducible refine zC (N:=4) rfl ?_);refine zD ?hg (N:=4) ?hd (cs:=#[.int .u64 a1_0,.int .u64 a1_1]) (t:=35) ?hr ?_;(case hd=>rfl);(case hg=>rfl);(case hr=>first|(go_simp;done)|(go_simp;rfl));intro gb101 hg w5 hbox hb;have n0_:=z1.mk (z8 zz20 hb);have n1_:=z1.mk (hbox);have n2_:=z1.mk ((by rw [hg];exact (zd zz20) : w.heap.size ≤ gb101));have n3_:=z1.mk ((by rw [hg];exact (zd zz20) : w.heap.size ≤ gb101));clear HB;have HB:=n0_;have BK101:=n1_;have GW101:=n2_;have GE101:=n3_;clear n0_ n1_ n2_ n3_;clear hb hbox hg)|((with_reducible refine zC (N:=5) rfl ?_);refine zD ?hg (N:=5) ?hd (cs:=#[.int .u64 a2_0,.int .u64 a2_1]) (t:=35) ?hr ?_;(case hd=>rfl);(case hg=>rfl);(case hr=>first|(go_simp;done)|(go_simp;rfl));intro gb102 hg w6 hbox hb;have n0_:=z1.mk (zj (g:=gb101) (o:=.cells #[.int .u64 a1_0,.int .u64 a1_1] 35 (0,0)) zz22 hb);have n1_:=z1.mk (z8 zz16 hb);have n2_:=z1.mk (hbox);have n3_:=z1.mk ((by rw [hg];exact (zd zz16) : w.heap.size ≤ gb102));have n4_:=z1.mk ((by rw [hg];exact (zd zz16) : w.heap.size ≤ gb102));have n5_:=z1.mk ((by rw [hg];exact Nat.ne_of_lt (zP (g:=gb101) (o:=.cells #[.int .u64 a1_0,.int .u64 a1_1] 35 (0,0)) zz22) : gb101 ≠ gb102));have n6_:=z1.mk ((by rw [hg];exact Nat.ne_of_gt (zP (g:=gb101) (o:=.cells #[.int .u64 a1_0,.int .u64 a1_1] 35 (0,0)) zz22) : gb102 ≠ gb101));clear BK101;clear HB;have BK101:=n0_;have HB:=n1_;have BK102:=n2_;have GW102:=n3_;have GE102:=n4_;have NB101_102:=n5_;have NB102_101:=n6_;clear n0_ n1_ n2_ n3_ n4_ n5_ n6_;clear hb hbox hg)|((with_reducible refine zC (N:=6) rfl ?_);refine zD ?hg (N:=6) ?hd (cs:=#[.int .u64 0,.int .u64 0]) (t:=35) ?hr ?_;(case hd=>rfl);(case hg=>rfl);(case hr=>first|(go_simp;done)|(go_simp;rfl));intro gb103 hg w7 hbox hb;have n0_:=z1.mk (zj (g:=gb101) (o:=.cells #[.int .u64 a1_0,.int .u64 a1_1] 35 (0,0)) zz22 hb);have n1_:=z1.mk (zj (g:=gb102) (o:=.cells #[.int .u64 a2_0,.int .u64 a2_1] 35 (0,0)) zz23 hb);have n2_:=z1.mk (z8 zz12 hb);have n3_:=z1.mk (hbox);have n4_:=z1.mk ((by rw [hg];exact (zd zz12) : w.heap.size ≤ gb103));have n5_:=z1.mk ((by rw [hg];exact (zd zz12) : w.heap.size ≤ gb103));have n6_:=z1.mk ((by rw [hg];exact Nat.ne_of_lt (zP (g:=gb101) (o:=.cells #[.int .u64 a1_0,.int .u64 a1_1] 35 (0,0)) zz22) : gb101 ≠ gb103));have n7_:=z1.mk ((by rw [hg];exact Nat.ne_of_gt (zP (g:=gb101) (o:=.cells #[.int .u64 a1_0,.int .u64 a1_1] 35 (0,0)) zz22) : gb103 ≠ gb101));have n8_:=z1.mk ((by rw [hg];exact Nat.ne_of_lt (zP (g:=gb102) (o:=.cells #[.int .u64 a2_0,.int .u64 a2_1] 35 (0,0)) zz23) : gb102 ≠ gb103));have n9_:=z1.mk ((by rw [hg];exact Nat.ne_of_gt (zP (g:=gb102) (o:=.cells #[.int .u64 a2_0,.int .u64 a2_1] 35 (0,0)) zz23) : gb103 ≠ gb102));clear BK101;clear BK102;clear HB;have BK101:=n0_;have BK102:=n1_;have HB:=n2_;have BK103:=n3_;have GW103:=n4_;have GE103:=n5_;have NB101_103:=n6_;have NB103_101:=n7_;have NB102_103:=n8_;have NB103_102:=n9_;clear n0_ n1_ n2_ n3_ n4_ n5_ n6_ n7_ n8_ n9_;clear hb hbox hg));go_upto_region 1 with (first|((with_reducible refine zC (N:=4) rfl ?_);refine zD ?hg (N:=4) ?hd (cs:=#[.int .u64 a1_0,.int .u64 a1_1]) (t:=35) ?hr ?_;(case hd=>rfl);(case hg=>rfl);(case hr=>first|(go_simp;done)|(go_simp;rfl));intro gb101 hg w5 hbox hb;have n0_:=z1.mk (z8 zz20 hb);have n1_:=z1.mk (hbox);have n2_:=z1.mk ((by rw [hg];exact (zd zz20) : w.heap.size ≤ gb101));have n3_:=z1.mk ((by rw [hg];exact (zd zz20) : w.heap.size ≤ gb101));clear HB;have HB:=n0_;have BK101:=n1_;have GW101:=n2_;have GE101:=n3_;clear n0_ n1_ n2_ n3_;clear hb hbox hg)|((with_reducible refine zC (N:=5) rfl ?_);refine zD ?hg (N:=5) ?hd (cs:=#[.int .u64 a2_0,.int .u64 a2_1]) (t:=35) ?hr ?_;(case hd=>rfl);(case hg=>rfl);(case hr=>first|(go_simp;done)|(go_simp;rfl));intro gb102 hg w6 hbox hb;have n0_:=z1.mk (zj (g:=gb101) (o:=.cells #[.int .u64 a1_0,.int .u64 a1_1] 35 (0,0)) zz22 hb);have n1_:=z1.mk (z8 zz16 hb);have n2_:=z1.mk (hbox);have n3_:=z1.mk ((by rw [hg];exact (zd zz16) : w.heap.size ≤ gb102));have n4_:=z1.mk ((by rw [hg];exact (zd zz16) : w.heap.size ≤ gb102));have n5_:=z1.mk ((by rw [hg];exact Nat.ne_of_lt (zP (g:=gb101) (o:=.cells #[.int .u64 a1_0,.int .u64 a1_1] 35 (0,0)) zz22) : gb101 ≠ gb102));have n6_:=z1.mk ((by rw [hg];exact Nat.ne_of_gt (zP (g:=gb101) (o:=.cells #[.int .u64 a1_0,.int .u64 a1_1] 35 (0,0)) zz22) : gb102 ≠ gb101));clear BK101;clear HB;have BK101:=n0_;have HB:=n1_;have BK102:=n2_;have GW102:=n3_;have GE102:=n4_;have NB101_102:=n5_;have NB102_101:=n6_;clear n0_ n1_ n2_ n3_ n4_ n5_ n6_;clear hb hbox hg)|((with_reducible refine zC (N:=6) rfl ?_);refine zD ?hg (N:=6) ?hd (cs:=#[.int .u64 0,.int .u64 0]) (t:=35) ?hr ?_;(case hd=>rfl);(case hg=>rfl);(case hr=>first|(go_simp;done)|(go_simp;rfl));intro gb103 hg w7 hbox hb;have n0_:=z1.mk (zj (g:=gb101) (o:=.cells #[.int .u64 a1_0,.int .u64 a1_1] 35 (0,0)) zz22 hb);have n1_:=z1.mk (zj (g:=gb102) (o:=.cells #[.int .u64 a2_0,.int .u64 a2_1] 35 (0,0)) zz23 hb);have n2_:=z1.mk (z8 zz12 hb);have n3_:=z1.mk (hbox);have n4_:=z1.mk ((by rw [hg];exact (zd zz12) : w.heap.size ≤ gb103));have n5_:=z1.mk ((by rw [hg];exact (zd zz12) : w.heap.size ≤ gb103));have n6_:=z1.mk ((by rw [hg];exact Nat.ne_of_lt (zP (g:=gb101) (o:=.cells #[.int .u64 a1_0,.int .u64 a1_1] 35 (0,0)) zz22) : gb101 ≠ gb103));have n7_:=z1.mk ((by rw [hg];exact Nat.ne_of_gt (zP (g:=gb101) (o:=.cells #[.int .u64 a1_0,.int .u64 a1_1] 35 (0,0)) zz22) : gb103 ≠ gb101));have n8_:=z1.mk ((by rw [hg];exact Nat.ne_of_lt (zP (g:=gb102) (o:=.cells #[.int .u64 a2_0,.int .u64 a2_1] 35 (0,0)) zz23) : gb102 ≠ gb103));have n9_:=z1.mk ((by rw [hg];exact Nat.ne_of_gt (zP (g:=gb102) (o:=.cells #[.int .u64 a2_0,.int .u64 a2_1] 35 (0,0)) zz23) : gb103 ≠ gb102));clear BK101;clear BK102;clear HB;have BK101:=n0_;have BK102:=n1_;have HB:=n2_;have BK103:=n3_;have GW103:=n4_;have GE103:=n5_;have NB101_103:=n6_;have NB103_101:=n7_;have NB102_103:=n8_;have NB103_102:=n9_;clear n0_ n1_ n2_ n3_ n4_ n5_ n6_ n7_ n8_ n9_;clear hb hbox hg)))
 (try simp only [Act.put,List.setIfInBounds_toArray,List.set_cons_zero,List.set_cons_succ])
 go_cut [10] (fun v10 wc=>∃ (kq : Nat) (x10_3 : Bool),v10 = .bool x10_3 ∧ z1 (z13.j0 kq a0 x10_3 a1_0 a1_1 a2_0 a2_1 = some (r1,r2)) ∧ z1 (kq ≤ k) ∧ z1 (wc.heap[gb101]? = some (.cells #[.int .u64 a1_0,.int .u64 a1_1] 35 (0,0))) ∧ z1 (wc.heap[gb102]? = some (.cells #[.int .u64 a2_0,.int .u64 a2_1] 35 (0,0))) ∧ z1 (wc.heap[gb103]? = some (.cells #[.int .u64 0,.int .u64 0] 35 (0,0))) ∧ z1 (Below w.heap.size w wc))
 case first =>
  have H:=HC4.out
  clear HC4
  replace H:=Option.bind_eq_some_iff.mp H
  obtain ⟨t104,A80,H⟩:=H
  replace H : (if t104 = true then ((zU.f k a0 a2_0 a2_1).bind fun t105=>(z13.j0 k a0 (!t105) a1_0 a1_1 a2_0 a2_1)) else (z13.j0 k a0 true a1_0 a1_1 a2_0 a2_1)) = some (r1,r2):=H
  have A8:=z1.mk A80
  clear A80
  by_cases c9 : t104 = true
  rotate_left
  · replace c9:=Bool.eq_false_iff.mpr c9
    subst c9
    have H1 : (z13.j0 k a0 true a1_0 a1_1 a2_0 a2_1) = some (r1,r2):=by rw [if_neg (show ¬ (false = true) by decide)] at H;exact H
    clear H
    have H:=H1
    clear H1
    have H':=z1.mk H
    clear H
    have hnb18:=NB101_102.out
    have hnc18:=NB102_101.out
    have hnb19:=NB101_103.out
    have hnc19:=NB103_101.out
    have hcz20_0 : w7.cell? ⟨gb101,0,none⟩ = some (.int .u64 a1_0):=(z4 BK101.out 0).trans rfl
    have hcz20_1 : w7.cell? ⟨gb101,1,none⟩ = some (.int .u64 a1_1):=(z4 BK101.out 1).trans rfl
    have hfz20_0:=z6 BK101.out 0
    have hfz20_1:=z6 BK101.out 1
    go_wp2_with (first|(go_at_call 57;(with_reducible refine (zU.calls k a0 a1_0 a1_1 false _ A8.out).mono ?_);rintro e w21 ⟨rfl,hb⟩;have n0_:=z1.mk (zj (g:=gb101) (o:=.cells #[.int .u64 a1_0,.int .u64 a1_1] 35 (0,0)) zz22 hb);have n1_:=z1.mk (zj (g:=gb102) (o:=.cells #[.int .u64 a2_0,.int .u64 a2_1] 35 (0,0)) zz23 hb);have n2_:=z1.mk (zj (g:=gb103) (o:=.cells #[.int .u64 0,.int .u64 0] 35 (0,0)) zz27 hb);have n3_:=z1.mk (z8 zz9 hb);clear BK101;clear BK102;clear BK103;clear HB;have BK101:=n0_;have BK102:=n1_;have BK103:=n2_;have HB:=n3_;clear n0_ n1_ n2_ n3_;(try clear hb);(try clear hb2);(try clear hk);(try clear hi)))
    repeat (go_quiet (first|(go_at_call 57;(with_reducible refine (zU.calls k a0 a1_0 a1_1 false _ A8.out).mono ?_);rintro e w21 ⟨rfl,hb⟩;have n0_:=z1.mk (zj (g:=gb101) (o:=.cells #[.int .u64 a1_0,.int .u64 a1_1] 35 (0,0)) zz22 hb);have n1_:=z1.mk (zj (g:=gb102) (o:=.cells #[.int .u64 a2_0,.int .u64 a2_1] 35 (0,0)) zz23 hb);have n2_:=z1.mk (zj (g:=gb103) (o:=.cells #[.int .u64 0,.int .u64 0] 35 (0,0)) zz27 hb);have n3_:=z1.mk (z8 zz9 hb);clear BK101;clear BK102;clear BK103;clear HB;have BK101:=n0_;have BK102:=n1_;have BK103:=n2_;have HB:=n3_;clear n0_ n1_ n2_ n3_;(try clear hb);(try clear hb2);(try clear hk);(try clear hi)));try go_wp2_with (first|(go_at_call 57;(with_reducible refine (zU.calls k a0 a1_0 a1_1 false _ A8.out).mono ?_);rintro e w21 ⟨rfl,hb⟩;have n0_:=z1.mk (zj (g:=gb101) (o:=.cells #[.int .u64 a1_0,.int .u64 a1_1] 35 (0,0)) zz22 hb);have n1_:=z1.mk (zj (g:=gb102) (o:=.cells #[.int .u64 a2_0,.int .u64 a2_1] 35 (0,0)) zz23 hb);have n2_:=z1.mk (zj (g:=gb103) (o:=.cells #[.int .u64 0,.int .u64 0] 35 (0,0)) zz27 hb);have n3_:=z1.mk (z8 zz9 hb);clear BK101;clear BK102;clear BK103;clear HB;have BK101:=n0_;have BK102:=n1_;have BK103:=n2_;have HB:=n3_;clear n0_ n1_ n2_ n3_;(try clear hb);(try clear hb2);(try clear hk);(try clear hi))))
    go_meet
    case rel=>exact ⟨_,(true),zz50,H',⟨by first|omega|exact Nat.le_refl _⟩,⟨by (with_reducible repeat (first|refine zc ?_ _|refine ze ?_|refine zb ?_ _));exact BK101.out⟩,⟨by (with_reducible repeat (first|refine zc ?_ _|refine ze ?_|refine zb ?_ _));exact BK102.out⟩,⟨by (with_reducible repeat (first|refine zc ?_ _|refine ze ?_|refine zb ?_ _));exact BK103.out⟩,⟨by repeat (first|(with_reducible first|exact HB.out|apply z7|apply z3|apply z5|refine zf ?_ GE101.out|refine zf ?_ GE102.out|refine zf ?_ GE103.out)|exact HB.out)⟩⟩
  subst c9
  have H1 : ((zU.f k a0 a2_0 a2_1).bind fun t105=>(z13.j0 k a0 (!t105) a1_0 a1_1 a2_0 a2_1)) = some (r1,r2):=by rw [if_pos rfl] at H;exact H
  clear H
  have H:=H1
  clear H1
  replace H:=Option.bind_eq_some_iff.mp H
  obtain ⟨t105,A100,H⟩:=H
  replace H : (z13.j0 k a0 (!t105) a1_0 a1_1 a2_0 a2_1) = some (r1,r2):=H
  have A10:=z1.mk A100
  clear A100
  have H':=z1.mk H
  clear H
  have hnb11:=NB101_102.out
  have hnc11:=NB102_101.out
  have hnb12:=NB101_103.out
  have hnc12:=NB103_101.out
  have hcz13_0 : w7.cell? ⟨gb101,0,none⟩ = some (.int .u64 a1_0):=(z4 BK101.out 0).trans rfl
  have hcz13_1 : w7.cell? ⟨gb101,1,none⟩ = some (.int .u64 a1_1):=(z4 BK101.out 1).trans rfl
  have hfz13_0:=z6 BK101.out 0
  have hfz13_1:=z6 BK101.out 1
  go_wp2_with (first|(go_at_call 57;(with_reducible refine (zU.calls k a0 a1_0 a1_1 true _ A8.out).mono ?_);rintro e w14 ⟨rfl,hb⟩;have n0_:=z1.mk (zj (g:=gb101) (o:=.cells #[.int .u64 a1_0,.int .u64 a1_1] 35 (0,0)) zz22 hb);have n1_:=z1.mk (zj (g:=gb102) (o:=.cells #[.int .u64 a2_0,.int .u64 a2_1] 35 (0,0)) zz23 hb);have n2_:=z1.mk (zj (g:=gb103) (o:=.cells #[.int .u64 0,.int .u64 0] 35 (0,0)) zz27 hb);have n3_:=z1.mk (z8 zz9 hb);clear BK101;clear BK102;clear BK103;clear HB;have BK101:=n0_;have BK102:=n1_;have BK103:=n2_;have HB:=n3_;clear n0_ n1_ n2_ n3_;(try clear hb);(try clear hb2);(try clear hk);(try clear hi);have hnb15:=NB102_103.out;have hnc15:=NB103_102.out;have hcz16_0 : w14.cell? ⟨gb102,0,none⟩ = some (.int .u64 a2_0):=(z4 BK102.out 0).trans rfl;have hcz16_1 : w14.cell? ⟨gb102,1,none⟩ = some (.int .u64 a2_1):=(z4 BK102.out 1).trans rfl;have hfz16_0:=z6 BK102.out 0;have hfz16_1:=z6 BK102.out 1)|(go_at_call 57;(with_reducible refine (zU.calls k a0 a2_0 a2_1 t105 _ A10.out).mono ?_);rintro e w17 ⟨rfl,hb⟩;have n0_:=z1.mk (zj (g:=gb101) (o:=.cells #[.int .u64 a1_0,.int .u64 a1_1] 35 (0,0)) zz22 hb);have n1_:=z1.mk (zj (g:=gb102) (o:=.cells #[.int .u64 a2_0,.int .u64 a2_1] 35 (0,0)) zz23 hb);have n2_:=z1.mk (zj (g:=gb103) (o:=.cells #[.int .u64 0,.int .u64 0] 35 (0,0)) zz27 hb);have n3_:=z1.mk (z8 zz9 hb);clear BK101;clear BK102;clear BK103;clear HB;have BK101:=n0_;have BK102:=n1_;have BK103:=n2_;have HB:=n3_;clear n0_ n1_ n2_ n3_;(try clear hb);(try clear hb2);(try clear hk);(try clear hi)))
  repeat (go_quiet (first|(go_at_call 57;(with_reducible refine (zU.calls k a0 a1_0 a1_1 true _ A8.out).mono ?_);rintro e w14 ⟨rfl,hb⟩;have n0_:=z1.mk (zj (g:=gb101) (o:=.cells #[.int .u64 a1_0,.int .u64 a1_1] 35 (0,0)) zz22 hb);have n1_:=z1.mk (zj (g:=gb102) (o:=.cells #[.int .u64 a2_0,.int .u64 a2_1] 35 (0,0)) zz23 hb);have n2_:=z1.mk (zj (g:=gb103) (o:=.cells #[.int .u64 0,.int .u64 0] 35 (0,0)) zz27 hb);have n3_:=z1.mk (z8 zz9 hb);clear BK101;clear BK102;clear BK103;clear HB;have BK101:=n0_;have BK102:=n1_;have BK103:=n2_;have HB:=n3_;clear n0_ n1_ n2_ n3_;(try clear hb);(try clear hb2);(try clear hk);(try clear hi);have hnb15:=NB102_103.out;have hnc15:=NB103_102.out;have hcz16_0 : w14.cell? ⟨gb102,0,none⟩ = some (.int .u64 a2_0):=(z4 BK102.out 0).trans rfl;have hcz16_1 : w14.cell? ⟨gb102,1,none⟩ = some (.int .u64 a2_1):=(z4 BK102.out 1).trans rfl;have hfz16_0:=z6 BK102.out 0;have hfz16_1:=z6 BK102.out 1)|(go_at_call 57;(with_reducible refine (zU.calls k a0 a2_0 a2_1 t105 _ A10.out).mono ?_);rintro e w17 ⟨rfl,hb⟩;have n0_:=z1.mk (zj (g:=gb101) (o:=.cells #[.int .u64 a1_0,.int .u64 a1_1] 35 (0,0)) zz22 hb);have n1_:=z1.mk (zj (g:=gb102) (o:=.cells #[.int .u64 a2_0,.int .u64 a2_1] 35 (0,0)) zz23 hb);have n2_:=z1.mk (zj (g:=gb103) (o:=.cells #[.int .u64 0,.int .u64 0] 35 (0,0)) zz27 hb);have n3_:=z1.mk (z8 zz9 hb);clear BK101;clear BK102;clear BK103;clear HB;have BK101:=n0_;have BK102:=n1_;have BK103:=n2_;have HB:=n3_;clear n0_ n1_ n2_ n3_;(try clear hb);(try clear hb2);(try clear hk);(try clear hi)));try go_wp2_with (first|(go_at_call 57;(with_reducible refine (zU.calls k a0 a1_0 a1_1 true _ A8.out).mono ?_);rintro e w14 ⟨rfl,hb⟩;have n0_:=z1.mk (zj (g:=gb101) (o:=.cells #[.int .u64 a1_0,.int .u64 a1_1] 35 (0,0)) zz22 hb);have n1_:=z1.mk (zj (g:=gb102) (o:=.cells #[.int .u64 a2_0,.int .u64 a2_1] 35 (0,0)) zz23 hb);have n2_:=z1.mk (zj (g:=gb103) (o:=.cells #[.int .u64 0,.int .u64 0] 35 (0,0)) zz27 hb);have n3_:=z1.mk (z8 zz9 hb);clear BK101;clear BK102;clear BK103;clear HB;have BK101:=n0_;have BK102:=n1_;have BK103:=n2_;have HB:=n3_;clear n0_ n1_ n2_ n3_;(try clear hb);(try clear hb2);(try clear hk);(try clear hi);have hnb15:=NB102_103.out;have hnc15:=NB103_102.out;have hcz16_0 : w14.cell? ⟨gb102,0,none⟩ = some (.int .u64 a2_0):=(z4 BK102.out 0).trans rfl;have hcz16_1 : w14.cell? ⟨gb102,1,none⟩ = some (.int .u64 a2_1):=(z4 BK102.out 1).trans rfl;have hfz16_0:=z6 BK102.out 0;have hfz16_1:=z6 BK102.out 1)|(go_at_call 57;(with_reducible refine (zU.calls k a0 a2_0 a2_1 t105 _ A10.out).mono ?_);rintro e w17 ⟨rfl,hb⟩;have n0_:=z1.mk (zj (g:=gb101) (o:=.cells #[.int .u64 a1_0,.int .u64 a1_1] 35 (0,0)) zz22 hb);have n1_:=z1.mk (zj (g:=gb102) (o:=.cells #[.int .u64 a2_0,.int .u64 a2_1] 35 (0,0)) zz23 hb);have n2_:=z1.mk (zj (g:=gb103) (o:=.cells #[.int .u64 0,.int .u64 0] 35 (0,0)) zz27 hb);have n3_:=z1.mk (z8 zz9 hb);clear BK101;clear BK102;clear BK103;clear HB;have BK101:=n0_;have BK102:=n1_;have BK103:=n2_;have HB:=n3_;clear n0_ n1_ n2_ n3_;(try clear hb);(try clear hb2);(try clear hk);(try clear hi))))
  go_meet
  case rel=>exact ⟨_,(!t105),zz50,H',⟨by first|omega|exact Nat.le_refl _⟩,⟨by (with_reducible repeat (first|refine zc ?_ _|refine ze ?_|refine zb ?_ _));exact BK101.out⟩,⟨by (with_reducible repeat (first|refine zc ?_ _|refine ze ?_|refine zb ?_ _));exact BK102.out⟩,⟨by (with_reducible repeat (first|refine zc ?_ _|refine ze ?_|refine zb ?_ _));exact BK103.out⟩,⟨by repeat (first|(with_reducible first|exact HB.out|apply z7|apply z3|apply z5|refine zf ?_ GE101.out|refine zf ?_ GE102.out|refine zf ?_ GE103.out)|exact HB.out)⟩⟩
 case rest =>
  clear HC4
  (try clear c1);(try clear p2);(try clear c5);(try clear c9);(try clear c11);(try clear c12);(try clear c15);(try clear c18);(try clear c19);(try clear hcz13_0);(try clear hcz13_1);(try clear hcz16_0);(try clear hcz16_1);(try clear hcz20_0);(try clear hcz20_1);(try clear hfz13_0);(try clear hfz13_1);(try clear hfz16_0);(try clear hfz16_1);(try clear hfz20_0);(try clear hfz20_1)
  obtain ⟨kq,x10_3,rfl,HA,HJ3,BK101,BK102,BK103,HB⟩:=hcut
  cases kq with
  | zero=>exact absurd HA.out (by simp [z13.j0])
  | succ kj3 =>
   have H:=HA.out
   clear HA
   simp only [z13.j0] at H
   by_cases c22 : x10_3 = true
   · subst c22
     have H1 : (some (0,0)) = some (r1,r2):=by rw [if_pos rfl] at H;exact H
     clear H
     have H:=H1
     clear H1
     simp only [Option.some.injEq,Prod.mk.injEq] at H
     obtain ⟨rfl,rfl⟩:=H
     have hnb23:=NB103_101.out
     have hnc23:=NB101_103.out
     have hnb24:=NB103_102.out
     have hnc24:=NB102_103.out
     have hcz25_0 : wc.cell? ⟨gb103,0,none⟩ = some (.int .u64 0):=(z4 BK103.out 0).trans rfl
     have hcz25_1 : wc.cell? ⟨gb103,1,none⟩ = some (.int .u64 0):=(z4 BK103.out 1).trans rfl
     have hfz25_0:=z6 BK103.out 0
     have hfz25_1:=z6 BK103.out 1
     go_wp2
     repeat (go_quiet (fail);try go_wp2)
     refine bodyPost_ret (results_cell_row rfl _ _ gb103 35 #[.int .u64 0,.int .u64 0] (0,0) _ rfl zz3 Try.underlying35 rfl zz52) rfl ?_
     exact ⟨by first|rfl|(simp [zk,zl] <;> rfl)|(simp [*,zk,zl] <;> rfl),by repeat (first|(with_reducible first|exact HB.out|apply z7|apply z3|apply z5|refine zf ?_ GE101.out|refine zf ?_ GE102.out|refine zf ?_ GE103.out)|exact HB.out)⟩
   replace c22:=Bool.eq_false_iff.mpr c22
   subst c22
   have H1 : (if a0 ≤ 6 then ((zz.f kj3 a0 a1_1 a2_1).bind fun t106=>(some (0,t106))) else ((zz.f kj3 6 a1_0 a2_0).bind fun t107=>((zz.f kj3 6 a1_1 a2_1).bind fun t108=>((zz.f kj3 6 (Go.bits .xor .u64 a1_0 a1_1) (Go.bits .xor .u64 a2_0 a2_1)).bind fun t109=>((zE.f kj3 6 t107).bind fun t110=>(some (Go.bits .xor .u64 (Go.bits .xor .u64 (Go.bits .xor .u64 t109 t107) t108) t110,Go.bits .xor .u64 t108 t107))))))) = some (r1,r2):=by rw [if_neg (show ¬ (false = true) by decide)] at H;exact H
   clear H
   have H:=H1
   clear H1
   by_cases c26 : a0 ≤ 6
   · rw [if_pos c26] at H
     have c26b0 : decide (a0 ≤ 6) = true:=decide_eq_true c26
     clear c26
     replace H:=Option.bind_eq_some_iff.mp H
     obtain ⟨t106,A270,H⟩:=H
     replace H : (some (0,t106)) = some (r1,r2):=H
     have A27:=z1.mk A270
     clear A270
     simp only [Option.some.injEq,Prod.mk.injEq] at H
     obtain ⟨rfl,rfl⟩:=H
     have hnb28:=NB101_102.out
     have hnc28:=NB102_101.out
     have hnb29:=NB101_103.out
     have hnc29:=NB103_101.out
     have hcz30_0 : wc.cell? ⟨gb101,0,none⟩ = some (.int .u64 a1_0):=(z4 BK101.out 0).trans rfl
     have hcz30_1 : wc.cell? ⟨gb101,1,none⟩ = some (.int .u64 a1_1):=(z4 BK101.out 1).trans rfl
     have hfz30_0:=z6 BK101.out 0
     have hfz30_1:=z6 BK101.out 1
     have hnb31:=NB102_103.out
     have hnc31:=NB103_102.out
     have hcz32_0 : wc.cell? ⟨gb102,0,none⟩ = some (.int .u64 a2_0):=(z4 BK102.out 0).trans rfl
     have hcz32_1 : wc.cell? ⟨gb102,1,none⟩ = some (.int .u64 a2_1):=(z4 BK102.out 1).trans rfl
     have hfz32_0:=z6 BK102.out 0
     have hfz32_1:=z6 BK102.out 1
     go_wp2_with (first|(go_at_call 78;(with_reducible refine (zz.calls kj3 a0 a1_1 a2_1 t106 _ A27.out).mono ?_);rintro e w' ⟨rfl,⟨nd,rfl⟩⟩;(try first|exact ⟨rfl,_,World.drewN_drewN _ _ _⟩|exact ⟨rfl,_,Eq.trans (World.drewN_drewN _ _ _) (congrArg (World.drewN _) (Nat.add_assoc _ _ _))⟩);have hcz33_0 : wc.cell? ⟨gb103,0,none⟩ = some (.int .u64 0):=(z4 BK103.out 0).trans rfl;have hcz33_1 : wc.cell? ⟨gb103,1,none⟩ = some (.int .u64 0):=(z4 BK103.out 1).trans rfl;have hfz33_0:=z6 BK103.out 0;have hfz33_1:=z6 BK103.out 1))
     repeat (go_quiet (first|(go_at_call 78;(with_reducible refine (zz.calls kj3 a0 a1_1 a2_1 t106 _ A27.out).mono ?_);rintro e w' ⟨rfl,⟨nd,rfl⟩⟩;(try first|exact ⟨rfl,_,World.drewN_drewN _ _ _⟩|exact ⟨rfl,_,Eq.trans (World.drewN_drewN _ _ _) (congrArg (World.drewN _) (Nat.add_assoc _ _ _))⟩);have hcz33_0 : wc.cell? ⟨gb103,0,none⟩ = some (.int .u64 0):=(z4 BK103.out 0).trans rfl;have hcz33_1 : wc.cell? ⟨gb103,1,none⟩ = some (.int .u64 0):=(z4 BK103.out 1).trans rfl;have hfz33_0:=z6 BK103.out 0;have hfz33_1:=z6 BK103.out 1));try go_wp2_with (first|(go_at_call 78;(with_reducible refine (zz.calls kj3 a0 a1_1 a2_1 t106 _ A27.out).mono ?_);rintro e w' ⟨rfl,⟨nd,rfl⟩⟩;(try first|exact ⟨rfl,_,World.drewN_drewN _ _ _⟩|exact ⟨rfl,_,Eq.trans (World.drewN_drewN _ _ _) (congrArg (World.drewN _) (Nat.add_assoc _ _ _))⟩);have hcz33_0 : wc.cell? ⟨gb103,0,none⟩ = some (.int .u64 0):=(z4 BK103.out 0).trans rfl;have hcz33_1 : wc.cell? ⟨gb103,1,none⟩ = some (.int .u64 0):=(z4 BK103.out 1).trans rfl;have hfz33_0:=z6 BK103.out 0;have hfz33_1:=z6 BK103.out 1)))
     refine bodyPost_ret (results_cell_row rfl _ _ gb103 35 #[.int .u64 0,.int .u64 t106] (0,0) _ rfl zz3 Try.underlying35 rfl zz52) rfl ?_
     exact ⟨by first|rfl|(simp [zk,zl] <;> rfl)|(simp [*,zk,zl] <;> rfl),by repeat (first|(with_reducible first|exact HB.out|apply z7|apply z3|apply z5|refine zf ?_ GE101.out|refine zf ?_ GE102.out|refine zf ?_ GE103.out)|exact HB.out)⟩
   rw [if_neg c26] at H
   have c26b0 : decide (a0 ≤ 6) = false:=decide_eq_false c26
   clear c26
   replace H:=Option.bind_eq_some_iff.mp H
   obtain ⟨t107,A340,H⟩:=H
   replace H : ((zz.f kj3 6 a1_1 a2_1).bind fun t108=>((zz.f kj3 6 (Go.bits .xor .u64 a1_0 a1_1) (Go.bits .xor .u64 a2_0 a2_1)).bind fun t109=>((zE.f kj3 6 t107).bind fun t110=>(some (Go.bits .xor .u64 (Go.bits .xor .u64 (Go.bits .xor .u64 t109 t107) t108) t110,Go.bits .xor .u64 t108 t107))))) = some (r1,r2):=H
   have A34:=z1.mk A340
   clear A340
   replace H:=Option.bind_eq_some_iff.mp H
   obtain ⟨t108,A350,H⟩:=H
   replace H : ((zz.f kj3 6 (Go.bits .xor .u64 a1_0 a1_1) (Go.bits .xor .u64 a2_0 a2_1)).bind fun t109=>((zE.f kj3 6 t107).bind fun t110=>(some (Go.bits .xor .u64 (Go.bits .xor .u64 (Go.bits .xor .u64 t109 t107) t108) t110,Go.bits .xor .u64 t108 t107)))) = some (r1,r2):=H
   have A35:=z1.mk A350
   clear A350
   replace H:=Option.bind_eq_some_iff.mp H
   obtain ⟨t109,A360,H⟩:=H
   replace H : ((zE.f kj3 6 t107).bind fun t110=>(some (Go.bits .xor .u64 (Go.bits .xor .u64 (Go.bits .xor .u64 t109 t107) t108) t110,Go.bits .xor .u64 t108 t107))) = some (r1,r2):=H
   have A36:=z1.mk A360
   clear A360
   replace H:=Option.bind_eq_some_iff.mp H
   obtain ⟨t110,A370,H⟩:=H
   replace H : (some (Go.bits .xor .u64 (Go.bits .xor .u64 (Go.bits .xor .u64 t109 t107) t108) t110,Go.bits .xor .u64 t108 t107)) = some (r1,r2):=H
   have A37:=z1.mk A370
   clear A370
   simp only [Option.some.injEq,Prod.mk.injEq] at H
   obtain ⟨rfl,rfl⟩:=H
   have hnb38:=NB101_102.out
   have hnc38:=NB102_101.out
   have hnb39:=NB101_103.out
   have hnc39:=NB103_101.out
   have hcz40_0 : wc.cell? ⟨gb101,0,none⟩ = some (.int .u64 a1_0):=(z4 BK101.out 0).trans rfl
   have hcz40_1 : wc.cell? ⟨gb101,1,none⟩ = some (.int .u64 a1_1):=(z4 BK101.out 1).trans rfl
   have hfz40_0:=z6 BK101.out 0
   have hfz40_1:=z6 BK101.out 1
   have hnb41:=NB102_103.out
   have hnc41:=NB103_102.out
   have hcz42_0 : wc.cell? ⟨gb102,0,none⟩ = some (.int .u64 a2_0):=(z4 BK102.out 0).trans rfl
   have hcz42_1 : wc.cell? ⟨gb102,1,none⟩ = some (.int .u64 a2_1):=(z4 BK102.out 1).trans rfl
   have hfz42_0:=z6 BK102.out 0
   have hfz42_1:=z6 BK102.out 1
   go_wp2_with (first|(go_at_call 78;(with_reducible refine (zz.calls kj3 6 a1_0 a2_0 t107 _ A34.out).mono ?_);rintro e w' ⟨rfl,⟨nd,rfl⟩⟩;(try first|exact ⟨rfl,_,World.drewN_drewN _ _ _⟩|exact ⟨rfl,_,Eq.trans (World.drewN_drewN _ _ _) (congrArg (World.drewN _) (Nat.add_assoc _ _ _))⟩))|(go_at_call 78;(with_reducible refine (zz.calls kj3 6 a1_1 a2_1 t108 _ A35.out).mono ?_);rintro e w' ⟨rfl,⟨nd,rfl⟩⟩;(try first|exact ⟨rfl,_,World.drewN_drewN _ _ _⟩|exact ⟨rfl,_,Eq.trans (World.drewN_drewN _ _ _) (congrArg (World.drewN _) (Nat.add_assoc _ _ _))⟩))|(go_at_call 78;(with_reducible refine (zz.calls kj3 6 (Go.bits .xor .u64 a1_0 a1_1) (Go.bits .xor .u64 a2_0 a2_1) t109 _ A36.out).mono ?_);rintro e w' ⟨rfl,⟨nd,rfl⟩⟩;(try first|exact ⟨rfl,_,World.drewN_drewN _ _ _⟩|exact ⟨rfl,_,Eq.trans (World.drewN_drewN _ _ _) (congrArg (World.drewN _) (Nat.add_assoc _ _ _))⟩))|(go_at_call 77;(with_reducible refine (zE.calls kj3 6 t107 t110 _ A37.out).mono ?_);rintro e w' ⟨rfl,⟨nd,rfl⟩⟩;(try first|exact ⟨rfl,_,World.drewN_drewN _ _ _⟩|exact ⟨rfl,_,Eq.trans (World.drewN_drewN _ _ _) (congrArg (World.drewN _) (Nat.add_assoc _ _ _))⟩);have hcz43_0 : wc.cell? ⟨gb103,0,none⟩ = some (.int .u64 0):=(z4 BK103.out 0).trans rfl;have hcz43_1 : wc.cell? ⟨gb103,1,none⟩ = some (.int .u64 0):=(z4 BK103.out 1).trans rfl;have hfz43_0:=z6 BK103.out 0;have hfz43_1:=z6 BK103.out 1))
   repeat (go_quiet (first|(go_at_call 78;(with_reducible refine (zz.calls kj3 6 a1_0 a2_0 t107 _ A34.out).mono ?_);rintro e w' ⟨rfl,⟨nd,rfl⟩⟩;(try first|exact ⟨rfl,_,World.drewN_drewN _ _ _⟩|exact ⟨rfl,_,Eq.trans (World.drewN_drewN _ _ _) (congrArg (World.drewN _) (Nat.add_assoc _ _ _))⟩))|(go_at_call 78;(with_reducible refine (zz.calls kj3 6 a1_1 a2_1 t108 _ A35.out).mono ?_);rintro e w' ⟨rfl,⟨nd,rfl⟩⟩;(try first|exact ⟨rfl,_,World.drewN_drewN _ _ _⟩|exact ⟨rfl,_,Eq.trans (World.drewN_drewN _ _ _) (congrArg (World.drewN _) (Nat.add_assoc _ _ _))⟩))|(go_at_call 78;(with_reducible refine (zz.calls kj3 6 (Go.bits .xor .u64 a1_0 a1_1) (Go.bits .xor .u64 a2_0 a2_1) t109 _ A36.out).mono ?_);rintro e w' ⟨rfl,⟨nd,rfl⟩⟩;(try first|exact ⟨rfl,_,World.drewN_drewN _ _ _⟩|exact ⟨rfl,_,Eq.trans (World.drewN_drewN _ _ _) (congrArg (World.drewN _) (Nat.add_assoc _ _ _))⟩))|(go_at_call 77;(with_reducible refine (zE.calls kj3 6 t107 t110 _ A37.out).mono ?_);rintro e w' ⟨rfl,⟨nd,rfl⟩⟩;(try first|exact ⟨rfl,_,World.drewN_drewN _ _ _⟩|exact ⟨rfl,_,Eq.trans (World.drewN_drewN _ _ _) (congrArg (World.drewN _) (Nat.add_assoc _ _ _))⟩);have hcz43_0 : wc.cell? ⟨gb103,0,none⟩ = some (.int .u64 0):=(z4 BK103.out 0).trans rfl;have hcz43_1 : wc.cell? ⟨gb103,1,none⟩ = some (.int .u64 0):=(z4 BK103.out 1).trans rfl;have hfz43_0:=z6 BK103.out 0;have hfz43_1:=z6 BK103.out 1));try go_wp2_with (first|(go_at_call 78;(with_reducible refine (zz.calls kj3 6 a1_0 a2_0 t107 _ A34.out).mono ?_);rintro e w' ⟨rfl,⟨nd,rfl⟩⟩;(try first|exact ⟨rfl,_,World.drewN_drewN _ _ _⟩|exact ⟨rfl,_,Eq.trans (World.drewN_drewN _ _ _) (congrArg (World.drewN _) (Nat.add_assoc _ _ _))⟩))|(go_at_call 78;(with_reducible refine (zz.calls kj3 6 a1_1 a2_1 t108 _ A35.out).mono ?_);rintro e w' ⟨rfl,⟨nd,rfl⟩⟩;(try first|exact ⟨rfl,_,World.drewN_drewN _ _ _⟩|exact ⟨rfl,_,Eq.trans (World.drewN_drewN _ _ _) (congrArg (World.drewN _) (Nat.add_assoc _ _ _))⟩))|(go_at_call 78;(with_reducible refine (zz.calls kj3 6 (Go.bits .xor .u64 a1_0 a1_1) (Go.bits .xor .u64 a2_0 a2_1) t109 _ A36.out).mono ?_);rintro e w' ⟨rfl,⟨nd,rfl⟩⟩;(try first|exact ⟨rfl,_,World.drewN_drewN _ _ _⟩|exact ⟨rfl,_,Eq.trans (World.drewN_drewN _ _ _) (congrArg (World.drewN _) (Nat.add_assoc _ _ _))⟩))|(go_at_call 77;(with_reducible refine (zE.calls kj3 6 t107 t110 _ A37.out).mono ?_);rintro e w' ⟨rfl,⟨nd,rfl⟩⟩;(try first|exact ⟨rfl,_,World.drewN_drewN _ _ _⟩|exact ⟨rfl,_,Eq.trans (World.drewN_drewN _ _ _) (congrArg (World.drewN _) (Nat.add_assoc _ _ _))⟩);have hcz43_0 : wc.cell? ⟨gb103,0,none⟩ = some (.int .u64 0):=(z4 BK103.out 0).trans rfl;have hcz43_1 : wc.cell? ⟨gb103,1,none⟩ = some (.int .u64 0):=(z4 BK103.out 1).trans rfl;have hfz43_0:=z6 BK103.out 0;have hfz43_1:=z6 BK103.out 1)))
   refine bodyPost_ret (results_cell_row rfl _ _ gb103 35 #[.int .u64 (Go.bits .xor .u64 (Go.bits .xor .u64 (Go.bits .xor .u64 t109 t107) t108) t110),.int .u64 (Go.bits .xor .u64 t108 t107)] (0,0) _ rfl (by (with_reducible repeat (first|refine zc ?_ _|refine ze ?_|refine zb ?_ _));refine z18 (cs:=#[.int .u64 (Go.bits .xor .u64 (Go.bits .xor .u64 (Go.bits .xor .u64 t109 t107) t108) t110),.int .u64 0]) ?_ 1 _ rfl;(with_reducible repeat (first|refine zc ?_ _|refine ze ?_|refine zb ?_ _));refine z18 (cs:=#[.int .u64 0,.int .u64 0]) ?_ 0 _ rfl;(with_reducible repeat (first|refine zc ?_ _|refine ze ?_|refine zb ?_ _));exact BK103.out) Try.underlying35 rfl zz52) rfl ?_
   exact ⟨by first|rfl|(simp [zk,zl] <;> rfl)|(simp [*,zk,zl] <;> rfl),by repeat (first|(with_reducible first|exact HB.out|apply z7|apply z3|apply z5|refine zf ?_ GE101.out|refine zf ?_ GE102.out|refine zf ?_ GE103.out)|exact HB.out)⟩
end Go.Proofs.Ytnhbdhgbmjcjdaa.P
/- What the functions of layers 1 and 2 on elements tell. Own text. -/
namespace Go.Proofs.Ytnhbdhgbmjcjdaa.Sp
open Go.RowKit Go.Proofs.YtnhbdhgbmjcjdaaW.PrintWords Go.Proofs.YtnhbdhgbmjcjdaaW.PrintMore Go.Proofs.Ytnhbdhgbmjcjdaa.P Go.Proofs.Ytnhbdhgbmjcjdaa.Ar Go.Proofs.Ytnhbdhgbmjcjdaa.Tw
set_option linter.unusedVariables false
set_option linter.unusedSimpArgs false
theorem z34 {n : Nat} (h : n ≤ 6) : Q n ≤ 2 ^ 64 := z2B h
theorem Q_dvd {n : Nat} : Q n = 2 ^ 2 ^ n := rfl
theorem z1I {n : Nat} (h : n ≤ 5) : 2 ^ n ≤ 32 := Nat.pow_le_pow_right (n := 2) (by decide) h
theorem z30 {l : Nat} (h : l + 1 ≤ 1000) : wrap64 (((l + 1 : Nat) : Int) - 1) = (l : Int) := by rw [z1P (by omega) (by omega)]; omega
theorem z3O {n : Nat} (h : n ≤ 5) : Q n < 2 ^ 64 := Nat.pow_lt_pow_right (by decide) (by have := z1I h; omega)
theorem z3g {l : Nat} (hl : l ≤ 5) (x : Nat) (hx : x < 2 ^ 64) : z1m.f ((l + 1 : Nat) : Int) (x : Int) = some (((x / Q l : Nat) : Int), ((x % Q l : Nat) : Int)) := by
  unfold z1m.f
  have h32 := z1I hl
  have hQ := z3O hl
  have hm : IntKind.u64.wrap (((2 ^ 2 ^ l : Nat) : Int) - 1) = ((2 ^ 2 ^ l - 1 : Nat) : Int) := by
    have := Nat.two_pow_pos (2 ^ l)
    unfold Q at hQ
    generalize 2 ^ 2 ^ l = q at *
    rw [z2e (by omega) (by omega)]; omega
  rw [z30 (by omega), if_pos (Int.natCast_nonneg _), z61 l (by omega), if_pos (Int.natCast_nonneg _), z46 x (2 ^ l) (by omega), z2l (2 ^ l) (by omega), hm]
  rw [z20 x _ hx (by have := Nat.two_pow_pos (2 ^ l); unfold Q at hQ; omega), Nat.and_two_pow_sub_one_eq_mod]
  rfl
theorem z5J {l : Nat} (hl : l ≤ 5) (h x : Nat) (hh : h < Q l) (hx : x < Q l) : z1n.f ((l + 1 : Nat) : Int) (h : Int) (x : Int) = some ((h * Q l + x : Nat) : Int) := by
  unfold z1n.f
  have h32 := z1I hl
  have hQ := z3O hl
  have h6 : Q (l + 1) ≤ 2 ^ 64 := z34 (by omega)
  have hhx : h * Q l + Q l ≤ Q (l + 1) := by
    rw [z2f]
    have := Nat.mul_le_mul_right (Q l) hh
    rw [Nat.succ_mul] at this; exact this
  have hs : shl .u64 (h : Int) (((2 ^ l : Nat) : Int)) = ((h * Q l : Nat) : Int) := by
    unfold shl
    have h64 : IntKind.u64.bits = 64 := rfl
    rw [h64, Int.toNat_natCast, Nat.min_eq_left (by omega)]
    have hc : ((h : Int) * 2 ^ 2 ^ l) = ((h * Q l : Nat) : Int) := by unfold Q; simp
    rw [hc]
    have : h * Q l < 2 ^ 64 := by omega
    generalize h * Q l = z at *
    exact z2e (by omega) (by omega)
  rw [z30 (by omega), if_pos (by omega), z2l l (by omega), hs, z4N _ _ (by omega) (by omega)]
  congr 2
  unfold Q at *
  rw [Nat.mul_comm, ← Nat.two_pow_add_eq_or_of_lt hx]
theorem z5O : ∀ (l : Nat), l ≤ 6 → ∀ (x : Nat), x < Q l → Ev (fun k => zE.f k (l : Int) (x : Int)) ((val (gen l * of l x) : Nat) : Int) := by
  intro l
  induction l with
  | zero =>
    intro _ x hx
    refine Ev.step (fun k => by rw [zE.f]) (Ev.pos (by rfl) (Ev.ret' ?_))
    rw [z4I, one_mul, z1J 0 x hx]
  | succ l ih =>
    intro hl x hx
    have hx64 : x < 2 ^ 64 := Nat.lt_of_lt_of_le hx (z34 hl)
    have hd : x / Q l < Q l := Nat.div_lt_of_lt_mul (by rw [← z2f]; exact hx)
    have hm : x % Q l < Q l := Nat.mod_lt _ (z23 l)
    have hQ := z3O (n := l) (by omega)
    refine Ev.step (fun k => by rw [zE.f]) (Ev.neg (by omega) (Ev.bnd0 (z3g (by omega) x hx64) ?_))
    simp only [z30 (show l + 1 ≤ 1000 by omega)]
    refine Ev.bnd (ih (by omega) _ hd) ?_
    have hv := z1i (gen l * of l (x / Q l))
    simp only [z1B _ _ (Nat.lt_trans hm hQ) (Nat.lt_trans hv hQ)]
    refine Ev.bnd0 (z5J (by omega) _ _ (z1W hm hv) hd) (Ev.ret' ?_)
    congr 1
    rw [z1w (gen (l + 1) * of (l + 1) x)]
    congr 1
    · congr 1
      have e : (gen (l + 1) * of (l + 1) x).1 = of l (x % Q l) + gen l * of l (x / Q l) := by
        rw [z1K, z2h, z2i, one_mul, zero_mul, one_mul, add_zero]; rfl
      rw [e, z1u, z1J _ _ hm]
    · have e : (gen (l + 1) * of (l + 1) x).2 = of l (x / Q l) := by
        rw [z1L, z2h, z2i, one_mul, zero_mul, zero_add]; rfl
      rw [e, z1J _ _ hd]
theorem karatsuba {n : Nat} (a1 a0 b1 b0 z : T n) : (a1 + a0) * (b1 + b0) + a1 * b1 + a0 * b0 + z = (a1 * b0 + a0 * b1) + z := by
  have : (a1 + a0) * (b1 + b0) + a1 * b1 + a0 * b0 = a1 * b0 + a0 * b1 := by
    simp only [mul_add, add_mul]
    have : ∀ p q r s : T n, p + q + (r + s) + p + s = q + r := fun p q r s => by
      rw [add_comm p q, add_assoc, add_assoc, add_assoc]
      rw [show p + (r + s + (p + s)) = (p + p) + (r + (s + s)) by simp only [add_assoc, z1C, add_comm]]
      rw [z1N, z1N, zero_add, add_zero]
    rw [show a1 * b1 + a0 * b1 + (a1 * b0 + a0 * b0) = a1 * b1 + a0 * b1 + (a1 * b0 + a0 * b0) from rfl, this, add_comm]
  rw [this]
theorem z4L : ∀ (l : Nat), l ≤ 6 → ∀ (x y : Nat), x < Q l → y < Q l → Ev (fun k => zz.f k (l : Int) (x : Int) (y : Int)) ((val (of l x * of l y) : Nat) : Int) := by
  intro l
  have hz : ∀ (l : Nat), l ≤ 6 → ∀ (x y : Nat), x < Q l → y < Q l → (l = 0 ∨ x = 0 ∨ y = 0) → Ev (fun k => zz.j0 k (l : Int) (x : Int) (y : Int) true) ((val (of l x * of l y) : Nat) : Int) := by
    intro l hl x y hx hy h
    have hQ := z34 hl
    refine Ev.step (fun k => by rw [zz.j0]) (Ev.pos rfl (Ev.ret' ?_))
    rw [z20 x y (by omega) (by omega)]
    have hxy : x &&& y < 2 ^ 64 := Nat.and_lt_two_pow _ (by omega)
    rw [show (1 : Int) = ((1 : Nat) : Int) from rfl, z20 _ 1 hxy (by decide)]
    congr 1
    rcases h with rfl | rfl | rfl
    · have h1 : x < 2 := hx
      have h2 : y < 2 := hy
      rcases (by omega : x = 0 ∨ x = 1) with rfl | rfl <;> rcases (by omega : y = 0 ∨ y = 1) with rfl | rfl <;> rfl
    · rw [z2j, zero_mul, z1r]; simp
    · rw [z2j, mul_zero, z1r]; simp
  induction l with
  | zero =>
    intro hl x y hx hy
    exact Ev.step (fun k => by rw [zz.f]) (Ev.pos (by rfl) (hz 0 hl x y hx hy (Or.inl rfl)))
  | succ l ih =>
    intro hl x y hx hy
    refine Ev.step (fun k => by rw [zz.f]) (Ev.neg (by omega) ?_)
    by_cases hx0 : x = 0
    · exact Ev.pos (by omega) (hz (l + 1) hl x y hx hy (Or.inr (Or.inl hx0)))
    refine Ev.neg (by omega) ?_
    by_cases hy0 : y = 0
    · rw [show ((y : Int) == 0) = true by simp [hy0]]
      exact hz (l + 1) hl x y hx hy (Or.inr (Or.inr hy0))
    rw [show ((y : Int) == 0) = false by simp [hy0]]
    have hQ := z3O (n := l) (by omega)
    have hx64 : x < 2 ^ 64 := Nat.lt_of_lt_of_le hx (z34 hl)
    have hy64 : y < 2 ^ 64 := Nat.lt_of_lt_of_le hy (z34 hl)
    have hxd : x / Q l < Q l := Nat.div_lt_of_lt_mul (by rw [← z2f]; exact hx)
    have hxm : x % Q l < Q l := Nat.mod_lt _ (z23 l)
    have hyd : y / Q l < Q l := Nat.div_lt_of_lt_mul (by rw [← z2f]; exact hy)
    have hym : y % Q l < Q l := Nat.mod_lt _ (z23 l)
    have hl5 : l ≤ 5 := by omega
    refine Ev.step (fun k => by rw [zz.j0]) (Ev.neg (by decide) (Ev.bnd0 (z3g hl5 x hx64) (Ev.bnd0 (z3g hl5 y hy64) ?_)))
    simp only [z30 (show l + 1 ≤ 1000 by omega)]
    refine Ev.bnd (ih (by omega) _ _ hxd hyd) (Ev.bnd (ih (by omega) _ _ hxm hym) ?_)
    simp only [z1B _ _ (Nat.lt_trans hxd hQ) (Nat.lt_trans hxm hQ), z1B _ _ (Nat.lt_trans hyd hQ) (Nat.lt_trans hym hQ)]
    refine Ev.bnd (ih (by omega) _ _ (z1W hxd hxm) (z1W hyd hym)) ?_
    have v1 := z1i (of l (x / Q l) * of l (y / Q l))
    have v2 := z1i (of l (x % Q l) * of l (y % Q l))
    have v3 := z1i (of l (x / Q l ^^^ x % Q l) * of l (y / Q l ^^^ y % Q l))
    refine Ev.bnd (z5O l (by omega) _ v1) ?_
    have v4 := z1i (gen l * of l (val (of l (x / Q l) * of l (y / Q l))))
    simp only [z1B _ _ (Nat.lt_trans v3 hQ) (Nat.lt_trans v1 hQ), z1B _ _ (Nat.lt_trans (z1W v3 v1) hQ) (Nat.lt_trans v2 hQ), z1B _ _ (Nat.lt_trans (z1W (z1W v3 v1) v2) hQ) (Nat.lt_trans v4 hQ), z1B _ _ (Nat.lt_trans v2 hQ) (Nat.lt_trans v1 hQ)]
    refine Ev.bnd0 (z5J (by omega) _ _ (z1W (z1W (z1W v3 v1) v2) v4) (z1W v2 v1)) (Ev.ret' ?_)
    congr 1
    rw [z1w (of (l + 1) x * of (l + 1) y)]
    congr 1
    · congr 1
      rw [z1K, z1M, z1M, z1Y, z27, z1Y, z27, ← karatsuba, z1u, z1u, z1u, z5Q hxd hxm, z5Q hyd hym, z1A]
    · rw [z1L, z1M, z1M, z1Y, z27, z1Y, z27, z1u]
end Go.Proofs.Ytnhbdhgbmjcjdaa.Sp
namespace Go.Proofs.Ytnhbdhgbmjcjdaa.P
open Go.RowKit Go.Proofs.YtnhbdhgbmjcjdaaW.PrintWords Go.Proofs.YtnhbdhgbmjcjdaaW.PrintLast Go.Proofs.YtnhbdhgbmjcjdaaW.PrintMore
attribute [local go_sem] zX zZ z1a z1b zL zM zY z10   -- for this text's walks alone
set_option linter.unusedVariables false
set_option linter.unusedSimpArgs false
def z2K.f  : Option (Int × Int):=some (0,1)
set_option maxHeartbeats 8000000 in
set_option maxRecDepth 100000 in
theorem z2K.calls  (r1 : Int) (r2 : Int) (w : World) (h : z2K.f  = some (r1,r2)) :
 Calls Try.prog 40 #[] w fun e w'=>e = .returned (.agg #[.int .u64 r1,.int .u64 r2]) ∧ Below w.heap.size w w':=by
 have hu35:=Try.underlying35
 have HB:=z1.mk (Below.refl w.heap.size w)
 have H : (some (0,1)) = some (r1,r2):=h
 clear h
 simp only [Option.some.injEq,Prod.mk.injEq] at H
 obtain ⟨rfl,rfl⟩:=H
 go_enter Try.func40,Try.ntmps40
 go_wp2_with (first|((with_reducible refine zC (N:=0) rfl ?_);refine zD ?hg (N:=0) ?hd (cs:=#[.int .u64 0,.int .u64 0]) (t:=35) ?hr ?_;(case hd=>rfl);(case hg=>rfl);(case hr=>first|(go_simp;done)|(go_simp;rfl));intro gb101 hg w1 hbox hb;have n0_:=z1.mk (z8 zz20 hb);have n1_:=z1.mk (hbox);have n2_:=z1.mk ((by rw [hg];exact (zd zz20) : w.heap.size ≤ gb101));have n3_:=z1.mk ((by rw [hg];exact (zd zz20) : w.heap.size ≤ gb101));clear HB;have HB:=n0_;have BK101:=n1_;have GW101:=n2_;have GE101:=n3_;clear n0_ n1_ n2_ n3_;clear hb hbox hg;have hcz2_0 : w1.cell? ⟨gb101,0,none⟩ = some (.int .u64 0):=(z4 BK101.out 0).trans rfl;have hcz2_1 : w1.cell? ⟨gb101,1,none⟩ = some (.int .u64 0):=(z4 BK101.out 1).trans rfl;have hfz2_0:=z6 BK101.out 0;have hfz2_1:=z6 BK101.out 1))
 refine bodyPost_ret (results_cell_row rfl _ _ gb101 35 #[.int .u64 0,.int .u64 1] (0,0) _ rfl zz2 Try.underlying35 rfl zz52) rfl ?_
 exact ⟨by first|rfl|(simp [zk,zl] <;> rfl)|(simp [*,zk,zl] <;> rfl),by repeat (first|(with_reducible first|exact HB.out|apply z7|apply z3|apply z5|refine zf ?_ GE101.out)|exact HB.out)⟩
end Go.Proofs.Ytnhbdhgbmjcjdaa.P
/- Elements of the greatest level, as the program and the document hold them: two words. Own text. -/
namespace Go.Proofs.Ytnhbdhgbmjcjdaa.Sp
open Go.RowKit Go.Proofs.YtnhbdhgbmjcjdaaW.PrintWords Go.Proofs.YtnhbdhgbmjcjdaaW.PrintMore Go.Proofs.Ytnhbdhgbmjcjdaa.P Go.Proofs.Ytnhbdhgbmjcjdaa.Ar Go.Proofs.Ytnhbdhgbmjcjdaa.Tw
set_option linter.unusedVariables false
set_option linter.unusedSimpArgs false
abbrev E := T 7
/-- The higher and the lower word. -/
def hi (x : E) : Int := ((val x.1 : Nat) : Int)
def lo (x : E) : Int := ((val x.2 : Nat) : Int)
def el (h l : Int) : E := mk (of 6 h.toNat) (of 6 l.toNat)
theorem hi_el {h l : Int} (h0 : 0 ≤ h) (h1 : h < 18446744073709551616) : hi (el h l) = h := by
  unfold hi el; rw [z1Y, z1J 6 _ (by rw [z4Y]; omega)]; omega
theorem lo_el {h l : Int} (h0 : 0 ≤ l) (h1 : l < 18446744073709551616) : lo (el h l) = l := by
  unfold lo el; rw [z27, z1J 6 _ (by rw [z4Y]; omega)]; omega
theorem z4J {x y : E} (h : hi x = hi y) (l : lo x = lo y) : x = y := by
  unfold hi lo at *; exact ext (z22 (by omega)) (z22 (by omega))
theorem z2y : hi 0 = 0 := by unfold hi; rw [z31, z1r]; rfl
theorem z2z : lo 0 = 0 := by unfold lo; rw [z32, z1r]; rfl
theorem hi_one : hi 1 = 0 := by unfold hi; rw [z40, z1r]; rfl
theorem lo_one : lo 1 = 1 := by unfold lo; rw [z41, z2c]; rfl
theorem hi_bd (x : E) : 0 ≤ hi x ∧ hi x < 18446744073709551616 := by
  unfold hi; have := z1i x.1; rw [z4Y] at this; omega
theorem z59 (x : E) : 0 ≤ lo x ∧ lo x < 18446744073709551616 := by
  unfold lo; have := z1i x.2; rw [z4Y] at this; omega
theorem z3s (x : E) : val x = (hi x).toNat * 18446744073709551616 + (lo x).toNat := by
  unfold hi lo; rw [z1w, z4Y]; simp
theorem eq_zero_iff (x : E) : x = 0 ↔ hi x = 0 ∧ lo x = 0 := ⟨fun h => by rw [h]; exact ⟨z2y, z2z⟩, fun h => z4J (h.1.trans z2y.symm) (h.2.trans z2z.symm)⟩
theorem xor_hi (x y : E) : Go.bits .xor .u64 (hi x) (hi y) = hi (x + y) := by
  unfold hi; rw [z1B _ _ (z1i x.1) (z1i y.1), z3b, z1u]
theorem xor_lo (x y : E) : Go.bits .xor .u64 (lo x) (lo y) = lo (x + y) := by
  unfold lo; rw [z1B _ _ (z1i x.2) (z1i y.2), z3Q, z1u]
/-- Of a level. -/
def InL (l : Nat) (x : E) : Prop := val x < Q l
instance (l : Nat) (x : E) : Decidable (InL l x) := by unfold InL; infer_instance
def OfS (L : Int) (x : E) : Prop := 0 ≤ L ∧ L ≤ 7 ∧ InL L.toNat x
instance (L : Int) (x : E) : Decidable (OfS L x) := by unfold OfS; infer_instance
theorem z5H (x : E) : InL 7 x := z1i x
theorem z3X (l : Nat) : InL l 0 := by unfold InL; rw [z1r]; exact z23 l
theorem z5G (l : Nat) : InL l 1 := by unfold InL; rw [z2c]; exact Nat.lt_of_lt_of_le (by decide : 1 < Q 0) (z2B (Nat.zero_le _))
theorem inL_mono {l m : Nat} (h : l ≤ m) {x : E} (hx : InL l x) : InL m x := Nat.lt_of_lt_of_le hx (z2B h)
theorem z3U {l : Nat} {x y : E} (hx : InL l x) (hy : InL l y) : InL l (x + y) := by
  unfold InL at *; rw [z1u]; exact z1W hx hy
theorem z3W {l : Nat} (hl : l ≤ 7) {x y : E} (hx : InL l x) (hy : InL l y) : InL l (x * y) := by
  unfold InL at *; have := z5k hl hx hy; rwa [z1A, z1A] at this
theorem z5I {x : E} : InL 6 x ↔ hi x = 0 := by
  unfold InL; have h := z3s x; have h1 := hi_bd x; have h2 := z59 x
  rw [z4Y, h]; constructor <;> intro g <;> omega
theorem z3V {l : Nat} (hl : l ≤ 6) {x : E} : InL l x ↔ hi x = 0 ∧ (lo x).toNat < Q l := by
  constructor
  · intro h
    have h6 := z5I.1 (inL_mono hl h)
    refine ⟨h6, ?_⟩
    unfold InL at h; rw [z3s, h6] at h; simpa using h
  · rintro ⟨h1, h2⟩
    unfold InL; rw [z3s, h1]; simpa using h2
theorem of_ev (L : Int) (x : E) : Ev (fun k => zU.f k L (hi x) (lo x)) (decide (OfS L x)) := by
  unfold zU.f
  by_cases h0 : L < 0
  · refine Ev.pos h0 (Ev.step (fun k => by rw [zU.j0]) (Ev.pos rfl (Ev.ret' ?_)))
    symm; rw [decide_eq_false_iff_not]; rintro ⟨h, _⟩; omega
  refine Ev.neg h0 ?_
  by_cases h7 : L > 7
  · rw [decide_eq_true h7]
    refine Ev.step (fun k => by rw [zU.j0]) (Ev.pos rfl (Ev.ret' ?_))
    symm; rw [decide_eq_false_iff_not]; rintro ⟨_, h, _⟩; omega
  rw [decide_eq_false h7]
  refine Ev.step (fun k => by rw [zU.j0]) (Ev.neg (by decide) ?_)
  obtain ⟨l, rfl⟩ := Int.eq_ofNat_of_zero_le (show 0 ≤ L by omega)
  have hS : OfS (l : Int) x ↔ InL l x := by
    unfold OfS; rw [Int.toNat_natCast]; exact ⟨fun h => h.2.2, fun h => ⟨by omega, by omega, h⟩⟩
  by_cases c7 : (l : Int) = 7
  · refine Ev.pos c7 (Ev.ret' ?_)
    have : l = 7 := by omega
    subst this
    symm; rw [decide_eq_true_eq, hS]; exact z5H x
  refine Ev.neg c7 ?_
  by_cases c6 : (l : Int) = 6
  · refine Ev.pos c6 (Ev.ret' ?_)
    have : l = 6 := by omega
    subst this
    rw [Bool.eq_iff_iff, beq_iff_eq, decide_eq_true_eq, hS]; exact z5I.symm
  refine Ev.neg c6 ?_
  have hl5 : l ≤ 5 := by omega
  have hl := z3V (l := l) (by omega) (x := x)
  by_cases c0 : hi x = 0
  · refine Ev.pos c0 (Ev.pos (Int.natCast_nonneg _) (Ev.ret' ?_))
    have h32 := z1I hl5
    have hlo : lo x = (((lo x).toNat : Nat) : Int) := by have := z59 x; omega
    rw [z2l l (by omega), hlo, z46 _ (2 ^ l) (by omega)]
    rw [Bool.eq_iff_iff, beq_iff_eq, decide_eq_true_eq, hS, hl]
    have hq : (lo x).toNat / 2 ^ 2 ^ l = 0 ↔ (lo x).toNat < Q l := by
      rw [Nat.div_eq_zero_iff]; unfold Q
      have := Nat.two_pow_pos (2 ^ l)
      omega
    constructor
    · intro h; exact ⟨c0, hq.1 (by exact_mod_cast h)⟩
    · rintro ⟨_, h⟩; exact_mod_cast hq.2 h
  · refine Ev.neg c0 (Ev.ret' ?_)
    symm; rw [decide_eq_false_iff_not, hS, hl]; exact fun h => c0 h.1
theorem Add_eq (x y : E) : z1p.f (hi x) (lo x) (hi y) (lo y) = some (hi (x + y), lo (x + y)) := by
  unfold z1p.f; rw [xor_hi, xor_lo]
theorem z4l (x y : E) : z1h.f (hi x) (lo x) (hi y) (lo y) = some (hi (x + y), lo (x + y)) := by
  unfold z1h.f; rw [xor_hi, xor_lo]
theorem One_eq : z2K.f = some (hi 1, lo 1) := by unfold z2K.f; rw [hi_one, lo_one]
theorem Mul_out {L : Int} {x y : E} (h : ¬ (OfS L x ∧ OfS L y)) : Ev (fun k => z13.f k L (hi x) (lo x) (hi y) (lo y)) (0, 0) := by
  unfold z13.f
  refine Ev.bnd (of_ev L x) ?_
  by_cases c : OfS L x
  · refine Ev.pos (decide_eq_true c) (Ev.bnd (of_ev L y) ?_)
    rw [decide_eq_false (fun g => h ⟨c, g⟩)]
    exact Ev.step (fun k => by rw [z13.j0]) (Ev.pos (by rfl) (Ev.ret _))
  · exact Ev.neg (by simpa using c) (Ev.step (fun k => by rw [z13.j0]) (Ev.pos rfl (Ev.ret _)))
theorem Mul_ev {l : Nat} (hl : l ≤ 7) {x y : E} (hx : InL l x) (hy : InL l y) : Ev (fun k => z13.f k (l : Int) (hi x) (lo x) (hi y) (lo y)) (hi (x * y), lo (x * y)) := by
  unfold z13.f
  have hS : ∀ z, InL l z → OfS (l : Int) z := fun z hz => ⟨by omega, by omega, by rw [Int.toNat_natCast]; exact hz⟩
  refine Ev.bnd (of_ev (l : Int) x) (Ev.pos (decide_eq_true (hS x hx)) (Ev.bnd (of_ev (l : Int) y) ?_))
  rw [decide_eq_true (hS y hy)]
  refine Ev.step (fun k => by rw [z13.j0]) (Ev.neg (by decide) ?_)
  by_cases c : l ≤ 6
  · refine Ev.pos (by omega) ?_
    have ex := (z3V c).1 hx
    have ey := (z3V c).1 hy
    have e1 : lo x = (((lo x).toNat : Nat) : Int) := by have := z59 x; omega
    have e2 : lo y = (((lo y).toNat : Nat) : Int) := by have := z59 y; omega
    have ev := z4L l c (lo x).toNat (lo y).toNat ex.2 ey.2
    rw [← e1, ← e2] at ev
    refine Ev.bnd ev (Ev.ret' ?_)
    have hz := (z3V c).1 (z3W hl hx hy)
    have e3 : lo (x * y) = (((lo (x * y)).toNat : Nat) : Int) := by have := z59 (x * y); omega
    rw [hz.1, e3]
    congr 2
    have vx : val x = (lo x).toNat := by rw [z3s, ex.1]; simp
    have vy : val y = (lo y).toNat := by rw [z3s, ey.1]; simp
    have vz : val (x * y) = (lo (x * y)).toNat := by rw [z3s, hz.1]; simp
    rw [← vz, ← vx, ← vy, ← z2L hl hx hy, z1A, z1A]
  · have : l = 7 := by omega
    subst this
    refine Ev.neg (by decide) ?_
    have v1 := z1i x.1
    have v2 := z1i x.2
    have v3 := z1i y.1
    have v4 := z1i y.2
    have m1 := z4L 6 (by decide) _ _ v1 v3
    have m2 := z4L 6 (by decide) _ _ v2 v4
    have m3 := z4L 6 (by decide) _ _ (z1W v1 v2) (z1W v3 v4)
    rw [z1A, z1A] at m1 m2
    rw [← z1u, ← z1u, z1A, z1A] at m3
    have m4 := z5O 6 (by decide) _ (z1i (x.1 * y.1))
    rw [z1A] at m4
    refine Ev.bnd m1 (Ev.bnd m2 ?_)
    have e1 : Go.bits .xor .u64 (hi x) (lo x) = ((val (x.1 + x.2) : Nat) : Int) := by unfold hi lo; rw [z1B _ _ v1 v2, z1u]
    have e2 : Go.bits .xor .u64 (hi y) (lo y) = ((val (y.1 + y.2) : Nat) : Int) := by unfold hi lo; rw [z1B _ _ v3 v4, z1u]
    simp only [e1, e2]
    refine Ev.bnd m3 (Ev.bnd m4 (Ev.ret' ?_))
    rw [z1B _ _ (z1i _) (z1i _), ← z1u, z1B _ _ (z1i _) (z1i _), ← z1u, z1B _ _ (z1i _) (z1i _), ← z1u, z1B _ _ (z1i _) (z1i _), ← z1u, karatsuba]
    rfl
/-- The program's element, the document's. -/
def toS (x : E) : S35 := ⟨hi x, lo x⟩
def toR (x : E) : S38 := ⟨hi x, lo x⟩
def WfS (e : S35) : Prop := (0 ≤ e.f0 ∧ e.f0 < 18446744073709551616) ∧ (0 ≤ e.f1 ∧ e.f1 < 18446744073709551616)
theorem z4S (x : E) : (toS x).f0 = hi x := rfl
theorem z4T (x : E) : (toS x).f1 = lo x := rfl
theorem z63 (x : E) : (toR x).f0 = hi x := rfl
theorem z64 (x : E) : (toR x).f1 = lo x := rfl
theorem z4U : toS 0 = z35 := by unfold toS; rw [z2y, z2z]; rfl
theorem toR_zero : toR 0 = z38 := by unfold toR; rw [z2y, z2z]; rfl
theorem toS_el (e : S35) (h : WfS e) : toS (el e.f0 e.f1) = e := by unfold toS; rw [hi_el h.1.1 h.1.2, lo_el h.2.1 h.2.2]
theorem toS_inj {x y : E} (h : toS x = toS y) : x = y := by
  unfold toS at h; injection h with h1 h2; exact z4J h1 h2
theorem wf_of {e : S35} (h : (Lit.int .u64 e.f0).wf = true ∧ (Lit.int .u64 e.f1).wf = true) : WfS e := ⟨wf_u64 h.1, wf_u64 h.2⟩
/-- A list that came in is a list of elements. -/
theorem list_of (l : List S35) (h : ∀ e ∈ l, ((Lit.int .u64 e.f0).wf = true) ∧ ((Lit.int .u64 e.f1).wf = true)) : ∃ X : List E, l = X.map toS := by
  refine ⟨l.map fun e => el e.f0 e.f1, ?_⟩
  rw [List.map_map]
  conv => lhs; rw [← List.map_id l]
  apply List.map_congr_left
  intro e he
  exact (toS_el e (wf_of (h e he))).symm
theorem elem_of (e : S35) (h : ((Lit.int .u64 e.f0).wf = true) ∧ ((Lit.int .u64 e.f1).wf = true)) : ∃ x : E, e = toS x := ⟨_, (toS_el e (wf_of h)).symm⟩
theorem rdS (X : List E) (i : Nat) : rd_T35 (X.map toS) (i : Int) = toS (X.getD i 0) := by
  unfold rd_T35; rw [Int.toNat_natCast, ← z4U, List.getD_eq_getElem?_getD, List.getD_eq_getElem?_getD, List.getElem?_map]
  cases X[i]? <;> rfl
theorem rdR (X : List E) (i : Nat) : z1v (X.map toR) (i : Int) = toR (X.getD i 0) := by
  unfold z1v; rw [Int.toNat_natCast, ← toR_zero, List.getD_eq_getElem?_getD, List.getD_eq_getElem?_getD, List.getElem?_map]
  cases X[i]? <;> rfl
end Go.Proofs.Ytnhbdhgbmjcjdaa.Sp
/- The document's product by shifts and masks is the tower's. Own text; nothing of the program in it. -/
namespace Go.Proofs.Ytnhbdhgbmjcjdaa.Tw
set_option linter.unusedVariables false
set_option linter.unusedSimpArgs false
theorem z2p {n a b : Nat} (hb : b < Q n) : (a * Q n + b) / Q n = a := by rw [Nat.mul_comm, Nat.mul_add_div (z23 n), Nat.div_eq_of_lt hb, Nat.add_zero]
theorem z2q {n a b : Nat} (hb : b < Q n) : (a * Q n + b) % Q n = b := by rw [Nat.mul_comm, Nat.mul_add_mod, Nat.mod_eq_of_lt hb]
theorem z4E {n a b c d : Nat} (hb : b < Q n) (hd : d < Q n) : (a * Q n + b) &&& (c * Q n + d) = (a &&& c) * Q n + (b &&& d) := by
  have h1 : ((a * Q n + b) &&& (c * Q n + d)) / Q n = a &&& c := by
    have e1 := z2p (n := n) (a := a) hb
    have e2 := z2p (n := n) (a := c) hd
    unfold Q at *
    rw [Nat.and_div_two_pow, e1, e2]
  have h2 : ((a * Q n + b) &&& (c * Q n + d)) % Q n = b &&& d := by
    have e1 := z2q (n := n) (a := a) hb
    have e2 := z2q (n := n) (a := c) hd
    unfold Q at *
    rw [Nat.and_mod_two_pow, e1, e2]
  have := Nat.div_add_mod ((a * Q n + b) &&& (c * Q n + d)) (Q n)
  rw [h1, h2, Nat.mul_comm] at this
  exact this.symm
theorem z5V {n a b c d : Nat} (hb : b < Q n) (hd : d < Q n) : (a * Q n + b) ||| (c * Q n + d) = (a ||| c) * Q n + (b ||| d) := by
  have h1 : ((a * Q n + b) ||| (c * Q n + d)) / Q n = a ||| c := by
    have e1 := z2p (n := n) (a := a) hb
    have e2 := z2p (n := n) (a := c) hd
    unfold Q at *
    rw [Nat.or_div_two_pow, e1, e2]
  have h2 : ((a * Q n + b) ||| (c * Q n + d)) % Q n = b ||| d := by
    have e1 := z2q (n := n) (a := a) hb
    have e2 := z2q (n := n) (a := c) hd
    unfold Q at *
    rw [Nat.or_mod_two_pow, e1, e2]
  have := Nat.div_add_mod ((a * Q n + b) ||| (c * Q n + d)) (Q n)
  rw [h1, h2, Nat.mul_comm] at this
  exact this.symm
theorem or_lt {n x y : Nat} (hx : x < Q n) (hy : y < Q n) : x ||| y < Q n := Nat.or_lt_two_pow hx hy
/-- The lower halves of all blocks of 2^(j+1) bits in a word of 2^n. -/
def M (j : Nat) : Nat → Nat
  | 0 => 0
  | n + 1 => if n = j then Q j - 1 else if n < j then 0 else M j n * Q n + M j n
theorem M_base (j : Nat) : M j (j + 1) = Q j - 1 := by simp [M]
theorem z5o {j n : Nat} (h : j + 1 ≤ n) : M j (n + 1) = M j n * Q n + M j n := by
  rw [M, if_neg (by omega), if_neg (by omega)]
/-- What is left of a word without its highest block of 2^j bits. -/
def H (j n : Nat) : Nat := 2 ^ (2 ^ n - 2 ^ j)
theorem z4X {j n : Nat} (h : j ≤ n) : H j n * Q j = Q n := by
  have := Nat.pow_le_pow_right (show 2 > 0 by decide) h
  unfold H Q; rw [← Nat.pow_add, Nat.sub_add_cancel this]
theorem H_pos (j n : Nat) : 0 < H j n := Nat.two_pow_pos _
theorem z5m {j n : Nat} (h : j ≤ n) : H j (n + 1) = H j n * Q n := by
  have := Nat.pow_le_pow_right (show 2 > 0 by decide) h
  unfold H Q; rw [← Nat.pow_add]; congr 1; rw [Nat.pow_succ]; omega
theorem H_self (j : Nat) : H j j = 1 := by unfold H; rw [Nat.sub_self, Nat.pow_zero]
theorem H_base (j : Nat) : H j (j + 1) = Q j := by rw [z5m (Nat.le_refl _), H_self, Nat.one_mul]
theorem H_le {j n : Nat} (h : j ≤ n) : H j n ≤ Q n := by rw [← z4X h]; exact Nat.le_mul_of_pos_right _ (z23 j)
theorem lt_H_mul {j n x : Nat} (h : j ≤ n) (hx : x < H j n) : x * Q j < Q n := by
  rw [← z4X h]; exact Nat.mul_lt_mul_of_pos_right hx (z23 j)
theorem M_lt {j : Nat} : ∀ d, M j (j + 1 + d) < H j (j + 1 + d)
  | 0 => by rw [Nat.add_zero, M_base, H_base]; have := z23 j; omega
  | d + 1 => by
    have ih := M_lt (j := j) d
    rw [← Nat.add_assoc, z5o (by omega), z5m (by omega)]
    have h2 : M j (j + 1 + d) < Q (j + 1 + d) := Nat.lt_of_lt_of_le ih (H_le (by omega))
    have h3 : M j (j + 1 + d) * Q (j + 1 + d) + Q (j + 1 + d) ≤ H j (j + 1 + d) * Q (j + 1 + d) := by
      have := Nat.mul_le_mul_right (Q (j + 1 + d)) ih
      rw [Nat.succ_mul] at this; exact this
    omega
theorem M_lt' {j n : Nat} (h : j + 1 ≤ n) : M j n < H j n := by
  obtain ⟨d, rfl⟩ := Nat.le.dest h; exact M_lt d
theorem M_lt_Q {j n : Nat} (h : j + 1 ≤ n) : M j n < Q n := Nat.lt_of_lt_of_le (M_lt' h) (H_le (by omega))
theorem z24 {x m b : Nat} (h : m < b) : x &&& m < b := Nat.lt_of_le_of_lt Nat.and_le_right h
/-- A word times the generator of the level j, block by block. -/
def tw (n : Nat) : Nat → Nat → Nat
  | 0, v => v
  | j + 1, v => (((v &&& M j n) ^^^ tw n j ((v / Q j) &&& M j n)) * Q j) % Q n ||| ((v / Q j) &&& M j n)
theorem z4e (j : Nat) : val (gen j) < Q j := z1i _
theorem z4Q {j g : Nat} (hg : g < Q j) : ∀ d u, u < H j (j + d) → val (of (j + d) g * of (j + d) u) < H j (j + d)
  | 0, u, hu => by
    rw [Nat.add_zero, H_self] at hu ⊢
    have : u = 0 := by omega
    rw [this, z2j, mul_zero, z1r]; decide
  | d + 1, u, hu => by
    rw [← Nat.add_assoc] at hu ⊢
    rw [z5m (Nat.le_add_right _ _)] at hu ⊢
    have hg' : g < Q (j + d) := Nat.lt_of_lt_of_le hg (z2B (Nat.le_add_right _ _))
    have e1 : of (j + d + 1) g = up (of (j + d) g) := z4h hg'
    rw [e1, z2P, z1w, z1Y, z27, z1M, z1Y, z27]
    have h1 := z4Q hg d (u / Q (j + d)) (Nat.div_lt_of_lt_mul (by rw [Nat.mul_comm]; exact hu))
    have h2 := z1i (of (j + d) g * of (j + d) (u % Q (j + d)))
    have h3 : val (of (j + d) g * of (j + d) (u / Q (j + d))) * Q (j + d) + Q (j + d) ≤ H j (j + d) * Q (j + d) := by
      have := Nat.mul_le_mul_right (Q (j + d)) h1
      rw [Nat.succ_mul] at this; exact this
    omega
theorem tw_split {j : Nat} (C : ∀ n, j ≤ n → ∀ v, v < Q n → tw n j v = val (of n (val (gen j)) * of n v)) (D : ∀ n, j ≤ n → ∀ h l, h < Q n → l < Q n → tw (n + 1) j (h * Q n + l) = tw n j h * Q n + tw n j l) :
    ∀ n, j + 1 ≤ n → ∀ h l, h < Q n → l < Q n → tw (n + 1) (j + 1) (h * Q n + l) = tw n (j + 1) h * Q n + tw n (j + 1) l ∧ tw n (j + 1) l < Q n := by
  intro n hn h l hh hl
  have hM := M_lt' hn
  have hMQ := M_lt_Q hn
  have hjn : j ≤ n := by omega
  have hQj := z23 j
  -- the higher parts
  have hdiv : (h * Q n + l) / Q j = (h / Q j) * Q n + ((h % Q j) * H j n + l / Q j) := by
    have e1 : h * Q n = (h * H j n) * Q j := by rw [← z4X hjn, Nat.mul_assoc]
    rw [e1, Nat.mul_comm (h * H j n), Nat.mul_add_div hQj]
    have e2 := Nat.div_add_mod h (Q j)
    have e3 : h * H j n = (h / Q j) * Q n + (h % Q j) * H j n := by
      conv => lhs; rw [← e2]
      rw [Nat.add_mul, ← z4X hjn]
      congr 1
      rw [Nat.mul_comm (Q j), Nat.mul_assoc, Nat.mul_comm (Q j)]
    rw [e3, Nat.add_assoc]
  have hlq : l / Q j < H j n := Nat.div_lt_of_lt_mul (by rw [Nat.mul_comm, z4X hjn]; exact hl)
  have hl' : (h % Q j) * H j n + l / Q j < Q n := by
    have h1 : (h % Q j) * H j n + H j n ≤ Q j * H j n := by
      have := Nat.mul_le_mul_right (H j n) (Nat.mod_lt h hQj)
      rw [Nat.succ_mul] at this; exact this
    rw [Nat.mul_comm (Q j), z4X hjn] at h1
    omega
  have hand : ((h % Q j) * H j n + l / Q j) &&& M j n = (l / Q j) &&& M j n := by
    have e1 : ∀ x, x &&& M j n = (x % H j n) &&& M j n := fun x => by
      have h3 : x &&& M j n < H j n := z24 hM
      have h4 : (x &&& M j n) % H j n = x &&& M j n := Nat.mod_eq_of_lt h3
      rw [← h4]; unfold H; rw [Nat.and_mod_two_pow]
      rw [show M j n % 2 ^ (2 ^ n - 2 ^ j) = M j n from Nat.mod_eq_of_lt hM]
    rw [e1, Nat.mul_comm, Nat.mul_add_mod, ← e1]
  have hhi : ((h * Q n + l) / Q j) &&& M j (n + 1) = ((h / Q j) &&& M j n) * Q n + ((l / Q j) &&& M j n) := by
    rw [z5o hn, hdiv, z4E hl' hMQ, hand]
  have hlo : (h * Q n + l) &&& M j (n + 1) = (h &&& M j n) * Q n + (l &&& M j n) := by rw [z5o hn, z4E hl hMQ]
  have b1 : (h / Q j) &&& M j n < Q n := z24 hMQ
  have b2 : (l / Q j) &&& M j n < Q n := z24 hMQ
  have b3 : l &&& M j n < H j n := z24 hM
  have b4 : (l / Q j) &&& M j n < H j n := z24 hM
  have b5 : tw n j ((l / Q j) &&& M j n) < H j n := by
    rw [C n hjn _ b2]
    obtain ⟨d, rfl⟩ := Nat.le.dest hjn
    exact z4Q (z4e j) d _ b4
  have b6 : (l &&& M j n) ^^^ tw n j ((l / Q j) &&& M j n) < H j n := Nat.xor_lt_two_pow b3 b5
  have b7 := lt_H_mul hjn b6
  have b8 : tw n j ((l / Q j) &&& M j n) < Q n := Nat.lt_of_lt_of_le b5 (H_le hjn)
  have b9 : l &&& M j n < Q n := z24 hMQ
  constructor
  · simp only [tw]
    rw [hhi, hlo, D n hjn _ _ b1 b2, z4W b9 b8, Nat.add_mul]
    have e5 : ∀ X Y : Nat, Y < Q n → (X * Q n * Q j + Y) % Q (n + 1) = ((X * Q j) % Q n) * Q n + Y := by
      intro X Y hY
      rw [show X * Q n * Q j = X * Q j * Q n by rw [Nat.mul_assoc, Nat.mul_comm (Q n), ← Nat.mul_assoc], z2f]
      rw [Nat.mul_comm (X * Q j), Nat.mod_mul, Nat.mul_add_mod, Nat.mod_eq_of_lt hY, Nat.mul_add_div (z23 n), Nat.div_eq_of_lt hY, Nat.add_zero, Nat.mul_comm (Q n), Nat.add_comm]
    rw [e5 _ _ b7, z5V b7 b2, Nat.mod_eq_of_lt b7]
  · simp only [tw]
    exact or_lt (Nat.mod_lt _ (z23 n)) b2
theorem z65 : ∀ j, (∀ n, j ≤ n → ∀ v, v < Q n → tw n j v = val (of n (val (gen j)) * of n v)) ∧ (∀ n, j ≤ n → ∀ h l, h < Q n → l < Q n → tw (n + 1) j (h * Q n + l) = tw n j h * Q n + tw n j l)
  | 0 => ⟨fun n _ v hv => by rw [z4I, z2c, of_one, one_mul, z1J _ _ hv]; rfl, fun n _ h l _ _ => rfl⟩
  | j + 1 => by
    obtain ⟨C, D⟩ := z65 j
    have D' := tw_split C D
    refine ⟨?_, fun n hn h l hh hl => (D' n hn h l hh hl).1⟩
    intro n hn
    obtain ⟨d, rfl⟩ := Nat.le.dest hn
    clear hn
    induction d with
    | zero =>
      intro v hv
      rw [Nat.add_zero] at hv ⊢
      have hQj := z23 j
      have hd : v / Q j < Q j := Nat.div_lt_of_lt_mul (by rw [← z2f]; exact hv)
      have hm : v % Q j < Q j := Nat.mod_lt _ hQj
      have hmask : ∀ x, x &&& M j (j + 1) = x % Q j := fun x => by rw [M_base]; unfold Q; rw [Nat.and_two_pow_sub_one_eq_mod]
      have e1 : tw (j + 1) j (v / Q j) = val (gen j * of j (v / Q j)) := by
        rw [C (j + 1) (by omega) _ (Nat.lt_of_lt_of_le hd (z5p j)), z3t (d := 1) (z4e j) hd, z1A]
      simp only [tw]
      rw [hmask, hmask, Nat.mod_eq_of_lt hd, e1]
      have hv2 := z1i (gen j * of j (v / Q j))
      have hX := z1W hm hv2
      rw [Nat.mod_eq_of_lt (show _ * Q j < Q (j + 1) by rw [z2f]; exact Nat.mul_lt_mul_of_pos_right hX hQj)]
      have hor : ∀ X, X * Q j ||| (v / Q j) = X * Q j + v / Q j := fun X => by
        have := z5V (n := j) (a := X) (b := 0) (c := 0) (d := v / Q j) hQj hd
        simpa using this
      rw [hor, z1A, z1w]
      congr 1
      · congr 1
        rw [z1K, z2h, z2i, one_mul, zero_mul, one_mul, add_zero, z1M, z1Y, z27, z1u, z1J _ _ hm]
      · rw [z1L, z2h, z2i, one_mul, zero_mul, zero_add, z1M, z1Y, z1J _ _ hd]
    | succ d ih =>
      intro v hv
      rw [← Nat.add_assoc] at hv ⊢
      have hvd := Nat.div_add_mod v (Q (j + 1 + d))
      rw [Nat.mul_comm] at hvd
      have h1 : v / Q (j + 1 + d) < Q (j + 1 + d) := Nat.div_lt_of_lt_mul (by rw [← z2f]; exact hv)
      have h2 : v % Q (j + 1 + d) < Q (j + 1 + d) := Nat.mod_lt _ (z23 _)
      have hg : val (gen (j + 1)) < Q (j + 1 + d) := Nat.lt_of_lt_of_le (z4e (j + 1)) (z2B (Nat.le_add_right _ _))
      have e1 : of (j + 1 + d + 1) (val (gen (j + 1))) = up (of (j + 1 + d) (val (gen (j + 1)))) := z4h hg
      rw [e1, z2P, z1w, z1Y, z27, z1M, z1Y, z27, ← ih _ h1, ← ih _ h2]
      conv => lhs; rw [← hvd]
      exact (D' (j + 1 + d) (by omega) _ _ h1 h2).1
theorem tw_eq {j n v : Nat} (h : j ≤ n) (hv : v < Q n) : tw n j v = val (of n (val (gen j)) * of n v) := (z65 j).1 n h v hv
/-- A bit of a level is a product of generators. -/
def gp (n : Nat) : Nat → Nat → T n
  | 0, _ => 1
  | m + 1, i => (if i.testBit m then of n (val (gen (m + 1))) else 1) * gp n m i
theorem gp_up {n : Nat} : ∀ m i, m ≤ n → gp (n + 1) m i = up (gp n m i)
  | 0, i, _ => rfl
  | m + 1, i, h => by
    show (if i.testBit m then of (n + 1) (val (gen (m + 1))) else 1) * gp (n + 1) m i = up ((if i.testBit m then of n (val (gen (m + 1))) else 1) * gp n m i)
    rw [up_mul, gp_up m i (by omega)]
    congr 1
    split
    · exact z4h (Nat.lt_of_lt_of_le (z4e (m + 1)) (z2B h))
    · rfl
theorem gp_mod {n : Nat} : ∀ m i k, m ≤ k → gp n m (i % 2 ^ k) = gp n m i
  | 0, i, k, _ => rfl
  | m + 1, i, k, h => by
    show (if (i % 2 ^ k).testBit m then _ else _) * gp n m (i % 2 ^ k) = (if i.testBit m then _ else _) * gp n m i
    rw [gp_mod m i k (by omega), Nat.testBit_mod_two_pow, decide_eq_true (by omega), Bool.true_and]
theorem gp_bit : ∀ n i, i < 2 ^ n → gp n n i = of n (2 ^ i)
  | 0, i, h => by
    have : i = 0 := by simpa using h
    rw [this]; rfl
  | n + 1, i, h => by
    show (if i.testBit n then of (n + 1) (val (gen (n + 1))) else 1) * gp (n + 1) n i = of (n + 1) (2 ^ i)
    rw [gp_up n i (Nat.le_refl _), ← gp_mod n i n (Nat.le_refl _), gp_bit n _ (Nat.mod_lt _ (Nat.two_pow_pos n))]
    rw [Nat.pow_succ] at h
    by_cases c : i < 2 ^ n
    · rw [Nat.testBit_lt_two_pow c, Nat.mod_eq_of_lt c]
      rw [z4h (show 2 ^ i < Q n from Nat.pow_lt_pow_right (by decide) c)]
      simp only [Bool.false_eq_true, if_false, one_mul]; rfl
    · have hi : i % 2 ^ n = i - 2 ^ n := by rw [Nat.mod_eq_sub_mod (by omega), Nat.mod_eq_of_lt (by omega)]
      have hb : i.testBit n = true := by
        have := Nat.testBit_two_pow_add_eq (i - 2 ^ n) n
        rw [show 2 ^ n + (i - 2 ^ n) = i by omega, Nat.testBit_lt_two_pow (show i - 2 ^ n < 2 ^ n by omega)] at this
        simpa using this
      rw [hb, if_pos rfl, hi, z1A]
      have e : 2 ^ i = 2 ^ (i - 2 ^ n) * Q n + 0 := by
        unfold Q; rw [← Nat.pow_add, Nat.add_zero]; congr 1; omega
      rw [e, z1M, z2p (z23 n), z2q (z23 n), z2j]
      apply ext
      · rw [z1K, z2h, z2i, z2u, z3M, one_mul, zero_mul, mul_zero, mul_zero, add_zero, add_zero]; rfl
      · rw [z1L, z2h, z2i, z2u, zero_mul, mul_zero, add_zero]; rfl
/-- An element is the sum of its bits. -/
theorem bits_sum {n : Nat} (b k : Nat) (hb : b < Q n) (hk : k < 2 ^ n) : of n (b % 2 ^ (k + 1)) = of n (b % 2 ^ k) + (if b.testBit k then of n (2 ^ k) else 0) := by
  have h2 : 2 ^ k < Q n := Nat.pow_lt_pow_right (by decide) hk
  have h1 : b % 2 ^ k < Q n := Nat.lt_trans (Nat.mod_lt _ (Nat.two_pow_pos k)) h2
  have e : b % 2 ^ (k + 1) = b % 2 ^ k ^^^ (if b.testBit k then 2 ^ k else 0) := by
    apply Nat.eq_of_testBit_eq
    intro i
    rw [Nat.testBit_xor, Nat.testBit_mod_two_pow, Nat.testBit_mod_two_pow]
    by_cases hi : i = k
    · subst hi
      cases hbi : b.testBit i <;> simp
    · by_cases hlt : i < k
      · have : decide (i < k + 1) = true := decide_eq_true (by omega)
        rw [this, decide_eq_true hlt]
        split
        · rw [Nat.testBit_two_pow_of_ne (by omega)]; simp
        · simp
      · rw [decide_eq_false (by omega), decide_eq_false hlt]
        split
        · rw [Nat.testBit_two_pow_of_ne (by omega)]; simp
        · simp
  rw [e]
  split
  · rw [z5Q h1 h2]
  · rw [Nat.xor_zero, add_zero]
end Go.Proofs.Ytnhbdhgbmjcjdaa.Tw
namespace Go.Proofs.Ytnhbdhgbmjcjdaa.P
open Go.RowKit Go.Proofs.YtnhbdhgbmjcjdaaW.PrintWords Go.Proofs.YtnhbdhgbmjcjdaaW.PrintLast Go.Proofs.YtnhbdhgbmjcjdaaW.PrintMore
attribute [local go_sem] zX zZ z1a z1b zL zM zY z10   -- for this text's walks alone
set_option linter.unusedVariables false
set_option linter.unusedSimpArgs false
def zR.f (a0 : Int) : Option (Int):=(some (([6148914691236517205,3689348814741910323,1085102592571150095,71777214294589695,281470681808895,4294967295] : List Int) : List Int)).bind fun y101=>(if 0 ≤ a0 then (if a0 < (y101.length : Int) then (some (rd y101 a0)) else (none)) else (none))
set_option maxHeartbeats 8000000 in
set_option maxRecDepth 100000 in
theorem zR.calls (a0 : Int) (r : Int) (w : World) (h : zR.f a0 = some r) :
 Calls Try.prog 90 #[.int .i64 a0] w fun e w'=>e = .returned (.int .u64 r) ∧ Below w.heap.size w w':=by
 have HB:=z1.mk (Below.refl w.heap.size w)
 have H : ((some (([6148914691236517205,3689348814741910323,1085102592571150095,71777214294589695,281470681808895,4294967295] : List Int) : List Int)).bind fun y101=>(if 0 ≤ a0 then (if a0 < (y101.length : Int) then (some (rd y101 a0)) else (none)) else (none))) = some r:=h
 clear h
 obtain ⟨y101,hy101⟩ : ∃ y_ : List Int,y_ = (([6148914691236517205,3689348814741910323,1085102592571150095,71777214294589695,281470681808895,4294967295] : List Int)):=⟨_,rfl⟩
 replace H : (if 0 ≤ a0 then (if a0 < (y101.length : Int) then (some (rd y101 a0)) else (none)) else (none)) = some r:=by first|(rw [hy101];with_reducible exact H)|(have H2_:=(Option.bind_some _ _).symm.trans H;rw [hy101];with_reducible exact H2_)|(have H2_:=(Option.bind_some _ _).symm.trans H;with_reducible exact H2_)|with_reducible exact H|(rw [hy101];exact H)|exact H
 have Ny101:=z1.mk hy101
 clear hy101
 by_cases c2 : 0 ≤ a0
 rotate_left
 · rw [if_neg c2] at H
   exact absurd H zz55
 rw [if_pos c2] at H
 have c2b0 : decide (0 ≤ a0) = true:=decide_eq_true c2
 clear c2
 by_cases c3 : a0 < (y101.length : Int)
 rotate_left
 · rw [if_neg c3] at H
   exact absurd H zz55
 rw [if_pos c3] at H
 have c3b0 : decide (a0 < (y101.length : Int)) = true:=decide_eq_true c3
 clear c3
 obtain rfl:=Option.some.inj H
 go_enter Try.func90,Try.ntmps90
 go_wp2_with (first|((with_reducible refine zC (N:=4) rfl ?_);refine Kd.z2N (Kd.int .u64) _ 33 ?hg (N:=4) ?hd (xs:=([6148914691236517205,3689348814741910323,1085102592571150095,71777214294589695,281470681808895,4294967295] : List Int)) (inner:=[.int .u64 6148914691236517205,.int .u64 3689348814741910323,.int .u64 1085102592571150095,.int .u64 71777214294589695,.int .u64 281470681808895,.int .u64 4294967295]) (ok:=fun _=>True) (okp:=fun _=>True) ?hr ?hp (fun _ hk=>hk) trivial (Below.refl _ _) (Nat.le_refl _) zz55 ?_;(case hd=>rfl);(case hg=>rfl);(case hr=>first|(go_simp;done)|(go_simp;rfl));(case hp=>exact (Reps.one (show Kd.M (Kd.int .u64) _ _ _ 6148914691236517205 [.int .u64 6148914691236517205] from rfl) (Reps.one (show Kd.M (Kd.int .u64) _ _ _ 3689348814741910323 [.int .u64 3689348814741910323] from rfl) (Reps.one (show Kd.M (Kd.int .u64) _ _ _ 1085102592571150095 [.int .u64 1085102592571150095] from rfl) (Reps.one (show Kd.M (Kd.int .u64) _ _ _ 71777214294589695 [.int .u64 71777214294589695] from rfl) (Reps.one (show Kd.M (Kd.int .u64) _ _ _ 281470681808895 [.int .u64 281470681808895] from rfl) (Reps.one (show Kd.M (Kd.int .u64) _ _ _ 4294967295 [.int .u64 4294967295] from rfl) (Reps.none _ _))))))));intro v102 w4 ho5 hb hg_ hnew_;clear hg_ hnew_;(first|rw [← Ny101.out] at ho5|(simp only [Int.reduceToNat] at ho5;rw [← Ny101.out] at ho5));have n0_:=z1.mk (Kd.z1c ho5 (zd zz20));have n1_:=z1.mk (z8 zz20 hb);clear HB;have HO103:=n0_;have HB:=n1_;clear n0_ n1_;clear hb ho5;obtain ⟨Ao6,co6,eo6⟩:=Kd.z14 HO103.out;subst eo6;have p104 : 0 ≤ (a0 : Int):=of_decide_eq_true zz49;have q104 : a0 < (y101.length : Int):=of_decide_eq_true zz49;obtain ⟨ad104,e104,hx104_0⟩:=Kd.z5x (Kd.zx HO103.out).2.2 a0 p104 q104;cases e104;replace p104:=eq_true p104;replace q104:=eq_true q104))
 go_ret
 exact ⟨by first|rfl|(simp [zk,zl] <;> rfl)|(simp [*,zk,zl] <;> rfl),by repeat (first|(with_reducible first|exact HB.out|apply z7|apply z3|apply z5)|exact HB.out)⟩
end Go.Proofs.Ytnhbdhgbmjcjdaa.P

/- Own text: merged by wip/tools/pack.py out of what the law RingBatches reaches. -/
import Derived.Test.YtkhmpaooinpfoaaMRingBatchesb
namespace Go.Proofs.Ytkhmpaooinpfoaa.P
open Go.RowKit Go.Proofs.YtkhmpaooinpfoaaW.PrintWords Go.Proofs.YtkhmpaooinpfoaaW.PrintLast Go.Proofs.YtkhmpaooinpfoaaW.PrintMore
attribute [local go_sem] z12 z14 z1i z1j zU zV z13 z15   -- for this text's walks alone
set_option linter.unusedVariables false
set_option linter.unusedSimpArgs false
set_option maxHeartbeats 800000 in
set_option maxRecDepth 100000 in
theorem z1b.clo (k : Nat) (a0 : Int) (x : S30) (g : Nat) (r : Bool) (w : World) (hg : w.heap[g]? = some (.cells #[.int .i64 a0] 3 (0,0))) (h : zF.f k a0 x.f0 x.f1 = some r) :
 Calls Try.prog 145 #[.agg #[.int .u64 x.f0,.int .u64 x.f1],.pointer (some ⟨g,0,none⟩)] w fun e w'=>e = .returned (.bool (!r)) ∧ Below w.heap.size w w':=by
 have hu30:=Try.underlying30
 have HB:=z1.mk (Below.refl w.heap.size w)
 have HG:=z1.mk hg
 have A8:=z1.mk h
 clear hg h
 go_enter Try.func145,Try.ntmps145
 go_wp2_with (first
  | ((with_reducible refine zp (N:=2) rfl ?_);refine zt ?hg (N:=2) ?hd (cs:=#[.int .u64 x.f0,.int .u64 x.f1]) (t:=30) ?hr ?_;(case hd=>rfl);(case hg=>rfl);(case hr=>first|(go_simp;done)|(go_simp;rfl));intro gb hgb w1_ hbox hb;have n0_:=z1.mk (z3 HB.out hb);have hG1:=zc (g:=g) (o:=.cells #[.int .i64 a0] 3 (0,0)) HG.out hb;have hc0 : w1_.cell? ⟨g,0,none⟩ = some (.int .i64 a0):=(z7 hG1 0).trans rfl;have hcx0 : w1_.cell? ⟨gb,0,none⟩ = some (.int .u64 x.f0):=(z7 hbox 0).trans rfl;have hcx1 : w1_.cell? ⟨gb,1,none⟩ = some (.int .u64 x.f1):=(z7 hbox 1).trans rfl;clear HB hG1 hbox hb hgb;have HB:=n0_;clear n0_)
  | ((with_reducible refine zi (f:=81) rfl ?_);refine goesL_ (some 6) rfl rfl Try.func81 zz90 rfl #[.int .i64 a0,.agg #[.int .u64 x.f0,.int .u64 x.f1]] rfl zz84 ?_;(with_reducible refine (zF.calls k a0 x.f0 x.f1 r _ A8.out).mono ?_);rintro e w2_ ⟨rfl,hb2⟩;refine ⟨_,rfl,?_⟩;have n0_:=z1.mk (z3 HB.out hb2);clear HB hb2;have HB:=n0_;clear n0_))
 go_ret
 exact ⟨rfl,HB.out⟩
def z1b.all (k : Nat) (a0 : Int) : List S30 → Option Bool
 | []=>some true
 | x :: xs=>(zF.f k a0 x.f0 x.f1).bind fun b=>if b = true then z1b.all k a0 xs else some false
theorem z1b.z2y (a0 : Int) : ∀ (l : List S30) (k : Nat),LeO (z1b.all k a0 l) (z1b.all (k + 1) a0 l)
 | [],k=>LeO.refl _
 | x :: xs,k=>LeO.bind (zF.mono a0 x.f0 x.f1 k) (fun b=>LeO.ite (z1b.z2y a0 xs k) (LeO.refl _))
theorem z1b.z3q (k : Nat) (a0 : Int) (l : List S30) (i : Nat) (h : i < l.length) : z1b.all k a0 (l.drop i) = (zF.f k a0 (rd_T30 l (i : Int)).f0 (rd_T30 l (i : Int)).f1).bind fun b=>if b = true then z1b.all k a0 (l.drop (i + 1)) else some false:=by
 rw [List.drop_eq_getElem_cons h]
 have e : rd_T30 l (i : Int) = l[i]:=by unfold rd_T30;rw [Int.toNat_natCast,List.getD_eq_getElem?_getD,List.getElem?_eq_getElem h];rfl
 rw [e];rfl
set_option maxHeartbeats 800000 in
set_option maxRecDepth 100000 in
theorem z1b.idx (k : Nat) (a0 : Int) (A_ : Option Addr) (c : Nat) (l : List S30) (g : Nat) (r : Bool) (w : World) (hr : Kd.C k30 w A_ l.length l) (hg : w.heap[g]? = some (.cells #[.int .i64 a0] 3 (0,0))) (h : z1b.all k a0 l = some r) :
 Calls Try.prog 135 #[.slice A_ l.length c,.func (.func 145) #[] #[.pointer (some ⟨g,0,none⟩)]] w fun e w'=>(∃ i : Int,e = .returned (.int .i64 i) ∧ decide (i ≥ 0) = !r) ∧ Below w.heap.size w w':=by
 have hu30:=Try.underlying30
 have HB:=z1.mk (Below.refl w.heap.size w)
 have HG:=z1.mk hg
 have HR:=z1.mk hr
 have HA:=z1.mk h
 have HM:=z1.mk (Kd.C_max hr)
 clear hg h hr
 go_enter Try.func135,Try.ntmps135
 go_wp2
 go_loopg [8] l.length (fun kq v8 w'=>∃ (i : Nat),v8 = .int .i64 i ∧ z1 (i + kq = l.length) ∧ z1 (z1b.all k a0 (l.drop i) = some r) ∧ z1 (w'.heap[g]? = some (.cells #[.int .i64 a0] 3 (0,0))) ∧ z1 (Below w.heap.size w w'))
 case atStart=>exact ⟨0,rfl,⟨by omega⟩,HA,HG,HB⟩
 case round =>
  obtain ⟨i,rfl,HK,HAi,HGi,HBi⟩:=hrel
  clear HG HB HA
  by_cases hlt : i < l.length
  rotate_left
  · have p0 : decide (i < l.length) = false:=decide_eq_false hlt
    have p1 : decide ((i : Int) < (l.length : Int)) = false:=decide_eq_false zz92
    have hr : r = true:=by
     have h1:=HAi.out
     rw [List.drop_eq_nil_of_le zz92] at h1
     exact (Option.some.inj h1).symm
    clear hlt HAi
    subst hr
    go_wp2
    go_ret
    exact ⟨⟨-1,rfl,by decide⟩,HBi.out⟩
  have hd:=z1b.z3q k a0 l i hlt
  have e1:=HAi.out
  rw [hd] at e1
  obtain ⟨b,hb,e2⟩:=Option.bind_eq_some_iff.mp e1
  clear e1 hd
  have HE:=z1.mk e2
  have HF:=z1.mk hb
  clear e2 hb
  obtain ⟨ad,e205,hx0,hx1⟩:=z20 HR.out (i : Int) zz92 zz92
  cases e205
  rw [Int.toNat_natCast] at hx0 hx1
  replace hx0:=(HBi.out.cell (World.block_lt_of_cell? w _ hx0)).trans hx0
  replace hx1:=(HBi.out.cell (World.block_lt_of_cell? w _ hx1)).trans hx1
  have p0 : decide (i < l.length) = true:=decide_eq_true hlt
  have p1 : decide ((i : Int) < (l.length : Int)) = true:=decide_eq_true zz92
  have p2 : (0 ≤ (i : Int)) = True:=eq_true zz92
  have p3 : ((i : Int) < (l.length : Int)) = True:=eq_true zz92
  clear hlt
  go_wp2_with fail
  refine (z1b.clo k a0 (rd_T30 l (i : Int)) g b _ HGi.out HF.out).mono ?_
  rintro e w1 ⟨rfl,hb1⟩
  have n0_:=z1.mk (z3 HBi.out hb1)
  have n1_:=z1.mk (zc (g:=g) (o:=.cells #[.int .i64 a0] 3 (0,0)) HGi.out hb1)
  clear HBi HGi hb1 hx0 hx1
  cases b with
  | true =>
   rw [if_pos rfl] at HE
   simp only [Bool.not_true]
   go_wp2
   have hi : wrap64 ((i : Int) + 1) = ((i + 1 : Nat) : Int):=by
    have:=HM.out;have:=HK.out;have h9:=of_decide_eq_true p0;unfold wrap64;omega
   go_roundg (l.length - i - 1)
   case measure=>have:=HK.out;have h9:=of_decide_eq_true p0;omega
   case rel=>exact ⟨i + 1,congrArg (Value.int .i64) hi,⟨by have:=HK.out;have h9:=of_decide_eq_true p0;omega⟩,HE,n1_,n0_⟩
  | false =>
   have hr : r = false:=by
    have:=HE.out
    simp at this
    exact this
   subst hr
   simp only [Bool.not_false]
   go_wp2
   go_ret
   exact ⟨⟨(i : Int),rfl,by simp⟩,n0_.out⟩
set_option maxHeartbeats 800000 in
set_option maxRecDepth 100000 in
theorem z1b.cont (k : Nat) (a0 : Int) (A_ : Option Addr) (c : Nat) (l : List S30) (g : Nat) (r : Bool) (w : World) (hr : Kd.C k30 w A_ l.length l) (hg : w.heap[g]? = some (.cells #[.int .i64 a0] 3 (0,0))) (h : z1b.all k a0 l = some r) :
 Calls Try.prog 105 #[.slice A_ l.length c,.func (.func 145) #[] #[.pointer (some ⟨g,0,none⟩)]] w fun e w'=>e = .returned (.bool (!r)) ∧ Below w.heap.size w w':=by
 have HB:=z1.mk (Below.refl w.heap.size w)
 have HG:=z1.mk hg
 have HR:=z1.mk hr
 have HA:=z1.mk h
 clear hg h hr
 go_enter Try.func105,Try.ntmps105
 go_wp2_with fail
 refine (z1b.idx k a0 A_ c l g r _ HR.out HG.out HA.out).mono ?_
 rintro e w1 ⟨⟨i,rfl,hi⟩,hb1⟩
 have hb:=z1.mk hb1
 have hj:=z1.mk hi
 clear hb1 hi
 go_wp2
 go_ret
 exact ⟨by rw [← hj.out];rfl,hb.out⟩
def z1b.f (k : Nat) (a0 : Int) (l1 : List S30) : Option Bool:=z1b.all k a0 l1
theorem z1b.mono : ∀ a0 a1 k,LeO (z1b.f k a0 a1) (z1b.f (k + 1) a0 a1):=fun a0 l k=>z1b.z2y a0 l k
set_option maxHeartbeats 800000 in
set_option maxRecDepth 100000 in
theorem z1b.calls (k : Nat) (a0 : Int) (A1 : Option Addr) (c1 : Nat) (l1 : List S30) (r : Bool) (w : World) (hr1 : Kd.C k30 w A1 l1.length l1) (hc1 : l1.length ≤ c1) (h : z1b.f k a0 l1 = some r) :
 Calls Try.prog 132 #[.int .i64 a0,.slice A1 l1.length c1] w fun e w'=>e = .returned (.bool r) ∧ Below w.heap.size w w':=by
 have hmf : ∀ (fn : Fn) (first cap : Array Value) (w : World),(Instr.makeFunc fn first cap).run Try.prog w = .ok (.func fn first cap) w:=fun _ _ _ _=>rfl
 have HB:=z1.mk (Below.refl w.heap.size w)
 have HR:=z1.mk hr1
 have HA:=z1.mk (show z1b.all k a0 l1 = some r from h)
 clear h hr1
 go_enter Try.func132,Try.ntmps132
 go_wp2_with (first
  | ((with_reducible refine zp (N:=2) rfl ?_);refine zt ?hg (N:=2) ?hd (cs:=#[.int .i64 a0]) (t:=3) ?hr ?_;(case hd=>rfl);(case hg=>rfl);(case hr=>first|(go_simp;done)|(go_simp;rfl));intro gb hgb w1_ hbox hb;have n0_:=z1.mk (z3 HB.out hb);have n1_:=z1.mk hbox;have n2_:=z1.mk (Kd.z1r HR.out hb);clear HB HR hbox hb hgb;have HB:=n0_;have HG:=n1_;have HR:=n2_;clear n0_ n1_ n2_)
  | ((with_reducible refine zi (f:=105) rfl ?_);refine goesL_ (some 7) rfl rfl Try.func105 zz90 rfl #[.slice A1 l1.length c1,.func (.func 145) #[] #[.pointer (some ⟨gb,0,none⟩)]] rfl zz84 ?_;(with_reducible refine (z1b.cont k a0 _ _ l1 gb r _ HR.out HG.out HA.out).mono ?_);rintro e w2_ ⟨rfl,hb2⟩;refine ⟨_,rfl,?_⟩;have n0_:=z1.mk (z3 HB.out hb2);clear HB hb2;have HB:=n0_;clear n0_))
 go_ret
 exact ⟨by simp,HB.out⟩
end Go.Proofs.Ytkhmpaooinpfoaa.P
namespace Go.Proofs.Ytkhmpaooinpfoaa.P
open Go.RowKit Go.Proofs.YtkhmpaooinpfoaaW.PrintWords Go.Proofs.YtkhmpaooinpfoaaW.PrintLast Go.Proofs.YtkhmpaooinpfoaaW.PrintMore
attribute [local go_sem] z12 z14 z1i z1j zU zV z13 z15   -- for this text's walks alone
set_option linter.unusedVariables false
set_option linter.unusedSimpArgs false
def z1o.j0 : Nat → Int → List (S30) → List (S30) → Bool → Option (Int)
 | 0,_,_,_,_=>none
 | k + 1,x0,x1,x2,x11=>if x11 = true then (some 6) else ((z1b.f k x0 x1).bind fun t102=>(if t102 = true then ((z1b.f k x0 x2).bind fun t103=>(if t103 = true then (some 0) else (some 5))) else (some 5)))
def z1o.f (k : Nat) (a0 : Int) (l1 : List (S30)) (l2 : List (S30)) : Option (Int):=(zx.f k a0).bind fun t101=>(if t101 = 0 then (some 1) else (if 0 ≤ a0 then (if (l1.length : Int) = (shl .i64 1 a0) then (z1o.j0 k a0 l1 l2 ((l2.length : Int) != a0)) else (z1o.j0 k a0 l1 l2 true)) else (none)))
theorem z1o.z17 : ∀ k,(∀ y0 y1 y2 y3,LeO (z1o.j0 k y0 y1 y2 y3) (z1o.j0 (k + 1) y0 y1 y2 y3))
 | 0=>fun _ _ _ _ r h=>by simp [z1o.j0] at h
 | k + 1=>by
  have ih0:=z1o.z17 k
  · intro y0 y1 y2 y3
    unfold z1o.j0
    repeat' first
    | (with_reducible exact ih0 _ _ _ _)
    | (with_reducible exact zx.mono _ _)
    | (with_reducible exact z1b.mono _ _ _)
    | (with_reducible exact LeO.refl _)
    | (with_reducible exact LeO.none _)
    | (with_reducible refine LeO.ite ?_ ?_)
    | (with_reducible refine LeO.bind ?_ (fun _=>?_))
    | exact ih0 _ _ _ _
    | exact zx.mono _ _
    | exact z1b.mono _ _ _
    | exact LeO.none _
    | refine LeO.ite ?_ ?_
    | refine LeO.bind ?_ (fun _=>?_)
theorem z1o.mono : ∀ a0 a1 a2 k,LeO (z1o.f k a0 a1 a2) (z1o.f (k + 1) a0 a1 a2):=by
 intro a0 a1 a2 k
 have ih0:=z1o.z17 k
 unfold z1o.f
 repeat' first
  | (with_reducible exact ih0 _ _ _ _)
  | (with_reducible exact zx.mono _ _)
  | (with_reducible exact z1b.mono _ _ _)
  | (with_reducible exact LeO.refl _)
  | (with_reducible exact LeO.none _)
  | (with_reducible refine LeO.ite ?_ ?_)
  | (with_reducible refine LeO.bind ?_ (fun _=>?_))
  | exact ih0 _ _ _ _
  | exact zx.mono _ _
  | exact z1b.mono _ _ _
  | exact LeO.none _
  | refine LeO.ite ?_ ?_
  | refine LeO.bind ?_ (fun _=>?_)
set_option maxHeartbeats 8000000 in
set_option maxRecDepth 100000 in
theorem z1o.calls (k : Nat) (a0 : Int) (A1 : Option Addr) (c1 : Nat) (l1 : List (S30)) (A2 : Option Addr) (c2 : Nat) (l2 : List (S30)) (r : Int) (w : World) (hr1 : Kd.C k30 w A1 l1.length l1) (hc1 : l1.length ≤ c1) (hr2 : Kd.C k30 w A2 l2.length l2) (hc2 : l2.length ≤ c2) (h : z1o.f k a0 l1 l2 = some r) :
 Calls Try.prog 103 #[.int .i64 a0,.slice A1 l1.length c1,.slice A2 l2.length c2] w fun e w'=>e = .returned (.int .i64 r) ∧ Below w.heap.size w w':=by
 have HR1:=z1.mk hr1
 have HC1:=z1.mk hc1
 clear hr1 hc1
 have HR2:=z1.mk hr2
 have HC2:=z1.mk hc2
 clear hr2 hc2
 have HB:=z1.mk (Below.refl w.heap.size w)
 have H : ((zx.f k a0).bind fun t101=>(if t101 = 0 then (some 1) else (if 0 ≤ a0 then (if (l1.length : Int) = (shl .i64 1 a0) then (z1o.j0 k a0 l1 l2 ((l2.length : Int) != a0)) else (z1o.j0 k a0 l1 l2 true)) else (none)))) = some r:=h
 clear h
 replace H:=Option.bind_eq_some_iff.mp H
 obtain ⟨t101,A40,H⟩:=H
 replace H : (if t101 = 0 then (some 1) else (if 0 ≤ a0 then (if (l1.length : Int) = (shl .i64 1 a0) then (z1o.j0 k a0 l1 l2 ((l2.length : Int) != a0)) else (z1o.j0 k a0 l1 l2 true)) else (none))) = some r:=H
 have A4:=z1.mk A40
 clear A40
 by_cases c5 : t101 = 0
 · rw [if_pos c5] at H
   have c5b0 : (t101 == 0) = true:=beq_iff_eq.mpr c5
   have c5b1 : (t101 != 0) = false:=bne_eq_false_iff_eq.mpr c5
   clear c5
   obtain rfl:=Option.some.inj H
   go_enter Try.func103,Try.ntmps103
   go_wp2_with (first|((with_reducible refine zi (f:=60) rfl ?_);refine goesL_ (some 9) rfl rfl Try.func60 zz90 rfl #[.int .i64 a0] rfl zz48 ?_;(with_reducible refine (zx.calls k a0 t101 _ A4.out).mono ?_);rintro e w' ⟨rfl,⟨nd,rfl⟩⟩;refine ⟨_,rfl,?_⟩))
   go_ret
   exact ⟨by first|rfl|(simp [zg,zh] <;> rfl)|(simp [*,zg,zh] <;> rfl),by repeat (first|(with_reducible first|exact HB.out|apply zd|apply z2|apply z9)|exact HB.out)⟩
 rw [if_neg c5] at H
 have c5b0 : (t101 == 0) = false:=beq_eq_false_iff_ne.mpr c5
 have c5b1 : (t101 != 0) = true:=bne_iff_ne.mpr c5
 have HC6:=z1.mk H
 clear H
 go_enter Try.func103,Try.ntmps103
 go_upto_region 3 with (first|((with_reducible refine zi (f:=60) rfl ?_);refine goesL_ (some 9) rfl rfl Try.func60 zz90 rfl #[.int .i64 a0] rfl zz48 ?_;(with_reducible refine (zx.calls k a0 t101 _ A4.out).mono ?_);rintro e w' ⟨rfl,⟨nd,rfl⟩⟩;refine ⟨_,rfl,?_⟩))
 (try simp only [Act.put,List.setIfInBounds_toArray,List.set_cons_zero,List.set_cons_succ])
 go_cut [11] (fun v11 wc=>∃ (kq : Nat) (x11_5 : Bool),v11 = .bool x11_5 ∧ z1 (z1o.j0 kq a0 l1 l2 x11_5 = some r) ∧ z1 (kq ≤ k) ∧ z1 (Below w.heap.size w wc))
 case first =>
  have H:=HC6.out
  clear HC6
  by_cases c7 : 0 ≤ a0
  rotate_left
  · rw [if_neg c7] at H
    exact absurd H zz93
  rw [if_pos c7] at H
  have c7b0:=eq_true c7
  have c7b1 : decide (0 ≤ a0) = true:=decide_eq_true c7
  clear c7
  obtain ⟨ji8,hji8⟩ : ∃ j_ : Int,(shl .i64 1 a0) = j_:=⟨_,rfl⟩
  replace H : (if (l1.length : Int) = (ji8) then (z1o.j0 k a0 l1 l2 ((l2.length : Int) != a0)) else (z1o.j0 k a0 l1 l2 true)) = some r:=by first|(rw [hji8] at H;exact H)|(simp only [hji8] at H ⊢;exact H)
  have hji8_ : (IntKind.i64.wrap (1 * 2 ^ min a0.toNat 64)) = ji8:=hji8
  have hji8z : a0 ≤ 64 → (IntKind.i64.wrap (1 * 2 ^ a0.toNat)) = ji8:=z1K hji8
  have hji8u : (IntKind.i64.wrap (2 ^ min a0.toNat 64)) = ji8:=by have h_:=hji8_;rw [Int.one_mul] at h_;exact h_
  have hji8v : a0 ≤ 64 → (IntKind.i64.wrap (2 ^ a0.toNat)) = ji8:=fun hle_=>by have h_:=hji8z hle_;rw [Int.one_mul] at h_;exact h_
  have hji8y : (wrap64 (1 * 2 ^ min a0.toNat 64)) = ji8:=(zH _).symm.trans hji8_
  have hji8x : a0 ≤ 64 → (wrap64 (1 * 2 ^ a0.toNat)) = ji8:=fun h_=>(zH _).symm.trans (hji8z h_)
  by_cases c9 : (l1.length : Int) = (ji8)
  rotate_left
  · rw [if_neg c9] at H
    have c9b0 : ((l1.length : Int) == (ji8)) = false:=beq_eq_false_iff_ne.mpr c9
    have c9b1 : ((l1.length : Int) != (ji8)) = true:=bne_iff_ne.mpr c9
    (first|rw [c9b0]|(simp only [zH,zP];rw [c9b0])|skip)
    have H':=z1.mk H
    clear H
    go_wp2
    go_meet
    case rel=>exact ⟨_,(true),zz86,H',⟨by first|omega|exact Nat.le_refl _⟩,⟨by repeat (first|(with_reducible first|exact HB.out|apply zd|apply z2|apply z9)|exact HB.out)⟩⟩
  rw [if_pos c9] at H
  have c9b0 : ((l1.length : Int) == (ji8)) = true:=beq_iff_eq.mpr c9
  have c9b1 : ((l1.length : Int) != (ji8)) = false:=bne_eq_false_iff_eq.mpr c9
  clear c9
  (first|rw [c9b0]|(simp only [zH,zP];rw [c9b0])|skip)
  have H':=z1.mk H
  clear H
  go_wp2
  go_meet
  case rel=>exact ⟨_,(((l2.length : Int) != a0)),zz86,H',⟨by first|omega|exact Nat.le_refl _⟩,⟨by repeat (first|(with_reducible first|exact HB.out|apply zd|apply z2|apply z9)|exact HB.out)⟩⟩
 case rest =>
  clear HC6
  (try clear c1);(try clear c2);(try clear p2);(try clear c5);(try clear c5b0);(try clear c5b1);(try clear c6);(try clear p6);(try clear c7);(try clear c7b0);(try clear c7b1);(try clear c9);(try clear c9b0);(try clear c9b1)
  obtain ⟨kq,x11_5,rfl,HA,HJ5,HB⟩:=hcut
  cases kq with
  | zero=>exact absurd HA.out (by simp [z1o.j0])
  | succ kj5 =>
   have H:=HA.out
   clear HA
   simp only [z1o.j0] at H
   by_cases c10 : x11_5 = true
   · subst c10
     have H1 : (some 6) = some r:=by rw [if_pos rfl] at H;exact H
     clear H
     have H:=H1
     clear H1
     obtain rfl:=Option.some.inj H
     go_wp2
     go_ret
     exact ⟨by first|rfl|(simp [zg,zh] <;> rfl)|(simp [*,zg,zh] <;> rfl),by repeat (first|(with_reducible first|exact HB.out|apply zd|apply z2|apply z9)|exact HB.out)⟩
   replace c10:=Bool.eq_false_iff.mpr c10
   subst c10
   have H1 : ((z1b.f kj5 a0 l1).bind fun t102=>(if t102 = true then ((z1b.f kj5 a0 l2).bind fun t103=>(if t103 = true then (some 0) else (some 5))) else (some 5))) = some r:=by rw [if_neg (show ¬ (false = true) by decide)] at H;exact H
   clear H
   have H:=H1
   clear H1
   replace H:=Option.bind_eq_some_iff.mp H
   obtain ⟨t102,A110,H⟩:=H
   replace H : (if t102 = true then ((z1b.f kj5 a0 l2).bind fun t103=>(if t103 = true then (some 0) else (some 5))) else (some 5)) = some r:=H
   have A11:=z1.mk A110
   clear A110
   by_cases c12 : t102 = true
   rotate_left
   · replace c12:=Bool.eq_false_iff.mpr c12
     subst c12
     have H1 : (some 5) = some r:=by rw [if_neg (show ¬ (false = true) by decide)] at H;exact H
     clear H
     have H:=H1
     clear H1
     obtain rfl:=Option.some.inj H
     go_wp2_with (first|((with_reducible refine zi (f:=132) rfl ?_);refine goesL_ (some 26) rfl rfl Try.func132 zz90 rfl #[.int .i64 a0,.slice A1 l1.length c1] rfl zz48 ?_;(with_reducible refine (z1b.calls kj5 a0 _ _ l1 false _ ?side1 ?side2 A11.out).mono ?_);(case side1=>repeat (first|exact (Kd.z1r HR1.out HB.out)|(with_reducible refine Kd.zQ ?_ _)|(with_reducible refine Kd.zR ?_ _)|(with_reducible refine Kd.z1d ?_)));(case side2=>exact HC1.out);rintro e w19 ⟨rfl,hb⟩;refine ⟨_,rfl,?_⟩;have n0_:=z1.mk (z3 zz49 hb);clear HB;have HB:=n0_;clear n0_;(try clear hb);(try clear hb2);(try clear hk);(try clear hi)))
     go_ret
     exact ⟨by first|rfl|(simp [zg,zh] <;> rfl)|(simp [*,zg,zh] <;> rfl),by repeat (first|(with_reducible first|exact HB.out|apply zd|apply z2|apply z9)|exact HB.out)⟩
   subst c12
   have H1 : ((z1b.f kj5 a0 l2).bind fun t103=>(if t103 = true then (some 0) else (some 5))) = some r:=by rw [if_pos rfl] at H;exact H
   clear H
   have H:=H1
   clear H1
   replace H:=Option.bind_eq_some_iff.mp H
   obtain ⟨t103,A130,H⟩:=H
   replace H : (if t103 = true then (some 0) else (some 5)) = some r:=H
   have A13:=z1.mk A130
   clear A130
   by_cases c14 : t103 = true
   · subst c14
     have H1 : (some 0) = some r:=by rw [if_pos rfl] at H;exact H
     clear H
     have H:=H1
     clear H1
     obtain rfl:=Option.some.inj H
     go_wp2_with (first|((with_reducible refine zi (f:=132) rfl ?_);refine goesL_ (some 26) rfl rfl Try.func132 zz90 rfl #[.int .i64 a0,.slice A1 l1.length c1] rfl zz48 ?_;(with_reducible refine (z1b.calls kj5 a0 _ _ l1 true _ ?side1 ?side2 A11.out).mono ?_);(case side1=>repeat (first|exact (Kd.z1r HR1.out HB.out)|(with_reducible refine Kd.zQ ?_ _)|(with_reducible refine Kd.zR ?_ _)|(with_reducible refine Kd.z1d ?_)));(case side2=>exact HC1.out);rintro e w15 ⟨rfl,hb⟩;refine ⟨_,rfl,?_⟩;have n0_:=z1.mk (z3 zz49 hb);clear HB;have HB:=n0_;clear n0_;(try clear hb);(try clear hb2);(try clear hk);(try clear hi))|(go_at_call 132;(with_reducible refine (z1b.calls kj5 a0 _ _ l2 true _ ?side1 ?side2 A13.out).mono ?_);(case side1=>repeat (first|exact (Kd.z1r HR2.out HB.out)|(with_reducible refine Kd.zQ ?_ _)|(with_reducible refine Kd.zR ?_ _)|(with_reducible refine Kd.z1d ?_)));(case side2=>exact HC2.out);rintro e w16 ⟨rfl,hb⟩;have n0_:=z1.mk (z3 zz49 hb);clear HB;have HB:=n0_;clear n0_;(try clear hb);(try clear hb2);(try clear hk);(try clear hi)))
     go_ret
     exact ⟨by first|rfl|(simp [zg,zh] <;> rfl)|(simp [*,zg,zh] <;> rfl),by repeat (first|(with_reducible first|exact HB.out|apply zd|apply z2|apply z9)|exact HB.out)⟩
   replace c14:=Bool.eq_false_iff.mpr c14
   subst c14
   have H1 : (some 5) = some r:=by rw [if_neg (show ¬ (false = true) by decide)] at H;exact H
   clear H
   have H:=H1
   clear H1
   obtain rfl:=Option.some.inj H
   go_wp2_with (first|((with_reducible refine zi (f:=132) rfl ?_);refine goesL_ (some 26) rfl rfl Try.func132 zz90 rfl #[.int .i64 a0,.slice A1 l1.length c1] rfl zz48 ?_;(with_reducible refine (z1b.calls kj5 a0 _ _ l1 true _ ?side1 ?side2 A11.out).mono ?_);(case side1=>repeat (first|exact (Kd.z1r HR1.out HB.out)|(with_reducible refine Kd.zQ ?_ _)|(with_reducible refine Kd.zR ?_ _)|(with_reducible refine Kd.z1d ?_)));(case side2=>exact HC1.out);rintro e w17 ⟨rfl,hb⟩;refine ⟨_,rfl,?_⟩;have n0_:=z1.mk (z3 zz49 hb);clear HB;have HB:=n0_;clear n0_;(try clear hb);(try clear hb2);(try clear hk);(try clear hi))|(go_at_call 132;(with_reducible refine (z1b.calls kj5 a0 _ _ l2 false _ ?side1 ?side2 A13.out).mono ?_);(case side1=>repeat (first|exact (Kd.z1r HR2.out HB.out)|(with_reducible refine Kd.zQ ?_ _)|(with_reducible refine Kd.zR ?_ _)|(with_reducible refine Kd.z1d ?_)));(case side2=>exact HC2.out);rintro e w18 ⟨rfl,hb⟩;have n0_:=z1.mk (z3 zz49 hb);clear HB;have HB:=n0_;clear n0_;(try clear hb);(try clear hb2);(try clear hk);(try clear hi)))
   go_ret
   exact ⟨by first|rfl|(simp [zg,zh] <;> rfl)|(simp [*,zg,zh] <;> rfl),by repeat (first|(with_reducible first|exact HB.out|apply zd|apply z2|apply z9)|exact HB.out)⟩
end Go.Proofs.Ytkhmpaooinpfoaa.P
namespace Go.Proofs.Ytkhmpaooinpfoaa.P
open Go.RowKit Go.Proofs.YtkhmpaooinpfoaaW.PrintWords Go.Proofs.YtkhmpaooinpfoaaW.PrintLast Go.Proofs.YtkhmpaooinpfoaaW.PrintMore
attribute [local go_sem] z12 z14 z1i z1j zU zV z13 z15   -- for this text's walks alone
set_option linter.unusedVariables false
set_option linter.unusedSimpArgs false
def z1g.f (k : Nat) (a0 : Int) (l1 : List (S30)) (l2 : List (S30)) : Option (Int × Int × Int):=(z1o.f k a0 l1 l2).bind fun t102=>(if t102 = 0 then ((zj.f k a0 l2).bind fun t103=>((zN.f k a0 t103 l1).bind fun bt106=>(some (bt106.1,bt106.2,0)))) else (some (0,0,t102)))
theorem z1g.mono : ∀ a0 a1 a2 k,LeO (z1g.f k a0 a1 a2) (z1g.f (k + 1) a0 a1 a2):=by
 intro a0 a1 a2 k
 unfold z1g.f
 repeat' first
  | (with_reducible exact zj.mono _ _ _)
  | (with_reducible exact z1o.mono _ _ _ _)
  | (with_reducible exact zN.mono _ _ _ _)
  | (with_reducible exact LeO.refl _)
  | (with_reducible exact LeO.none _)
  | (with_reducible refine LeO.ite ?_ ?_)
  | (with_reducible refine LeO.bind ?_ (fun _=>?_))
  | exact zj.mono _ _ _
  | exact z1o.mono _ _ _ _
  | exact zN.mono _ _ _ _
  | exact LeO.none _
  | refine LeO.ite ?_ ?_
  | refine LeO.bind ?_ (fun _=>?_)
set_option maxHeartbeats 8000000 in
set_option maxRecDepth 100000 in
theorem z1g.calls (k : Nat) (a0 : Int) (A1 : Option Addr) (c1 : Nat) (l1 : List (S30)) (A2 : Option Addr) (c2 : Nat) (l2 : List (S30)) (r1 : Int) (r2 : Int) (r3 : Int) (w : World) (hr1 : Kd.C k30 w A1 l1.length l1) (hc1 : l1.length ≤ c1) (hr2 : Kd.C k30 w A2 l2.length l2) (hc2 : l2.length ≤ c2) (h : z1g.f k a0 l1 l2 = some (r1,r2,r3)) :
 Calls Try.prog 55 #[.int .i64 a0,.slice A1 l1.length c1,.slice A2 l2.length c2] w fun e w'=>e = .returned (.tuple #[.agg #[.int .u64 r1,.int .u64 r2],.int .i64 r3]) ∧ Below w.heap.size w w':=by
 have hu30:=Try.underlying30
 have HR1:=z1.mk hr1
 have HC1:=z1.mk hc1
 clear hr1 hc1
 have HR2:=z1.mk hr2
 have HC2:=z1.mk hc2
 clear hr2 hc2
 have HB:=z1.mk (Below.refl w.heap.size w)
 have H : ((z1o.f k a0 l1 l2).bind fun t102=>(if t102 = 0 then ((zj.f k a0 l2).bind fun t103=>((zN.f k a0 t103 l1).bind fun bt106=>(some (bt106.1,bt106.2,0)))) else (some (0,0,t102)))) = some (r1,r2,r3):=h
 clear h
 replace H:=Option.bind_eq_some_iff.mp H
 obtain ⟨t102,A40,H⟩:=H
 replace H : (if t102 = 0 then ((zj.f k a0 l2).bind fun t103=>((zN.f k a0 t103 l1).bind fun bt106=>(some (bt106.1,bt106.2,0)))) else (some (0,0,t102))) = some (r1,r2,r3):=H
 have A4:=z1.mk A40
 clear A40
 by_cases c5 : t102 = 0
 rotate_left
 · rw [if_neg c5] at H
   have c5b0 : (t102 == 0) = false:=beq_eq_false_iff_ne.mpr c5
   have c5b1 : (t102 != 0) = true:=bne_iff_ne.mpr c5
   simp only [Option.some.injEq,Prod.mk.injEq] at H
   obtain ⟨rfl,rfl,rfl⟩:=H
   go_enter Try.func55,Try.ntmps55
   go_wp2_with (first|((with_reducible refine zp (N:=6) rfl ?_);refine zt ?hg (N:=6) ?hd (cs:=#[.int .u64 0,.int .u64 0]) (t:=30) ?hr ?_;(case hd=>rfl);(case hg=>rfl);(case hr=>first|(go_simp;done)|(go_simp;rfl));intro gb101 hg w14 hbox hb;have n0_:=z1.mk (z3 zz49 hb);have n1_:=z1.mk (hbox);have n2_:=z1.mk ((by rw [hg];exact (zb zz49) : w.heap.size ≤ gb101));have n3_:=z1.mk ((by rw [hg];exact (zb zz49) : w.heap.size ≤ gb101));clear HB;have HB:=n0_;have BK101:=n1_;have GW101:=n2_;have GE101:=n3_;clear n0_ n1_ n2_ n3_;clear hb hbox hg)|((with_reducible refine zi (f:=103) rfl ?_);refine goesL_ (some 12) rfl rfl Try.func103 zz90 rfl #[.int .i64 a0,.slice A1 l1.length c1,.slice A2 l2.length c2] rfl zz48 ?_;(with_reducible refine (z1o.calls k a0 _ _ l1 _ _ l2 t102 _ ?side1 ?side2 ?side3 ?side4 A4.out).mono ?_);(case side1=>repeat (first|exact (Kd.z1r HR1.out HB.out)|(with_reducible refine Kd.zQ ?_ _)|(with_reducible refine Kd.zR ?_ _)|(with_reducible refine Kd.z1d ?_)));(case side2=>exact HC1.out);(case side3=>repeat (first|exact (Kd.z1r HR2.out HB.out)|(with_reducible refine Kd.zQ ?_ _)|(with_reducible refine Kd.zR ?_ _)|(with_reducible refine Kd.z1d ?_)));(case side4=>exact HC2.out);rintro e w15 ⟨rfl,hb⟩;refine ⟨_,rfl,?_⟩;have n0_:=z1.mk (zc (g:=gb101) (o:=.cells #[.int .u64 0,.int .u64 0] 30 (0,0)) zz50 hb);have n1_:=z1.mk (z3 zz43 hb);clear BK101;clear HB;have BK101:=n0_;have HB:=n1_;clear n0_ n1_;(try clear hb);(try clear hb2);(try clear hk);(try clear hi);have hcz16_0 : w15.cell? ⟨gb101,0,none⟩ = some (.int .u64 0):=(z7 BK101.out 0).trans rfl;have hcz16_1 : w15.cell? ⟨gb101,1,none⟩ = some (.int .u64 0):=(z7 BK101.out 1).trans rfl;have hfz16_0:=z6 BK101.out 0;have hfz16_1:=z6 BK101.out 1))
   refine bodyPost_ret (z2p rfl _ _ gb101 30 #[.int .u64 0,.int .u64 0] (0,0) _ rfl zz9 Try.underlying30 rfl zz90) rfl ?_
   exact ⟨by first|rfl|(simp [zg,zh] <;> rfl)|(simp [*,zg,zh] <;> rfl),by repeat (first|(with_reducible first|exact HB.out|apply zd|apply z2|apply z9|refine za ?_ GE101.out)|exact HB.out)⟩
 rw [if_pos c5] at H
 have c5b0 : (t102 == 0) = true:=beq_iff_eq.mpr c5
 have c5b1 : (t102 != 0) = false:=bne_eq_false_iff_eq.mpr c5
 clear c5
 replace H:=Option.bind_eq_some_iff.mp H
 obtain ⟨t103,A60,H⟩:=H
 replace H : ((zN.f k a0 t103 l1).bind fun bt106=>(some (bt106.1,bt106.2,0))) = some (r1,r2,r3):=H
 have A6:=z1.mk A60
 clear A60
 replace H:=Option.bind_eq_some_iff.mp H
 obtain ⟨⟨t106,t107⟩,A70,H⟩:=H
 replace H : (some (t106,t107,0)) = some (r1,r2,r3):=H
 have A7:=z1.mk A70
 clear A70
 simp only [Option.some.injEq,Prod.mk.injEq] at H
 obtain ⟨rfl,rfl,rfl⟩:=H
 go_enter Try.func55,Try.ntmps55
 go_wp2_with (first|((with_reducible refine zp (N:=6) rfl ?_);refine zt ?hg (N:=6) ?hd (cs:=#[.int .u64 0,.int .u64 0]) (t:=30) ?hr ?_;(case hd=>rfl);(case hg=>rfl);(case hr=>first|(go_simp;done)|(go_simp;rfl));intro gb101 hg w8 hbox hb;have n0_:=z1.mk (z3 zz49 hb);have n1_:=z1.mk (hbox);have n2_:=z1.mk ((by rw [hg];exact (zb zz49) : w.heap.size ≤ gb101));have n3_:=z1.mk ((by rw [hg];exact (zb zz49) : w.heap.size ≤ gb101));clear HB;have HB:=n0_;have BK101:=n1_;have GW101:=n2_;have GE101:=n3_;clear n0_ n1_ n2_ n3_;clear hb hbox hg)|((with_reducible refine zi (f:=103) rfl ?_);refine goesL_ (some 12) rfl rfl Try.func103 zz90 rfl #[.int .i64 a0,.slice A1 l1.length c1,.slice A2 l2.length c2] rfl zz48 ?_;(with_reducible refine (z1o.calls k a0 _ _ l1 _ _ l2 t102 _ ?side1 ?side2 ?side3 ?side4 A4.out).mono ?_);(case side1=>repeat (first|exact (Kd.z1r HR1.out HB.out)|(with_reducible refine Kd.zQ ?_ _)|(with_reducible refine Kd.zR ?_ _)|(with_reducible refine Kd.z1d ?_)));(case side2=>exact HC1.out);(case side3=>repeat (first|exact (Kd.z1r HR2.out HB.out)|(with_reducible refine Kd.zQ ?_ _)|(with_reducible refine Kd.zR ?_ _)|(with_reducible refine Kd.z1d ?_)));(case side4=>exact HC2.out);rintro e w9 ⟨rfl,hb⟩;refine ⟨_,rfl,?_⟩;have n0_:=z1.mk (zc (g:=gb101) (o:=.cells #[.int .u64 0,.int .u64 0] 30 (0,0)) zz50 hb);have n1_:=z1.mk (z3 zz43 hb);clear BK101;clear HB;have BK101:=n0_;have HB:=n1_;clear n0_ n1_;(try clear hb);(try clear hb2);(try clear hk);(try clear hi))|((with_reducible refine zi (f:=65) rfl ?_);refine goesL_ (some 20) rfl rfl Try.func65 zz90 rfl #[.int .i64 a0,.slice A2 l2.length c2] rfl zz48 ?_;(with_reducible refine (zj.calls k a0 _ _ l2 t103 _ ?side1 ?side2 A6.out).mono ?_);(case side1=>repeat (first|exact (Kd.z1r HR2.out HB.out)|(with_reducible refine Kd.zQ ?_ _)|(with_reducible refine Kd.zR ?_ _)|(with_reducible refine Kd.z1d ?_)));(case side2=>exact HC2.out);rintro e w10 ⟨v104,rfl,ho0,hb⟩;refine ⟨_,rfl,?_⟩;have n0_:=z1.mk (Kd.z1h (Kd.z2d ho0 (g:=gb101) (o:=.cells #[.int .u64 0,.int .u64 0] 30 (0,0)) zz50) (zb zz43));have n1_:=z1.mk (zc (g:=gb101) (o:=.cells #[.int .u64 0,.int .u64 0] 30 (0,0)) zz50 hb);have n2_:=z1.mk (z3 zz43 hb);clear BK101;clear HB;have HO105:=n0_;have BK101:=n1_;have HB:=n2_;clear n0_ n1_ n2_;(try clear hb);(try clear hb2);(try clear hk);(try clear hi);(try clear ho0);obtain ⟨Ao11,co11,eo11⟩:=Kd.z1q HO105.out;subst eo11)|((with_reducible refine zi (f:=37) rfl ?_);refine goesL_ (some 22) rfl rfl Try.func37 zz90 rfl #[.int .i64 a0,.slice Ao11 t103.length co11,.slice A1 l1.length c1] rfl zz48 ?_;(with_reducible refine (zN.calls k a0 _ _ t103 _ _ l1 t106 t107 _ ?side1 ?side2 ?side3 ?side4 A7.out).mono ?_);(case side1=>repeat (first|exact (Kd.zs HO105.out).2.2|(with_reducible refine Kd.zQ ?_ _)|(with_reducible refine Kd.zR ?_ _)|(with_reducible refine Kd.z1d ?_)));(case side2=>exact (Kd.zs HO105.out).2.1);(case side3=>repeat (first|exact (Kd.z1r HR1.out HB.out)|(with_reducible refine Kd.zQ ?_ _)|(with_reducible refine Kd.zR ?_ _)|(with_reducible refine Kd.z1d ?_)));(case side4=>exact HC1.out);rintro e w12 ⟨rfl,hb⟩;refine ⟨_,rfl,?_⟩;have n0_:=z1.mk (Kd.zq (by (with_reducible repeat (first|apply Kd.zI|apply Kd.zJ|apply Kd.zT));exact HO105.out) hb);have n1_:=z1.mk (zc (g:=gb101) (o:=.cells #[.int .u64 0,.int .u64 0] 30 (0,0)) zz50 hb);have n2_:=z1.mk (z3 zz43 hb);clear HO105;clear BK101;clear HB;have HO105:=n0_;have BK101:=n1_;have HB:=n2_;clear n0_ n1_ n2_;(try clear hb);(try clear hb2);(try clear hk);(try clear hi);have hcz13_0 : w12.cell? ⟨gb101,0,none⟩ = some (.int .u64 0):=(z7 BK101.out 0).trans rfl;have hcz13_1 : w12.cell? ⟨gb101,1,none⟩ = some (.int .u64 0):=(z7 BK101.out 1).trans rfl;have hfz13_0:=z6 BK101.out 0;have hfz13_1:=z6 BK101.out 1))
 refine bodyPost_ret (z2p rfl _ _ gb101 30 #[.int .u64 t106,.int .u64 t107] (0,0) _ rfl (by (with_reducible repeat (first|refine z5 ?_ _|refine z8 ?_|refine z4 ?_ _));refine zX (cs:=#[.int .u64 t106,.int .u64 0]) ?_ 1 _ rfl;(with_reducible repeat (first|refine z5 ?_ _|refine z8 ?_|refine z4 ?_ _));refine zX (cs:=#[.int .u64 0,.int .u64 0]) ?_ 0 _ rfl;(with_reducible repeat (first|refine z5 ?_ _|refine z8 ?_|refine z4 ?_ _));exact BK101.out) Try.underlying30 rfl zz90) rfl ?_
 exact ⟨by first|rfl|(simp [zg,zh] <;> rfl)|(simp [*,zg,zh] <;> rfl),by repeat (first|(with_reducible first|exact HB.out|apply zd|apply z2|apply z9|refine za ?_ GE101.out)|exact HB.out)⟩
end Go.Proofs.Ytkhmpaooinpfoaa.P
namespace Go.Proofs.Ytkhmpaooinpfoaa.P
open Go.RowKit Go.Proofs.YtkhmpaooinpfoaaW.PrintWords Go.Proofs.YtkhmpaooinpfoaaW.PrintLast Go.Proofs.YtkhmpaooinpfoaaW.PrintMore
attribute [local go_sem] z12 z14 z1i z1j zU zV z13 z15   -- for this text's walks alone
set_option linter.unusedVariables false
set_option linter.unusedSimpArgs false
def z1p.l0 : Nat → Int → Int → Option (Int)
 | 0,_,_=>none
 | k + 1,x0,x4=>if x4 < 17 then (if 0 ≤ x4 then (if x0 = (shl .i64 1 x4) then (some x4) else (z1p.l0 k x0 (wrap64 (x4 + 1)))) else (none)) else (some (-1))
def z1p.f (k : Nat) (a0 : Int) : Option (Int):=z1p.l0 k a0 0
theorem z1p.z17 : ∀ k,(∀ y0 y1,LeO (z1p.l0 k y0 y1) (z1p.l0 (k + 1) y0 y1))
 | 0=>fun _ _ r h=>by simp [z1p.l0] at h
 | k + 1=>by
  have ih0:=z1p.z17 k
  · intro y0 y1
    unfold z1p.l0
    repeat' first
    | (with_reducible exact ih0 _ _)
    | (with_reducible exact LeO.refl _)
    | (with_reducible exact LeO.none _)
    | (with_reducible refine LeO.ite ?_ ?_)
    | (with_reducible refine LeO.bind ?_ (fun _=>?_))
    | exact ih0 _ _
    | exact LeO.none _
    | refine LeO.ite ?_ ?_
    | refine LeO.bind ?_ (fun _=>?_)
theorem z1p.mono : ∀ a0 k,LeO (z1p.f k a0) (z1p.f (k + 1) a0):=by
 intro a0 k
 have ih0:=z1p.z17 k
 unfold z1p.f
 repeat' first
  | (with_reducible exact ih0 _ _)
  | (with_reducible exact LeO.refl _)
  | (with_reducible exact LeO.none _)
  | (with_reducible refine LeO.ite ?_ ?_)
  | (with_reducible refine LeO.bind ?_ (fun _=>?_))
  | exact ih0 _ _
  | exact LeO.none _
  | refine LeO.ite ?_ ?_
  | refine LeO.bind ?_ (fun _=>?_)
set_option maxHeartbeats 8000000 in
set_option maxRecDepth 100000 in
theorem z1p.calls (k : Nat) (a0 : Int) (r : Int) (w : World) (h : z1p.f k a0 = some r) :
 Calls Try.prog 86 #[.int .i64 a0] w fun e w'=>e = .returned (.int .i64 r) ∧ Drawn0 w w':=by
 have H : (z1p.l0 k a0 0) = some r:=h
 clear h
 have H':=z1.mk H
 clear H
 go_enter Try.func86,Try.ntmps86
 go_wp2
 go_loopg [4] k (fun kq v4 w'=>∃ (x4_1 : Int),v4 = .int .i64 x4_1 ∧ z1 (z1p.l0 kq a0 x4_1 = some r) ∧ z1 (kq ≤ k) ∧ Drawn0 w w')
 case atStart=>exact ⟨(0),zz86,H',⟨Nat.le_refl _⟩,by repeat (first|exact Drawn0.refl _|apply Drawn0.step)⟩
 case round =>
  clear H'
  obtain ⟨x4_1,rfl,HA,HK1,⟨m1,rfl⟩⟩:=hrel
  cases gk with
  | zero=>exact absurd HA.out (by simp [z1p.l0])
  | succ k1 =>
   have H:=HA.out
   clear HA
   simp only [z1p.l0] at H
   by_cases c2 : x4_1 < 17
   rotate_left
   · rw [if_neg c2] at H
     have c2b0 : decide (x4_1 < 17) = false:=decide_eq_false c2
     clear c2
     obtain rfl:=Option.some.inj H
     go_wp2
     go_ret
     exact ⟨by first|rfl|(simp;done)|(simp [*];done),by repeat (first|exact Drawn0.refl _|apply Drawn0.step)⟩
   rw [if_pos c2] at H
   have c2b0 : decide (x4_1 < 17) = true:=decide_eq_true c2
   clear c2
   by_cases c3 : 0 ≤ x4_1
   rotate_left
   · rw [if_neg c3] at H
     exact absurd H zz93
   rw [if_pos c3] at H
   have c3b0:=eq_true c3
   have c3b1 : decide (0 ≤ x4_1) = true:=decide_eq_true c3
   clear c3
   obtain ⟨ji4,hji4⟩ : ∃ j_ : Int,(shl .i64 1 x4_1) = j_:=⟨_,rfl⟩
   replace H : (if a0 = (ji4) then (some x4_1) else (z1p.l0 k1 a0 (wrap64 (x4_1 + 1)))) = some r:=by first|(rw [hji4] at H;exact H)|(simp only [hji4] at H ⊢;exact H)
   have hji4_ : (IntKind.i64.wrap (1 * 2 ^ min x4_1.toNat 64)) = ji4:=hji4
   have hji4z : x4_1 ≤ 64 → (IntKind.i64.wrap (1 * 2 ^ x4_1.toNat)) = ji4:=z1K hji4
   have hji4u : (IntKind.i64.wrap (2 ^ min x4_1.toNat 64)) = ji4:=by have h_:=hji4_;rw [Int.one_mul] at h_;exact h_
   have hji4v : x4_1 ≤ 64 → (IntKind.i64.wrap (2 ^ x4_1.toNat)) = ji4:=fun hle_=>by have h_:=hji4z hle_;rw [Int.one_mul] at h_;exact h_
   have hji4y : (wrap64 (1 * 2 ^ min x4_1.toNat 64)) = ji4:=(zH _).symm.trans hji4_
   have hji4x : x4_1 ≤ 64 → (wrap64 (1 * 2 ^ x4_1.toNat)) = ji4:=fun h_=>(zH _).symm.trans (hji4z h_)
   by_cases c5 : a0 = (ji4)
   · rw [if_pos c5] at H
     have c5b0 : (a0 == (ji4)) = true:=beq_iff_eq.mpr c5
     have c5b1 : (a0 != (ji4)) = false:=bne_eq_false_iff_eq.mpr c5
     clear c5
     obtain rfl:=Option.some.inj H
     go_wp2
     go_ret
     exact ⟨by first|rfl|(simp;done)|(simp only [← hji4] <;> (first|rfl|simp))|(simp [*];done),by repeat (first|exact Drawn0.refl _|apply Drawn0.step)⟩
   rw [if_neg c5] at H
   have c5b0 : (a0 == (ji4)) = false:=beq_eq_false_iff_ne.mpr c5
   have c5b1 : (a0 != (ji4)) = true:=bne_iff_ne.mpr c5
   have H':=z1.mk H
   clear H
   go_wp2
   go_roundg k1
   case measure=>have:=HK1.out;omega
   case rel=>exact ⟨(wrap64 (x4_1 + 1)),zz86,H',⟨by have:=HK1.out;omega⟩,by repeat (first|exact Drawn0.refl _|apply Drawn0.step)⟩
end Go.Proofs.Ytkhmpaooinpfoaa.P
namespace Go.Proofs.Ytkhmpaooinpfoaa.P
open Go.RowKit Go.Proofs.YtkhmpaooinpfoaaW.PrintWords Go.Proofs.YtkhmpaooinpfoaaW.PrintLast Go.Proofs.YtkhmpaooinpfoaaW.PrintMore
attribute [local go_sem] z12 z14 z1i z1j zU zV z13 z15   -- for this text's walks alone
set_option linter.unusedVariables false
set_option linter.unusedSimpArgs false
def z1X.f (k : Nat) (a0 : Int) (l1 : List Bool) : Option (Int):=(zx.f k a0).bind fun t101=>(if t101 = 0 then (some 1) else ((z1p.f k (l1.length : Int)).bind fun t102=>(if t102 < a0 then (some 6) else (if t102 > 12 then (some 6) else (some 0)))))
theorem z1X.mono : ∀ a0 a1 k,LeO (z1X.f k a0 a1) (z1X.f (k + 1) a0 a1):=by
 intro a0 a1 k
 unfold z1X.f
 repeat' first
  | (with_reducible exact z1p.mono _ _)
  | (with_reducible exact zx.mono _ _)
  | (with_reducible exact LeO.refl _)
  | (with_reducible exact LeO.none _)
  | (with_reducible refine LeO.ite ?_ ?_)
  | (with_reducible refine LeO.bind ?_ (fun _=>?_))
  | exact z1p.mono _ _
  | exact zx.mono _ _
  | exact LeO.none _
  | refine LeO.ite ?_ ?_
  | refine LeO.bind ?_ (fun _=>?_)
set_option maxHeartbeats 8000000 in
set_option maxRecDepth 100000 in
theorem z1X.calls (k : Nat) (a0 : Int) (A1 : Option Addr) (c1 : Nat) (l1 : List Bool) (r : Int) (w : World) (hr1 : Kd.C Kd.bool w A1 l1.length l1) (hc1 : l1.length ≤ c1) (h : z1X.f k a0 l1 = some r) :
 Calls Try.prog 131 #[.int .i64 a0,.slice A1 l1.length c1] w fun e w'=>e = .returned (.int .i64 r) ∧ Drawn0 w w':=by
 have HR1:=z1.mk hr1
 have HC1:=z1.mk hc1
 clear hr1 hc1
 have H : ((zx.f k a0).bind fun t101=>(if t101 = 0 then (some 1) else ((z1p.f k (l1.length : Int)).bind fun t102=>(if t102 < a0 then (some 6) else (if t102 > 12 then (some 6) else (some 0)))))) = some r:=h
 clear h
 replace H:=Option.bind_eq_some_iff.mp H
 obtain ⟨t101,A30,H⟩:=H
 replace H : (if t101 = 0 then (some 1) else ((z1p.f k (l1.length : Int)).bind fun t102=>(if t102 < a0 then (some 6) else (if t102 > 12 then (some 6) else (some 0))))) = some r:=H
 have A3:=z1.mk A30
 clear A30
 by_cases c4 : t101 = 0
 · rw [if_pos c4] at H
   have c4b0 : (t101 == 0) = true:=beq_iff_eq.mpr c4
   have c4b1 : (t101 != 0) = false:=bne_eq_false_iff_eq.mpr c4
   clear c4
   obtain rfl:=Option.some.inj H
   go_enter Try.func131,Try.ntmps131
   go_wp2_with (first|((with_reducible refine zi (f:=60) rfl ?_);refine goesL_ (some 7) rfl rfl Try.func60 zz90 rfl #[.int .i64 a0] rfl zz48 ?_;(with_reducible refine (zx.calls k a0 t101 _ A3.out).mono ?_);rintro e w' ⟨rfl,⟨nd,rfl⟩⟩;refine ⟨_,rfl,?_⟩))
   go_ret
   exact ⟨by first|rfl|(simp;done)|(simp [*];done),by repeat (first|exact Drawn0.refl _|apply Drawn0.step)⟩
 rw [if_neg c4] at H
 have c4b0 : (t101 == 0) = false:=beq_eq_false_iff_ne.mpr c4
 have c4b1 : (t101 != 0) = true:=bne_iff_ne.mpr c4
 replace H:=Option.bind_eq_some_iff.mp H
 obtain ⟨t102,A50,H⟩:=H
 replace H : (if t102 < a0 then (some 6) else (if t102 > 12 then (some 6) else (some 0))) = some r:=H
 have A5:=z1.mk A50
 clear A50
 by_cases c6 : t102 < a0
 · rw [if_pos c6] at H
   have c6b0 : decide (t102 < a0) = true:=decide_eq_true c6
   clear c6
   obtain rfl:=Option.some.inj H
   go_enter Try.func131,Try.ntmps131
   go_wp2_with (first|((with_reducible refine zi (f:=60) rfl ?_);refine goesL_ (some 7) rfl rfl Try.func60 zz90 rfl #[.int .i64 a0] rfl zz48 ?_;(with_reducible refine (zx.calls k a0 t101 _ A3.out).mono ?_);rintro e w' ⟨rfl,⟨nd,rfl⟩⟩;refine ⟨_,rfl,?_⟩)|((with_reducible refine zi (f:=86) rfl ?_);refine goesL_ (some 11) rfl rfl Try.func86 zz90 rfl #[.int .i64 (l1.length : Int)] rfl zz48 ?_;(with_reducible refine (z1p.calls k (l1.length : Int) t102 _ A5.out).mono ?_);rintro e w' ⟨rfl,⟨nd,rfl⟩⟩;refine ⟨_,rfl,?_⟩))
   go_ret
   exact ⟨by first|rfl|(simp;done)|(simp [*];done),by repeat (first|exact Drawn0.refl _|apply Drawn0.step)⟩
 rw [if_neg c6] at H
 have c6b0 : decide (t102 < a0) = false:=decide_eq_false c6
 clear c6
 by_cases c7 : t102 > 12
 · rw [if_pos c7] at H
   have c7b0 : decide (12 < t102) = true:=decide_eq_true c7
   clear c7
   obtain rfl:=Option.some.inj H
   go_enter Try.func131,Try.ntmps131
   go_wp2_with (first|((with_reducible refine zi (f:=60) rfl ?_);refine goesL_ (some 7) rfl rfl Try.func60 zz90 rfl #[.int .i64 a0] rfl zz48 ?_;(with_reducible refine (zx.calls k a0 t101 _ A3.out).mono ?_);rintro e w' ⟨rfl,⟨nd,rfl⟩⟩;refine ⟨_,rfl,?_⟩)|((with_reducible refine zi (f:=86) rfl ?_);refine goesL_ (some 11) rfl rfl Try.func86 zz90 rfl #[.int .i64 (l1.length : Int)] rfl zz48 ?_;(with_reducible refine (z1p.calls k (l1.length : Int) t102 _ A5.out).mono ?_);rintro e w' ⟨rfl,⟨nd,rfl⟩⟩;refine ⟨_,rfl,?_⟩))
   go_ret
   exact ⟨by first|rfl|(simp;done)|(simp [*];done),by repeat (first|exact Drawn0.refl _|apply Drawn0.step)⟩
 rw [if_neg c7] at H
 have c7b0 : decide (12 < t102) = false:=decide_eq_false c7
 clear c7
 obtain rfl:=Option.some.inj H
 go_enter Try.func131,Try.ntmps131
 go_wp2_with (first|((with_reducible refine zi (f:=60) rfl ?_);refine goesL_ (some 7) rfl rfl Try.func60 zz90 rfl #[.int .i64 a0] rfl zz48 ?_;(with_reducible refine (zx.calls k a0 t101 _ A3.out).mono ?_);rintro e w' ⟨rfl,⟨nd,rfl⟩⟩;refine ⟨_,rfl,?_⟩)|((with_reducible refine zi (f:=86) rfl ?_);refine goesL_ (some 11) rfl rfl Try.func86 zz90 rfl #[.int .i64 (l1.length : Int)] rfl zz48 ?_;(with_reducible refine (z1p.calls k (l1.length : Int) t102 _ A5.out).mono ?_);rintro e w' ⟨rfl,⟨nd,rfl⟩⟩;refine ⟨_,rfl,?_⟩))
 go_ret
 exact ⟨by first|rfl|(simp;done)|(simp [*];done),by repeat (first|exact Drawn0.refl _|apply Drawn0.step)⟩
end Go.Proofs.Ytkhmpaooinpfoaa.P
namespace Go.Proofs.Ytkhmpaooinpfoaa.P
open Go.RowKit Go.Proofs.YtkhmpaooinpfoaaW.PrintWords Go.Proofs.YtkhmpaooinpfoaaW.PrintLast Go.Proofs.YtkhmpaooinpfoaaW.PrintMore
attribute [local go_sem] z12 z14 z1i z1j zU zV z13 z15   -- for this text's walks alone
set_option linter.unusedVariables false
set_option linter.unusedSimpArgs false
mutual
def zB.l0 : Nat → Int → List Bool → List (S30) → List (S30) → Int → Int → Option ((List (S30)) × Int)
 | 0,_,_,_,_,_,_=>none
 | k + 1,x0,x1,x9,x39,x40,x41=>if x41 < x40 then (if 0 ≤ x41 then (if x41 < (x39.length : Int) then (zB.l1 k x0 x1 x9 x41 x39 x40 x41 (x9.length : Int) 0 ((rd_T30 x39 x41).f0) ((rd_T30 x39 x41).f1)) else (none)) else (none)) else (some (x9,0))
def zB.l1 : Nat → Int → List Bool → List (S30) → Int → List (S30) → Int → Int → Int → Int → Int → Int → Option ((List (S30)) × Int)
 | 0,_,_,_,_,_,_,_,_,_,_,_=>none
 | k + 1,x0,x1,x9,x10,x39,x40,x41,x47,x48,x112000,x112001=>if x48 < x47 then (if 0 ≤ x0 then (if 0 ≤ (wrap64 ((shl .i64 x10 x0) + x48)) then (if (wrap64 ((shl .i64 x10 x0) + x48)) < (x1.length : Int) then (if rdOf false x1 (wrap64 ((shl .i64 x10 x0) + x48)) = true then (if 0 ≤ x48 then (if x48 < (x9.length : Int) then ((z1t.f ((rd_T30 x9 x48).f0) ((rd_T30 x9 x48).f1) x112000 x112001).bind fun bt114=>(zB.l1 k x0 x1 (x9.set (x48 : Int).toNat (⟨bt114.1,bt114.2⟩ : S30)) x10 x39 x40 x41 x47 (wrap64 (x48 + 1)) x112000 x112001)) else (none)) else (none)) else (zB.l1 k x0 x1 x9 x10 x39 x40 x41 x47 (wrap64 (x48 + 1)) x112000 x112001)) else (none)) else (none)) else (none)) else (zB.l0 k x0 x1 x9 x39 x40 (wrap64 (x41 + 1)))
end
def zB.f (k : Nat) (a0 : Int) (l1 : List Bool) (l2 : List (S30)) : Option ((List (S30)) × Int):=(z1X.f k a0 l1).bind fun t101=>(if t101 = 0 then ((z1p.f k (l1.length : Int)).bind fun t102=>(if (l2.length : Int) = (wrap64 (t102 - a0)) then ((z1b.f k a0 l2).bind fun t103=>(if t103 = true then (if 0 ≤ a0 then (if 0 ≤ (shl .i64 1 a0) then (if (shl .i64 1 a0 : Int).toNat ≤ 17592186044416 then ((zj.f k a0 l2).bind fun t107=>(zB.l0 k a0 l1 (List.replicate (shl .i64 1 a0 : Int).toNat z30) t107 (t107.length : Int) 0)) else (none)) else (none)) else (none)) else (some (([] : List (S30)),5)))) else (some (([] : List (S30)),6)))) else (some (([] : List (S30)),t101)))
theorem zB.z17 : ∀ k,(∀ y0 y1 y2 y3 y4 y5,LeO (zB.l0 k y0 y1 y2 y3 y4 y5) (zB.l0 (k + 1) y0 y1 y2 y3 y4 y5)) ∧ (∀ y0 y1 y2 y3 y4 y5 y6 y7 y8 y9 y10,LeO (zB.l1 k y0 y1 y2 y3 y4 y5 y6 y7 y8 y9 y10) (zB.l1 (k + 1) y0 y1 y2 y3 y4 y5 y6 y7 y8 y9 y10))
 | 0=>⟨fun _ _ _ _ _ _ r h=>by simp [zB.l0] at h,fun _ _ _ _ _ _ _ _ _ _ _ r h=>by simp [zB.l1] at h⟩
 | k + 1=>by
  obtain ⟨ih0,ih1⟩:=zB.z17 k
  refine ⟨?_,?_⟩
  · intro y0 y1 y2 y3 y4 y5
    unfold zB.l0
    repeat' first
    | (with_reducible exact ih0 _ _ _ _ _ _)
    | (with_reducible exact ih1 _ _ _ _ _ _ _ _ _ _ _)
    | (with_reducible exact z1p.mono _ _)
    | (with_reducible exact zj.mono _ _ _)
    | (with_reducible exact z1X.mono _ _ _)
    | (with_reducible exact z1b.mono _ _ _)
    | (with_reducible exact LeO.refl _)
    | (with_reducible exact LeO.none _)
    | (with_reducible refine LeO.ite ?_ ?_)
    | (with_reducible refine LeO.bind ?_ (fun _=>?_))
    | exact ih0 _ _ _ _ _ _
    | exact ih1 _ _ _ _ _ _ _ _ _ _ _
    | exact z1p.mono _ _
    | exact zj.mono _ _ _
    | exact z1X.mono _ _ _
    | exact z1b.mono _ _ _
    | exact LeO.none _
    | refine LeO.ite ?_ ?_
    | refine LeO.bind ?_ (fun _=>?_)
  · intro y0 y1 y2 y3 y4 y5 y6 y7 y8 y9 y10
    unfold zB.l1
    repeat' first
    | (with_reducible exact ih0 _ _ _ _ _ _)
    | (with_reducible exact ih1 _ _ _ _ _ _ _ _ _ _ _)
    | (with_reducible exact z1p.mono _ _)
    | (with_reducible exact zj.mono _ _ _)
    | (with_reducible exact z1X.mono _ _ _)
    | (with_reducible exact z1b.mono _ _ _)
    | (with_reducible exact LeO.refl _)
    | (with_reducible exact LeO.none _)
    | (with_reducible refine LeO.ite ?_ ?_)
    | (with_reducible refine LeO.bind ?_ (fun _=>?_))
    | exact ih0 _ _ _ _ _ _
    | exact ih1 _ _ _ _ _ _ _ _ _ _ _
    | exact z1p.mono _ _
    | exact zj.mono _ _ _
    | exact z1X.mono _ _ _
    | exact z1b.mono _ _ _
    | exact LeO.none _
    | refine LeO.ite ?_ ?_
    | refine LeO.bind ?_ (fun _=>?_)
theorem zB.mono : ∀ a0 a1 a2 k,LeO (zB.f k a0 a1 a2) (zB.f (k + 1) a0 a1 a2):=by
 intro a0 a1 a2 k
 obtain ⟨ih0,ih1⟩:=zB.z17 k
 unfold zB.f
 repeat' first
  | (with_reducible exact ih0 _ _ _ _ _ _)
  | (with_reducible exact ih1 _ _ _ _ _ _ _ _ _ _ _)
  | (with_reducible exact z1p.mono _ _)
  | (with_reducible exact zj.mono _ _ _)
  | (with_reducible exact z1X.mono _ _ _)
  | (with_reducible exact z1b.mono _ _ _)
  | (with_reducible exact LeO.refl _)
  | (with_reducible exact LeO.none _)
  | (with_reducible refine LeO.ite ?_ ?_)
  | (with_reducible refine LeO.bind ?_ (fun _=>?_))
  | exact ih0 _ _ _ _ _ _
  | exact ih1 _ _ _ _ _ _ _ _ _ _ _
  | exact z1p.mono _ _
  | exact zj.mono _ _ _
  | exact z1X.mono _ _ _
  | exact z1b.mono _ _ _
  | exact LeO.none _
  | refine LeO.ite ?_ ?_
  | refine LeO.bind ?_ (fun _=>?_)
def zB.T16 : Bool × List (List Nat × List Nat):=(true,[([],[]),([],[]),([],[]),([],[]),([2,3],[2,3]),([4],[4]),([],[]),([5,6],[5,6]),([0,1,0,1,2,3,4,5,6,7],[0,1]),([8,7,7,0,1,2,3,4,5,6,7],[7,8])])
def zB.B16 : List Nat:=[0,0,0,0,12,28,0,124,255,511]
theorem zB.tab16 : rtab .any (opsOf Try.f101 16) = zB.T16:=by kernel_rfl
theorem zB.bits16 : waitsOk zB.T16.2 zB.B16 = true:=by kernel_rfl
set_option maxHeartbeats 8000000 in
set_option maxRecDepth 100000 in
theorem zB.calls (k : Nat) (a0 : Int) (A1 : Option Addr) (c1 : Nat) (l1 : List Bool) (A2 : Option Addr) (c2 : Nat) (l2 : List (S30)) (r1 : List (S30)) (r2 : Int) (w : World) (hr1 : Kd.C Kd.bool w A1 l1.length l1) (hc1 : l1.length ≤ c1) (hr2 : Kd.C k30 w A2 l2.length l2) (hc2 : l2.length ≤ c2) (h : zB.f k a0 l1 l2 = some (r1,r2)) :
 Calls Try.prog 101 #[.int .i64 a0,.slice A1 l1.length c1,.slice A2 l2.length c2] w fun e w'=>∃ v0_ : Value,e = .returned (.tuple #[v0_,.int .i64 r2]) ∧ Kd.R k30 30 w' w.heap.size (fun _=>True) v0_ r1 ∧ Below w.heap.size w w':=by
 have hu30:=Try.underlying30
 have HR1:=z1.mk hr1
 have HC1:=z1.mk hc1
 clear hr1 hc1
 have HR2:=z1.mk hr2
 have HC2:=z1.mk hc2
 clear hr2 hc2
 have HB:=z1.mk (Below.refl w.heap.size w)
 have H : ((z1X.f k a0 l1).bind fun t101=>(if t101 = 0 then ((z1p.f k (l1.length : Int)).bind fun t102=>(if (l2.length : Int) = (wrap64 (t102 - a0)) then ((z1b.f k a0 l2).bind fun t103=>(if t103 = true then (if 0 ≤ a0 then (if 0 ≤ (shl .i64 1 a0) then (if (shl .i64 1 a0 : Int).toNat ≤ 17592186044416 then ((zj.f k a0 l2).bind fun t107=>(zB.l0 k a0 l1 (List.replicate (shl .i64 1 a0 : Int).toNat z30) t107 (t107.length : Int) 0)) else (none)) else (none)) else (none)) else (some (([] : List (S30)),5)))) else (some (([] : List (S30)),6)))) else (some (([] : List (S30)),t101)))) = some (r1,r2):=h
 clear h
 replace H:=Option.bind_eq_some_iff.mp H
 obtain ⟨t101,A40,H⟩:=H
 replace H : (if t101 = 0 then ((z1p.f k (l1.length : Int)).bind fun t102=>(if (l2.length : Int) = (wrap64 (t102 - a0)) then ((z1b.f k a0 l2).bind fun t103=>(if t103 = true then (if 0 ≤ a0 then (if 0 ≤ (shl .i64 1 a0) then (if (shl .i64 1 a0 : Int).toNat ≤ 17592186044416 then ((zj.f k a0 l2).bind fun t107=>(zB.l0 k a0 l1 (List.replicate (shl .i64 1 a0 : Int).toNat z30) t107 (t107.length : Int) 0)) else (none)) else (none)) else (none)) else (some (([] : List (S30)),5)))) else (some (([] : List (S30)),6)))) else (some (([] : List (S30)),t101))) = some (r1,r2):=H
 have A4:=z1.mk A40
 clear A40
 by_cases c5 : t101 = 0
 rotate_left
 · rw [if_neg c5] at H
   have c5b0 : (t101 == 0) = false:=beq_eq_false_iff_ne.mpr c5
   have c5b1 : (t101 != 0) = true:=bne_iff_ne.mpr c5
   simp only [Option.some.injEq,Prod.mk.injEq] at H
   obtain ⟨rfl,rfl⟩:=H
   go_enter Try.func101,Try.ntmps101
   go_wp2_with (first|((with_reducible refine zi (f:=131) rfl ?_);refine goesL_ (some 15) rfl rfl Try.func131 zz90 rfl #[.int .i64 a0,.slice A1 l1.length c1] rfl zz48 ?_;(with_reducible refine (z1X.calls k a0 _ _ l1 t101 _ ?side1 ?side2 A4.out).mono ?_);(case side1=>repeat (first|exact HR1.out|(with_reducible refine Kd.zQ ?_ _)|(with_reducible refine Kd.zR ?_ _)|(with_reducible refine Kd.z1d ?_)));(case side2=>exact HC1.out);rintro e w' ⟨rfl,⟨nd,rfl⟩⟩;refine ⟨_,rfl,?_⟩))
   go_ret2
   exact ⟨_,by first|rfl|(simp [zg,zh] <;> rfl)|(simp [*,zg,zh] <;> rfl),by first|exact Kd.z2W _ _ _ _ _|exact Kd.z3k _ _ _ _ _|exact Kd.z3p _ _ _ _ _|exact Kd.z3m _ _ _ _ _|exact Kd.z3o _ _ _ _ _,by repeat (first|(with_reducible first|exact HB.out|apply zd|apply z2|apply z9)|exact HB.out)⟩
 rw [if_pos c5] at H
 have c5b0 : (t101 == 0) = true:=beq_iff_eq.mpr c5
 have c5b1 : (t101 != 0) = false:=bne_eq_false_iff_eq.mpr c5
 clear c5
 replace H:=Option.bind_eq_some_iff.mp H
 obtain ⟨t102,A60,H⟩:=H
 replace H : (if (l2.length : Int) = (wrap64 (t102 - a0)) then ((z1b.f k a0 l2).bind fun t103=>(if t103 = true then (if 0 ≤ a0 then (if 0 ≤ (shl .i64 1 a0) then (if (shl .i64 1 a0 : Int).toNat ≤ 17592186044416 then ((zj.f k a0 l2).bind fun t107=>(zB.l0 k a0 l1 (List.replicate (shl .i64 1 a0 : Int).toNat z30) t107 (t107.length : Int) 0)) else (none)) else (none)) else (none)) else (some (([] : List (S30)),5)))) else (some (([] : List (S30)),6))) = some (r1,r2):=H
 have A6:=z1.mk A60
 clear A60
 by_cases c7 : (l2.length : Int) = (wrap64 (t102 - a0))
 rotate_left
 · rw [if_neg c7] at H
   have c7b0 : ((l2.length : Int) == (wrap64 (t102 - a0))) = false:=beq_eq_false_iff_ne.mpr c7
   have c7b1 : ((l2.length : Int) != (wrap64 (t102 - a0))) = true:=bne_iff_ne.mpr c7
   simp only [Option.some.injEq,Prod.mk.injEq] at H
   obtain ⟨rfl,rfl⟩:=H
   go_enter Try.func101,Try.ntmps101
   go_wp2_with (first|((with_reducible refine zi (f:=131) rfl ?_);refine goesL_ (some 15) rfl rfl Try.func131 zz90 rfl #[.int .i64 a0,.slice A1 l1.length c1] rfl zz48 ?_;(with_reducible refine (z1X.calls k a0 _ _ l1 t101 _ ?side1 ?side2 A4.out).mono ?_);(case side1=>repeat (first|exact HR1.out|(with_reducible refine Kd.zQ ?_ _)|(with_reducible refine Kd.zR ?_ _)|(with_reducible refine Kd.z1d ?_)));(case side2=>exact HC1.out);rintro e w' ⟨rfl,⟨nd,rfl⟩⟩;refine ⟨_,rfl,?_⟩)|((with_reducible refine zi (f:=86) rfl ?_);refine goesL_ (some 25) rfl rfl Try.func86 zz90 rfl #[.int .i64 (l1.length : Int)] rfl zz48 ?_;(with_reducible refine (z1p.calls k (l1.length : Int) t102 _ A6.out).mono ?_);rintro e w' ⟨rfl,⟨nd,rfl⟩⟩;refine ⟨_,rfl,?_⟩))
   go_ret2
   exact ⟨_,by first|rfl|(simp [zg,zh] <;> rfl)|(simp [*,zg,zh] <;> rfl),by first|exact Kd.z2W _ _ _ _ _|exact Kd.z3k _ _ _ _ _|exact Kd.z3p _ _ _ _ _|exact Kd.z3m _ _ _ _ _|exact Kd.z3o _ _ _ _ _,by repeat (first|(with_reducible first|exact HB.out|apply zd|apply z2|apply z9)|exact HB.out)⟩
 rw [if_pos c7] at H
 have c7b0 : ((l2.length : Int) == (wrap64 (t102 - a0))) = true:=beq_iff_eq.mpr c7
 have c7b1 : ((l2.length : Int) != (wrap64 (t102 - a0))) = false:=bne_eq_false_iff_eq.mpr c7
 clear c7
 replace H:=Option.bind_eq_some_iff.mp H
 obtain ⟨t103,A80,H⟩:=H
 replace H : (if t103 = true then (if 0 ≤ a0 then (if 0 ≤ (shl .i64 1 a0) then (if (shl .i64 1 a0 : Int).toNat ≤ 17592186044416 then ((zj.f k a0 l2).bind fun t107=>(zB.l0 k a0 l1 (List.replicate (shl .i64 1 a0 : Int).toNat z30) t107 (t107.length : Int) 0)) else (none)) else (none)) else (none)) else (some (([] : List (S30)),5))) = some (r1,r2):=H
 have A8:=z1.mk A80
 clear A80
 by_cases c9 : t103 = true
 rotate_left
 · replace c9:=Bool.eq_false_iff.mpr c9
   subst c9
   have H1 : (some (([] : List (S30)),5)) = some (r1,r2):=by rw [if_neg (show ¬ (false = true) by decide)] at H;exact H
   clear H
   have H:=H1
   clear H1
   simp only [Option.some.injEq,Prod.mk.injEq] at H
   obtain ⟨rfl,rfl⟩:=H
   go_enter Try.func101,Try.ntmps101
   go_wp2_with (first|((with_reducible refine zi (f:=131) rfl ?_);refine goesL_ (some 15) rfl rfl Try.func131 zz90 rfl #[.int .i64 a0,.slice A1 l1.length c1] rfl zz48 ?_;(with_reducible refine (z1X.calls k a0 _ _ l1 t101 _ ?side1 ?side2 A4.out).mono ?_);(case side1=>repeat (first|exact HR1.out|(with_reducible refine Kd.zQ ?_ _)|(with_reducible refine Kd.zR ?_ _)|(with_reducible refine Kd.z1d ?_)));(case side2=>exact HC1.out);rintro e w' ⟨rfl,⟨nd,rfl⟩⟩;refine ⟨_,rfl,?_⟩)|((with_reducible refine zi (f:=86) rfl ?_);refine goesL_ (some 25) rfl rfl Try.func86 zz90 rfl #[.int .i64 (l1.length : Int)] rfl zz48 ?_;(with_reducible refine (z1p.calls k (l1.length : Int) t102 _ A6.out).mono ?_);rintro e w' ⟨rfl,⟨nd,rfl⟩⟩;refine ⟨_,rfl,?_⟩)|((with_reducible refine zi (f:=132) rfl ?_);refine goesL_ (some 32) rfl rfl Try.func132 zz90 rfl #[.int .i64 a0,.slice A2 l2.length c2] rfl zz48 ?_;(with_reducible refine (z1b.calls k a0 _ _ l2 false _ ?side1 ?side2 A8.out).mono ?_);(case side1=>repeat (first|exact HR2.out|(with_reducible refine Kd.zQ ?_ _)|(with_reducible refine Kd.zR ?_ _)|(with_reducible refine Kd.z1d ?_)));(case side2=>exact HC2.out);rintro e w41 ⟨rfl,hb⟩;refine ⟨_,rfl,?_⟩;have n0_:=z1.mk (z3 zz49 hb);clear HB;have HB:=n0_;clear n0_;(try clear hb);(try clear hb2);(try clear hk);(try clear hi)))
   go_ret2
   exact ⟨_,by first|rfl|(simp [zg,zh] <;> rfl)|(simp [*,zg,zh] <;> rfl),by first|exact Kd.z2W _ _ _ _ _|exact Kd.z3k _ _ _ _ _|exact Kd.z3p _ _ _ _ _|exact Kd.z3m _ _ _ _ _|exact Kd.z3o _ _ _ _ _,by repeat (first|(with_reducible first|exact HB.out|apply zd|apply z2|apply z9)|exact HB.out)⟩
 subst c9
 have H1 : (if 0 ≤ a0 then (if 0 ≤ (shl .i64 1 a0) then (if (shl .i64 1 a0 : Int).toNat ≤ 17592186044416 then ((zj.f k a0 l2).bind fun t107=>(zB.l0 k a0 l1 (List.replicate (shl .i64 1 a0 : Int).toNat z30) t107 (t107.length : Int) 0)) else (none)) else (none)) else (none)) = some (r1,r2):=by rw [if_pos rfl] at H;exact H
 clear H
 have H:=H1
 clear H1
 by_cases c10 : 0 ≤ a0
 rotate_left
 · rw [if_neg c10] at H
   exact absurd H zz93
 rw [if_pos c10] at H
 have c10b0:=eq_true c10
 have c10b1 : decide (0 ≤ a0) = true:=decide_eq_true c10
 clear c10
 obtain ⟨ji11,hji11⟩ : ∃ j_ : Int,(shl .i64 1 a0) = j_:=⟨_,rfl⟩
 replace H : (if 0 ≤ (ji11) then (if (ji11 : Int).toNat ≤ 17592186044416 then ((zj.f k a0 l2).bind fun t107=>(zB.l0 k a0 l1 (List.replicate (ji11 : Int).toNat z30) t107 (t107.length : Int) 0)) else (none)) else (none)) = some (r1,r2):=by first|(rw [hji11] at H;exact H)|(simp only [hji11] at H ⊢;exact H)
 (try rw [hji11] at A4)
 (try rw [hji11] at A6)
 (try rw [hji11] at A8)
 have hji11_ : (IntKind.i64.wrap (1 * 2 ^ min a0.toNat 64)) = ji11:=hji11
 have hji11z : a0 ≤ 64 → (IntKind.i64.wrap (1 * 2 ^ a0.toNat)) = ji11:=z1K hji11
 have hji11u : (IntKind.i64.wrap (2 ^ min a0.toNat 64)) = ji11:=by have h_:=hji11_;rw [Int.one_mul] at h_;exact h_
 have hji11v : a0 ≤ 64 → (IntKind.i64.wrap (2 ^ a0.toNat)) = ji11:=fun hle_=>by have h_:=hji11z hle_;rw [Int.one_mul] at h_;exact h_
 have hji11y : (wrap64 (1 * 2 ^ min a0.toNat 64)) = ji11:=(zH _).symm.trans hji11_
 have hji11x : a0 ≤ 64 → (wrap64 (1 * 2 ^ a0.toNat)) = ji11:=fun h_=>(zH _).symm.trans (hji11z h_)
 by_cases c12 : 0 ≤ (ji11)
 rotate_left
 · rw [if_neg c12] at H
   exact absurd H zz93
 rw [if_pos c12] at H
 have c12b0:=eq_true c12
 have c12b1 : decide (0 ≤ (ji11)) = true:=decide_eq_true c12
 clear c12
 by_cases c13 : (ji11 : Int).toNat ≤ 17592186044416
 rotate_left
 · rw [if_neg c13] at H
   exact absurd H zz93
 rw [if_pos c13] at H
 have c13b0:=eq_true c13
 have c13b1 : decide ((ji11 : Int).toNat ≤ 17592186044416) = true:=decide_eq_true c13
 clear c13
 obtain ⟨y104,hy104⟩ : ∃ y_ : List (S30),y_ = (List.replicate (ji11 : Int).toNat z30):=⟨_,rfl⟩
 replace H : ((zj.f k a0 l2).bind fun t107=>(zB.l0 k a0 l1 y104 t107 (t107.length : Int) 0)) = some (r1,r2):=by first|(rw [hy104];with_reducible exact H)|(have H2_:=(Option.bind_some _ _).symm.trans H;rw [hy104];with_reducible exact H2_)|(have H2_:=(Option.bind_some _ _).symm.trans H;with_reducible exact H2_)|with_reducible exact H|(rw [hy104];exact H)|exact H
 have Ny104:=z1.mk hy104
 clear hy104
 replace H:=Option.bind_eq_some_iff.mp H
 obtain ⟨t107,A140,H⟩:=H
 replace H : (zB.l0 k a0 l1 y104 t107 (t107.length : Int) 0) = some (r1,r2):=H
 have A14:=z1.mk A140
 clear A140
 have H':=z1.mk H
 clear H
 go_enter Try.func101,Try.ntmps101
 go_wp2_with (first|((with_reducible refine zi (f:=131) rfl ?_);refine goesL_ (some 15) rfl rfl Try.func131 zz90 rfl #[.int .i64 a0,.slice A1 l1.length c1] rfl zz48 ?_;(with_reducible refine (z1X.calls k a0 _ _ l1 t101 _ ?side1 ?side2 A4.out).mono ?_);(case side1=>repeat (first|exact HR1.out|(with_reducible refine Kd.zQ ?_ _)|(with_reducible refine Kd.zR ?_ _)|(with_reducible refine Kd.z1d ?_)));(case side2=>exact HC1.out);rintro e w' ⟨rfl,⟨nd,rfl⟩⟩;refine ⟨_,rfl,?_⟩)|((with_reducible refine zi (f:=86) rfl ?_);refine goesL_ (some 25) rfl rfl Try.func86 zz90 rfl #[.int .i64 (l1.length : Int)] rfl zz48 ?_;(with_reducible refine (z1p.calls k (l1.length : Int) t102 _ A6.out).mono ?_);rintro e w' ⟨rfl,⟨nd,rfl⟩⟩;refine ⟨_,rfl,?_⟩)|((with_reducible refine zi (f:=132) rfl ?_);refine goesL_ (some 32) rfl rfl Try.func132 zz90 rfl #[.int .i64 a0,.slice A2 l2.length c2] rfl zz48 ?_;(with_reducible refine (z1b.calls k a0 _ _ l2 true _ ?side1 ?side2 A8.out).mono ?_);(case side1=>repeat (first|exact HR2.out|(with_reducible refine Kd.zQ ?_ _)|(with_reducible refine Kd.zR ?_ _)|(with_reducible refine Kd.z1d ?_)));(case side2=>exact HC2.out);rintro e w15 ⟨rfl,hb⟩;refine ⟨_,rfl,?_⟩;have n0_:=z1.mk (z3 zz49 hb);clear HB;have HB:=n0_;clear n0_;(try clear hb);(try clear hb2);(try clear hk);(try clear hi))|((with_reducible refine zp (N:=36) rfl ?_);refine Kd.z5a k30 _ 30 rfl (N:=36) rfl 24 _ _ rfl ji11 rfl rfl Try.underlying24 (.agg #[(.int .u64 0),(.int .u64 0)]) 16 info30 rfl zz91 zz92 z30 (ok:=fun _=>True) (okp:=fun _=>True) (z1J _ _ _ z30 ) (fun _ hk=>hk) trivial (of_decide_eq_true zz85) (Nat.le_trans (Nat.mul_le_mul_right _ (of_decide_eq_true zz85 : ji11.toNat ≤ 17592186044416)) zz92) (Below.refl _ _) (Nat.le_refl _) ?_;intro v105 w16 ho17 hb hg_ hnew_;clear hg_ hnew_;(first|rw [← Ny104.out] at ho17|(simp only [Int.reduceToNat] at ho17;rw [← Ny104.out] at ho17));have n0_:=z1.mk (Kd.z1h ho17 (zb zz49));have n1_:=z1.mk (z3 zz49 hb);clear HB;have HO106:=n0_;have HB:=n1_;clear n0_ n1_;clear hb ho17)|((with_reducible refine zi (f:=65) rfl ?_);refine goesL_ (some 39) rfl rfl Try.func65 zz90 rfl #[.int .i64 a0,.slice A2 l2.length c2] rfl zz48 ?_;(with_reducible refine (zj.calls k a0 _ _ l2 t107 _ ?side1 ?side2 A14.out).mono ?_);(case side1=>repeat (first|exact (Kd.z1r HR2.out HB.out)|(with_reducible refine Kd.zQ ?_ _)|(with_reducible refine Kd.zR ?_ _)|(with_reducible refine Kd.z1d ?_)));(case side2=>exact HC2.out);rintro e w18 ⟨v108,rfl,ho0,hb⟩;refine ⟨_,rfl,?_⟩;have n0_:=z1.mk (Kd.z1e zz60 (Kd.z1z ho0) hb);have n1_:=z1.mk (Kd.z1h (Kd.z1A ho0 (Kd.R_lt zz60)) (zb zz49));have n2_:=z1.mk (z3 zz49 hb);clear HO106;clear HB;have HO106:=n0_;have HO109:=n1_;have HB:=n2_;clear n0_ n1_ n2_;(try clear hb);(try clear hb2);(try clear hk);(try clear hi);(try clear ho0);obtain ⟨Ao19,co19,eo19⟩:=Kd.z1q HO109.out;subst eo19))
 go_loopg [41] k (fun kq v41 w'=>∃ (x9_1 : List (S30)) (x41_1 : Int),v41 = .int .i64 x41_1 ∧ z1 (zB.l0 kq a0 l1 x9_1 t107 (t107.length : Int) x41_1 = some (r1,r2)) ∧ z1 (kq ≤ k) ∧ z1 (Kd.R k30 30 w' w.heap.size (fun k_=>some k_ ≠ ((.slice Ao19 t107.length co19) : Value).ownBlock) v105 x9_1) ∧ z1 (Kd.R k30 30 w' w.heap.size (fun k_=>some k_ ≠ (v105 : Value).ownBlock) (.slice Ao19 t107.length co19) t107) ∧ z1 (Below w.heap.size w w'))
 case atStart=>exact ⟨(y104),(0),zz86,H',⟨Nat.le_refl _⟩,⟨by (with_reducible repeat (first|apply Kd.zI|apply Kd.zJ|apply Kd.zT));exact Kd.z18 HO106.out (fun _ hk=>hk.2)⟩,⟨by (with_reducible repeat (first|apply Kd.zI|apply Kd.zJ|apply Kd.zT));exact Kd.z18 HO109.out (fun _ hk=>hk.2)⟩,⟨by repeat (first|(with_reducible first|exact HB.out|apply zd|apply z2|apply z9)|exact HB.out)⟩⟩
 case round =>
  clear H'
  (try clear c1);(try clear c2);(try clear p2);(try clear c5);(try clear c5b0);(try clear c5b1);(try clear c6);(try clear p6);(try clear c7);(try clear c7b0);(try clear c7b1);(try clear c8);(try clear c9);(try clear c10);(try clear c10b0);(try clear c10b1);(try clear c12);(try clear c12b0);(try clear c12b1);(try clear c13);(try clear c13b0);(try clear c13b1)
  obtain ⟨x9_1,x41_1,rfl,HA,HK1,HO_9,HO_39,HB⟩:=hrel
  cases gk with
  | zero=>exact absurd HA.out (by simp [zB.l0])
  | succ k1 =>
   have H:=HA.out
   clear HA
   simp only [zB.l0] at H
   by_cases c20 : x41_1 < (t107.length : Int)
   rotate_left
   · rw [if_neg c20] at H
     have c20b0 : decide (x41_1 < (t107.length : Int)) = false:=decide_eq_false c20
     clear c20
     simp only [Option.some.injEq,Prod.mk.injEq] at H
     obtain ⟨rfl,rfl⟩:=H
     go_wp2
     go_ret2
     exact ⟨_,by first|rfl|(simp [zg,zh] <;> rfl)|(simp only [← hji11];first|rfl|(simp [zg,zh] <;> rfl))|(simp [*,zg,zh] <;> rfl),by (with_reducible repeat (first|apply Kd.zI|apply Kd.zJ|apply Kd.zT));exact Kd.z18 HO_9.out (fun _ hk=>trivial),by repeat (first|(with_reducible first|exact HB.out|apply zd|apply z2|apply z9)|exact HB.out)⟩
   rw [if_pos c20] at H
   have c20b0 : decide (x41_1 < (t107.length : Int)) = true:=decide_eq_true c20
   clear c20
   by_cases c21 : 0 ≤ x41_1
   rotate_left
   · rw [if_neg c21] at H
     exact absurd H zz93
   rw [if_pos c21] at H
   have c21b0 : decide (0 ≤ x41_1) = true:=decide_eq_true c21
   clear c21
   by_cases c22 : x41_1 < (t107.length : Int)
   rotate_left
   · rw [if_neg c22] at H
     exact absurd H zz93
   rw [if_pos c22] at H
   have c22b0 : decide (x41_1 < (t107.length : Int)) = true:=decide_eq_true c22
   clear c22
   have H':=z1.mk H
   clear H
   have p110 : 0 ≤ (x41_1 : Int):=of_decide_eq_true zz85
   have q110 : x41_1 < (t107.length : Int):=of_decide_eq_true zz85
   obtain ⟨ad110,e110,hx110_0,hx110_1⟩:=z20 (Kd.zs HO_39.out).2.2 x41_1 p110 q110
   cases e110
   replace p110:=eq_true p110
   replace q110:=eq_true q110
   go_wp2_with (first|((with_reducible refine zp (N:=11) rfl ?_);refine zt ?hg (N:=11) ?hd (cs:=#[.int .u64 0,.int .u64 0]) (t:=30) ?hr ?_;(case hd=>rfl);(case hg=>rfl);(case hr=>first|(go_simp;done)|(go_simp;rfl));intro gb111 hg w23 hbox hb;have n0_:=z1.mk (Kd.zq (Kd.z1w zz72 gb111 (Nat.le_of_eq hg.symm)) hb);have n1_:=z1.mk (Kd.zq (Kd.z1w zz61 gb111 (Nat.le_of_eq hg.symm)) hb);have n2_:=z1.mk (z3 zz49 hb);have n3_:=z1.mk (hbox);have n4_:=z1.mk ((by rw [hg];exact (zb zz49) : w.heap.size ≤ gb111));have n5_:=z1.mk ((by rw [hg];exact (zb zz49) : w.heap.size ≤ gb111));clear HO_9;clear HO_39;clear HB;have HO_9:=n0_;have HO_39:=n1_;have HB:=n2_;have BK111:=n3_;have GW111:=n4_;have GE111:=n5_;clear n0_ n1_ n2_ n3_ n4_ n5_;clear hb hbox hg;have hcz24_0 : w23.cell? ⟨gb111,0,none⟩ = some (.int .u64 0):=(z7 BK111.out 0).trans rfl;have hcz24_1 : w23.cell? ⟨gb111,1,none⟩ = some (.int .u64 0):=(z7 BK111.out 1).trans rfl;have hfz24_0:=z6 BK111.out 0;have hfz24_1:=z6 BK111.out 1;obtain ⟨Ao25,co25,eo25⟩:=Kd.z1q HO_9.out;subst eo25))
   go_loopg [48] k1 (fun kq v48 w'=>∃ (x9_2 : List (S30)) (x48_2 : Int) (x112000_2 : Int) (x112001_2 : Int),v48 = .int .i64 x48_2 ∧ z1 (zB.l1 kq a0 l1 x9_2 x41_1 t107 (t107.length : Int) x41_1 (x9_1.length : Int) x48_2 x112000_2 x112001_2 = some (r1,r2)) ∧ z1 (kq ≤ k1) ∧ z1 (Kd.R k30 30 w' w.heap.size (fun k_=>some k_ ≠ ((.slice (some ad110) t107.length co19) : Value).ownBlock ∧ k_ ≠ gb111) (.slice Ao25 x9_1.length co25) x9_2) ∧ z1 (Kd.R k30 30 w' w.heap.size (fun k_=>some k_ ≠ ((.slice Ao25 x9_1.length co25) : Value).ownBlock ∧ k_ ≠ gb111) (.slice (some ad110) t107.length co19) t107) ∧ z1 (w'.heap[gb111]? = some (.cells #[.int .u64 x112000_2,.int .u64 x112001_2] 30 (0,0))) ∧ z1 (Below w.heap.size w w'))
   case atStart=>exact ⟨(x9_1),(0),((rd_T30 t107 x41_1).f0),((rd_T30 t107 x41_1).f1),zz86,H',⟨Nat.le_refl _⟩,⟨by (with_reducible repeat (first|apply Kd.zI|apply Kd.zJ|apply Kd.zT));exact Kd.z18 (Kd.z1M (p:=⟨gb111,1,none⟩) (Kd.z1M (p:=⟨gb111,0,none⟩) (Kd.z18 HO_9.out (fun k_ hk=>(⟨hk,hk.2⟩ : _ ∧ k_ ≠ gb111))) (fun _ hk=>hk.2) (.int .u64 ((rd_T30 t107 x41_1).f0))) (fun _ hk=>hk.2) (.int .u64 ((rd_T30 t107 x41_1).f1))) (fun _ hk=>⟨hk.1.1,hk.1.2⟩)⟩,⟨by (with_reducible repeat (first|apply Kd.zI|apply Kd.zJ|apply Kd.zT));exact Kd.z18 (Kd.z1M (p:=⟨gb111,1,none⟩) (Kd.z1M (p:=⟨gb111,0,none⟩) (Kd.z18 HO_39.out (fun k_ hk=>(⟨hk,hk.2⟩ : _ ∧ k_ ≠ gb111))) (fun _ hk=>hk.2) (.int .u64 ((rd_T30 t107 x41_1).f0))) (fun _ hk=>hk.2) (.int .u64 ((rd_T30 t107 x41_1).f1))) (fun _ hk=>⟨hk.1.1,hk.1.2⟩)⟩,⟨by (with_reducible repeat (first|refine z5 ?_ _|refine z8 ?_|refine z4 ?_ _));refine zX (cs:=#[.int .u64 ((rd_T30 t107 x41_1).f0),.int .u64 0]) ?_ 1 _ rfl;(with_reducible repeat (first|refine z5 ?_ _|refine z8 ?_|refine z4 ?_ _));refine zX (cs:=#[.int .u64 0,.int .u64 0]) ?_ 0 _ rfl;(with_reducible repeat (first|refine z5 ?_ _|refine z8 ?_|refine z4 ?_ _));exact BK111.out⟩,⟨by repeat (first|(with_reducible first|exact HB.out|apply zd|apply z2|apply z9|refine za ?_ GE111.out)|exact HB.out)⟩⟩
   case round =>
    clear H'
    (try clear c1);(try clear p1);(try clear q1);(try clear hx1);(try clear c2);(try clear p2);(try clear c5);(try clear c5b0);(try clear c5b1);(try clear c6);(try clear p6);(try clear c7);(try clear c7b0);(try clear c7b1);(try clear c8);(try clear c9);(try clear c10);(try clear c10b0);(try clear c10b1);(try clear p11);(try clear q11);(try clear hx11);(try clear c12);(try clear c12b0);(try clear c12b1);(try clear c13);(try clear c13b0);(try clear c13b1);(try clear c20);(try clear c20b0);(try clear c21);(try clear c21b0);(try clear c22);(try clear c22b0);(try clear hcz24_0);(try clear hcz24_1);(try clear hfz24_0);(try clear hfz24_1);(try clear hx110_0);(try clear hx110_1);(try clear p110);(try clear p2);(try clear p6);(try clear q110)
    obtain ⟨x9_2,x48_2,x112000_2,x112001_2,rfl,HA,HK2,HO_9,HO_39,BK111,HB⟩:=hrel
    have hl9_2:=(Kd.zs HO_9.out).1
    rw [hl9_2] at HO_9
    (try simp only [hl9_2])
    (try simp only [hl9_2] at BK111)
    (try simp only [hl9_2] at HO_39)
    cases gk with
    | zero=>exact absurd HA.out (by simp [zB.l1])
    | succ k2 =>
     have H:=HA.out
     clear HA
     simp only [zB.l1] at H
     by_cases c26 : x48_2 < (x9_1.length : Int)
     rotate_left
     · rw [if_neg c26] at H
       have c26b0 : decide (x48_2 < (x9_1.length : Int)) = false:=decide_eq_false c26
       have c26b9 : decide (x48_2 < (x9_2.length : Int)) = false:=by rw [← hl9_2];exact c26b0
       clear c26
       have H':=z1.mk H
       clear H
       go_wp2
       (try simp only [← hl9_2])
       go_roundg k2
       case measure=>have:=HK1.out;have:=HK2.out;omega
       case rel=>exact ⟨(x9_2),(wrap64 (x41_1 + 1)),zz86,H',⟨by have:=HK1.out;have:=HK2.out;omega⟩,⟨by (try simp only [hl9_2]);(with_reducible repeat (first|apply Kd.zI|apply Kd.zJ|apply Kd.zT));exact Kd.z18 HO_9.out (fun _ hk=>hk.1)⟩,⟨by (try simp only [hl9_2]);(with_reducible repeat (first|apply Kd.zI|apply Kd.zJ|apply Kd.zT));exact Kd.z18 HO_39.out (fun _ hk=>hk.1)⟩,⟨by repeat (first|(with_reducible first|exact HB.out|apply zd|apply z2|apply z9|refine za ?_ GE111.out)|exact HB.out)⟩⟩
     rw [if_pos c26] at H
     have c26b0 : decide (x48_2 < (x9_1.length : Int)) = true:=decide_eq_true c26
     have c26b9 : decide (x48_2 < (x9_2.length : Int)) = true:=by rw [← hl9_2];exact c26b0
     clear c26
     by_cases c27 : 0 ≤ a0
     rotate_left
     · rw [if_neg c27] at H
       exact absurd H zz93
     rw [if_pos c27] at H
     have c27b0:=eq_true c27
     have c27b1 : decide (0 ≤ a0) = true:=decide_eq_true c27
     clear c27
     obtain ⟨ji28,hji28⟩ : ∃ j_ : Int,(shl .i64 x41_1 a0) = j_:=⟨_,rfl⟩
     replace H : (if 0 ≤ (wrap64 ((ji28) + x48_2)) then (if (wrap64 ((ji28) + x48_2)) < (l1.length : Int) then (if rdOf false l1 (wrap64 ((ji28) + x48_2)) = true then (if 0 ≤ x48_2 then (if x48_2 < (x9_2.length : Int) then ((z1t.f ((rd_T30 x9_2 x48_2).f0) ((rd_T30 x9_2 x48_2).f1) x112000_2 x112001_2).bind fun bt114=>(zB.l1 k2 a0 l1 (x9_2.set (x48_2 : Int).toNat (⟨bt114.1,bt114.2⟩ : S30)) x41_1 t107 (t107.length : Int) x41_1 (x9_1.length : Int) (wrap64 (x48_2 + 1)) x112000_2 x112001_2)) else (none)) else (none)) else (zB.l1 k2 a0 l1 x9_2 x41_1 t107 (t107.length : Int) x41_1 (x9_1.length : Int) (wrap64 (x48_2 + 1)) x112000_2 x112001_2)) else (none)) else (none)) = some (r1,r2):=by first|(rw [hji28] at H;exact H)|(simp only [hji28] at H ⊢;exact H)
     have hji28_ : (IntKind.i64.wrap (x41_1 * 2 ^ min a0.toNat 64)) = ji28:=hji28
     have hji28z : a0 ≤ 64 → (IntKind.i64.wrap (x41_1 * 2 ^ a0.toNat)) = ji28:=z1K hji28
     have hji28y : (wrap64 (x41_1 * 2 ^ min a0.toNat 64)) = ji28:=(zH _).symm.trans hji28_
     have hji28x : a0 ≤ 64 → (wrap64 (x41_1 * 2 ^ a0.toNat)) = ji28:=fun h_=>(zH _).symm.trans (hji28z h_)
     obtain ⟨ji29,hji29⟩ : ∃ j_ : Int,(wrap64 ((ji28) + x48_2)) = j_:=⟨_,rfl⟩
     replace H : (if 0 ≤ (ji29) then (if (ji29) < (l1.length : Int) then (if rdOf false l1 (ji29) = true then (if 0 ≤ x48_2 then (if x48_2 < (x9_2.length : Int) then ((z1t.f ((rd_T30 x9_2 x48_2).f0) ((rd_T30 x9_2 x48_2).f1) x112000_2 x112001_2).bind fun bt114=>(zB.l1 k2 a0 l1 (x9_2.set (x48_2 : Int).toNat (⟨bt114.1,bt114.2⟩ : S30)) x41_1 t107 (t107.length : Int) x41_1 (x9_1.length : Int) (wrap64 (x48_2 + 1)) x112000_2 x112001_2)) else (none)) else (none)) else (zB.l1 k2 a0 l1 x9_2 x41_1 t107 (t107.length : Int) x41_1 (x9_1.length : Int) (wrap64 (x48_2 + 1)) x112000_2 x112001_2)) else (none)) else (none)) = some (r1,r2):=by first|(rw [hji29] at H;exact H)|(simp only [hji29] at H ⊢;exact H)
     have hji29w : (IntKind.i64.wrap ((ji28) + x48_2)) = ji29:=(zH _).trans hji29
     by_cases c30 : 0 ≤ (ji29)
     rotate_left
     · rw [if_neg c30] at H
       exact absurd H zz93
     rw [if_pos c30] at H
     have c30b0 : decide (0 ≤ (ji29)) = true:=decide_eq_true c30
     clear c30
     by_cases c31 : (ji29) < (l1.length : Int)
     rotate_left
     · rw [if_neg c31] at H
       exact absurd H zz93
     rw [if_pos c31] at H
     have c31b0 : decide ((ji29) < (l1.length : Int)) = true:=decide_eq_true c31
     clear c31
     obtain ⟨bq32,hbq32⟩ : ∃ b_ : Bool,b_ = (rdOf false l1 (ji29)):=⟨_,rfl⟩
     replace H : (if bq32 = true then (if 0 ≤ x48_2 then (if x48_2 < (x9_2.length : Int) then ((z1t.f ((rd_T30 x9_2 x48_2).f0) ((rd_T30 x9_2 x48_2).f1) x112000_2 x112001_2).bind fun bt114=>(zB.l1 k2 a0 l1 (x9_2.set (x48_2 : Int).toNat (⟨bt114.1,bt114.2⟩ : S30)) x41_1 t107 (t107.length : Int) x41_1 (x9_1.length : Int) (wrap64 (x48_2 + 1)) x112000_2 x112001_2)) else (none)) else (none)) else (zB.l1 k2 a0 l1 x9_2 x41_1 t107 (t107.length : Int) x41_1 (x9_1.length : Int) (wrap64 (x48_2 + 1)) x112000_2 x112001_2)) = some (r1,r2):=by rw [← hbq32] at H;exact H
     have Nbq32:=z1.mk hbq32
     clear hbq32
     by_cases c33 : bq32 = true
     rotate_left
     · replace c33:=Bool.eq_false_iff.mpr c33
       subst c33
       have H1 : (zB.l1 k2 a0 l1 x9_2 x41_1 t107 (t107.length : Int) x41_1 (x9_1.length : Int) (wrap64 (x48_2 + 1)) x112000_2 x112001_2) = some (r1,r2):=by rw [if_neg (show ¬ (false = true) by decide)] at H;exact H
       clear H
       have H:=H1
       clear H1
       have H':=z1.mk H
       clear H
       have p112 : 0 ≤ ((ji29) : Int):=of_decide_eq_true zz85
       have q112 : (ji29) < (l1.length : Int):=of_decide_eq_true zz85
       obtain ⟨ad112,e112,hx112_0⟩:=Kd.z3E HR1.out (ji29) p112 q112
       (try rw [← Nbq32.out] at hx112_0)
       cases e112
       replace hx112_0:=(HB.out.cell (World.block_lt_of_cell? w _ hx112_0)).trans hx112_0
       replace p112:=eq_true p112
       replace q112:=eq_true q112
       go_wp2
       (try simp only [← hl9_2])
       go_roundg k2
       case measure=>have:=HK1.out;have:=HK2.out;omega
       case rel=>exact ⟨(x9_2),(wrap64 (x48_2 + 1)),(x112000_2),(x112001_2),zz86,H',⟨by have:=HK1.out;have:=HK2.out;omega⟩,⟨by (try simp only [hl9_2]);(with_reducible repeat (first|apply Kd.zI|apply Kd.zJ|apply Kd.zT));exact HO_9.out⟩,⟨by (try simp only [hl9_2]);(with_reducible repeat (first|apply Kd.zI|apply Kd.zJ|apply Kd.zT));exact HO_39.out⟩,⟨by (try simp only [hl9_2]);(with_reducible repeat (first|refine z5 ?_ _|refine z8 ?_|refine z4 ?_ _));exact BK111.out⟩,⟨by repeat (first|(with_reducible first|exact HB.out|apply zd|apply z2|apply z9|refine za ?_ GE111.out)|exact HB.out)⟩⟩
     subst c33
     have H1 : (if 0 ≤ x48_2 then (if x48_2 < (x9_2.length : Int) then ((z1t.f ((rd_T30 x9_2 x48_2).f0) ((rd_T30 x9_2 x48_2).f1) x112000_2 x112001_2).bind fun bt114=>(zB.l1 k2 a0 l1 (x9_2.set (x48_2 : Int).toNat (⟨bt114.1,bt114.2⟩ : S30)) x41_1 t107 (t107.length : Int) x41_1 (x9_1.length : Int) (wrap64 (x48_2 + 1)) x112000_2 x112001_2)) else (none)) else (none)) = some (r1,r2):=by rw [if_pos rfl] at H;exact H
     clear H
     have H:=H1
     clear H1
     by_cases c34 : 0 ≤ x48_2
     rotate_left
     · rw [if_neg c34] at H
       exact absurd H zz93
     rw [if_pos c34] at H
     have c34b0 : decide (0 ≤ x48_2) = true:=decide_eq_true c34
     clear c34
     by_cases c35 : x48_2 < (x9_2.length : Int)
     rotate_left
     · rw [if_neg c35] at H
       exact absurd H zz93
     rw [if_pos c35] at H
     have c35b0 : decide (x48_2 < (x9_2.length : Int)) = true:=decide_eq_true c35
     clear c35
     replace H:=Option.bind_eq_some_iff.mp H
     obtain ⟨⟨t114,t115⟩,A360,H⟩:=H
     replace H : (zB.l1 k2 a0 l1 (x9_2.set (x48_2 : Int).toNat (⟨t114,t115⟩ : S30)) x41_1 t107 (t107.length : Int) x41_1 (x9_1.length : Int) (wrap64 (x48_2 + 1)) x112000_2 x112001_2) = some (r1,r2):=H
     have A36:=z1.mk A360
     clear A360
     obtain ⟨y116,hy116⟩ : ∃ y_ : List (S30),y_ = (x9_2.set (x48_2 : Int).toNat (⟨t114,t115⟩ : S30)):=⟨_,rfl⟩
     replace H : (zB.l1 k2 a0 l1 y116 x41_1 t107 (t107.length : Int) x41_1 (x9_1.length : Int) (wrap64 (x48_2 + 1)) x112000_2 x112001_2) = some (r1,r2):=by first|(rw [hy116];with_reducible exact H)|(have H2_:=(Option.bind_some _ _).symm.trans H;rw [hy116];with_reducible exact H2_)|(have H2_:=(Option.bind_some _ _).symm.trans H;with_reducible exact H2_)|with_reducible exact H|(rw [hy116];exact H)|exact H
     have Ny116:=z1.mk hy116
     clear hy116
     have H':=z1.mk H
     clear H
     have p112 : 0 ≤ ((ji29) : Int):=of_decide_eq_true zz85
     have q112 : (ji29) < (l1.length : Int):=of_decide_eq_true zz85
     obtain ⟨ad112,e112,hx112_0⟩:=Kd.z3E HR1.out (ji29) p112 q112
     (try rw [← Nbq32.out] at hx112_0)
     cases e112
     replace hx112_0:=(HB.out.cell (World.block_lt_of_cell? w _ hx112_0)).trans hx112_0
     replace p112:=eq_true p112
     replace q112:=eq_true q112
     try go_wp2
     have n0_:=z1.mk (Kd.zT HO_9.out)
     have n1_:=z1.mk (Kd.zT HO_39.out)
     have n2_:=z1.mk (z8 BK111.out)
     have n3_:=z1.mk (z9 HB.out)
     clear HO_9
     clear HO_39
     clear BK111
     clear HB
     have HO_9:=n0_
     have HO_39:=n1_
     have BK111:=n2_
     have HB:=n3_
     clear n0_ n1_ n2_ n3_
     have p113 : 0 ≤ (x48_2 : Int):=of_decide_eq_true zz85
     have q113 : x48_2 < (x9_2.length : Int):=of_decide_eq_true zz85
     obtain ⟨ad113,e113,hx113_0,hx113_1⟩:=z20 (Kd.zs HO_9.out).2.2 x48_2 p113 q113
     cases e113
     replace p113:=eq_true p113
     replace q113:=eq_true q113
     refine start_ (n:=10) (S:=fun w'=>w'.cell? ⟨gb111,0,none⟩ = some (.int .u64 x112000_2) ∧ w'.cell? ⟨gb111,1,none⟩ = some (.int .u64 x112001_2) ∧ w'.cell? (ad113.add ((x48_2).toNat * 2)) = some (.int .u64 ((rd_T30 x9_2 x48_2).f0)) ∧ w'.cell? ⟨(ad113.add ((x48_2).toNat * 2)).block,(ad113.add ((x48_2).toNat * 2)).off + 1,none⟩ = some (.int .u64 ((rd_T30 x9_2 x48_2).f1))) (ds:=[9]) #[false,false,false,false,false,false,false,false,false,false] zz90 rfl rfl ⟨(z7 BK111.out 0).trans rfl,(z7 BK111.out 1).trans rfl,hx113_0,hx113_1⟩ (fun hHeld=>?_);refine z25 zB.tab16 zB.bits16 (fun HT_ HW_=>?_)
     generalize wr.drew = w38 at HO_9 HO_39 BK111 HB hx113_0 hx113_1 hHeld ⊢
     refine pure_ (i:=0) (N:=some 59) (v:=?_) (a':=?_) #[true,false,false,false,false,false,false,false,false,false] rfl rfl (z19 HT_.out zz90) (fun _ _ _ h=>h) (Or.inl ⟨by rfl,?_⟩) ?_ ?_
     rotate_left
     · intro w'
       go_simp
       with_reducible rfl
     rotate_left
     · simp only [Act.put,List.setIfInBounds_toArray,List.set_cons_zero,List.set_cons_succ,zH,zP]
       rfl
     refine pure_ (i:=1) (N:=some 60) (v:=?_) (a':=?_) #[true,true,false,false,false,false,false,false,false,false] rfl rfl (z19 HT_.out zz90) (fun _ _ _ h=>h) (Or.inl ⟨by rfl,?_⟩) ?_ ?_
     rotate_left
     · intro w'
       go_simp
       with_reducible rfl
     rotate_left
     · simp only [Act.put,List.setIfInBounds_toArray,List.set_cons_zero,List.set_cons_succ,zH,zP]
       rfl
     refine pure_ (i:=2) (N:=some 61) (v:=?_) (a':=?_) #[true,true,true,false,false,false,false,false,false,false] rfl rfl (z19 HT_.out zz90) (fun _ _ _ h=>h) (Or.inl ⟨by rfl,?_⟩) ?_ ?_
     rotate_left
     · intro w'
       go_simp
       with_reducible rfl
     rotate_left
     · simp only [Act.put,List.setIfInBounds_toArray,List.set_cons_zero,List.set_cons_succ,zH,zP]
       rfl
     refine pure_ (i:=3) (N:=some 62) (v:=?_) (a':=?_) #[true,true,true,true,false,false,false,false,false,false] rfl rfl (z19 HT_.out zz90) (fun _ _ _ h=>h) (Or.inl ⟨by rfl,?_⟩) ?_ ?_
     rotate_left
     · intro w'
       go_simp
       with_reducible rfl
     rotate_left
     · simp only [Act.put,List.setIfInBounds_toArray,List.set_cons_zero,List.set_cons_succ,zH,zP]
       rfl
     refine pure_ (i:=4) (N:=some 63) (v:=?_) (a':=?_) #[true,true,true,true,true,false,false,false,false,false] rfl rfl (z19 HT_.out zz90) (fun _ _ _ h=>h) (Or.inl ⟨by rfl,?_⟩) ?_ ?_
     rotate_left
     · intro w'
       go_simp
       with_reducible rfl
     rotate_left
     · simp only [Act.put,List.setIfInBounds_toArray,List.set_cons_zero,List.set_cons_succ,zH,zP]
       rfl
     refine take_ (i:=5) (N:=some 64) (v:=?_) (a':=?_) #[true,true,true,true,true,true,false,false,false,false] rfl rfl (z1I HT_.out HW_.out zz90) (fun _ _ _ h=>h) (Or.inl ⟨by rfl,?_⟩) hHeld ?_ ?_
     rotate_left
     · rintro w' ⟨s0,s1,s2,s3⟩
       go_simp
       with_reducible rfl
     rotate_left
     · simp only [Act.put,List.setIfInBounds_toArray,List.set_cons_zero,List.set_cons_succ,zH,zP]
       rfl
     refine take_ (i:=6) (N:=some 65) (v:=?_) (a':=?_) #[true,true,true,true,true,true,true,false,false,false] rfl rfl (z1I HT_.out HW_.out zz90) (fun _ _ _ h=>h) (Or.inl ⟨by rfl,?_⟩) hHeld ?_ ?_
     rotate_left
     · rintro w' ⟨s0,s1,s2,s3⟩
       go_simp
       with_reducible rfl
     rotate_left
     · simp only [Act.put,List.setIfInBounds_toArray,List.set_cons_zero,List.set_cons_succ,zH,zP]
       rfl
     refine one_ (i:=7) (N:=some 66) #[true,true,true,true,true,true,true,true,false,false] rfl rfl (z1N HT_.out zz90) zz91 (fun K hK=>?_)
     refine goes_ Try.func64 zz90 rfl #[.agg #[.int .u64 ((rd_T30 x9_2 x48_2).f0),.int .u64 ((rd_T30 x9_2 x48_2).f1)],.agg #[.int .u64 x112000_2,.int .u64 x112001_2]] zz94 rfl rfl zz48 ?_
     with_reducible refine (z1t.calls ((rd_T30 x9_2 x48_2).f0) ((rd_T30 x9_2 x48_2).f1) x112000_2 x112001_2 t114 t115 _ A36.out).mono ?_
     rintro e w39 ⟨rfl,hb⟩
     have HS2_:=(hb.cell (World.block_lt_of_cell? _ _ (hHeld.2.2.1))).trans (hHeld.2.2.1)
     have HS3_:=(hb.cell (World.block_lt_of_cell? _ _ (hHeld.2.2.2))).trans (hHeld.2.2.2)
     refine ⟨_,rfl,?_⟩
     have n0_:=z1.mk (Kd.zq zz72 hb)
     have n1_:=z1.mk (Kd.zq zz61 hb)
     have n2_:=z1.mk (zc (g:=gb111) (o:=.cells #[.int .u64 x112000_2,.int .u64 x112001_2] 30 (0,0)) zz55 hb)
     have n3_:=z1.mk (z3 zz45 hb)
     clear HO_9
     clear HO_39
     clear BK111
     clear HB
     have HO_9:=n0_
     have HO_39:=n1_
     have BK111:=n2_
     have HB:=n3_
     clear n0_ n1_ n2_ n3_
     (try clear hb)
     (try clear hb2)
     (try clear hk)
     (try clear hi)
     have p37 : 0 ≤ (x48_2 : Int):=of_decide_eq_true zz85
     have q37 : (x48_2 : Int) < ((x9_2.length : Int) : Int):=of_decide_eq_true zz85
     obtain ⟨go37,co37,eo37,gb37,gl37,cl37,HG37⟩:=Kd.z43 HO_9.out zz92
     (first|cases eo37|(injection eo37 with ea_ en_ ec_;(first|subst ea_|(injection ea_ with ea_;subst ea_));subst ec_;clear en_))
     have GB37:=z1.mk gb37
     have GG37:=z1.mk HG37
     clear gb37 gl37 HG37
     (first|simp only [z27] at hx113_0|skip)
     (first|simp only [z27] at hx113_1|skip)
     obtain ⟨ce37,hcl37,hM37,hcc37,hfr37⟩:=Kd.z2x HO_9.out z30 (x48_2 : Int) p37 q37
     obtain rfl:=z1V hM37
     have hx37_0 : World.cell? _ ⟨go37,(x48_2 : Int).toNat * 2,none⟩ = some (.int .u64 ((rd_T30 x9_2 x48_2).f0)):=hcc37 0 _ rfl
     have hx37_1 : World.cell? _ ⟨go37,(x48_2 : Int).toNat * 2 + 1,none⟩ = some (.int .u64 ((rd_T30 x9_2 x48_2).f1)):=hcc37 1 _ rfl
     have hf37_0 : World.frozen? _ ⟨go37,(x48_2 : Int).toNat * 2,none⟩ = false:=hfr37 0
     have hf37_1 : World.frozen? _ ⟨go37,(x48_2 : Int).toNat * 2 + 1,none⟩ = false:=hfr37 1
     clear hcl37 hcc37 hfr37 hM37
     replace p37:=eq_true p37
     replace q37:=eq_true q37
     obtain ⟨ce40,hcl40,hM40,hcc40,hfr40⟩:=Kd.z2x HO_9.out z30 (x48_2 : Int) (of_decide_eq_true zz85) (by have h_ : (x48_2 : Int) < ((x9_2.length : Int) : Int):=of_decide_eq_true zz85;first|exact h_|(have e_:=(Kd.zs HO_9.out).1;omega)|simpa using h_)
     obtain rfl:=z1V hM40
     have HP40:=(Kd.z5A HO_9.out (x48_2 : Int) (of_decide_eq_true zz85) (by have h_ : (x48_2 : Int) < ((x9_2.length : Int) : Int):=of_decide_eq_true zz85;first|exact h_|(have e_:=(Kd.zs HO_9.out).1;omega)|simpa using h_) (seg:=[.int .u64 t114,.int .u64 t115]) (j:=0) hcl40 hcc40 (show 2 ≤ 2 from by decide) (x':=(⟨t114,t115⟩ : S30)) (z1J _ _ _ (⟨t114,t115⟩ : S30) ) (fun _ hk=>hk)).1
     rw [← Ny116.out] at HP40
     have HQ40:=z1.mk HP40
     clear hcl40 hcc40 hfr40 hM40 HP40
     refine hK.out _ _ ⟨(z7 BK111.out 0).trans rfl,(z7 BK111.out 1).trans rfl,HS2_,HS3_⟩ (fun hHeld=>?_)
     clear hK K
     refine norm_ (a':=?_) ?_ ?_
     rotate_left
     · show Act.put _ (some 66) _ = _
       simp only [Act.put,List.setIfInBounds_toArray,List.set_cons_zero,List.set_cons_succ,zH,zP]
       rfl
     refine pure_ (i:=8) (N:=some 67) (v:=?_) (a':=?_) #[true,true,true,true,true,true,true,true,true,false] rfl rfl (z19 HT_.out zz90) (fun _ _ _ h=>h) (Or.inl ⟨by rfl,?_⟩) ?_ ?_
     rotate_left
     · intro w'
       go_simp
       with_reducible rfl
     rotate_left
     · simp only [Act.put,List.setIfInBounds_toArray,List.set_cons_zero,List.set_cons_succ,zH,zP]
       rfl
     refine last_ (i:=9) (N:=none) #[true,true,true,true,true,true,true,true,true,true] rfl rfl (z1N HT_.out zz90) zz91 (fun K hK=>?_)
     refine skip_ (w1:=?_) zz94 rfl ?_ ?_
     rotate_left
     · go_simp
       rfl
     refine hK.out _ _ ?_
     clear hK K
     refine done_ (z2i HT_.out zz90) ?_
     try go_wp2
     (try simp only [← hl9_2])
     go_roundg k2
     case measure=>have:=HK1.out;have:=HK2.out;omega
     case rel=>exact ⟨(y116),(wrap64 (x48_2 + 1)),(x112000_2),(x112001_2),zz86,H',⟨by have:=HK1.out;have:=HK2.out;omega⟩,⟨by (try simp only [hl9_2]);(with_reducible repeat (first|apply Kd.zI|apply Kd.zJ|apply Kd.zT));exact HQ40.out⟩,⟨by (try simp only [hl9_2]);(with_reducible repeat (first|apply Kd.zI|apply Kd.zJ|apply Kd.zT));exact Kd.z18 (Kd.z1M (p:=⟨go37,(x48_2 : Int).toNat * 2 + 1,none⟩) (Kd.z1M (p:=⟨go37,(x48_2 : Int).toNat * 2,none⟩) (Kd.z18 HO_39.out (fun k_ hk=>(⟨hk,fun e_=>hk.1 zz89⟩ : _ ∧ k_ ≠ go37))) (fun _ hk=>hk.2) (.int .u64 t114)) (fun _ hk=>hk.2) (.int .u64 t115)) (fun _ hk=>⟨hk.1.1,hk.1.2⟩)⟩,⟨by (try simp only [hl9_2]);(with_reducible repeat (first|refine z5 ?_ _|refine z8 ?_|refine z4 ?_ _));refine zZ ?_ zz82 _;(with_reducible repeat (first|refine z5 ?_ _|refine z8 ?_|refine z4 ?_ _));refine zZ ?_ zz82 _;(with_reducible repeat (first|refine z5 ?_ _|refine z8 ?_|refine z4 ?_ _));exact BK111.out⟩,⟨by repeat (first|(with_reducible first|exact HB.out|apply zd|apply z2|apply z9|refine za ?_ GB37.out|refine za ?_ GB37.out|refine za ?_ GE111.out)|exact HB.out)⟩⟩
end Go.Proofs.Ytkhmpaooinpfoaa.P
namespace Go.Proofs.Ytkhmpaooinpfoaa.P
open Go.RowKit Go.Proofs.YtkhmpaooinpfoaaW.PrintWords Go.Proofs.YtkhmpaooinpfoaaW.PrintLast Go.Proofs.YtkhmpaooinpfoaaW.PrintMore
attribute [local go_sem] z12 z14 z1i z1j zU zV z13 z15   -- for this text's walks alone
set_option linter.unusedVariables false
set_option linter.unusedSimpArgs false
def z1a.j0 : Nat → Int → List (S30) → List (S30) → Bool → Option (Int)
 | 0,_,_,_,_=>none
 | k + 1,x0,x1,x2,x11=>if x11 = true then (some 6) else ((z1b.f k x0 x1).bind fun t102=>(if t102 = true then ((z1b.f k x0 x2).bind fun t103=>(if t103 = true then (some 0) else (some 5))) else (some 5)))
def z1a.f (k : Nat) (a0 : Int) (l1 : List (S30)) (l2 : List (S30)) : Option (Int):=(zx.f k a0).bind fun t101=>(if t101 = 0 then (some 1) else (if (l1.length : Int) > 12 then (z1a.j0 k a0 l1 l2 true) else (z1a.j0 k a0 l1 l2 ((l2.length : Int) != a0))))
theorem z1a.z17 : ∀ k,(∀ y0 y1 y2 y3,LeO (z1a.j0 k y0 y1 y2 y3) (z1a.j0 (k + 1) y0 y1 y2 y3))
 | 0=>fun _ _ _ _ r h=>by simp [z1a.j0] at h
 | k + 1=>by
  have ih0:=z1a.z17 k
  · intro y0 y1 y2 y3
    unfold z1a.j0
    repeat' first
    | (with_reducible exact ih0 _ _ _ _)
    | (with_reducible exact zx.mono _ _)
    | (with_reducible exact z1b.mono _ _ _)
    | (with_reducible exact LeO.refl _)
    | (with_reducible exact LeO.none _)
    | (with_reducible refine LeO.ite ?_ ?_)
    | (with_reducible refine LeO.bind ?_ (fun _=>?_))
    | exact ih0 _ _ _ _
    | exact zx.mono _ _
    | exact z1b.mono _ _ _
    | exact LeO.none _
    | refine LeO.ite ?_ ?_
    | refine LeO.bind ?_ (fun _=>?_)
theorem z1a.mono : ∀ a0 a1 a2 k,LeO (z1a.f k a0 a1 a2) (z1a.f (k + 1) a0 a1 a2):=by
 intro a0 a1 a2 k
 have ih0:=z1a.z17 k
 unfold z1a.f
 repeat' first
  | (with_reducible exact ih0 _ _ _ _)
  | (with_reducible exact zx.mono _ _)
  | (with_reducible exact z1b.mono _ _ _)
  | (with_reducible exact LeO.refl _)
  | (with_reducible exact LeO.none _)
  | (with_reducible refine LeO.ite ?_ ?_)
  | (with_reducible refine LeO.bind ?_ (fun _=>?_))
  | exact ih0 _ _ _ _
  | exact zx.mono _ _
  | exact z1b.mono _ _ _
  | exact LeO.none _
  | refine LeO.ite ?_ ?_
  | refine LeO.bind ?_ (fun _=>?_)
set_option maxHeartbeats 8000000 in
set_option maxRecDepth 100000 in
theorem z1a.calls (k : Nat) (a0 : Int) (A1 : Option Addr) (c1 : Nat) (l1 : List (S30)) (A2 : Option Addr) (c2 : Nat) (l2 : List (S30)) (r : Int) (w : World) (hr1 : Kd.C k30 w A1 l1.length l1) (hc1 : l1.length ≤ c1) (hr2 : Kd.C k30 w A2 l2.length l2) (hc2 : l2.length ≤ c2) (h : z1a.f k a0 l1 l2 = some r) :
 Calls Try.prog 133 #[.int .i64 a0,.slice A1 l1.length c1,.slice A2 l2.length c2] w fun e w'=>e = .returned (.int .i64 r) ∧ Below w.heap.size w w':=by
 have HR1:=z1.mk hr1
 have HC1:=z1.mk hc1
 clear hr1 hc1
 have HR2:=z1.mk hr2
 have HC2:=z1.mk hc2
 clear hr2 hc2
 have HB:=z1.mk (Below.refl w.heap.size w)
 have H : ((zx.f k a0).bind fun t101=>(if t101 = 0 then (some 1) else (if (l1.length : Int) > 12 then (z1a.j0 k a0 l1 l2 true) else (z1a.j0 k a0 l1 l2 ((l2.length : Int) != a0))))) = some r:=h
 clear h
 replace H:=Option.bind_eq_some_iff.mp H
 obtain ⟨t101,A40,H⟩:=H
 replace H : (if t101 = 0 then (some 1) else (if (l1.length : Int) > 12 then (z1a.j0 k a0 l1 l2 true) else (z1a.j0 k a0 l1 l2 ((l2.length : Int) != a0)))) = some r:=H
 have A4:=z1.mk A40
 clear A40
 by_cases c5 : t101 = 0
 · rw [if_pos c5] at H
   have c5b0 : (t101 == 0) = true:=beq_iff_eq.mpr c5
   have c5b1 : (t101 != 0) = false:=bne_eq_false_iff_eq.mpr c5
   clear c5
   obtain rfl:=Option.some.inj H
   go_enter Try.func133,Try.ntmps133
   go_wp2_with (first|((with_reducible refine zi (f:=60) rfl ?_);refine goesL_ (some 9) rfl rfl Try.func60 zz90 rfl #[.int .i64 a0] rfl zz48 ?_;(with_reducible refine (zx.calls k a0 t101 _ A4.out).mono ?_);rintro e w' ⟨rfl,⟨nd,rfl⟩⟩;refine ⟨_,rfl,?_⟩))
   go_ret
   exact ⟨by first|rfl|(simp [zg,zh] <;> rfl)|(simp [*,zg,zh] <;> rfl),by repeat (first|(with_reducible first|exact HB.out|apply zd|apply z2|apply z9)|exact HB.out)⟩
 rw [if_neg c5] at H
 have c5b0 : (t101 == 0) = false:=beq_eq_false_iff_ne.mpr c5
 have c5b1 : (t101 != 0) = true:=bne_iff_ne.mpr c5
 have HC6:=z1.mk H
 clear H
 go_enter Try.func133,Try.ntmps133
 go_upto_region 3 with (first|((with_reducible refine zi (f:=60) rfl ?_);refine goesL_ (some 9) rfl rfl Try.func60 zz90 rfl #[.int .i64 a0] rfl zz48 ?_;(with_reducible refine (zx.calls k a0 t101 _ A4.out).mono ?_);rintro e w' ⟨rfl,⟨nd,rfl⟩⟩;refine ⟨_,rfl,?_⟩))
 (try simp only [Act.put,List.setIfInBounds_toArray,List.set_cons_zero,List.set_cons_succ])
 go_cut [11] (fun v11 wc=>∃ (kq : Nat) (x11_5 : Bool),v11 = .bool x11_5 ∧ z1 (z1a.j0 kq a0 l1 l2 x11_5 = some r) ∧ z1 (kq ≤ k) ∧ z1 (Below w.heap.size w wc))
 case first =>
  have H:=HC6.out
  clear HC6
  by_cases c7 : (l1.length : Int) > 12
  rotate_left
  · rw [if_neg c7] at H
    have c7b0 : decide (12 < (l1.length : Int)) = false:=decide_eq_false c7
    have c7b1 : decide (12 < l1.length) = false:=decide_eq_false zz92
    clear c7
    (first|rw [c7b0]|(simp only [zH,zP];rw [c7b0])|skip)
    have H':=z1.mk H
    clear H
    go_wp2
    go_meet
    case rel=>exact ⟨_,(((l2.length : Int) != a0)),zz86,H',⟨by first|omega|exact Nat.le_refl _⟩,⟨by repeat (first|(with_reducible first|exact HB.out|apply zd|apply z2|apply z9)|exact HB.out)⟩⟩
  rw [if_pos c7] at H
  have c7b0 : decide (12 < (l1.length : Int)) = true:=decide_eq_true c7
  have c7b1 : decide (12 < l1.length) = true:=decide_eq_true zz92
  clear c7
  (first|rw [c7b0]|(simp only [zH,zP];rw [c7b0])|skip)
  have H':=z1.mk H
  clear H
  go_wp2
  go_meet
  case rel=>exact ⟨_,(true),zz86,H',⟨by first|omega|exact Nat.le_refl _⟩,⟨by repeat (first|(with_reducible first|exact HB.out|apply zd|apply z2|apply z9)|exact HB.out)⟩⟩
 case rest =>
  clear HC6
  (try clear c1);(try clear c2);(try clear p2);(try clear c5);(try clear c5b0);(try clear c5b1);(try clear c6);(try clear c7);(try clear c7b0);(try clear c7b1)
  obtain ⟨kq,x11_5,rfl,HA,HJ5,HB⟩:=hcut
  cases kq with
  | zero=>exact absurd HA.out (by simp [z1a.j0])
  | succ kj5 =>
   have H:=HA.out
   clear HA
   simp only [z1a.j0] at H
   by_cases c8 : x11_5 = true
   · subst c8
     have H1 : (some 6) = some r:=by rw [if_pos rfl] at H;exact H
     clear H
     have H:=H1
     clear H1
     obtain rfl:=Option.some.inj H
     go_wp2
     go_ret
     exact ⟨by first|rfl|(simp [zg,zh] <;> rfl)|(simp [*,zg,zh] <;> rfl),by repeat (first|(with_reducible first|exact HB.out|apply zd|apply z2|apply z9)|exact HB.out)⟩
   replace c8:=Bool.eq_false_iff.mpr c8
   subst c8
   have H1 : ((z1b.f kj5 a0 l1).bind fun t102=>(if t102 = true then ((z1b.f kj5 a0 l2).bind fun t103=>(if t103 = true then (some 0) else (some 5))) else (some 5))) = some r:=by rw [if_neg (show ¬ (false = true) by decide)] at H;exact H
   clear H
   have H:=H1
   clear H1
   replace H:=Option.bind_eq_some_iff.mp H
   obtain ⟨t102,A90,H⟩:=H
   replace H : (if t102 = true then ((z1b.f kj5 a0 l2).bind fun t103=>(if t103 = true then (some 0) else (some 5))) else (some 5)) = some r:=H
   have A9:=z1.mk A90
   clear A90
   by_cases c10 : t102 = true
   rotate_left
   · replace c10:=Bool.eq_false_iff.mpr c10
     subst c10
     have H1 : (some 5) = some r:=by rw [if_neg (show ¬ (false = true) by decide)] at H;exact H
     clear H
     have H:=H1
     clear H1
     obtain rfl:=Option.some.inj H
     go_wp2_with (first|((with_reducible refine zi (f:=132) rfl ?_);refine goesL_ (some 24) rfl rfl Try.func132 zz90 rfl #[.int .i64 a0,.slice A1 l1.length c1] rfl zz48 ?_;(with_reducible refine (z1b.calls kj5 a0 _ _ l1 false _ ?side1 ?side2 A9.out).mono ?_);(case side1=>repeat (first|exact (Kd.z1r HR1.out HB.out)|(with_reducible refine Kd.zQ ?_ _)|(with_reducible refine Kd.zR ?_ _)|(with_reducible refine Kd.z1d ?_)));(case side2=>exact HC1.out);rintro e w17 ⟨rfl,hb⟩;refine ⟨_,rfl,?_⟩;have n0_:=z1.mk (z3 zz49 hb);clear HB;have HB:=n0_;clear n0_;(try clear hb);(try clear hb2);(try clear hk);(try clear hi)))
     go_ret
     exact ⟨by first|rfl|(simp [zg,zh] <;> rfl)|(simp [*,zg,zh] <;> rfl),by repeat (first|(with_reducible first|exact HB.out|apply zd|apply z2|apply z9)|exact HB.out)⟩
   subst c10
   have H1 : ((z1b.f kj5 a0 l2).bind fun t103=>(if t103 = true then (some 0) else (some 5))) = some r:=by rw [if_pos rfl] at H;exact H
   clear H
   have H:=H1
   clear H1
   replace H:=Option.bind_eq_some_iff.mp H
   obtain ⟨t103,A110,H⟩:=H
   replace H : (if t103 = true then (some 0) else (some 5)) = some r:=H
   have A11:=z1.mk A110
   clear A110
   by_cases c12 : t103 = true
   · subst c12
     have H1 : (some 0) = some r:=by rw [if_pos rfl] at H;exact H
     clear H
     have H:=H1
     clear H1
     obtain rfl:=Option.some.inj H
     go_wp2_with (first|((with_reducible refine zi (f:=132) rfl ?_);refine goesL_ (some 24) rfl rfl Try.func132 zz90 rfl #[.int .i64 a0,.slice A1 l1.length c1] rfl zz48 ?_;(with_reducible refine (z1b.calls kj5 a0 _ _ l1 true _ ?side1 ?side2 A9.out).mono ?_);(case side1=>repeat (first|exact (Kd.z1r HR1.out HB.out)|(with_reducible refine Kd.zQ ?_ _)|(with_reducible refine Kd.zR ?_ _)|(with_reducible refine Kd.z1d ?_)));(case side2=>exact HC1.out);rintro e w13 ⟨rfl,hb⟩;refine ⟨_,rfl,?_⟩;have n0_:=z1.mk (z3 zz49 hb);clear HB;have HB:=n0_;clear n0_;(try clear hb);(try clear hb2);(try clear hk);(try clear hi))|(go_at_call 132;(with_reducible refine (z1b.calls kj5 a0 _ _ l2 true _ ?side1 ?side2 A11.out).mono ?_);(case side1=>repeat (first|exact (Kd.z1r HR2.out HB.out)|(with_reducible refine Kd.zQ ?_ _)|(with_reducible refine Kd.zR ?_ _)|(with_reducible refine Kd.z1d ?_)));(case side2=>exact HC2.out);rintro e w14 ⟨rfl,hb⟩;have n0_:=z1.mk (z3 zz49 hb);clear HB;have HB:=n0_;clear n0_;(try clear hb);(try clear hb2);(try clear hk);(try clear hi)))
     go_ret
     exact ⟨by first|rfl|(simp [zg,zh] <;> rfl)|(simp [*,zg,zh] <;> rfl),by repeat (first|(with_reducible first|exact HB.out|apply zd|apply z2|apply z9)|exact HB.out)⟩
   replace c12:=Bool.eq_false_iff.mpr c12
   subst c12
   have H1 : (some 5) = some r:=by rw [if_neg (show ¬ (false = true) by decide)] at H;exact H
   clear H
   have H:=H1
   clear H1
   obtain rfl:=Option.some.inj H
   go_wp2_with (first|((with_reducible refine zi (f:=132) rfl ?_);refine goesL_ (some 24) rfl rfl Try.func132 zz90 rfl #[.int .i64 a0,.slice A1 l1.length c1] rfl zz48 ?_;(with_reducible refine (z1b.calls kj5 a0 _ _ l1 true _ ?side1 ?side2 A9.out).mono ?_);(case side1=>repeat (first|exact (Kd.z1r HR1.out HB.out)|(with_reducible refine Kd.zQ ?_ _)|(with_reducible refine Kd.zR ?_ _)|(with_reducible refine Kd.z1d ?_)));(case side2=>exact HC1.out);rintro e w15 ⟨rfl,hb⟩;refine ⟨_,rfl,?_⟩;have n0_:=z1.mk (z3 zz49 hb);clear HB;have HB:=n0_;clear n0_;(try clear hb);(try clear hb2);(try clear hk);(try clear hi))|(go_at_call 132;(with_reducible refine (z1b.calls kj5 a0 _ _ l2 false _ ?side1 ?side2 A11.out).mono ?_);(case side1=>repeat (first|exact (Kd.z1r HR2.out HB.out)|(with_reducible refine Kd.zQ ?_ _)|(with_reducible refine Kd.zR ?_ _)|(with_reducible refine Kd.z1d ?_)));(case side2=>exact HC2.out);rintro e w16 ⟨rfl,hb⟩;have n0_:=z1.mk (z3 zz49 hb);clear HB;have HB:=n0_;clear n0_;(try clear hb);(try clear hb2);(try clear hk);(try clear hi)))
   go_ret
   exact ⟨by first|rfl|(simp [zg,zh] <;> rfl)|(simp [*,zg,zh] <;> rfl),by repeat (first|(with_reducible first|exact HB.out|apply zd|apply z2|apply z9)|exact HB.out)⟩
end Go.Proofs.Ytkhmpaooinpfoaa.P
namespace Go.Proofs.Ytkhmpaooinpfoaa.P
open Go.RowKit Go.Proofs.YtkhmpaooinpfoaaW.PrintWords Go.Proofs.YtkhmpaooinpfoaaW.PrintLast Go.Proofs.YtkhmpaooinpfoaaW.PrintMore
attribute [local go_sem] z12 z14 z1i z1j zU zV z13 z15   -- for this text's walks alone
set_option linter.unusedVariables false
set_option linter.unusedSimpArgs false
def z1k.j0 : Nat → Int → Int → Option (Int)
 | 0,_,_=>none
 | k + 1,x0,x2=>if x0 ≥ 65536 then (if (x0 / 65536) ≥ 256 then (if 0 ≤ (((x0 / 65536) / 256) % 256) then (if (((x0 / 65536) / 256) % 256) < 256 then (some (wrap64 ((wrap64 ((wrap64 (x2 + 16)) + 8)) + (wrap64 (bt (⟨#[0,1,2,2,3,3,3,3,4,4,4,4,4,4,4,4,5,5,5,5,5,5,5,5,5,5,5,5,5,5,5,5,6,6,6,6,6,6,6,6,6,6,6,6,6,6,6,6,6,6,6,6,6,6,6,6,6,6,6,6,6,6,6,6,7,7,7,7,7,7,7,7,7,7,7,7,7,7,7,7,7,7,7,7,7,7,7,7,7,7,7,7,7,7,7,7,7,7,7,7,7,7,7,7,7,7,7,7,7,7,7,7,7,7,7,7,7,7,7,7,7,7,7,7,7,7,7,7,8,8,8,8,8,8,8,8,8,8,8,8,8,8,8,8,8,8,8,8,8,8,8,8,8,8,8,8,8,8,8,8,8,8,8,8,8,8,8,8,8,8,8,8,8,8,8,8,8,8,8,8,8,8,8,8,8,8,8,8,8,8,8,8,8,8,8,8,8,8,8,8,8,8,8,8,8,8,8,8,8,8,8,8,8,8,8,8,8,8,8,8,8,8,8,8,8,8,8,8,8,8,8,8,8,8,8,8,8,8,8,8,8,8,8,8,8,8,8,8,8,8,8,8,8,8,8,8]⟩ : ByteArray) (((x0 / 65536) / 256) % 256)))))) else (none)) else (none)) else (if 0 ≤ ((x0 / 65536) % 256) then (if ((x0 / 65536) % 256) < 256 then (some (wrap64 ((wrap64 (x2 + 16)) + (wrap64 (bt (⟨#[0,1,2,2,3,3,3,3,4,4,4,4,4,4,4,4,5,5,5,5,5,5,5,5,5,5,5,5,5,5,5,5,6,6,6,6,6,6,6,6,6,6,6,6,6,6,6,6,6,6,6,6,6,6,6,6,6,6,6,6,6,6,6,6,7,7,7,7,7,7,7,7,7,7,7,7,7,7,7,7,7,7,7,7,7,7,7,7,7,7,7,7,7,7,7,7,7,7,7,7,7,7,7,7,7,7,7,7,7,7,7,7,7,7,7,7,7,7,7,7,7,7,7,7,7,7,7,7,8,8,8,8,8,8,8,8,8,8,8,8,8,8,8,8,8,8,8,8,8,8,8,8,8,8,8,8,8,8,8,8,8,8,8,8,8,8,8,8,8,8,8,8,8,8,8,8,8,8,8,8,8,8,8,8,8,8,8,8,8,8,8,8,8,8,8,8,8,8,8,8,8,8,8,8,8,8,8,8,8,8,8,8,8,8,8,8,8,8,8,8,8,8,8,8,8,8,8,8,8,8,8,8,8,8,8,8,8,8,8,8,8,8,8,8,8,8,8,8,8,8,8,8,8,8,8,8]⟩ : ByteArray) ((x0 / 65536) % 256)))))) else (none)) else (none))) else (if x0 ≥ 256 then (if 0 ≤ ((x0 / 256) % 256) then (if ((x0 / 256) % 256) < 256 then (some (wrap64 ((wrap64 (x2 + 8)) + (wrap64 (bt (⟨#[0,1,2,2,3,3,3,3,4,4,4,4,4,4,4,4,5,5,5,5,5,5,5,5,5,5,5,5,5,5,5,5,6,6,6,6,6,6,6,6,6,6,6,6,6,6,6,6,6,6,6,6,6,6,6,6,6,6,6,6,6,6,6,6,7,7,7,7,7,7,7,7,7,7,7,7,7,7,7,7,7,7,7,7,7,7,7,7,7,7,7,7,7,7,7,7,7,7,7,7,7,7,7,7,7,7,7,7,7,7,7,7,7,7,7,7,7,7,7,7,7,7,7,7,7,7,7,7,8,8,8,8,8,8,8,8,8,8,8,8,8,8,8,8,8,8,8,8,8,8,8,8,8,8,8,8,8,8,8,8,8,8,8,8,8,8,8,8,8,8,8,8,8,8,8,8,8,8,8,8,8,8,8,8,8,8,8,8,8,8,8,8,8,8,8,8,8,8,8,8,8,8,8,8,8,8,8,8,8,8,8,8,8,8,8,8,8,8,8,8,8,8,8,8,8,8,8,8,8,8,8,8,8,8,8,8,8,8,8,8,8,8,8,8,8,8,8,8,8,8,8,8,8,8,8,8]⟩ : ByteArray) ((x0 / 256) % 256)))))) else (none)) else (none)) else (if 0 ≤ ((x0) % 256) then (if ((x0) % 256) < 256 then (some (wrap64 (x2 + (wrap64 (bt (⟨#[0,1,2,2,3,3,3,3,4,4,4,4,4,4,4,4,5,5,5,5,5,5,5,5,5,5,5,5,5,5,5,5,6,6,6,6,6,6,6,6,6,6,6,6,6,6,6,6,6,6,6,6,6,6,6,6,6,6,6,6,6,6,6,6,7,7,7,7,7,7,7,7,7,7,7,7,7,7,7,7,7,7,7,7,7,7,7,7,7,7,7,7,7,7,7,7,7,7,7,7,7,7,7,7,7,7,7,7,7,7,7,7,7,7,7,7,7,7,7,7,7,7,7,7,7,7,7,7,8,8,8,8,8,8,8,8,8,8,8,8,8,8,8,8,8,8,8,8,8,8,8,8,8,8,8,8,8,8,8,8,8,8,8,8,8,8,8,8,8,8,8,8,8,8,8,8,8,8,8,8,8,8,8,8,8,8,8,8,8,8,8,8,8,8,8,8,8,8,8,8,8,8,8,8,8,8,8,8,8,8,8,8,8,8,8,8,8,8,8,8,8,8,8,8,8,8,8,8,8,8,8,8,8,8,8,8,8,8,8,8,8,8,8,8,8,8,8,8,8,8,8,8,8,8,8,8]⟩ : ByteArray) ((x0) % 256)))))) else (none)) else (none)))
def z1k.f (k : Nat) (a0 : Int) : Option (Int):=if a0 ≥ 4294967296 then (z1k.j0 k (a0 / 4294967296) 32) else (z1k.j0 k a0 0)
theorem z1k.z17 : ∀ k,(∀ y0 y1,LeO (z1k.j0 k y0 y1) (z1k.j0 (k + 1) y0 y1))
 | 0=>fun _ _ r h=>by simp [z1k.j0] at h
 | k + 1=>by
  have ih0:=z1k.z17 k
  · intro y0 y1
    unfold z1k.j0
    repeat' first
    | (with_reducible exact ih0 _ _)
    | (with_reducible exact LeO.refl _)
    | (with_reducible exact LeO.none _)
    | (with_reducible refine LeO.ite ?_ ?_)
    | (with_reducible refine LeO.bind ?_ (fun _=>?_))
    | exact ih0 _ _
    | exact LeO.none _
    | refine LeO.ite ?_ ?_
    | refine LeO.bind ?_ (fun _=>?_)
theorem z1k.mono : ∀ a0 k,LeO (z1k.f k a0) (z1k.f (k + 1) a0):=by
 intro a0 k
 have ih0:=z1k.z17 k
 unfold z1k.f
 repeat' first
  | (with_reducible exact ih0 _ _)
  | (with_reducible exact LeO.refl _)
  | (with_reducible exact LeO.none _)
  | (with_reducible refine LeO.ite ?_ ?_)
  | (with_reducible refine LeO.bind ?_ (fun _=>?_))
  | exact ih0 _ _
  | exact LeO.none _
  | refine LeO.ite ?_ ?_
  | refine LeO.bind ?_ (fun _=>?_)
set_option maxHeartbeats 8000000 in
set_option maxRecDepth 100000 in
theorem z1k.calls (k : Nat) (a0 : Int) (r : Int) (w : World) (h : z1k.f k a0 = some r) :
 Calls Try.prog 149 #[.int .u64 a0] w fun e w'=>e = .returned (.int .i64 r) ∧ Drawn0 w w':=by
 have H : (if a0 ≥ 4294967296 then (z1k.j0 k (a0 / 4294967296) 32) else (z1k.j0 k a0 0)) = some r:=h
 clear h
 have HC2:=z1.mk H
 clear H
 go_enter Try.func149,Try.ntmps149
 go_upto_if 4 with (fail)
 go_cut [0,2] (fun v0 v2 wc=>∃ (kq : Nat) (x0_1 : Int) (x2_1 : Int),v0 = .int .u64 x0_1 ∧ v2 = .int .i64 x2_1 ∧ z1 (z1k.j0 kq x0_1 x2_1 = some r) ∧ z1 (kq ≤ k) ∧ Drawn0 w wc)
 case first =>
  have H:=HC2.out
  clear HC2
  by_cases c3 : a0 ≥ 4294967296
  rotate_left
  · rw [if_neg c3] at H
    have c3b0 : decide (4294967296 ≤ a0) = false:=decide_eq_false c3
    clear c3
    (first|rw [c3b0]|(simp only [zH,zP];rw [c3b0])|skip)
    have H':=z1.mk H
    clear H
    go_wp2
    go_meet
    case rel=>exact ⟨_,(a0),(0),zz86,zz86,H',⟨by first|omega|exact Nat.le_refl _⟩,by repeat (first|exact Drawn0.refl _|apply Drawn0.step)⟩
  rw [if_pos c3] at H
  have c3b0 : decide (4294967296 ≤ a0) = true:=decide_eq_true c3
  clear c3
  (first|rw [c3b0]|(simp only [zH,zP];rw [c3b0])|skip)
  have H':=z1.mk H
  clear H
  go_wp2
  go_meet
  case rel=>exact ⟨_,(a0 / 4294967296),(32),zz86,zz86,H',⟨by first|omega|exact Nat.le_refl _⟩,by repeat (first|exact Drawn0.refl _|apply Drawn0.step)⟩
 case rest =>
  clear HC2
  (try clear c1);(try clear p2);(try clear c3);(try clear c3b0)
  obtain ⟨kq,x0_1,x2_1,rfl,rfl,HA,HJ1,⟨mc1,rfl⟩⟩:=hcut
  cases kq with
  | zero=>exact absurd HA.out (by simp [z1k.j0])
  | succ kj1 =>
   have H:=HA.out
   clear HA
   simp only [z1k.j0] at H
   by_cases c4 : x0_1 ≥ 65536
   · rw [if_pos c4] at H
     have c4b0 : decide (65536 ≤ x0_1) = true:=decide_eq_true c4
     clear c4
     by_cases c5 : (x0_1 / 65536) ≥ 256
     rotate_left
     · rw [if_neg c5] at H
       have c5b0 : decide (256 ≤ (x0_1 / 65536)) = false:=decide_eq_false c5
       clear c5
       obtain ⟨ji10,hji10⟩ : ∃ j_ : Int,((x0_1 / 65536) % 256) = j_:=⟨_,rfl⟩
       replace H : (if 0 ≤ (ji10) then (if (ji10) < 256 then (some (wrap64 ((wrap64 (x2_1 + 16)) + (wrap64 (bt (⟨#[0,1,2,2,3,3,3,3,4,4,4,4,4,4,4,4,5,5,5,5,5,5,5,5,5,5,5,5,5,5,5,5,6,6,6,6,6,6,6,6,6,6,6,6,6,6,6,6,6,6,6,6,6,6,6,6,6,6,6,6,6,6,6,6,7,7,7,7,7,7,7,7,7,7,7,7,7,7,7,7,7,7,7,7,7,7,7,7,7,7,7,7,7,7,7,7,7,7,7,7,7,7,7,7,7,7,7,7,7,7,7,7,7,7,7,7,7,7,7,7,7,7,7,7,7,7,7,7,8,8,8,8,8,8,8,8,8,8,8,8,8,8,8,8,8,8,8,8,8,8,8,8,8,8,8,8,8,8,8,8,8,8,8,8,8,8,8,8,8,8,8,8,8,8,8,8,8,8,8,8,8,8,8,8,8,8,8,8,8,8,8,8,8,8,8,8,8,8,8,8,8,8,8,8,8,8,8,8,8,8,8,8,8,8,8,8,8,8,8,8,8,8,8,8,8,8,8,8,8,8,8,8,8,8,8,8,8,8,8,8,8,8,8,8,8,8,8,8,8,8,8,8,8,8,8,8]⟩ : ByteArray) (ji10)))))) else (none)) else (none)) = some r:=by first|(rw [hji10] at H;exact H)|(simp only [hji10] at H ⊢;exact H)
       by_cases c11 : 0 ≤ (ji10)
       rotate_left
       · rw [if_neg c11] at H
         exact absurd H zz93
       rw [if_pos c11] at H
       have c11b0 : decide (0 ≤ (ji10)) = true:=decide_eq_true c11
       clear c11
       by_cases c12 : (ji10) < 256
       rotate_left
       · rw [if_neg c12] at H
         exact absurd H zz93
       rw [if_pos c12] at H
       have c12b0 : decide ((ji10) < 256) = true:=decide_eq_true c12
       clear c12
       obtain rfl:=Option.some.inj H
       have p13 : 0 ≤ ((ji10) : Int):=of_decide_eq_true zz85
       have q13 : (ji10) < (256 : Int):=of_decide_eq_true zz85
       have hx13:=bt_at (⟨#[0,1,2,2,3,3,3,3,4,4,4,4,4,4,4,4,5,5,5,5,5,5,5,5,5,5,5,5,5,5,5,5,6,6,6,6,6,6,6,6,6,6,6,6,6,6,6,6,6,6,6,6,6,6,6,6,6,6,6,6,6,6,6,6,7,7,7,7,7,7,7,7,7,7,7,7,7,7,7,7,7,7,7,7,7,7,7,7,7,7,7,7,7,7,7,7,7,7,7,7,7,7,7,7,7,7,7,7,7,7,7,7,7,7,7,7,7,7,7,7,7,7,7,7,7,7,7,7,8,8,8,8,8,8,8,8,8,8,8,8,8,8,8,8,8,8,8,8,8,8,8,8,8,8,8,8,8,8,8,8,8,8,8,8,8,8,8,8,8,8,8,8,8,8,8,8,8,8,8,8,8,8,8,8,8,8,8,8,8,8,8,8,8,8,8,8,8,8,8,8,8,8,8,8,8,8,8,8,8,8,8,8,8,8,8,8,8,8,8,8,8,8,8,8,8,8,8,8,8,8,8,8,8,8,8,8,8,8,8,8,8,8,8,8,8,8,8,8,8,8,8,8,8,8,8,8]⟩ : ByteArray) (ji10)
       replace p13:=eq_true p13
       replace q13:=eq_true q13
       go_wp2
       go_ret
       exact ⟨by first|rfl|(simp;done)|(simp only [← hji10] <;> (first|rfl|simp))|(simp [*];done),by repeat (first|exact Drawn0.refl _|apply Drawn0.step)⟩
     rw [if_pos c5] at H
     have c5b0 : decide (256 ≤ (x0_1 / 65536)) = true:=decide_eq_true c5
     clear c5
     obtain ⟨ji6,hji6⟩ : ∃ j_ : Int,(((x0_1 / 65536) / 256) % 256) = j_:=⟨_,rfl⟩
     replace H : (if 0 ≤ (ji6) then (if (ji6) < 256 then (some (wrap64 ((wrap64 ((wrap64 (x2_1 + 16)) + 8)) + (wrap64 (bt (⟨#[0,1,2,2,3,3,3,3,4,4,4,4,4,4,4,4,5,5,5,5,5,5,5,5,5,5,5,5,5,5,5,5,6,6,6,6,6,6,6,6,6,6,6,6,6,6,6,6,6,6,6,6,6,6,6,6,6,6,6,6,6,6,6,6,7,7,7,7,7,7,7,7,7,7,7,7,7,7,7,7,7,7,7,7,7,7,7,7,7,7,7,7,7,7,7,7,7,7,7,7,7,7,7,7,7,7,7,7,7,7,7,7,7,7,7,7,7,7,7,7,7,7,7,7,7,7,7,7,8,8,8,8,8,8,8,8,8,8,8,8,8,8,8,8,8,8,8,8,8,8,8,8,8,8,8,8,8,8,8,8,8,8,8,8,8,8,8,8,8,8,8,8,8,8,8,8,8,8,8,8,8,8,8,8,8,8,8,8,8,8,8,8,8,8,8,8,8,8,8,8,8,8,8,8,8,8,8,8,8,8,8,8,8,8,8,8,8,8,8,8,8,8,8,8,8,8,8,8,8,8,8,8,8,8,8,8,8,8,8,8,8,8,8,8,8,8,8,8,8,8,8,8,8,8,8,8]⟩ : ByteArray) (ji6)))))) else (none)) else (none)) = some r:=by first|(rw [hji6] at H;exact H)|(simp only [hji6] at H ⊢;exact H)
     by_cases c7 : 0 ≤ (ji6)
     rotate_left
     · rw [if_neg c7] at H
       exact absurd H zz93
     rw [if_pos c7] at H
     have c7b0 : decide (0 ≤ (ji6)) = true:=decide_eq_true c7
     clear c7
     by_cases c8 : (ji6) < 256
     rotate_left
     · rw [if_neg c8] at H
       exact absurd H zz93
     rw [if_pos c8] at H
     have c8b0 : decide ((ji6) < 256) = true:=decide_eq_true c8
     clear c8
     obtain rfl:=Option.some.inj H
     have p9 : 0 ≤ ((ji6) : Int):=of_decide_eq_true zz85
     have q9 : (ji6) < (256 : Int):=of_decide_eq_true zz85
     have hx9:=bt_at (⟨#[0,1,2,2,3,3,3,3,4,4,4,4,4,4,4,4,5,5,5,5,5,5,5,5,5,5,5,5,5,5,5,5,6,6,6,6,6,6,6,6,6,6,6,6,6,6,6,6,6,6,6,6,6,6,6,6,6,6,6,6,6,6,6,6,7,7,7,7,7,7,7,7,7,7,7,7,7,7,7,7,7,7,7,7,7,7,7,7,7,7,7,7,7,7,7,7,7,7,7,7,7,7,7,7,7,7,7,7,7,7,7,7,7,7,7,7,7,7,7,7,7,7,7,7,7,7,7,7,8,8,8,8,8,8,8,8,8,8,8,8,8,8,8,8,8,8,8,8,8,8,8,8,8,8,8,8,8,8,8,8,8,8,8,8,8,8,8,8,8,8,8,8,8,8,8,8,8,8,8,8,8,8,8,8,8,8,8,8,8,8,8,8,8,8,8,8,8,8,8,8,8,8,8,8,8,8,8,8,8,8,8,8,8,8,8,8,8,8,8,8,8,8,8,8,8,8,8,8,8,8,8,8,8,8,8,8,8,8,8,8,8,8,8,8,8,8,8,8,8,8,8,8,8,8,8,8]⟩ : ByteArray) (ji6)
     replace p9:=eq_true p9
     replace q9:=eq_true q9
     go_wp2
     go_ret
     exact ⟨by first|rfl|(simp;done)|(simp only [← hji6] <;> (first|rfl|simp))|(simp [*];done),by repeat (first|exact Drawn0.refl _|apply Drawn0.step)⟩
   rw [if_neg c4] at H
   have c4b0 : decide (65536 ≤ x0_1) = false:=decide_eq_false c4
   clear c4
   by_cases c14 : x0_1 ≥ 256
   · rw [if_pos c14] at H
     have c14b0 : decide (256 ≤ x0_1) = true:=decide_eq_true c14
     clear c14
     obtain ⟨ji15,hji15⟩ : ∃ j_ : Int,((x0_1 / 256) % 256) = j_:=⟨_,rfl⟩
     replace H : (if 0 ≤ (ji15) then (if (ji15) < 256 then (some (wrap64 ((wrap64 (x2_1 + 8)) + (wrap64 (bt (⟨#[0,1,2,2,3,3,3,3,4,4,4,4,4,4,4,4,5,5,5,5,5,5,5,5,5,5,5,5,5,5,5,5,6,6,6,6,6,6,6,6,6,6,6,6,6,6,6,6,6,6,6,6,6,6,6,6,6,6,6,6,6,6,6,6,7,7,7,7,7,7,7,7,7,7,7,7,7,7,7,7,7,7,7,7,7,7,7,7,7,7,7,7,7,7,7,7,7,7,7,7,7,7,7,7,7,7,7,7,7,7,7,7,7,7,7,7,7,7,7,7,7,7,7,7,7,7,7,7,8,8,8,8,8,8,8,8,8,8,8,8,8,8,8,8,8,8,8,8,8,8,8,8,8,8,8,8,8,8,8,8,8,8,8,8,8,8,8,8,8,8,8,8,8,8,8,8,8,8,8,8,8,8,8,8,8,8,8,8,8,8,8,8,8,8,8,8,8,8,8,8,8,8,8,8,8,8,8,8,8,8,8,8,8,8,8,8,8,8,8,8,8,8,8,8,8,8,8,8,8,8,8,8,8,8,8,8,8,8,8,8,8,8,8,8,8,8,8,8,8,8,8,8,8,8,8,8]⟩ : ByteArray) (ji15)))))) else (none)) else (none)) = some r:=by first|(rw [hji15] at H;exact H)|(simp only [hji15] at H ⊢;exact H)
     by_cases c16 : 0 ≤ (ji15)
     rotate_left
     · rw [if_neg c16] at H
       exact absurd H zz93
     rw [if_pos c16] at H
     have c16b0 : decide (0 ≤ (ji15)) = true:=decide_eq_true c16
     clear c16
     by_cases c17 : (ji15) < 256
     rotate_left
     · rw [if_neg c17] at H
       exact absurd H zz93
     rw [if_pos c17] at H
     have c17b0 : decide ((ji15) < 256) = true:=decide_eq_true c17
     clear c17
     obtain rfl:=Option.some.inj H
     have p18 : 0 ≤ ((ji15) : Int):=of_decide_eq_true zz85
     have q18 : (ji15) < (256 : Int):=of_decide_eq_true zz85
     have hx18:=bt_at (⟨#[0,1,2,2,3,3,3,3,4,4,4,4,4,4,4,4,5,5,5,5,5,5,5,5,5,5,5,5,5,5,5,5,6,6,6,6,6,6,6,6,6,6,6,6,6,6,6,6,6,6,6,6,6,6,6,6,6,6,6,6,6,6,6,6,7,7,7,7,7,7,7,7,7,7,7,7,7,7,7,7,7,7,7,7,7,7,7,7,7,7,7,7,7,7,7,7,7,7,7,7,7,7,7,7,7,7,7,7,7,7,7,7,7,7,7,7,7,7,7,7,7,7,7,7,7,7,7,7,8,8,8,8,8,8,8,8,8,8,8,8,8,8,8,8,8,8,8,8,8,8,8,8,8,8,8,8,8,8,8,8,8,8,8,8,8,8,8,8,8,8,8,8,8,8,8,8,8,8,8,8,8,8,8,8,8,8,8,8,8,8,8,8,8,8,8,8,8,8,8,8,8,8,8,8,8,8,8,8,8,8,8,8,8,8,8,8,8,8,8,8,8,8,8,8,8,8,8,8,8,8,8,8,8,8,8,8,8,8,8,8,8,8,8,8,8,8,8,8,8,8,8,8,8,8,8,8]⟩ : ByteArray) (ji15)
     replace p18:=eq_true p18
     replace q18:=eq_true q18
     go_wp2
     go_ret
     exact ⟨by first|rfl|(simp;done)|(simp only [← hji15] <;> (first|rfl|simp))|(simp [*];done),by repeat (first|exact Drawn0.refl _|apply Drawn0.step)⟩
   rw [if_neg c14] at H
   have c14b0 : decide (256 ≤ x0_1) = false:=decide_eq_false c14
   clear c14
   obtain ⟨ji19,hji19⟩ : ∃ j_ : Int,((x0_1) % 256) = j_:=⟨_,rfl⟩
   replace H : (if 0 ≤ (ji19) then (if (ji19) < 256 then (some (wrap64 (x2_1 + (wrap64 (bt (⟨#[0,1,2,2,3,3,3,3,4,4,4,4,4,4,4,4,5,5,5,5,5,5,5,5,5,5,5,5,5,5,5,5,6,6,6,6,6,6,6,6,6,6,6,6,6,6,6,6,6,6,6,6,6,6,6,6,6,6,6,6,6,6,6,6,7,7,7,7,7,7,7,7,7,7,7,7,7,7,7,7,7,7,7,7,7,7,7,7,7,7,7,7,7,7,7,7,7,7,7,7,7,7,7,7,7,7,7,7,7,7,7,7,7,7,7,7,7,7,7,7,7,7,7,7,7,7,7,7,8,8,8,8,8,8,8,8,8,8,8,8,8,8,8,8,8,8,8,8,8,8,8,8,8,8,8,8,8,8,8,8,8,8,8,8,8,8,8,8,8,8,8,8,8,8,8,8,8,8,8,8,8,8,8,8,8,8,8,8,8,8,8,8,8,8,8,8,8,8,8,8,8,8,8,8,8,8,8,8,8,8,8,8,8,8,8,8,8,8,8,8,8,8,8,8,8,8,8,8,8,8,8,8,8,8,8,8,8,8,8,8,8,8,8,8,8,8,8,8,8,8,8,8,8,8,8,8]⟩ : ByteArray) (ji19)))))) else (none)) else (none)) = some r:=by first|(rw [hji19] at H;exact H)|(simp only [hji19] at H ⊢;exact H)
   by_cases c20 : 0 ≤ (ji19)
   rotate_left
   · rw [if_neg c20] at H
     exact absurd H zz93
   rw [if_pos c20] at H
   have c20b0 : decide (0 ≤ (ji19)) = true:=decide_eq_true c20
   clear c20
   by_cases c21 : (ji19) < 256
   rotate_left
   · rw [if_neg c21] at H
     exact absurd H zz93
   rw [if_pos c21] at H
   have c21b0 : decide ((ji19) < 256) = true:=decide_eq_true c21
   clear c21
   obtain rfl:=Option.some.inj H
   have p22 : 0 ≤ ((ji19) : Int):=of_decide_eq_true zz85
   have q22 : (ji19) < (256 : Int):=of_decide_eq_true zz85
   have hx22:=bt_at (⟨#[0,1,2,2,3,3,3,3,4,4,4,4,4,4,4,4,5,5,5,5,5,5,5,5,5,5,5,5,5,5,5,5,6,6,6,6,6,6,6,6,6,6,6,6,6,6,6,6,6,6,6,6,6,6,6,6,6,6,6,6,6,6,6,6,7,7,7,7,7,7,7,7,7,7,7,7,7,7,7,7,7,7,7,7,7,7,7,7,7,7,7,7,7,7,7,7,7,7,7,7,7,7,7,7,7,7,7,7,7,7,7,7,7,7,7,7,7,7,7,7,7,7,7,7,7,7,7,7,8,8,8,8,8,8,8,8,8,8,8,8,8,8,8,8,8,8,8,8,8,8,8,8,8,8,8,8,8,8,8,8,8,8,8,8,8,8,8,8,8,8,8,8,8,8,8,8,8,8,8,8,8,8,8,8,8,8,8,8,8,8,8,8,8,8,8,8,8,8,8,8,8,8,8,8,8,8,8,8,8,8,8,8,8,8,8,8,8,8,8,8,8,8,8,8,8,8,8,8,8,8,8,8,8,8,8,8,8,8,8,8,8,8,8,8,8,8,8,8,8,8,8,8,8,8,8,8]⟩ : ByteArray) (ji19)
   replace p22:=eq_true p22
   replace q22:=eq_true q22
   go_wp2
   go_ret
   exact ⟨by first|rfl|(simp;done)|(simp only [← hji19] <;> (first|rfl|simp))|(simp [*];done),by repeat (first|exact Drawn0.refl _|apply Drawn0.step)⟩
end Go.Proofs.Ytkhmpaooinpfoaa.P
namespace Go.Proofs.Ytkhmpaooinpfoaa.P
open Go.RowKit Go.Proofs.YtkhmpaooinpfoaaW.PrintWords Go.Proofs.YtkhmpaooinpfoaaW.PrintLast Go.Proofs.YtkhmpaooinpfoaaW.PrintMore
attribute [local go_sem] z12 z14 z1i z1j zU zV z13 z15   -- for this text's walks alone
set_option linter.unusedVariables false
set_option linter.unusedSimpArgs false
def z1P.f (k : Nat) (a0_0 : Int) (a0_1 : Int) : Option (Int):=if a0_0 = 0 then ((z1k.f k a0_1).bind fun t102=>(some (wrap64 (t102 - 1)))) else ((z1k.f k a0_0).bind fun t103=>(some (wrap64 (63 + t103))))
theorem z1P.mono : ∀ a0 a1 k,LeO (z1P.f k a0 a1) (z1P.f (k + 1) a0 a1):=by
 intro a0 a1 k
 unfold z1P.f
 repeat' first
  | (with_reducible exact z1k.mono _ _)
  | (with_reducible exact LeO.refl _)
  | (with_reducible exact LeO.none _)
  | (with_reducible refine LeO.ite ?_ ?_)
  | (with_reducible refine LeO.bind ?_ (fun _=>?_))
  | exact z1k.mono _ _
  | exact LeO.none _
  | refine LeO.ite ?_ ?_
  | refine LeO.bind ?_ (fun _=>?_)
set_option maxHeartbeats 8000000 in
set_option maxRecDepth 100000 in
theorem z1P.calls (k : Nat) (a0_0 : Int) (a0_1 : Int) (r : Int) (w : World) (h : z1P.f k a0_0 a0_1 = some r) :
 Calls Try.prog 144 #[.agg #[.int .u64 a0_0,.int .u64 a0_1]] w fun e w'=>e = .returned (.int .i64 r) ∧ Below w.heap.size w w':=by
 have hu30:=Try.underlying30
 have HB:=z1.mk (Below.refl w.heap.size w)
 have H : (if a0_0 = 0 then ((z1k.f k a0_1).bind fun t102=>(some (wrap64 (t102 - 1)))) else ((z1k.f k a0_0).bind fun t103=>(some (wrap64 (63 + t103))))) = some r:=h
 clear h
 by_cases c2 : a0_0 = 0
 rotate_left
 · rw [if_neg c2] at H
   have c2b0 : (a0_0 == 0) = false:=beq_eq_false_iff_ne.mpr c2
   have c2b1 : (a0_0 != 0) = true:=bne_iff_ne.mpr c2
   replace H:=Option.bind_eq_some_iff.mp H
   obtain ⟨t103,A60,H⟩:=H
   replace H : (some (wrap64 (63 + t103))) = some r:=H
   have A6:=z1.mk A60
   clear A60
   obtain rfl:=Option.some.inj H
   go_enter Try.func144,Try.ntmps144
   go_wp2_with (first|((with_reducible refine zp (N:=1) rfl ?_);refine zt ?hg (N:=1) ?hd (cs:=#[.int .u64 a0_0,.int .u64 a0_1]) (t:=30) ?hr ?_;(case hd=>rfl);(case hg=>rfl);(case hr=>first|(go_simp;done)|(go_simp;rfl));intro gb101 hg w7 hbox hb;have n0_:=z1.mk (z3 zz49 hb);have n1_:=z1.mk (hbox);have n2_:=z1.mk ((by rw [hg];exact (zb zz49) : w.heap.size ≤ gb101));have n3_:=z1.mk ((by rw [hg];exact (zb zz49) : w.heap.size ≤ gb101));clear HB;have HB:=n0_;have BK101:=n1_;have GW101:=n2_;have GE101:=n3_;clear n0_ n1_ n2_ n3_;clear hb hbox hg;have hcz8_0 : w7.cell? ⟨gb101,0,none⟩ = some (.int .u64 a0_0):=(z7 BK101.out 0).trans rfl;have hcz8_1 : w7.cell? ⟨gb101,1,none⟩ = some (.int .u64 a0_1):=(z7 BK101.out 1).trans rfl;have hfz8_0:=z6 BK101.out 0;have hfz8_1:=z6 BK101.out 1)|((with_reducible refine zi (f:=149) rfl ?_);refine goesL_ (some 8) rfl rfl Try.func149 zz90 rfl #[.int .u64 a0_0] rfl zz48 ?_;(with_reducible refine (z1k.calls k a0_0 t103 _ A6.out).mono ?_);rintro e w' ⟨rfl,⟨nd,rfl⟩⟩;refine ⟨_,rfl,?_⟩))
   go_ret
   exact ⟨by first|rfl|(simp [zg,zh] <;> rfl)|(simp [*,zg,zh] <;> rfl),by repeat (first|(with_reducible first|exact HB.out|apply zd|apply z2|apply z9|refine za ?_ GE101.out)|exact HB.out)⟩
 rw [if_pos c2] at H
 have c2b0 : (a0_0 == 0) = true:=beq_iff_eq.mpr c2
 have c2b1 : (a0_0 != 0) = false:=bne_eq_false_iff_eq.mpr c2
 clear c2
 replace H:=Option.bind_eq_some_iff.mp H
 obtain ⟨t102,A30,H⟩:=H
 replace H : (some (wrap64 (t102 - 1))) = some r:=H
 have A3:=z1.mk A30
 clear A30
 obtain rfl:=Option.some.inj H
 go_enter Try.func144,Try.ntmps144
 go_wp2_with (first|((with_reducible refine zp (N:=1) rfl ?_);refine zt ?hg (N:=1) ?hd (cs:=#[.int .u64 a0_0,.int .u64 a0_1]) (t:=30) ?hr ?_;(case hd=>rfl);(case hg=>rfl);(case hr=>first|(go_simp;done)|(go_simp;rfl));intro gb101 hg w4 hbox hb;have n0_:=z1.mk (z3 zz49 hb);have n1_:=z1.mk (hbox);have n2_:=z1.mk ((by rw [hg];exact (zb zz49) : w.heap.size ≤ gb101));have n3_:=z1.mk ((by rw [hg];exact (zb zz49) : w.heap.size ≤ gb101));clear HB;have HB:=n0_;have BK101:=n1_;have GW101:=n2_;have GE101:=n3_;clear n0_ n1_ n2_ n3_;clear hb hbox hg;have hcz5_0 : w4.cell? ⟨gb101,0,none⟩ = some (.int .u64 a0_0):=(z7 BK101.out 0).trans rfl;have hcz5_1 : w4.cell? ⟨gb101,1,none⟩ = some (.int .u64 a0_1):=(z7 BK101.out 1).trans rfl;have hfz5_0:=z6 BK101.out 0;have hfz5_1:=z6 BK101.out 1)|((with_reducible refine zi (f:=149) rfl ?_);refine goesL_ (some 12) rfl rfl Try.func149 zz90 rfl #[.int .u64 a0_1] rfl zz48 ?_;(with_reducible refine (z1k.calls k a0_1 t102 _ A3.out).mono ?_);rintro e w' ⟨rfl,⟨nd,rfl⟩⟩;refine ⟨_,rfl,?_⟩))
 go_ret
 exact ⟨by first|rfl|(simp [zg,zh] <;> rfl)|(simp [*,zg,zh] <;> rfl),by repeat (first|(with_reducible first|exact HB.out|apply zd|apply z2|apply z9|refine za ?_ GE101.out)|exact HB.out)⟩
end Go.Proofs.Ytkhmpaooinpfoaa.P
namespace Go.Proofs.Ytkhmpaooinpfoaa.P
open Go.RowKit Go.Proofs.YtkhmpaooinpfoaaW.PrintWords Go.Proofs.YtkhmpaooinpfoaaW.PrintLast Go.Proofs.YtkhmpaooinpfoaaW.PrintMore
attribute [local go_sem] z12 z14 z1i z1j zU zV z13 z15   -- for this text's walks alone
set_option linter.unusedVariables false
set_option linter.unusedSimpArgs false
def zY.j0 : Nat → Int → Bool → Option (Int × Int)
 | 0,_,_=>none
 | k + 1,x0,x3=>if x3 = true then (if 0 ≤ x0 then (some (0,shl .u64 1 x0)) else (none)) else (if x0 ≥ 64 then (if x0 < 128 then (if 0 ≤ (wrap64 (x0 - 64)) then (some (shl .u64 1 (wrap64 (x0 - 64)),0)) else (none)) else (some (0,0))) else (some (0,0)))
def zY.f (k : Nat) (a0 : Int) : Option (Int × Int):=if a0 ≥ 0 then (zY.j0 k a0 (decide (a0 < 64))) else (zY.j0 k a0 false)
theorem zY.z17 : ∀ k,(∀ y0 y1,LeO (zY.j0 k y0 y1) (zY.j0 (k + 1) y0 y1))
 | 0=>fun _ _ r h=>by simp [zY.j0] at h
 | k + 1=>by
  have ih0:=zY.z17 k
  · intro y0 y1
    unfold zY.j0
    repeat' first
    | (with_reducible exact ih0 _ _)
    | (with_reducible exact LeO.refl _)
    | (with_reducible exact LeO.none _)
    | (with_reducible refine LeO.ite ?_ ?_)
    | (with_reducible refine LeO.bind ?_ (fun _=>?_))
    | exact ih0 _ _
    | exact LeO.none _
    | refine LeO.ite ?_ ?_
    | refine LeO.bind ?_ (fun _=>?_)
theorem zY.mono : ∀ a0 k,LeO (zY.f k a0) (zY.f (k + 1) a0):=by
 intro a0 k
 have ih0:=zY.z17 k
 unfold zY.f
 repeat' first
  | (with_reducible exact ih0 _ _)
  | (with_reducible exact LeO.refl _)
  | (with_reducible exact LeO.none _)
  | (with_reducible refine LeO.ite ?_ ?_)
  | (with_reducible refine LeO.bind ?_ (fun _=>?_))
  | exact ih0 _ _
  | exact LeO.none _
  | refine LeO.ite ?_ ?_
  | refine LeO.bind ?_ (fun _=>?_)
set_option maxHeartbeats 8000000 in
set_option maxRecDepth 100000 in
theorem zY.calls (k : Nat) (a0 : Int) (r1 : Int) (r2 : Int) (w : World) (h : zY.f k a0 = some (r1,r2)) :
 Calls Try.prog 94 #[.int .i64 a0] w fun e w'=>e = .returned (.agg #[.int .u64 r1,.int .u64 r2]) ∧ Below w.heap.size w w':=by
 have hu30:=Try.underlying30
 have HB:=z1.mk (Below.refl w.heap.size w)
 have H : (if a0 ≥ 0 then (zY.j0 k a0 (decide (a0 < 64))) else (zY.j0 k a0 false)) = some (r1,r2):=h
 clear h
 have HC2:=z1.mk H
 clear H
 go_enter Try.func94,Try.ntmps94
 go_upto_region 1 with (first|((with_reducible refine zp (N:=2) rfl ?_);refine zt ?hg (N:=2) ?hd (cs:=#[.int .u64 0,.int .u64 0]) (t:=30) ?hr ?_;(case hd=>rfl);(case hg=>rfl);(case hr=>first|(go_simp;done)|(go_simp;rfl));intro gb101 hg w3 hbox hb;have n0_:=z1.mk (z3 zz49 hb);have n1_:=z1.mk (hbox);have n2_:=z1.mk ((by rw [hg];exact (zb zz49) : w.heap.size ≤ gb101));have n3_:=z1.mk ((by rw [hg];exact (zb zz49) : w.heap.size ≤ gb101));clear HB;have HB:=n0_;have BK101:=n1_;have GW101:=n2_;have GE101:=n3_;clear n0_ n1_ n2_ n3_;clear hb hbox hg))
 (try simp only [Act.put,List.setIfInBounds_toArray,List.set_cons_zero,List.set_cons_succ])
 go_cut [3] (fun v3 wc=>∃ (kq : Nat) (x3_1 : Bool),v3 = .bool x3_1 ∧ z1 (zY.j0 kq a0 x3_1 = some (r1,r2)) ∧ z1 (kq ≤ k) ∧ z1 (wc.heap[gb101]? = some (.cells #[.int .u64 0,.int .u64 0] 30 (0,0))) ∧ z1 (Below w.heap.size w wc))
 case first =>
  have H:=HC2.out
  clear HC2
  by_cases c4 : a0 ≥ 0
  rotate_left
  · rw [if_neg c4] at H
    have c4b0 : decide (0 ≤ a0) = false:=decide_eq_false c4
    clear c4
    (first|rw [c4b0]|(simp only [zH,zP];rw [c4b0])|skip)
    have H':=z1.mk H
    clear H
    go_wp2
    go_meet
    case rel=>exact ⟨_,(false),zz86,H',⟨by first|omega|exact Nat.le_refl _⟩,⟨by (with_reducible repeat (first|refine z5 ?_ _|refine z8 ?_|refine z4 ?_ _));exact BK101.out⟩,⟨by repeat (first|(with_reducible first|exact HB.out|apply zd|apply z2|apply z9|refine za ?_ GE101.out)|exact HB.out)⟩⟩
  rw [if_pos c4] at H
  have c4b0 : decide (0 ≤ a0) = true:=decide_eq_true c4
  clear c4
  (first|rw [c4b0]|(simp only [zH,zP];rw [c4b0])|skip)
  have H':=z1.mk H
  clear H
  go_wp2
  go_meet
  case rel=>exact ⟨_,(decide (a0 < 64)),zz86,H',⟨by first|omega|exact Nat.le_refl _⟩,⟨by (with_reducible repeat (first|refine z5 ?_ _|refine z8 ?_|refine z4 ?_ _));exact BK101.out⟩,⟨by repeat (first|(with_reducible first|exact HB.out|apply zd|apply z2|apply z9|refine za ?_ GE101.out)|exact HB.out)⟩⟩
 case rest =>
  clear HC2
  (try clear p2);(try clear c4);(try clear c4b0)
  obtain ⟨kq,x3_1,rfl,HA,HJ1,BK101,HB⟩:=hcut
  cases kq with
  | zero=>exact absurd HA.out (by simp [zY.j0])
  | succ kj1 =>
   have H:=HA.out
   clear HA
   simp only [zY.j0] at H
   by_cases c5 : x3_1 = true
   · subst c5
     have H1 : (if 0 ≤ a0 then (some (0,shl .u64 1 a0)) else (none)) = some (r1,r2):=by rw [if_pos rfl] at H;exact H
     clear H
     have H:=H1
     clear H1
     by_cases c6 : 0 ≤ a0
     rotate_left
     · rw [if_neg c6] at H
       exact absurd H zz93
     rw [if_pos c6] at H
     have c6b0:=eq_true c6
     have c6b1 : decide (0 ≤ a0) = true:=decide_eq_true c6
     clear c6
     obtain ⟨ji7,hji7⟩ : ∃ j_ : Int,(shl .u64 1 a0) = j_:=⟨_,rfl⟩
     replace H : (some (0,ji7)) = some (r1,r2):=by first|(rw [hji7] at H;exact H)|(simp only [hji7] at H ⊢;exact H)
     have hji7_ : (IntKind.u64.wrap (1 * 2 ^ min a0.toNat 64)) = ji7:=hji7
     have hji7z : a0 ≤ 64 → (IntKind.u64.wrap (1 * 2 ^ a0.toNat)) = ji7:=z1K hji7
     have hji7n0 : 0 ≤ ji7:=by rw [← hji7];exact Int.emod_nonneg _ zz91
     have hji7n1 : decide (0 ≤ ji7) = true:=decide_eq_true hji7n0
     replace hji7n0:=eq_true hji7n0
     have hji7u : (IntKind.u64.wrap (2 ^ min a0.toNat 64)) = ji7:=by have h_:=hji7_;rw [Int.one_mul] at h_;exact h_
     have hji7v : a0 ≤ 64 → (IntKind.u64.wrap (2 ^ a0.toNat)) = ji7:=fun hle_=>by have h_:=hji7z hle_;rw [Int.one_mul] at h_;exact h_
     simp only [Option.some.injEq,Prod.mk.injEq] at H
     obtain ⟨rfl,rfl⟩:=H
     have hcz8_0 : wc.cell? ⟨gb101,0,none⟩ = some (.int .u64 0):=(z7 BK101.out 0).trans rfl
     have hcz8_1 : wc.cell? ⟨gb101,1,none⟩ = some (.int .u64 0):=(z7 BK101.out 1).trans rfl
     have hfz8_0:=z6 BK101.out 0
     have hfz8_1:=z6 BK101.out 1
     go_wp2
     refine bodyPost_ret (results_cell_row rfl _ _ gb101 30 #[.int .u64 0,.int .u64 ji7] (0,0) _ rfl zz9 Try.underlying30 rfl zz90) rfl ?_
     exact ⟨by first|rfl|(simp [zg,zh] <;> rfl)|(simp only [← hji7];first|rfl|(simp [zg,zh] <;> rfl))|(simp [*,zg,zh] <;> rfl),by repeat (first|(with_reducible first|exact HB.out|apply zd|apply z2|apply z9|refine za ?_ GE101.out)|exact HB.out)⟩
   replace c5:=Bool.eq_false_iff.mpr c5
   subst c5
   have H1 : (if a0 ≥ 64 then (if a0 < 128 then (if 0 ≤ (wrap64 (a0 - 64)) then (some (shl .u64 1 (wrap64 (a0 - 64)),0)) else (none)) else (some (0,0))) else (some (0,0))) = some (r1,r2):=by rw [if_neg (show ¬ (false = true) by decide)] at H;exact H
   clear H
   have H:=H1
   clear H1
   by_cases c9 : a0 ≥ 64
   rotate_left
   · rw [if_neg c9] at H
     have c9b0 : decide (64 ≤ a0) = false:=decide_eq_false c9
     clear c9
     simp only [Option.some.injEq,Prod.mk.injEq] at H
     obtain ⟨rfl,rfl⟩:=H
     have hcz16_0 : wc.cell? ⟨gb101,0,none⟩ = some (.int .u64 0):=(z7 BK101.out 0).trans rfl
     have hcz16_1 : wc.cell? ⟨gb101,1,none⟩ = some (.int .u64 0):=(z7 BK101.out 1).trans rfl
     have hfz16_0:=z6 BK101.out 0
     have hfz16_1:=z6 BK101.out 1
     go_wp2
     refine bodyPost_ret (results_cell_row rfl _ _ gb101 30 #[.int .u64 0,.int .u64 0] (0,0) _ rfl zz9 Try.underlying30 rfl zz90) rfl ?_
     exact ⟨by first|rfl|(simp [zg,zh] <;> rfl)|(simp [*,zg,zh] <;> rfl),by repeat (first|(with_reducible first|exact HB.out|apply zd|apply z2|apply z9|refine za ?_ GE101.out)|exact HB.out)⟩
   rw [if_pos c9] at H
   have c9b0 : decide (64 ≤ a0) = true:=decide_eq_true c9
   clear c9
   by_cases c10 : a0 < 128
   rotate_left
   · rw [if_neg c10] at H
     have c10b0 : decide (a0 < 128) = false:=decide_eq_false c10
     clear c10
     simp only [Option.some.injEq,Prod.mk.injEq] at H
     obtain ⟨rfl,rfl⟩:=H
     have hcz15_0 : wc.cell? ⟨gb101,0,none⟩ = some (.int .u64 0):=(z7 BK101.out 0).trans rfl
     have hcz15_1 : wc.cell? ⟨gb101,1,none⟩ = some (.int .u64 0):=(z7 BK101.out 1).trans rfl
     have hfz15_0:=z6 BK101.out 0
     have hfz15_1:=z6 BK101.out 1
     go_wp2
     refine bodyPost_ret (results_cell_row rfl _ _ gb101 30 #[.int .u64 0,.int .u64 0] (0,0) _ rfl zz9 Try.underlying30 rfl zz90) rfl ?_
     exact ⟨by first|rfl|(simp [zg,zh] <;> rfl)|(simp [*,zg,zh] <;> rfl),by repeat (first|(with_reducible first|exact HB.out|apply zd|apply z2|apply z9|refine za ?_ GE101.out)|exact HB.out)⟩
   rw [if_pos c10] at H
   have c10b0 : decide (a0 < 128) = true:=decide_eq_true c10
   clear c10
   obtain ⟨ji11,hji11⟩ : ∃ j_ : Int,(wrap64 (a0 - 64)) = j_:=⟨_,rfl⟩
   replace H : (if 0 ≤ (ji11) then (some (shl .u64 1 (ji11),0)) else (none)) = some (r1,r2):=by first|(rw [hji11] at H;exact H)|(simp only [hji11] at H ⊢;exact H)
   have hji11w : (IntKind.i64.wrap (a0 - 64)) = ji11:=(zH _).trans hji11
   by_cases c12 : 0 ≤ (ji11)
   rotate_left
   · rw [if_neg c12] at H
     exact absurd H zz93
   rw [if_pos c12] at H
   have c12b0:=eq_true c12
   have c12b1 : decide (0 ≤ (ji11)) = true:=decide_eq_true c12
   clear c12
   obtain ⟨ji13,hji13⟩ : ∃ j_ : Int,(shl .u64 1 (ji11)) = j_:=⟨_,rfl⟩
   replace H : (some (ji13,0)) = some (r1,r2):=by first|(rw [hji13] at H;exact H)|(simp only [hji13] at H ⊢;exact H)
   have hji13_ : (IntKind.u64.wrap (1 * 2 ^ min (ji11).toNat 64)) = ji13:=hji13
   have hji13z : (ji11) ≤ 64 → (IntKind.u64.wrap (1 * 2 ^ (ji11).toNat)) = ji13:=z1K hji13
   have hji13n0 : 0 ≤ ji13:=by rw [← hji13];exact Int.emod_nonneg _ zz91
   have hji13n1 : decide (0 ≤ ji13) = true:=decide_eq_true hji13n0
   replace hji13n0:=eq_true hji13n0
   have hji13u : (IntKind.u64.wrap (2 ^ min (ji11).toNat 64)) = ji13:=by have h_:=hji13_;rw [Int.one_mul] at h_;exact h_
   have hji13v : (ji11) ≤ 64 → (IntKind.u64.wrap (2 ^ (ji11).toNat)) = ji13:=fun hle_=>by have h_:=hji13z hle_;rw [Int.one_mul] at h_;exact h_
   simp only [Option.some.injEq,Prod.mk.injEq] at H
   obtain ⟨rfl,rfl⟩:=H
   have hcz14_0 : wc.cell? ⟨gb101,0,none⟩ = some (.int .u64 0):=(z7 BK101.out 0).trans rfl
   have hcz14_1 : wc.cell? ⟨gb101,1,none⟩ = some (.int .u64 0):=(z7 BK101.out 1).trans rfl
   have hfz14_0:=z6 BK101.out 0
   have hfz14_1:=z6 BK101.out 1
   go_wp2
   refine bodyPost_ret (results_cell_row rfl _ _ gb101 30 #[.int .u64 ji13,.int .u64 0] (0,0) _ rfl (by (with_reducible repeat (first|refine z5 ?_ _|refine z8 ?_|refine z4 ?_ _));refine zX (cs:=#[.int .u64 ji13,.int .u64 0]) ?_ 1 _ rfl;(with_reducible repeat (first|refine z5 ?_ _|refine z8 ?_|refine z4 ?_ _));refine zX (cs:=#[.int .u64 0,.int .u64 0]) ?_ 0 _ rfl;(with_reducible repeat (first|refine z5 ?_ _|refine z8 ?_|refine z4 ?_ _));exact BK101.out) Try.underlying30 rfl zz90) rfl ?_
   exact ⟨by first|rfl|(simp [zg,zh] <;> rfl)|(simp only [← hji11,← hji13];first|rfl|(simp [zg,zh] <;> rfl))|(simp [*,zg,zh] <;> rfl),by repeat (first|(with_reducible first|exact HB.out|apply zd|apply z2|apply z9|refine za ?_ GE101.out)|exact HB.out)⟩
end Go.Proofs.Ytkhmpaooinpfoaa.P
namespace Go.Proofs.Ytkhmpaooinpfoaa.P
open Go.RowKit Go.Proofs.YtkhmpaooinpfoaaW.PrintWords Go.Proofs.YtkhmpaooinpfoaaW.PrintLast Go.Proofs.YtkhmpaooinpfoaaW.PrintMore
attribute [local go_sem] z12 z14 z1i z1j zU zV z13 z15   -- for this text's walks alone
set_option linter.unusedVariables false
set_option linter.unusedSimpArgs false
def z1E.f (k : Nat) (a0_0 : Int) (a0_1 : Int) (a1 : Int) : Option (Bool):=(zY.f k a1).bind fun bt102=>(some ((Go.bits .or .u64 (Go.bits .and .u64 a0_1 bt102.2) (Go.bits .and .u64 a0_0 bt102.1)) != 0))
theorem z1E.mono : ∀ a0 a1 a2 k,LeO (z1E.f k a0 a1 a2) (z1E.f (k + 1) a0 a1 a2):=by
 intro a0 a1 a2 k
 unfold z1E.f
 repeat' first
  | (with_reducible exact zY.mono _ _)
  | (with_reducible exact LeO.refl _)
  | (with_reducible exact LeO.none _)
  | (with_reducible refine LeO.ite ?_ ?_)
  | (with_reducible refine LeO.bind ?_ (fun _=>?_))
  | exact zY.mono _ _
  | exact LeO.none _
  | refine LeO.ite ?_ ?_
  | refine LeO.bind ?_ (fun _=>?_)
set_option maxHeartbeats 8000000 in
set_option maxRecDepth 100000 in
theorem z1E.calls (k : Nat) (a0_0 : Int) (a0_1 : Int) (a1 : Int) (r : Bool) (w : World) (h : z1E.f k a0_0 a0_1 a1 = some r) :
 Calls Try.prog 129 #[.agg #[.int .u64 a0_0,.int .u64 a0_1],.int .i64 a1] w fun e w'=>e = .returned (.bool r) ∧ Below w.heap.size w w':=by
 have hu30:=Try.underlying30
 have HB:=z1.mk (Below.refl w.heap.size w)
 have H : ((zY.f k a1).bind fun bt102=>(some ((Go.bits .or .u64 (Go.bits .and .u64 a0_1 bt102.2) (Go.bits .and .u64 a0_0 bt102.1)) != 0))) = some r:=h
 clear h
 replace H:=Option.bind_eq_some_iff.mp H
 obtain ⟨⟨t102,t103⟩,A30,H⟩:=H
 replace H : (some ((Go.bits .or .u64 (Go.bits .and .u64 a0_1 t103) (Go.bits .and .u64 a0_0 t102)) != 0)) = some r:=H
 have A3:=z1.mk A30
 clear A30
 obtain rfl:=Option.some.inj H
 go_enter Try.func129,Try.ntmps129
 go_wp2_with (first|((with_reducible refine zp (N:=2) rfl ?_);refine zt ?hg (N:=2) ?hd (cs:=#[.int .u64 a0_0,.int .u64 a0_1]) (t:=30) ?hr ?_;(case hd=>rfl);(case hg=>rfl);(case hr=>first|(go_simp;done)|(go_simp;rfl));intro gb101 hg w4 hbox hb;have n0_:=z1.mk (z3 zz49 hb);have n1_:=z1.mk (hbox);have n2_:=z1.mk ((by rw [hg];exact (zb zz49) : w.heap.size ≤ gb101));have n3_:=z1.mk ((by rw [hg];exact (zb zz49) : w.heap.size ≤ gb101));clear HB;have HB:=n0_;have BK101:=n1_;have GW101:=n2_;have GE101:=n3_;clear n0_ n1_ n2_ n3_;clear hb hbox hg)|((with_reducible refine zi (f:=94) rfl ?_);refine goesL_ (some 7) rfl rfl Try.func94 zz90 rfl #[.int .i64 a1] rfl zz48 ?_;(with_reducible refine (zY.calls k a1 t102 t103 _ A3.out).mono ?_);rintro e w5 ⟨rfl,hb⟩;refine ⟨_,rfl,?_⟩;have n0_:=z1.mk (zc (g:=gb101) (o:=.cells #[.int .u64 a0_0,.int .u64 a0_1] 30 (0,0)) zz50 hb);have n1_:=z1.mk (z3 zz43 hb);clear BK101;clear HB;have BK101:=n0_;have HB:=n1_;clear n0_ n1_;(try clear hb);(try clear hb2);(try clear hk);(try clear hi))|((with_reducible refine zp (N:=5) rfl ?_);refine zt ?hg (N:=5) ?hd (cs:=#[.int .u64 0,.int .u64 0]) (t:=30) ?hr ?_;(case hd=>rfl);(case hg=>rfl);(case hr=>first|(go_simp;done)|(go_simp;rfl));intro gb104 hg w6 hbox hb;have n0_:=z1.mk (zc (g:=gb101) (o:=.cells #[.int .u64 a0_0,.int .u64 a0_1] 30 (0,0)) zz50 hb);have n1_:=z1.mk (z3 zz43 hb);have n2_:=z1.mk (hbox);have n3_:=z1.mk ((by rw [hg];exact (zb zz43) : w.heap.size ≤ gb104));have n4_:=z1.mk ((by rw [hg];exact (zb zz43) : w.heap.size ≤ gb104));have n5_:=z1.mk ((by rw [hg];exact Nat.ne_of_lt (zL (g:=gb101) (o:=.cells #[.int .u64 a0_0,.int .u64 a0_1] 30 (0,0)) zz50) : gb101 ≠ gb104));have n6_:=z1.mk ((by rw [hg];exact Nat.ne_of_gt (zL (g:=gb101) (o:=.cells #[.int .u64 a0_0,.int .u64 a0_1] 30 (0,0)) zz50) : gb104 ≠ gb101));clear BK101;clear HB;have BK101:=n0_;have HB:=n1_;have BK104:=n2_;have GW104:=n3_;have GE104:=n4_;have NB101_104:=n5_;have NB104_101:=n6_;clear n0_ n1_ n2_ n3_ n4_ n5_ n6_;clear hb hbox hg;have hnb7:=NB104_101.out;have hnc7:=NB101_104.out;have hcz8_0 : w6.cell? ⟨gb104,0,none⟩ = some (.int .u64 0):=(z7 BK104.out 0).trans rfl;have hcz8_1 : w6.cell? ⟨gb104,1,none⟩ = some (.int .u64 0):=(z7 BK104.out 1).trans rfl;have hfz8_0:=z6 BK104.out 0;have hfz8_1:=z6 BK104.out 1;have hcz9_0 : w6.cell? ⟨gb101,0,none⟩ = some (.int .u64 a0_0):=(z7 BK101.out 0).trans rfl;have hcz9_1 : w6.cell? ⟨gb101,1,none⟩ = some (.int .u64 a0_1):=(z7 BK101.out 1).trans rfl;have hfz9_0:=z6 BK101.out 0;have hfz9_1:=z6 BK101.out 1))
 go_ret
 exact ⟨by first|rfl|(simp [zg,zh] <;> rfl)|(simp [*,zg,zh] <;> rfl),by repeat (first|(with_reducible first|exact HB.out|apply zd|apply z2|apply z9|refine za ?_ GE101.out|refine za ?_ GE104.out)|exact HB.out)⟩
end Go.Proofs.Ytkhmpaooinpfoaa.P
namespace Go.Proofs.Ytkhmpaooinpfoaa.P
open Go.RowKit Go.Proofs.YtkhmpaooinpfoaaW.PrintWords Go.Proofs.YtkhmpaooinpfoaaW.PrintLast Go.Proofs.YtkhmpaooinpfoaaW.PrintMore
attribute [local go_sem] z12 z14 z1i z1j zU zV z13 z15   -- for this text's walks alone
set_option linter.unusedVariables false
set_option linter.unusedSimpArgs false
def z1m.l0 : Nat → List (S30) → Int → Int → Int → Int → Int → Int → Option (Int × Int)
 | 0,_,_,_,_,_,_,_=>none
 | k + 1,x8,x9,x10,x102000,x102001,x104000,x104001=>if x10 < x9 then (if 0 ≤ x10 then (if x10 < (x8.length : Int) then ((z1E.f k x102000 x102001 x10).bind fun t106=>(if t106 = true then ((z1t.f x104000 x104001 ((rd_T30 x8 x10).f0) ((rd_T30 x8 x10).f1)).bind fun bt107=>(z1m.l0 k x8 x9 (wrap64 (x10 + 1)) x102000 x102001 bt107.1 bt107.2)) else (z1m.l0 k x8 x9 (wrap64 (x10 + 1)) x102000 x102001 x104000 x104001))) else (none)) else (none)) else (some (x104000,x104001))
def z1m.f (k : Nat) (l0 : List (S30)) (a1_0 : Int) (a1_1 : Int) : Option (Int × Int):=z1m.l0 k l0 (l0.length : Int) 0 a1_0 a1_1 0 0
theorem z1m.z17 : ∀ k,(∀ y0 y1 y2 y3 y4 y5 y6,LeO (z1m.l0 k y0 y1 y2 y3 y4 y5 y6) (z1m.l0 (k + 1) y0 y1 y2 y3 y4 y5 y6))
 | 0=>fun _ _ _ _ _ _ _ r h=>by simp [z1m.l0] at h
 | k + 1=>by
  have ih0:=z1m.z17 k
  · intro y0 y1 y2 y3 y4 y5 y6
    unfold z1m.l0
    repeat' first
    | (with_reducible exact ih0 _ _ _ _ _ _ _)
    | (with_reducible exact z1E.mono _ _ _ _)
    | (with_reducible exact LeO.refl _)
    | (with_reducible exact LeO.none _)
    | (with_reducible refine LeO.ite ?_ ?_)
    | (with_reducible refine LeO.bind ?_ (fun _=>?_))
    | exact ih0 _ _ _ _ _ _ _
    | exact z1E.mono _ _ _ _
    | exact LeO.none _
    | refine LeO.ite ?_ ?_
    | refine LeO.bind ?_ (fun _=>?_)
theorem z1m.mono : ∀ a0 a1 a2 k,LeO (z1m.f k a0 a1 a2) (z1m.f (k + 1) a0 a1 a2):=by
 intro a0 a1 a2 k
 have ih0:=z1m.z17 k
 unfold z1m.f
 repeat' first
  | (with_reducible exact ih0 _ _ _ _ _ _ _)
  | (with_reducible exact z1E.mono _ _ _ _)
  | (with_reducible exact LeO.refl _)
  | (with_reducible exact LeO.none _)
  | (with_reducible refine LeO.ite ?_ ?_)
  | (with_reducible refine LeO.bind ?_ (fun _=>?_))
  | exact ih0 _ _ _ _ _ _ _
  | exact z1E.mono _ _ _ _
  | exact LeO.none _
  | refine LeO.ite ?_ ?_
  | refine LeO.bind ?_ (fun _=>?_)
set_option maxHeartbeats 8000000 in
set_option maxRecDepth 100000 in
theorem z1m.calls (k : Nat) (A0 : Option Addr) (c0 : Nat) (l0 : List (S30)) (a1_0 : Int) (a1_1 : Int) (r1 : Int) (r2 : Int) (w : World) (hr0 : Kd.C k30 w A0 l0.length l0) (hc0 : l0.length ≤ c0) (h : z1m.f k l0 a1_0 a1_1 = some (r1,r2)) :
 Calls Try.prog 146 #[.slice A0 l0.length c0,.agg #[.int .u64 a1_0,.int .u64 a1_1]] w fun e w'=>e = .returned (.agg #[.int .u64 r1,.int .u64 r2]) ∧ Below w.heap.size w w':=by
 have hu30:=Try.underlying30
 have HR0:=z1.mk hr0
 have HC0:=z1.mk hc0
 clear hr0 hc0
 have HB:=z1.mk (Below.refl w.heap.size w)
 have H : (z1m.l0 k l0 (l0.length : Int) 0 a1_0 a1_1 0 0) = some (r1,r2):=h
 clear h
 have H':=z1.mk H
 clear H
 go_enter Try.func146,Try.ntmps146
 go_wp2_with (first|((with_reducible refine zp (N:=3) rfl ?_);refine zt ?hg (N:=3) ?hd (cs:=#[.int .u64 a1_0,.int .u64 a1_1]) (t:=30) ?hr ?_;(case hd=>rfl);(case hg=>rfl);(case hr=>first|(go_simp;done)|(go_simp;rfl));intro gb101 hg w3 hbox hb;have n0_:=z1.mk (z3 zz49 hb);have n1_:=z1.mk (hbox);have n2_:=z1.mk ((by rw [hg];exact (zb zz49) : w.heap.size ≤ gb101));have n3_:=z1.mk ((by rw [hg];exact (zb zz49) : w.heap.size ≤ gb101));clear HB;have HB:=n0_;have BK101:=n1_;have GW101:=n2_;have GE101:=n3_;clear n0_ n1_ n2_ n3_;clear hb hbox hg)|((with_reducible refine zp (N:=4) rfl ?_);refine zt ?hg (N:=4) ?hd (cs:=#[.int .u64 0,.int .u64 0]) (t:=30) ?hr ?_;(case hd=>rfl);(case hg=>rfl);(case hr=>first|(go_simp;done)|(go_simp;rfl));intro gb102 hg w4 hbox hb;have n0_:=z1.mk (zc (g:=gb101) (o:=.cells #[.int .u64 a1_0,.int .u64 a1_1] 30 (0,0)) zz50 hb);have n1_:=z1.mk (z3 zz43 hb);have n2_:=z1.mk (hbox);have n3_:=z1.mk ((by rw [hg];exact (zb zz43) : w.heap.size ≤ gb102));have n4_:=z1.mk ((by rw [hg];exact (zb zz43) : w.heap.size ≤ gb102));have n5_:=z1.mk ((by rw [hg];exact Nat.ne_of_lt (zL (g:=gb101) (o:=.cells #[.int .u64 a1_0,.int .u64 a1_1] 30 (0,0)) zz50) : gb101 ≠ gb102));have n6_:=z1.mk ((by rw [hg];exact Nat.ne_of_gt (zL (g:=gb101) (o:=.cells #[.int .u64 a1_0,.int .u64 a1_1] 30 (0,0)) zz50) : gb102 ≠ gb101));clear BK101;clear HB;have BK101:=n0_;have HB:=n1_;have BK102:=n2_;have GW102:=n3_;have GE102:=n4_;have NB101_102:=n5_;have NB102_101:=n6_;clear n0_ n1_ n2_ n3_ n4_ n5_ n6_;clear hb hbox hg)|((with_reducible refine zp (N:=5) rfl ?_);refine zt ?hg (N:=5) ?hd (cs:=#[.int .u64 0,.int .u64 0]) (t:=30) ?hr ?_;(case hd=>rfl);(case hg=>rfl);(case hr=>first|(go_simp;done)|(go_simp;rfl));intro gb103 hg w5 hbox hb;have n0_:=z1.mk (zc (g:=gb101) (o:=.cells #[.int .u64 a1_0,.int .u64 a1_1] 30 (0,0)) zz50 hb);have n1_:=z1.mk (zc (g:=gb102) (o:=.cells #[.int .u64 0,.int .u64 0] 30 (0,0)) zz51 hb);have n2_:=z1.mk (z3 zz36 hb);have n3_:=z1.mk (hbox);have n4_:=z1.mk ((by rw [hg];exact (zb zz36) : w.heap.size ≤ gb103));have n5_:=z1.mk ((by rw [hg];exact (zb zz36) : w.heap.size ≤ gb103));have n6_:=z1.mk ((by rw [hg];exact Nat.ne_of_lt (zL (g:=gb101) (o:=.cells #[.int .u64 a1_0,.int .u64 a1_1] 30 (0,0)) zz50) : gb101 ≠ gb103));have n7_:=z1.mk ((by rw [hg];exact Nat.ne_of_gt (zL (g:=gb101) (o:=.cells #[.int .u64 a1_0,.int .u64 a1_1] 30 (0,0)) zz50) : gb103 ≠ gb101));have n8_:=z1.mk ((by rw [hg];exact Nat.ne_of_lt (zL (g:=gb102) (o:=.cells #[.int .u64 0,.int .u64 0] 30 (0,0)) zz51) : gb102 ≠ gb103));have n9_:=z1.mk ((by rw [hg];exact Nat.ne_of_gt (zL (g:=gb102) (o:=.cells #[.int .u64 0,.int .u64 0] 30 (0,0)) zz51) : gb103 ≠ gb102));clear BK101;clear BK102;clear HB;have BK101:=n0_;have BK102:=n1_;have HB:=n2_;have BK103:=n3_;have GW103:=n4_;have GE103:=n5_;have NB101_103:=n6_;have NB103_101:=n7_;have NB102_103:=n8_;have NB103_102:=n9_;clear n0_ n1_ n2_ n3_ n4_ n5_ n6_ n7_ n8_ n9_;clear hb hbox hg))
 go_loopg [10] k (fun kq v10 w'=>∃ (x10_1 : Int) (x104000_1 : Int) (x104001_1 : Int),v10 = .int .i64 x10_1 ∧ z1 (z1m.l0 kq l0 (l0.length : Int) x10_1 a1_0 a1_1 x104000_1 x104001_1 = some (r1,r2)) ∧ z1 (kq ≤ k) ∧ z1 (w'.heap[gb101]? = some (.cells #[.int .u64 a1_0,.int .u64 a1_1] 30 (0,0))) ∧ z1 (w'.heap[gb102]? = some (.cells #[.int .u64 0,.int .u64 0] 30 (0,0))) ∧ z1 (w'.heap[gb103]? = some (.cells #[.int .u64 x104000_1,.int .u64 x104001_1] 30 (0,0))) ∧ z1 (Below w.heap.size w w'))
 case atStart=>exact ⟨(0),(0),(0),zz86,H',⟨Nat.le_refl _⟩,⟨by (with_reducible repeat (first|refine z5 ?_ _|refine z8 ?_|refine z4 ?_ _));exact BK101.out⟩,⟨by (with_reducible repeat (first|refine z5 ?_ _|refine z8 ?_|refine z4 ?_ _));exact BK102.out⟩,⟨by (with_reducible repeat (first|refine z5 ?_ _|refine z8 ?_|refine z4 ?_ _));exact BK103.out⟩,⟨by repeat (first|(with_reducible first|exact HB.out|apply zd|apply z2|apply z9|refine za ?_ GE101.out|refine za ?_ GE102.out|refine za ?_ GE103.out)|exact HB.out)⟩⟩
 case round =>
  clear H'
  (try clear c1);(try clear p2)
  obtain ⟨x10_1,x104000_1,x104001_1,rfl,HA,HK1,BK101,BK102,BK103,HB⟩:=hrel
  cases gk with
  | zero=>exact absurd HA.out (by simp [z1m.l0])
  | succ k1 =>
   have H:=HA.out
   clear HA
   simp only [z1m.l0] at H
   by_cases c6 : x10_1 < (l0.length : Int)
   rotate_left
   · rw [if_neg c6] at H
     have c6b0 : decide (x10_1 < (l0.length : Int)) = false:=decide_eq_false c6
     clear c6
     simp only [Option.some.injEq,Prod.mk.injEq] at H
     obtain ⟨rfl,rfl⟩:=H
     have hnb35:=NB103_101.out
     have hnc35:=NB101_103.out
     have hnb36:=NB103_102.out
     have hnc36:=NB102_103.out
     have hcz37_0 : wr.cell? ⟨gb103,0,none⟩ = some (.int .u64 x104000_1):=(z7 BK103.out 0).trans rfl
     have hcz37_1 : wr.cell? ⟨gb103,1,none⟩ = some (.int .u64 x104001_1):=(z7 BK103.out 1).trans rfl
     have hfz37_0:=z6 BK103.out 0
     have hfz37_1:=z6 BK103.out 1
     have hnb38:=NB102_101.out
     have hnc38:=NB101_102.out
     have hcz39_0 : wr.cell? ⟨gb102,0,none⟩ = some (.int .u64 0):=(z7 BK102.out 0).trans rfl
     have hcz39_1 : wr.cell? ⟨gb102,1,none⟩ = some (.int .u64 0):=(z7 BK102.out 1).trans rfl
     have hfz39_0:=z6 BK102.out 0
     have hfz39_1:=z6 BK102.out 1
     go_wp2
     refine bodyPost_ret (results_cell_row rfl _ _ gb102 30 #[.int .u64 x104000_1,.int .u64 x104001_1] (0,0) _ rfl (by (with_reducible repeat (first|refine z5 ?_ _|refine z8 ?_|refine z4 ?_ _));refine zX (cs:=#[.int .u64 x104000_1,.int .u64 0]) ?_ 1 _ rfl;(with_reducible repeat (first|refine z5 ?_ _|refine z8 ?_|refine z4 ?_ _));refine zX (cs:=#[.int .u64 0,.int .u64 0]) ?_ 0 _ rfl;(with_reducible repeat (first|refine z5 ?_ _|refine z8 ?_|refine z4 ?_ _));exact BK102.out) Try.underlying30 rfl zz90) rfl ?_
     exact ⟨by first|rfl|(simp [zg,zh] <;> rfl)|(simp [*,zg,zh] <;> rfl),by repeat (first|(with_reducible first|exact HB.out|apply zd|apply z2|apply z9|refine za ?_ GE101.out|refine za ?_ GE102.out|refine za ?_ GE103.out)|exact HB.out)⟩
   rw [if_pos c6] at H
   have c6b0 : decide (x10_1 < (l0.length : Int)) = true:=decide_eq_true c6
   clear c6
   by_cases c7 : 0 ≤ x10_1
   rotate_left
   · rw [if_neg c7] at H
     exact absurd H zz93
   rw [if_pos c7] at H
   have c7b0 : decide (0 ≤ x10_1) = true:=decide_eq_true c7
   clear c7
   by_cases c8 : x10_1 < (l0.length : Int)
   rotate_left
   · rw [if_neg c8] at H
     exact absurd H zz93
   rw [if_pos c8] at H
   have c8b0 : decide (x10_1 < (l0.length : Int)) = true:=decide_eq_true c8
   clear c8
   replace H:=Option.bind_eq_some_iff.mp H
   obtain ⟨t106,A90,H⟩:=H
   replace H : (if t106 = true then ((z1t.f x104000_1 x104001_1 ((rd_T30 l0 x10_1).f0) ((rd_T30 l0 x10_1).f1)).bind fun bt107=>(z1m.l0 k1 l0 (l0.length : Int) (wrap64 (x10_1 + 1)) a1_0 a1_1 bt107.1 bt107.2)) else (z1m.l0 k1 l0 (l0.length : Int) (wrap64 (x10_1 + 1)) a1_0 a1_1 x104000_1 x104001_1)) = some (r1,r2):=H
   have A9:=z1.mk A90
   clear A90
   by_cases c10 : t106 = true
   rotate_left
   · replace c10:=Bool.eq_false_iff.mpr c10
     subst c10
     have H1 : (z1m.l0 k1 l0 (l0.length : Int) (wrap64 (x10_1 + 1)) a1_0 a1_1 x104000_1 x104001_1) = some (r1,r2):=by rw [if_neg (show ¬ (false = true) by decide)] at H;exact H
     clear H
     have H:=H1
     clear H1
     have H':=z1.mk H
     clear H
     have p104 : 0 ≤ (x10_1 : Int):=of_decide_eq_true zz85
     have q104 : x10_1 < (l0.length : Int):=of_decide_eq_true zz85
     obtain ⟨ad104,e104,hx104_0,hx104_1⟩:=z20 HR0.out x10_1 p104 q104
     cases e104
     replace hx104_0:=(HB.out.cell (World.block_lt_of_cell? w _ hx104_0)).trans hx104_0
     replace hx104_1:=(HB.out.cell (World.block_lt_of_cell? w _ hx104_1)).trans hx104_1
     replace p104:=eq_true p104
     replace q104:=eq_true q104
     go_wp2_with (first|((with_reducible refine zp (N:=7) rfl ?_);refine zt ?hg (N:=7) ?hd (cs:=#[.int .u64 0,.int .u64 0]) (t:=30) ?hr ?_;(case hd=>rfl);(case hg=>rfl);(case hr=>first|(go_simp;done)|(go_simp;rfl));intro gb105 hg w26 hbox hb;have n0_:=z1.mk (zc (g:=gb101) (o:=.cells #[.int .u64 a1_0,.int .u64 a1_1] 30 (0,0)) zz50 hb);have n1_:=z1.mk (zc (g:=gb102) (o:=.cells #[.int .u64 0,.int .u64 0] 30 (0,0)) zz51 hb);have n2_:=z1.mk (zc (g:=gb103) (o:=.cells #[.int .u64 x104000_1,.int .u64 x104001_1] 30 (0,0)) zz52 hb);have n3_:=z1.mk (z3 zz33 hb);have n4_:=z1.mk (hbox);have n5_:=z1.mk ((by rw [hg];exact (zb zz33) : w.heap.size ≤ gb105));have n6_:=z1.mk ((by rw [hg];exact (zb zz33) : w.heap.size ≤ gb105));have n7_:=z1.mk ((by rw [hg];exact Nat.ne_of_lt (zL (g:=gb101) (o:=.cells #[.int .u64 a1_0,.int .u64 a1_1] 30 (0,0)) zz50) : gb101 ≠ gb105));have n8_:=z1.mk ((by rw [hg];exact Nat.ne_of_gt (zL (g:=gb101) (o:=.cells #[.int .u64 a1_0,.int .u64 a1_1] 30 (0,0)) zz50) : gb105 ≠ gb101));have n9_:=z1.mk ((by rw [hg];exact Nat.ne_of_lt (zL (g:=gb102) (o:=.cells #[.int .u64 0,.int .u64 0] 30 (0,0)) zz51) : gb102 ≠ gb105));have n10_:=z1.mk ((by rw [hg];exact Nat.ne_of_gt (zL (g:=gb102) (o:=.cells #[.int .u64 0,.int .u64 0] 30 (0,0)) zz51) : gb105 ≠ gb102));have n11_:=z1.mk ((by rw [hg];exact Nat.ne_of_lt (zL (g:=gb103) (o:=.cells #[.int .u64 x104000_1,.int .u64 x104001_1] 30 (0,0)) zz52) : gb103 ≠ gb105));have n12_:=z1.mk ((by rw [hg];exact Nat.ne_of_gt (zL (g:=gb103) (o:=.cells #[.int .u64 x104000_1,.int .u64 x104001_1] 30 (0,0)) zz52) : gb105 ≠ gb103));clear BK101;clear BK102;clear BK103;clear HB;have BK101:=n0_;have BK102:=n1_;have BK103:=n2_;have HB:=n3_;have BK105:=n4_;have GW105:=n5_;have GE105:=n6_;have NB101_105:=n7_;have NB105_101:=n8_;have NB102_105:=n9_;have NB105_102:=n10_;have NB103_105:=n11_;have NB105_103:=n12_;clear n0_ n1_ n2_ n3_ n4_ n5_ n6_ n7_ n8_ n9_ n10_ n11_ n12_;clear hb hbox hg;have hnb27:=NB105_101.out;have hnc27:=NB101_105.out;have hnb28:=NB105_102.out;have hnc28:=NB102_105.out;have hnb29:=NB105_103.out;have hnc29:=NB103_105.out;have hcz30_0 : w26.cell? ⟨gb105,0,none⟩ = some (.int .u64 0):=(z7 BK105.out 0).trans rfl;have hcz30_1 : w26.cell? ⟨gb105,1,none⟩ = some (.int .u64 0):=(z7 BK105.out 1).trans rfl;have hfz30_0:=z6 BK105.out 0;have hfz30_1:=z6 BK105.out 1;have hnb31:=NB101_102.out;have hnc31:=NB102_101.out;have hnb32:=NB101_103.out;have hnc32:=NB103_101.out;have hcz33_0 : w26.cell? ⟨gb101,0,none⟩ = some (.int .u64 a1_0):=(z7 BK101.out 0).trans rfl;have hcz33_1 : w26.cell? ⟨gb101,1,none⟩ = some (.int .u64 a1_1):=(z7 BK101.out 1).trans rfl;have hfz33_0:=z6 BK101.out 0;have hfz33_1:=z6 BK101.out 1)|((with_reducible refine zi (f:=129) rfl ?_);refine goesL_ (some 17) rfl rfl Try.func129 zz90 rfl #[.agg #[.int .u64 a1_0,.int .u64 a1_1],.int .i64 x10_1] rfl zz48 ?_;(with_reducible refine (z1E.calls k1 a1_0 a1_1 x10_1 false _ A9.out).mono ?_);rintro e w34 ⟨rfl,hb⟩;refine ⟨_,rfl,?_⟩;have n0_:=z1.mk (zc (g:=gb101) (o:=.cells #[.int .u64 a1_0,.int .u64 a1_1] 30 (0,0)) zz11 hb);have n1_:=z1.mk (zc (g:=gb102) (o:=.cells #[.int .u64 0,.int .u64 0] 30 (0,0)) zz12 hb);have n2_:=z1.mk (zc (g:=gb103) (o:=.cells #[.int .u64 x104000_1,.int .u64 x104001_1] 30 (0,0)) zz13 hb);have n3_:=z1.mk (zc (g:=gb105) (o:=.cells #[.int .u64 ((rd_T30 l0 x10_1).f0),.int .u64 ((rd_T30 l0 x10_1).f1)] 30 (0,0)) zz2 hb);have n4_:=z1.mk (z3 zz29 hb);clear BK101;clear BK102;clear BK103;clear BK105;clear HB;have BK101:=n0_;have BK102:=n1_;have BK103:=n2_;have BK105:=n3_;have HB:=n4_;clear n0_ n1_ n2_ n3_ n4_;(try clear hb);(try clear hb2);(try clear hk);(try clear hi)))
     go_roundg k1
     case measure=>have:=HK1.out;omega
     case rel=>exact ⟨(wrap64 (x10_1 + 1)),(x104000_1),(x104001_1),zz86,H',⟨by have:=HK1.out;omega⟩,⟨by (with_reducible repeat (first|refine z5 ?_ _|refine z8 ?_|refine z4 ?_ _));exact BK101.out⟩,⟨by (with_reducible repeat (first|refine z5 ?_ _|refine z8 ?_|refine z4 ?_ _));exact BK102.out⟩,⟨by (with_reducible repeat (first|refine z5 ?_ _|refine z8 ?_|refine z4 ?_ _));exact BK103.out⟩,⟨by repeat (first|(with_reducible first|exact HB.out|apply zd|apply z2|apply z9|refine za ?_ GE101.out|refine za ?_ GE102.out|refine za ?_ GE103.out|refine za ?_ GE105.out)|exact HB.out)⟩⟩
   subst c10
   have H1 : ((z1t.f x104000_1 x104001_1 ((rd_T30 l0 x10_1).f0) ((rd_T30 l0 x10_1).f1)).bind fun bt107=>(z1m.l0 k1 l0 (l0.length : Int) (wrap64 (x10_1 + 1)) a1_0 a1_1 bt107.1 bt107.2)) = some (r1,r2):=by rw [if_pos rfl] at H;exact H
   clear H
   have H:=H1
   clear H1
   replace H:=Option.bind_eq_some_iff.mp H
   obtain ⟨⟨t107,t108⟩,A110,H⟩:=H
   replace H : (z1m.l0 k1 l0 (l0.length : Int) (wrap64 (x10_1 + 1)) a1_0 a1_1 t107 t108) = some (r1,r2):=H
   have A11:=z1.mk A110
   clear A110
   have H':=z1.mk H
   clear H
   have p104 : 0 ≤ (x10_1 : Int):=of_decide_eq_true zz85
   have q104 : x10_1 < (l0.length : Int):=of_decide_eq_true zz85
   obtain ⟨ad104,e104,hx104_0,hx104_1⟩:=z20 HR0.out x10_1 p104 q104
   cases e104
   replace hx104_0:=(HB.out.cell (World.block_lt_of_cell? w _ hx104_0)).trans hx104_0
   replace hx104_1:=(HB.out.cell (World.block_lt_of_cell? w _ hx104_1)).trans hx104_1
   replace p104:=eq_true p104
   replace q104:=eq_true q104
   go_wp2_with (first|((with_reducible refine zp (N:=7) rfl ?_);refine zt ?hg (N:=7) ?hd (cs:=#[.int .u64 0,.int .u64 0]) (t:=30) ?hr ?_;(case hd=>rfl);(case hg=>rfl);(case hr=>first|(go_simp;done)|(go_simp;rfl));intro gb105 hg w12 hbox hb;have n0_:=z1.mk (zc (g:=gb101) (o:=.cells #[.int .u64 a1_0,.int .u64 a1_1] 30 (0,0)) zz50 hb);have n1_:=z1.mk (zc (g:=gb102) (o:=.cells #[.int .u64 0,.int .u64 0] 30 (0,0)) zz51 hb);have n2_:=z1.mk (zc (g:=gb103) (o:=.cells #[.int .u64 x104000_1,.int .u64 x104001_1] 30 (0,0)) zz52 hb);have n3_:=z1.mk (z3 zz33 hb);have n4_:=z1.mk (hbox);have n5_:=z1.mk ((by rw [hg];exact (zb zz33) : w.heap.size ≤ gb105));have n6_:=z1.mk ((by rw [hg];exact (zb zz33) : w.heap.size ≤ gb105));have n7_:=z1.mk ((by rw [hg];exact Nat.ne_of_lt (zL (g:=gb101) (o:=.cells #[.int .u64 a1_0,.int .u64 a1_1] 30 (0,0)) zz50) : gb101 ≠ gb105));have n8_:=z1.mk ((by rw [hg];exact Nat.ne_of_gt (zL (g:=gb101) (o:=.cells #[.int .u64 a1_0,.int .u64 a1_1] 30 (0,0)) zz50) : gb105 ≠ gb101));have n9_:=z1.mk ((by rw [hg];exact Nat.ne_of_lt (zL (g:=gb102) (o:=.cells #[.int .u64 0,.int .u64 0] 30 (0,0)) zz51) : gb102 ≠ gb105));have n10_:=z1.mk ((by rw [hg];exact Nat.ne_of_gt (zL (g:=gb102) (o:=.cells #[.int .u64 0,.int .u64 0] 30 (0,0)) zz51) : gb105 ≠ gb102));have n11_:=z1.mk ((by rw [hg];exact Nat.ne_of_lt (zL (g:=gb103) (o:=.cells #[.int .u64 x104000_1,.int .u64 x104001_1] 30 (0,0)) zz52) : gb103 ≠ gb105));have n12_:=z1.mk ((by rw [hg];exact Nat.ne_of_gt (zL (g:=gb103) (o:=.cells #[.int .u64 x104000_1,.int .u64 x104001_1] 30 (0,0)) zz52) : gb105 ≠ gb103));clear BK101;clear BK102;clear BK103;clear HB;have BK101:=n0_;have BK102:=n1_;have BK103:=n2_;have HB:=n3_;have BK105:=n4_;have GW105:=n5_;have GE105:=n6_;have NB101_105:=n7_;have NB105_101:=n8_;have NB102_105:=n9_;have NB105_102:=n10_;have NB103_105:=n11_;have NB105_103:=n12_;clear n0_ n1_ n2_ n3_ n4_ n5_ n6_ n7_ n8_ n9_ n10_ n11_ n12_;clear hb hbox hg;have hnb13:=NB105_101.out;have hnc13:=NB101_105.out;have hnb14:=NB105_102.out;have hnc14:=NB102_105.out;have hnb15:=NB105_103.out;have hnc15:=NB103_105.out;have hcz16_0 : w12.cell? ⟨gb105,0,none⟩ = some (.int .u64 0):=(z7 BK105.out 0).trans rfl;have hcz16_1 : w12.cell? ⟨gb105,1,none⟩ = some (.int .u64 0):=(z7 BK105.out 1).trans rfl;have hfz16_0:=z6 BK105.out 0;have hfz16_1:=z6 BK105.out 1;have hnb17:=NB101_102.out;have hnc17:=NB102_101.out;have hnb18:=NB101_103.out;have hnc18:=NB103_101.out;have hcz19_0 : w12.cell? ⟨gb101,0,none⟩ = some (.int .u64 a1_0):=(z7 BK101.out 0).trans rfl;have hcz19_1 : w12.cell? ⟨gb101,1,none⟩ = some (.int .u64 a1_1):=(z7 BK101.out 1).trans rfl;have hfz19_0:=z6 BK101.out 0;have hfz19_1:=z6 BK101.out 1)|((with_reducible refine zi (f:=129) rfl ?_);refine goesL_ (some 17) rfl rfl Try.func129 zz90 rfl #[.agg #[.int .u64 a1_0,.int .u64 a1_1],.int .i64 x10_1] rfl zz48 ?_;(with_reducible refine (z1E.calls k1 a1_0 a1_1 x10_1 true _ A9.out).mono ?_);rintro e w20 ⟨rfl,hb⟩;refine ⟨_,rfl,?_⟩;have n0_:=z1.mk (zc (g:=gb101) (o:=.cells #[.int .u64 a1_0,.int .u64 a1_1] 30 (0,0)) zz11 hb);have n1_:=z1.mk (zc (g:=gb102) (o:=.cells #[.int .u64 0,.int .u64 0] 30 (0,0)) zz12 hb);have n2_:=z1.mk (zc (g:=gb103) (o:=.cells #[.int .u64 x104000_1,.int .u64 x104001_1] 30 (0,0)) zz13 hb);have n3_:=z1.mk (zc (g:=gb105) (o:=.cells #[.int .u64 ((rd_T30 l0 x10_1).f0),.int .u64 ((rd_T30 l0 x10_1).f1)] 30 (0,0)) zz2 hb);have n4_:=z1.mk (z3 zz29 hb);clear BK101;clear BK102;clear BK103;clear BK105;clear HB;have BK101:=n0_;have BK102:=n1_;have BK103:=n2_;have BK105:=n3_;have HB:=n4_;clear n0_ n1_ n2_ n3_ n4_;(try clear hb);(try clear hb2);(try clear hk);(try clear hi);have hnb21:=NB103_102.out;have hnc21:=NB102_103.out;have hcz22_0 : w20.cell? ⟨gb103,0,none⟩ = some (.int .u64 x104000_1):=(z7 BK103.out 0).trans rfl;have hcz22_1 : w20.cell? ⟨gb103,1,none⟩ = some (.int .u64 x104001_1):=(z7 BK103.out 1).trans rfl;have hfz22_0:=z6 BK103.out 0;have hfz22_1:=z6 BK103.out 1;have hcz23_0 : w20.cell? ⟨gb105,0,none⟩ = some (.int .u64 ((rd_T30 l0 x10_1).f0)):=(z7 BK105.out 0).trans rfl;have hcz23_1 : w20.cell? ⟨gb105,1,none⟩ = some (.int .u64 ((rd_T30 l0 x10_1).f1)):=(z7 BK105.out 1).trans rfl;have hfz23_0:=z6 BK105.out 0;have hfz23_1:=z6 BK105.out 1)|((with_reducible refine zi (f:=64) rfl ?_);refine goesL_ (some 20) rfl rfl Try.func64 zz90 rfl #[.agg #[.int .u64 x104000_1,.int .u64 x104001_1],.agg #[.int .u64 ((rd_T30 l0 x10_1).f0),.int .u64 ((rd_T30 l0 x10_1).f1)]] rfl zz48 ?_;(with_reducible refine (z1t.calls x104000_1 x104001_1 ((rd_T30 l0 x10_1).f0) ((rd_T30 l0 x10_1).f1) t107 t108 _ A11.out).mono ?_);rintro e w24 ⟨rfl,hb⟩;refine ⟨_,rfl,?_⟩;have n0_:=z1.mk (zc (g:=gb101) (o:=.cells #[.int .u64 a1_0,.int .u64 a1_1] 30 (0,0)) zz50 hb);have n1_:=z1.mk (zc (g:=gb102) (o:=.cells #[.int .u64 0,.int .u64 0] 30 (0,0)) zz51 hb);have n2_:=z1.mk (zc (g:=gb103) (o:=.cells #[.int .u64 x104000_1,.int .u64 x104001_1] 30 (0,0)) zz52 hb);have n3_:=z1.mk (zc (g:=gb105) (o:=.cells #[.int .u64 ((rd_T30 l0 x10_1).f0),.int .u64 ((rd_T30 l0 x10_1).f1)] 30 (0,0)) (by (with_reducible repeat (first|refine z5 ?_ _|refine z8 ?_|refine z4 ?_ _));exact BK105.out) hb);have n4_:=z1.mk (z3 zz29 hb);clear BK101;clear BK102;clear BK103;clear BK105;clear HB;have BK101:=n0_;have BK102:=n1_;have BK103:=n2_;have BK105:=n3_;have HB:=n4_;clear n0_ n1_ n2_ n3_ n4_;(try clear hb);(try clear hb2);(try clear hk);(try clear hi);have hcz25_0 : w24.cell? ⟨gb103,0,none⟩ = some (.int .u64 x104000_1):=(z7 BK103.out 0).trans rfl;have hcz25_1 : w24.cell? ⟨gb103,1,none⟩ = some (.int .u64 x104001_1):=(z7 BK103.out 1).trans rfl;have hfz25_0:=z6 BK103.out 0;have hfz25_1:=z6 BK103.out 1))
   go_roundg k1
   case measure=>have:=HK1.out;omega
   case rel=>exact ⟨(wrap64 (x10_1 + 1)),(t107),(t108),zz86,H',⟨by have:=HK1.out;omega⟩,⟨by (with_reducible repeat (first|refine z5 ?_ _|refine z8 ?_|refine z4 ?_ _));refine zZ ?_ NB101_103.out _;(with_reducible repeat (first|refine z5 ?_ _|refine z8 ?_|refine z4 ?_ _));refine zZ ?_ NB101_103.out _;(with_reducible repeat (first|refine z5 ?_ _|refine z8 ?_|refine z4 ?_ _));exact BK101.out⟩,⟨by (with_reducible repeat (first|refine z5 ?_ _|refine z8 ?_|refine z4 ?_ _));refine zZ ?_ NB102_103.out _;(with_reducible repeat (first|refine z5 ?_ _|refine z8 ?_|refine z4 ?_ _));refine zZ ?_ NB102_103.out _;(with_reducible repeat (first|refine z5 ?_ _|refine z8 ?_|refine z4 ?_ _));exact BK102.out⟩,⟨by (with_reducible repeat (first|refine z5 ?_ _|refine z8 ?_|refine z4 ?_ _));refine zX (cs:=#[.int .u64 t107,.int .u64 x104001_1]) ?_ 1 _ rfl;(with_reducible repeat (first|refine z5 ?_ _|refine z8 ?_|refine z4 ?_ _));refine zX (cs:=#[.int .u64 x104000_1,.int .u64 x104001_1]) ?_ 0 _ rfl;(with_reducible repeat (first|refine z5 ?_ _|refine z8 ?_|refine z4 ?_ _));exact BK103.out⟩,⟨by repeat (first|(with_reducible first|exact HB.out|apply zd|apply z2|apply z9|refine za ?_ GE101.out|refine za ?_ GE102.out|refine za ?_ GE103.out|refine za ?_ GE105.out)|exact HB.out)⟩⟩
end Go.Proofs.Ytkhmpaooinpfoaa.P
namespace Go.Proofs.Ytkhmpaooinpfoaa.P
open Go.RowKit Go.Proofs.YtkhmpaooinpfoaaW.PrintWords Go.Proofs.YtkhmpaooinpfoaaW.PrintLast Go.Proofs.YtkhmpaooinpfoaaW.PrintMore
attribute [local go_sem] z12 z14 z1i z1j zU zV z13 z15   -- for this text's walks alone
set_option linter.unusedVariables false
set_option linter.unusedSimpArgs false
def z1Z.f (k : Nat) (l0 : List (S30)) (a1_0 : Int) (a1_1 : Int) : Option (Int × Int × Int):=if (l0.length : Int) > 128 then (some (0,0,1)) else ((z1P.f k a1_0 a1_1).bind fun t103=>(if t103 ≥ (l0.length : Int) then (some (0,0,6)) else ((z1m.f k l0 a1_0 a1_1).bind fun bt104=>(some (bt104.1,bt104.2,0)))))
theorem z1Z.mono : ∀ a0 a1 a2 k,LeO (z1Z.f k a0 a1 a2) (z1Z.f (k + 1) a0 a1 a2):=by
 intro a0 a1 a2 k
 unfold z1Z.f
 repeat' first
  | (with_reducible exact z1P.mono _ _ _)
  | (with_reducible exact z1m.mono _ _ _ _)
  | (with_reducible exact LeO.refl _)
  | (with_reducible exact LeO.none _)
  | (with_reducible refine LeO.ite ?_ ?_)
  | (with_reducible refine LeO.bind ?_ (fun _=>?_))
  | exact z1P.mono _ _ _
  | exact z1m.mono _ _ _ _
  | exact LeO.none _
  | refine LeO.ite ?_ ?_
  | refine LeO.bind ?_ (fun _=>?_)
set_option maxHeartbeats 8000000 in
set_option maxRecDepth 100000 in
theorem z1Z.calls (k : Nat) (A0 : Option Addr) (c0 : Nat) (l0 : List (S30)) (a1_0 : Int) (a1_1 : Int) (r1 : Int) (r2 : Int) (r3 : Int) (w : World) (hr0 : Kd.C k30 w A0 l0.length l0) (hc0 : l0.length ≤ c0) (h : z1Z.f k l0 a1_0 a1_1 = some (r1,r2,r3)) :
 Calls Try.prog 134 #[.slice A0 l0.length c0,.agg #[.int .u64 a1_0,.int .u64 a1_1]] w fun e w'=>e = .returned (.tuple #[.agg #[.int .u64 r1,.int .u64 r2],.int .i64 r3]) ∧ Below w.heap.size w w':=by
 have hu30:=Try.underlying30
 have HR0:=z1.mk hr0
 have HC0:=z1.mk hc0
 clear hr0 hc0
 have HB:=z1.mk (Below.refl w.heap.size w)
 have H : (if (l0.length : Int) > 128 then (some (0,0,1)) else ((z1P.f k a1_0 a1_1).bind fun t103=>(if t103 ≥ (l0.length : Int) then (some (0,0,6)) else ((z1m.f k l0 a1_0 a1_1).bind fun bt104=>(some (bt104.1,bt104.2,0)))))) = some (r1,r2,r3):=h
 clear h
 by_cases c3 : (l0.length : Int) > 128
 · rw [if_pos c3] at H
   have c3b0 : decide (128 < (l0.length : Int)) = true:=decide_eq_true c3
   have c3b1 : decide (128 < l0.length) = true:=decide_eq_true zz92
   clear c3
   simp only [Option.some.injEq,Prod.mk.injEq] at H
   obtain ⟨rfl,rfl,rfl⟩:=H
   go_enter Try.func134,Try.ntmps134
   go_wp2_with (first|((with_reducible refine zp (N:=3) rfl ?_);refine zt ?hg (N:=3) ?hd (cs:=#[.int .u64 a1_0,.int .u64 a1_1]) (t:=30) ?hr ?_;(case hd=>rfl);(case hg=>rfl);(case hr=>first|(go_simp;done)|(go_simp;rfl));intro gb101 hg w4 hbox hb;have n0_:=z1.mk (z3 zz49 hb);have n1_:=z1.mk (hbox);have n2_:=z1.mk ((by rw [hg];exact (zb zz49) : w.heap.size ≤ gb101));have n3_:=z1.mk ((by rw [hg];exact (zb zz49) : w.heap.size ≤ gb101));clear HB;have HB:=n0_;have BK101:=n1_;have GW101:=n2_;have GE101:=n3_;clear n0_ n1_ n2_ n3_;clear hb hbox hg)|((with_reducible refine zp (N:=4) rfl ?_);refine zt ?hg (N:=4) ?hd (cs:=#[.int .u64 0,.int .u64 0]) (t:=30) ?hr ?_;(case hd=>rfl);(case hg=>rfl);(case hr=>first|(go_simp;done)|(go_simp;rfl));intro gb102 hg w5 hbox hb;have n0_:=z1.mk (zc (g:=gb101) (o:=.cells #[.int .u64 a1_0,.int .u64 a1_1] 30 (0,0)) zz50 hb);have n1_:=z1.mk (z3 zz43 hb);have n2_:=z1.mk (hbox);have n3_:=z1.mk ((by rw [hg];exact (zb zz43) : w.heap.size ≤ gb102));have n4_:=z1.mk ((by rw [hg];exact (zb zz43) : w.heap.size ≤ gb102));have n5_:=z1.mk ((by rw [hg];exact Nat.ne_of_lt (zL (g:=gb101) (o:=.cells #[.int .u64 a1_0,.int .u64 a1_1] 30 (0,0)) zz50) : gb101 ≠ gb102));have n6_:=z1.mk ((by rw [hg];exact Nat.ne_of_gt (zL (g:=gb101) (o:=.cells #[.int .u64 a1_0,.int .u64 a1_1] 30 (0,0)) zz50) : gb102 ≠ gb101));clear BK101;clear HB;have BK101:=n0_;have HB:=n1_;have BK102:=n2_;have GW102:=n3_;have GE102:=n4_;have NB101_102:=n5_;have NB102_101:=n6_;clear n0_ n1_ n2_ n3_ n4_ n5_ n6_;clear hb hbox hg;have hnb6:=NB102_101.out;have hnc6:=NB101_102.out;have hcz7_0 : w5.cell? ⟨gb102,0,none⟩ = some (.int .u64 0):=(z7 BK102.out 0).trans rfl;have hcz7_1 : w5.cell? ⟨gb102,1,none⟩ = some (.int .u64 0):=(z7 BK102.out 1).trans rfl;have hfz7_0:=z6 BK102.out 0;have hfz7_1:=z6 BK102.out 1))
   refine bodyPost_ret (z2p rfl _ _ gb102 30 #[.int .u64 0,.int .u64 0] (0,0) _ rfl zz10 Try.underlying30 rfl zz90) rfl ?_
   exact ⟨by first|rfl|(simp [zg,zh] <;> rfl)|(simp [*,zg,zh] <;> rfl),by repeat (first|(with_reducible first|exact HB.out|apply zd|apply z2|apply z9|refine za ?_ GE101.out|refine za ?_ GE102.out)|exact HB.out)⟩
 rw [if_neg c3] at H
 have c3b0 : decide (128 < (l0.length : Int)) = false:=decide_eq_false c3
 have c3b1 : decide (128 < l0.length) = false:=decide_eq_false zz92
 clear c3
 replace H:=Option.bind_eq_some_iff.mp H
 obtain ⟨t103,A80,H⟩:=H
 replace H : (if t103 ≥ (l0.length : Int) then (some (0,0,6)) else ((z1m.f k l0 a1_0 a1_1).bind fun bt104=>(some (bt104.1,bt104.2,0)))) = some (r1,r2,r3):=H
 have A8:=z1.mk A80
 clear A80
 by_cases c9 : t103 ≥ (l0.length : Int)
 · rw [if_pos c9] at H
   have c9b0 : decide ((l0.length : Int) ≤ t103) = true:=decide_eq_true c9
   clear c9
   simp only [Option.some.injEq,Prod.mk.injEq] at H
   obtain ⟨rfl,rfl,rfl⟩:=H
   go_enter Try.func134,Try.ntmps134
   go_wp2_with (first|((with_reducible refine zp (N:=3) rfl ?_);refine zt ?hg (N:=3) ?hd (cs:=#[.int .u64 a1_0,.int .u64 a1_1]) (t:=30) ?hr ?_;(case hd=>rfl);(case hg=>rfl);(case hr=>first|(go_simp;done)|(go_simp;rfl));intro gb101 hg w10 hbox hb;have n0_:=z1.mk (z3 zz49 hb);have n1_:=z1.mk (hbox);have n2_:=z1.mk ((by rw [hg];exact (zb zz49) : w.heap.size ≤ gb101));have n3_:=z1.mk ((by rw [hg];exact (zb zz49) : w.heap.size ≤ gb101));clear HB;have HB:=n0_;have BK101:=n1_;have GW101:=n2_;have GE101:=n3_;clear n0_ n1_ n2_ n3_;clear hb hbox hg)|((with_reducible refine zp (N:=4) rfl ?_);refine zt ?hg (N:=4) ?hd (cs:=#[.int .u64 0,.int .u64 0]) (t:=30) ?hr ?_;(case hd=>rfl);(case hg=>rfl);(case hr=>first|(go_simp;done)|(go_simp;rfl));intro gb102 hg w11 hbox hb;have n0_:=z1.mk (zc (g:=gb101) (o:=.cells #[.int .u64 a1_0,.int .u64 a1_1] 30 (0,0)) zz50 hb);have n1_:=z1.mk (z3 zz43 hb);have n2_:=z1.mk (hbox);have n3_:=z1.mk ((by rw [hg];exact (zb zz43) : w.heap.size ≤ gb102));have n4_:=z1.mk ((by rw [hg];exact (zb zz43) : w.heap.size ≤ gb102));have n5_:=z1.mk ((by rw [hg];exact Nat.ne_of_lt (zL (g:=gb101) (o:=.cells #[.int .u64 a1_0,.int .u64 a1_1] 30 (0,0)) zz50) : gb101 ≠ gb102));have n6_:=z1.mk ((by rw [hg];exact Nat.ne_of_gt (zL (g:=gb101) (o:=.cells #[.int .u64 a1_0,.int .u64 a1_1] 30 (0,0)) zz50) : gb102 ≠ gb101));clear BK101;clear HB;have BK101:=n0_;have HB:=n1_;have BK102:=n2_;have GW102:=n3_;have GE102:=n4_;have NB101_102:=n5_;have NB102_101:=n6_;clear n0_ n1_ n2_ n3_ n4_ n5_ n6_;clear hb hbox hg;have hnb12:=NB101_102.out;have hnc12:=NB102_101.out;have hcz13_0 : w11.cell? ⟨gb101,0,none⟩ = some (.int .u64 a1_0):=(z7 BK101.out 0).trans rfl;have hcz13_1 : w11.cell? ⟨gb101,1,none⟩ = some (.int .u64 a1_1):=(z7 BK101.out 1).trans rfl;have hfz13_0:=z6 BK101.out 0;have hfz13_1:=z6 BK101.out 1)|((with_reducible refine zi (f:=144) rfl ?_);refine goesL_ (some 13) rfl rfl Try.func144 zz90 rfl #[.agg #[.int .u64 a1_0,.int .u64 a1_1]] rfl zz48 ?_;(with_reducible refine (z1P.calls k a1_0 a1_1 t103 _ A8.out).mono ?_);rintro e w14 ⟨rfl,hb⟩;refine ⟨_,rfl,?_⟩;have n0_:=z1.mk (zc (g:=gb101) (o:=.cells #[.int .u64 a1_0,.int .u64 a1_1] 30 (0,0)) zz50 hb);have n1_:=z1.mk (zc (g:=gb102) (o:=.cells #[.int .u64 0,.int .u64 0] 30 (0,0)) zz51 hb);have n2_:=z1.mk (z3 zz36 hb);clear BK101;clear BK102;clear HB;have BK101:=n0_;have BK102:=n1_;have HB:=n2_;clear n0_ n1_ n2_;(try clear hb);(try clear hb2);(try clear hk);(try clear hi);have hcz15_0 : w14.cell? ⟨gb102,0,none⟩ = some (.int .u64 0):=(z7 BK102.out 0).trans rfl;have hcz15_1 : w14.cell? ⟨gb102,1,none⟩ = some (.int .u64 0):=(z7 BK102.out 1).trans rfl;have hfz15_0:=z6 BK102.out 0;have hfz15_1:=z6 BK102.out 1))
   refine bodyPost_ret (z2p rfl _ _ gb102 30 #[.int .u64 0,.int .u64 0] (0,0) _ rfl zz10 Try.underlying30 rfl zz90) rfl ?_
   exact ⟨by first|rfl|(simp [zg,zh] <;> rfl)|(simp [*,zg,zh] <;> rfl),by repeat (first|(with_reducible first|exact HB.out|apply zd|apply z2|apply z9|refine za ?_ GE101.out|refine za ?_ GE102.out)|exact HB.out)⟩
 rw [if_neg c9] at H
 have c9b0 : decide ((l0.length : Int) ≤ t103) = false:=decide_eq_false c9
 clear c9
 replace H:=Option.bind_eq_some_iff.mp H
 obtain ⟨⟨t104,t105⟩,A160,H⟩:=H
 replace H : (some (t104,t105,0)) = some (r1,r2,r3):=H
 have A16:=z1.mk A160
 clear A160
 simp only [Option.some.injEq,Prod.mk.injEq] at H
 obtain ⟨rfl,rfl,rfl⟩:=H
 go_enter Try.func134,Try.ntmps134
 go_wp2_with (first|((with_reducible refine zp (N:=3) rfl ?_);refine zt ?hg (N:=3) ?hd (cs:=#[.int .u64 a1_0,.int .u64 a1_1]) (t:=30) ?hr ?_;(case hd=>rfl);(case hg=>rfl);(case hr=>first|(go_simp;done)|(go_simp;rfl));intro gb101 hg w17 hbox hb;have n0_:=z1.mk (z3 zz49 hb);have n1_:=z1.mk (hbox);have n2_:=z1.mk ((by rw [hg];exact (zb zz49) : w.heap.size ≤ gb101));have n3_:=z1.mk ((by rw [hg];exact (zb zz49) : w.heap.size ≤ gb101));clear HB;have HB:=n0_;have BK101:=n1_;have GW101:=n2_;have GE101:=n3_;clear n0_ n1_ n2_ n3_;clear hb hbox hg)|((with_reducible refine zp (N:=4) rfl ?_);refine zt ?hg (N:=4) ?hd (cs:=#[.int .u64 0,.int .u64 0]) (t:=30) ?hr ?_;(case hd=>rfl);(case hg=>rfl);(case hr=>first|(go_simp;done)|(go_simp;rfl));intro gb102 hg w18 hbox hb;have n0_:=z1.mk (zc (g:=gb101) (o:=.cells #[.int .u64 a1_0,.int .u64 a1_1] 30 (0,0)) zz50 hb);have n1_:=z1.mk (z3 zz43 hb);have n2_:=z1.mk (hbox);have n3_:=z1.mk ((by rw [hg];exact (zb zz43) : w.heap.size ≤ gb102));have n4_:=z1.mk ((by rw [hg];exact (zb zz43) : w.heap.size ≤ gb102));have n5_:=z1.mk ((by rw [hg];exact Nat.ne_of_lt (zL (g:=gb101) (o:=.cells #[.int .u64 a1_0,.int .u64 a1_1] 30 (0,0)) zz50) : gb101 ≠ gb102));have n6_:=z1.mk ((by rw [hg];exact Nat.ne_of_gt (zL (g:=gb101) (o:=.cells #[.int .u64 a1_0,.int .u64 a1_1] 30 (0,0)) zz50) : gb102 ≠ gb101));clear BK101;clear HB;have BK101:=n0_;have HB:=n1_;have BK102:=n2_;have GW102:=n3_;have GE102:=n4_;have NB101_102:=n5_;have NB102_101:=n6_;clear n0_ n1_ n2_ n3_ n4_ n5_ n6_;clear hb hbox hg;have hnb19:=NB101_102.out;have hnc19:=NB102_101.out;have hcz20_0 : w18.cell? ⟨gb101,0,none⟩ = some (.int .u64 a1_0):=(z7 BK101.out 0).trans rfl;have hcz20_1 : w18.cell? ⟨gb101,1,none⟩ = some (.int .u64 a1_1):=(z7 BK101.out 1).trans rfl;have hfz20_0:=z6 BK101.out 0;have hfz20_1:=z6 BK101.out 1)|((with_reducible refine zi (f:=144) rfl ?_);refine goesL_ (some 13) rfl rfl Try.func144 zz90 rfl #[.agg #[.int .u64 a1_0,.int .u64 a1_1]] rfl zz48 ?_;(with_reducible refine (z1P.calls k a1_0 a1_1 t103 _ A8.out).mono ?_);rintro e w21 ⟨rfl,hb⟩;refine ⟨_,rfl,?_⟩;have n0_:=z1.mk (zc (g:=gb101) (o:=.cells #[.int .u64 a1_0,.int .u64 a1_1] 30 (0,0)) zz50 hb);have n1_:=z1.mk (zc (g:=gb102) (o:=.cells #[.int .u64 0,.int .u64 0] 30 (0,0)) zz51 hb);have n2_:=z1.mk (z3 zz36 hb);clear BK101;clear BK102;clear HB;have BK101:=n0_;have BK102:=n1_;have HB:=n2_;clear n0_ n1_ n2_;(try clear hb);(try clear hb2);(try clear hk);(try clear hi);have hcz22_0 : w21.cell? ⟨gb101,0,none⟩ = some (.int .u64 a1_0):=(z7 BK101.out 0).trans rfl;have hcz22_1 : w21.cell? ⟨gb101,1,none⟩ = some (.int .u64 a1_1):=(z7 BK101.out 1).trans rfl;have hfz22_0:=z6 BK101.out 0;have hfz22_1:=z6 BK101.out 1)|((with_reducible refine zi (f:=146) rfl ?_);refine goesL_ (some 20) rfl rfl Try.func146 zz90 rfl #[.slice A0 l0.length c0,.agg #[.int .u64 a1_0,.int .u64 a1_1]] rfl zz48 ?_;(with_reducible refine (z1m.calls k _ _ l0 a1_0 a1_1 t104 t105 _ ?side1 ?side2 A16.out).mono ?_);(case side1=>repeat (first|exact (Kd.z1r HR0.out HB.out)|(with_reducible refine Kd.zQ ?_ _)|(with_reducible refine Kd.zR ?_ _)|(with_reducible refine Kd.z1d ?_)));(case side2=>exact HC0.out);rintro e w23 ⟨rfl,hb⟩;refine ⟨_,rfl,?_⟩;have n0_:=z1.mk (zc (g:=gb101) (o:=.cells #[.int .u64 a1_0,.int .u64 a1_1] 30 (0,0)) zz50 hb);have n1_:=z1.mk (zc (g:=gb102) (o:=.cells #[.int .u64 0,.int .u64 0] 30 (0,0)) zz51 hb);have n2_:=z1.mk (z3 zz36 hb);clear BK101;clear BK102;clear HB;have BK101:=n0_;have BK102:=n1_;have HB:=n2_;clear n0_ n1_ n2_;(try clear hb);(try clear hb2);(try clear hk);(try clear hi);have hcz24_0 : w23.cell? ⟨gb102,0,none⟩ = some (.int .u64 0):=(z7 BK102.out 0).trans rfl;have hcz24_1 : w23.cell? ⟨gb102,1,none⟩ = some (.int .u64 0):=(z7 BK102.out 1).trans rfl;have hfz24_0:=z6 BK102.out 0;have hfz24_1:=z6 BK102.out 1))
 refine bodyPost_ret (z2p rfl _ _ gb102 30 #[.int .u64 t104,.int .u64 t105] (0,0) _ rfl (by (with_reducible repeat (first|refine z5 ?_ _|refine z8 ?_|refine z4 ?_ _));refine zX (cs:=#[.int .u64 t104,.int .u64 0]) ?_ 1 _ rfl;(with_reducible repeat (first|refine z5 ?_ _|refine z8 ?_|refine z4 ?_ _));refine zX (cs:=#[.int .u64 0,.int .u64 0]) ?_ 0 _ rfl;(with_reducible repeat (first|refine z5 ?_ _|refine z8 ?_|refine z4 ?_ _));exact BK102.out) Try.underlying30 rfl zz90) rfl ?_
 exact ⟨by first|rfl|(simp [zg,zh] <;> rfl)|(simp [*,zg,zh] <;> rfl),by repeat (first|(with_reducible first|exact HB.out|apply zd|apply z2|apply z9|refine za ?_ GE101.out|refine za ?_ GE102.out)|exact HB.out)⟩
end Go.Proofs.Ytkhmpaooinpfoaa.P
namespace Go.Proofs.Ytkhmpaooinpfoaa.P
open Go.RowKit Go.Proofs.YtkhmpaooinpfoaaW.PrintWords Go.Proofs.YtkhmpaooinpfoaaW.PrintLast Go.Proofs.YtkhmpaooinpfoaaW.PrintMore
attribute [local go_sem] z12 z14 z1i z1j zU zV z13 z15   -- for this text's walks alone
set_option linter.unusedVariables false
set_option linter.unusedSimpArgs false
def z1f.l0 : Nat → List (S30) → List (S30) → List (S30) → Int → Int → Option ((List (S30)) × Int)
 | 0,_,_,_,_,_=>none
 | k + 1,x9,x10,x27,x28,x29=>if x29 < x28 then (if 0 ≤ x29 then (if x29 < (x27.length : Int) then ((z1Z.f k x9 ((rd_T30 x27 x29).f0) ((rd_T30 x27 x29).f1)).bind fun bt110=>(if x10.length < 8796093022208 then (z1f.l0 k x9 (x10 ++ [(⟨bt110.1,bt110.2.1⟩ : S30)]) x27 x28 (wrap64 (x29 + 1))) else (none))) else (none)) else (none)) else (some (x10,0))
def z1f.f (k : Nat) (a0 : Int) (l1 : List (S30)) (l2 : List (S30)) : Option ((List (S30)) × Int):=(z1a.f k a0 l1 l2).bind fun t101=>(if t101 = 0 then ((zj.f k a0 l2).bind fun t102=>((zj.f k a0 l1).bind fun t105=>(z1f.l0 k t102 ([] : List (S30)) t105 (t105.length : Int) 0))) else (some (([] : List (S30)),t101)))
theorem z1f.z17 : ∀ k,(∀ y0 y1 y2 y3 y4,LeO (z1f.l0 k y0 y1 y2 y3 y4) (z1f.l0 (k + 1) y0 y1 y2 y3 y4))
 | 0=>fun _ _ _ _ _ r h=>by simp [z1f.l0] at h
 | k + 1=>by
  have ih0:=z1f.z17 k
  · intro y0 y1 y2 y3 y4
    unfold z1f.l0
    repeat' first
    | (with_reducible exact ih0 _ _ _ _ _)
    | (with_reducible exact zj.mono _ _ _)
    | (with_reducible exact z1a.mono _ _ _ _)
    | (with_reducible exact z1Z.mono _ _ _ _)
    | (with_reducible exact LeO.refl _)
    | (with_reducible exact LeO.none _)
    | (with_reducible refine LeO.ite ?_ ?_)
    | (with_reducible refine LeO.bind ?_ (fun _=>?_))
    | exact ih0 _ _ _ _ _
    | exact zj.mono _ _ _
    | exact z1a.mono _ _ _ _
    | exact z1Z.mono _ _ _ _
    | exact LeO.none _
    | refine LeO.ite ?_ ?_
    | refine LeO.bind ?_ (fun _=>?_)
theorem z1f.mono : ∀ a0 a1 a2 k,LeO (z1f.f k a0 a1 a2) (z1f.f (k + 1) a0 a1 a2):=by
 intro a0 a1 a2 k
 have ih0:=z1f.z17 k
 unfold z1f.f
 repeat' first
  | (with_reducible exact ih0 _ _ _ _ _)
  | (with_reducible exact zj.mono _ _ _)
  | (with_reducible exact z1a.mono _ _ _ _)
  | (with_reducible exact z1Z.mono _ _ _ _)
  | (with_reducible exact LeO.refl _)
  | (with_reducible exact LeO.none _)
  | (with_reducible refine LeO.ite ?_ ?_)
  | (with_reducible refine LeO.bind ?_ (fun _=>?_))
  | exact ih0 _ _ _ _ _
  | exact zj.mono _ _ _
  | exact z1a.mono _ _ _ _
  | exact z1Z.mono _ _ _ _
  | exact LeO.none _
  | refine LeO.ite ?_ ?_
  | refine LeO.bind ?_ (fun _=>?_)
set_option maxHeartbeats 8000000 in
set_option maxRecDepth 100000 in
theorem z1f.calls (k : Nat) (a0 : Int) (A1 : Option Addr) (c1 : Nat) (l1 : List (S30)) (A2 : Option Addr) (c2 : Nat) (l2 : List (S30)) (r1 : List (S30)) (r2 : Int) (w : World) (hr1 : Kd.C k30 w A1 l1.length l1) (hc1 : l1.length ≤ c1) (hr2 : Kd.C k30 w A2 l2.length l2) (hc2 : l2.length ≤ c2) (h : z1f.f k a0 l1 l2 = some (r1,r2)) :
 Calls Try.prog 102 #[.int .i64 a0,.slice A1 l1.length c1,.slice A2 l2.length c2] w fun e w'=>∃ v0_ : Value,e = .returned (.tuple #[v0_,.int .i64 r2]) ∧ Kd.R k30 30 w' w.heap.size (fun _=>True) v0_ r1 ∧ Below w.heap.size w w':=by
 have hu30:=Try.underlying30
 have HR1:=z1.mk hr1
 have HC1:=z1.mk hc1
 clear hr1 hc1
 have HR2:=z1.mk hr2
 have HC2:=z1.mk hc2
 clear hr2 hc2
 have HB:=z1.mk (Below.refl w.heap.size w)
 have H : ((z1a.f k a0 l1 l2).bind fun t101=>(if t101 = 0 then ((zj.f k a0 l2).bind fun t102=>((zj.f k a0 l1).bind fun t105=>(z1f.l0 k t102 ([] : List (S30)) t105 (t105.length : Int) 0))) else (some (([] : List (S30)),t101)))) = some (r1,r2):=h
 clear h
 replace H:=Option.bind_eq_some_iff.mp H
 obtain ⟨t101,A40,H⟩:=H
 replace H : (if t101 = 0 then ((zj.f k a0 l2).bind fun t102=>((zj.f k a0 l1).bind fun t105=>(z1f.l0 k t102 ([] : List (S30)) t105 (t105.length : Int) 0))) else (some (([] : List (S30)),t101))) = some (r1,r2):=H
 have A4:=z1.mk A40
 clear A40
 by_cases c5 : t101 = 0
 rotate_left
 · rw [if_neg c5] at H
   have c5b0 : (t101 == 0) = false:=beq_eq_false_iff_ne.mpr c5
   have c5b1 : (t101 != 0) = true:=bne_iff_ne.mpr c5
   simp only [Option.some.injEq,Prod.mk.injEq] at H
   obtain ⟨rfl,rfl⟩:=H
   go_enter Try.func102,Try.ntmps102
   go_wp2_with (first|((with_reducible refine zi (f:=133) rfl ?_);refine goesL_ (some 18) rfl rfl Try.func133 zz90 rfl #[.int .i64 a0,.slice A1 l1.length c1,.slice A2 l2.length c2] rfl zz48 ?_;(with_reducible refine (z1a.calls k a0 _ _ l1 _ _ l2 t101 _ ?side1 ?side2 ?side3 ?side4 A4.out).mono ?_);(case side1=>repeat (first|exact HR1.out|(with_reducible refine Kd.zQ ?_ _)|(with_reducible refine Kd.zR ?_ _)|(with_reducible refine Kd.z1d ?_)));(case side2=>exact HC1.out);(case side3=>repeat (first|exact HR2.out|(with_reducible refine Kd.zQ ?_ _)|(with_reducible refine Kd.zR ?_ _)|(with_reducible refine Kd.z1d ?_)));(case side4=>exact HC2.out);rintro e w25 ⟨rfl,hb⟩;refine ⟨_,rfl,?_⟩;have n0_:=z1.mk (z3 zz49 hb);clear HB;have HB:=n0_;clear n0_;(try clear hb);(try clear hb2);(try clear hk);(try clear hi)))
   go_ret2
   exact ⟨_,by first|rfl|(simp [zg,zh] <;> rfl)|(simp [*,zg,zh] <;> rfl),by first|exact Kd.z2W _ _ _ _ _|exact Kd.z3k _ _ _ _ _|exact Kd.z3p _ _ _ _ _|exact Kd.z3m _ _ _ _ _|exact Kd.z3o _ _ _ _ _,by repeat (first|(with_reducible first|exact HB.out|apply zd|apply z2|apply z9)|exact HB.out)⟩
 rw [if_pos c5] at H
 have c5b0 : (t101 == 0) = true:=beq_iff_eq.mpr c5
 have c5b1 : (t101 != 0) = false:=bne_eq_false_iff_eq.mpr c5
 clear c5
 replace H:=Option.bind_eq_some_iff.mp H
 obtain ⟨t102,A60,H⟩:=H
 replace H : ((zj.f k a0 l1).bind fun t105=>(z1f.l0 k t102 ([] : List (S30)) t105 (t105.length : Int) 0)) = some (r1,r2):=H
 have A6:=z1.mk A60
 clear A60
 replace H:=Option.bind_eq_some_iff.mp H
 obtain ⟨t105,A70,H⟩:=H
 replace H : (z1f.l0 k t102 ([] : List (S30)) t105 (t105.length : Int) 0) = some (r1,r2):=H
 have A7:=z1.mk A70
 clear A70
 have H':=z1.mk H
 clear H
 go_enter Try.func102,Try.ntmps102
 go_wp2_with (first|((with_reducible refine zi (f:=133) rfl ?_);refine goesL_ (some 18) rfl rfl Try.func133 zz90 rfl #[.int .i64 a0,.slice A1 l1.length c1,.slice A2 l2.length c2] rfl zz48 ?_;(with_reducible refine (z1a.calls k a0 _ _ l1 _ _ l2 t101 _ ?side1 ?side2 ?side3 ?side4 A4.out).mono ?_);(case side1=>repeat (first|exact HR1.out|(with_reducible refine Kd.zQ ?_ _)|(with_reducible refine Kd.zR ?_ _)|(with_reducible refine Kd.z1d ?_)));(case side2=>exact HC1.out);(case side3=>repeat (first|exact HR2.out|(with_reducible refine Kd.zQ ?_ _)|(with_reducible refine Kd.zR ?_ _)|(with_reducible refine Kd.z1d ?_)));(case side4=>exact HC2.out);rintro e w8 ⟨rfl,hb⟩;refine ⟨_,rfl,?_⟩;have n0_:=z1.mk (z3 zz49 hb);clear HB;have HB:=n0_;clear n0_;(try clear hb);(try clear hb2);(try clear hk);(try clear hi))|((with_reducible refine zi (f:=65) rfl ?_);refine goesL_ (some 24) rfl rfl Try.func65 zz90 rfl #[.int .i64 a0,.slice A2 l2.length c2] rfl zz48 ?_;(with_reducible refine (zj.calls k a0 _ _ l2 t102 _ ?side1 ?side2 A6.out).mono ?_);(case side1=>repeat (first|exact (Kd.z1r HR2.out HB.out)|(with_reducible refine Kd.zQ ?_ _)|(with_reducible refine Kd.zR ?_ _)|(with_reducible refine Kd.z1d ?_)));(case side2=>exact HC2.out);rintro e w9 ⟨v103,rfl,ho0,hb⟩;refine ⟨_,rfl,?_⟩;have n0_:=z1.mk (Kd.z1h ho0 (zb zz49));have n1_:=z1.mk (z3 zz49 hb);clear HB;have HO104:=n0_;have HB:=n1_;clear n0_ n1_;(try clear hb);(try clear hb2);(try clear hk);(try clear hi);(try clear ho0))|((with_reducible refine zi (f:=65) rfl ?_);refine goesL_ (some 27) rfl rfl Try.func65 zz90 rfl #[.int .i64 a0,.slice A1 l1.length c1] rfl zz48 ?_;(with_reducible refine (zj.calls k a0 _ _ l1 t105 _ ?side1 ?side2 A7.out).mono ?_);(case side1=>repeat (first|exact (Kd.z1r HR1.out HB.out)|(with_reducible refine Kd.zQ ?_ _)|(with_reducible refine Kd.zR ?_ _)|(with_reducible refine Kd.z1d ?_)));(case side2=>exact HC1.out);rintro e w10 ⟨v106,rfl,ho0,hb⟩;refine ⟨_,rfl,?_⟩;have n0_:=z1.mk (Kd.z1e zz62 (Kd.z1z ho0) hb);have n1_:=z1.mk (Kd.z1h (Kd.z1A ho0 (Kd.R_lt zz62)) (zb zz49));have n2_:=z1.mk (z3 zz49 hb);clear HO104;clear HB;have HO104:=n0_;have HO107:=n1_;have HB:=n2_;clear n0_ n1_ n2_;(try clear hb);(try clear hb2);(try clear hk);(try clear hi);(try clear ho0);obtain ⟨Ao11,co11,eo11⟩:=Kd.z1q HO107.out;subst eo11))
 go_loopg [10,29] k (fun kq v10 v29 w'=>∃ (x10_1 : List (S30)) (x29_1 : Int),v29 = .int .i64 x29_1 ∧ z1 (z1f.l0 kq t102 x10_1 t105 (t105.length : Int) x29_1 = some (r1,r2)) ∧ z1 (kq ≤ k) ∧ z1 (Kd.R k30 30 w' w.heap.size (fun k_=>some k_ ≠ (v10 : Value).ownBlock ∧ some k_ ≠ ((.slice Ao11 t105.length co11) : Value).ownBlock) v103 t102) ∧ z1 (Kd.R k30 30 w' w.heap.size (fun k_=>some k_ ≠ (v103 : Value).ownBlock ∧ some k_ ≠ ((.slice Ao11 t105.length co11) : Value).ownBlock) v10 x10_1) ∧ z1 (Kd.R k30 30 w' w.heap.size (fun k_=>some k_ ≠ (v103 : Value).ownBlock ∧ some k_ ≠ (v10 : Value).ownBlock) (.slice Ao11 t105.length co11) t105) ∧ z1 (Below w.heap.size w w'))
 case atStart=>exact ⟨(([] : List (S30))),(0),zz86,H',⟨Nat.le_refl _⟩,⟨by (with_reducible repeat (first|apply Kd.zI|apply Kd.zJ|apply Kd.zT));exact Kd.z18 HO104.out (fun _ hk=>⟨(by simp [Value.ownBlock]),hk.2⟩)⟩,⟨by first|exact Kd.z2W _ _ _ _ _|exact Kd.z3k _ _ _ _ _|exact Kd.z3p _ _ _ _ _|exact Kd.z3m _ _ _ _ _|exact Kd.z3o _ _ _ _ _⟩,⟨by (with_reducible repeat (first|apply Kd.zI|apply Kd.zJ|apply Kd.zT));exact Kd.z18 HO107.out (fun _ hk=>⟨hk.2,(by simp [Value.ownBlock])⟩)⟩,⟨by repeat (first|(with_reducible first|exact HB.out|apply zd|apply z2|apply z9)|exact HB.out)⟩⟩
 case round =>
  clear H'
  (try clear c1);(try clear c2);(try clear p2);(try clear c5);(try clear c5b0);(try clear c5b1);(try clear c6);(try clear c10)
  obtain ⟨x10_1,x29_1,rfl,HA,HK1,HO_9,HO_10,HO_27,HB⟩:=hrel
  cases gk with
  | zero=>exact absurd HA.out (by simp [z1f.l0])
  | succ k1 =>
   have H:=HA.out
   clear HA
   simp only [z1f.l0] at H
   by_cases c12 : x29_1 < (t105.length : Int)
   rotate_left
   · rw [if_neg c12] at H
     have c12b0 : decide (x29_1 < (t105.length : Int)) = false:=decide_eq_false c12
     clear c12
     simp only [Option.some.injEq,Prod.mk.injEq] at H
     obtain ⟨rfl,rfl⟩:=H
     go_wp2
     go_ret2
     exact ⟨_,by first|rfl|(simp [zg,zh] <;> rfl)|(simp [*,zg,zh] <;> rfl),by (with_reducible repeat (first|apply Kd.zI|apply Kd.zJ|apply Kd.zT));exact Kd.z18 HO_10.out (fun _ hk=>trivial),by repeat (first|(with_reducible first|exact HB.out|apply zd|apply z2|apply z9)|exact HB.out)⟩
   rw [if_pos c12] at H
   have c12b0 : decide (x29_1 < (t105.length : Int)) = true:=decide_eq_true c12
   clear c12
   by_cases c13 : 0 ≤ x29_1
   rotate_left
   · rw [if_neg c13] at H
     exact absurd H zz93
   rw [if_pos c13] at H
   have c13b0 : decide (0 ≤ x29_1) = true:=decide_eq_true c13
   clear c13
   by_cases c14 : x29_1 < (t105.length : Int)
   rotate_left
   · rw [if_neg c14] at H
     exact absurd H zz93
   rw [if_pos c14] at H
   have c14b0 : decide (x29_1 < (t105.length : Int)) = true:=decide_eq_true c14
   clear c14
   replace H:=Option.bind_eq_some_iff.mp H
   obtain ⟨⟨t110,t111,t112⟩,A150,H⟩:=H
   replace H : (if x10_1.length < 8796093022208 then (z1f.l0 k1 t102 (x10_1 ++ [(⟨t110,t111⟩ : S30)]) t105 (t105.length : Int) (wrap64 (x29_1 + 1))) else (none)) = some (r1,r2):=H
   have A15:=z1.mk A150
   clear A150
   by_cases c16 : x10_1.length < 8796093022208
   rotate_left
   · rw [if_neg c16] at H
     exact absurd H zz93
   rw [if_pos c16] at H
   have LMc16:=z1.mk c16
   clear c16
   obtain ⟨y114,hy114⟩ : ∃ y_ : List (S30),y_ = (x10_1 ++ [(⟨t110,t111⟩ : S30)]):=⟨_,rfl⟩
   replace H : (z1f.l0 k1 t102 y114 t105 (t105.length : Int) (wrap64 (x29_1 + 1))) = some (r1,r2):=by first|(rw [hy114];with_reducible exact H)|(have H2_:=(Option.bind_some _ _).symm.trans H;rw [hy114];with_reducible exact H2_)|(have H2_:=(Option.bind_some _ _).symm.trans H;with_reducible exact H2_)|with_reducible exact H|(rw [hy114];exact H)|exact H
   have Ny114:=z1.mk hy114
   clear hy114
   have H':=z1.mk H
   clear H
   have p108 : 0 ≤ (x29_1 : Int):=of_decide_eq_true zz85
   have q108 : x29_1 < (t105.length : Int):=of_decide_eq_true zz85
   obtain ⟨ad108,e108,hx108_0,hx108_1⟩:=z20 (Kd.zs HO_27.out).2.2 x29_1 p108 q108
   cases e108
   replace p108:=eq_true p108
   replace q108:=eq_true q108
   go_wp2_with (first|((with_reducible refine zp (N:=12) rfl ?_);refine zt ?hg (N:=12) ?hd (cs:=#[.int .u64 0,.int .u64 0]) (t:=30) ?hr ?_;(case hd=>rfl);(case hg=>rfl);(case hr=>first|(go_simp;done)|(go_simp;rfl));intro gb109 hg w17 hbox hb;have n0_:=z1.mk (Kd.zq (Kd.z1w zz72 gb109 (Nat.le_of_eq hg.symm)) hb);have n1_:=z1.mk (Kd.zq (Kd.z1w zz63 gb109 (Nat.le_of_eq hg.symm)) hb);have n2_:=z1.mk (Kd.zq (Kd.z1w zz64 gb109 (Nat.le_of_eq hg.symm)) hb);have n3_:=z1.mk (z3 zz49 hb);have n4_:=z1.mk (hbox);have n5_:=z1.mk ((by rw [hg];exact (zb zz49) : w.heap.size ≤ gb109));have n6_:=z1.mk ((by rw [hg];exact (zb zz49) : w.heap.size ≤ gb109));clear HO_9;clear HO_10;clear HO_27;clear HB;have HO_9:=n0_;have HO_10:=n1_;have HO_27:=n2_;have HB:=n3_;have BK109:=n4_;have GW109:=n5_;have GE109:=n6_;clear n0_ n1_ n2_ n3_ n4_ n5_ n6_;clear hb hbox hg;have hcz18_0 : w17.cell? ⟨gb109,0,none⟩ = some (.int .u64 0):=(z7 BK109.out 0).trans rfl;have hcz18_1 : w17.cell? ⟨gb109,1,none⟩ = some (.int .u64 0):=(z7 BK109.out 1).trans rfl;have hfz18_0:=z6 BK109.out 0;have hfz18_1:=z6 BK109.out 1;obtain ⟨Ao19,co19,eo19⟩:=Kd.z1q HO_9.out;subst eo19)|((with_reducible refine zi (f:=134) rfl ?_);refine goesL_ (some 36) rfl rfl Try.func134 zz90 rfl #[.slice Ao19 t102.length co19,.agg #[.int .u64 ((rd_T30 t105 x29_1).f0),.int .u64 ((rd_T30 t105 x29_1).f1)]] rfl zz48 ?_;(with_reducible refine (z1Z.calls k1 _ _ t102 ((rd_T30 t105 x29_1).f0) ((rd_T30 t105 x29_1).f1) t110 t111 t112 _ ?side1 ?side2 A15.out).mono ?_);(case side1=>refine (Kd.zs (e:=30) (base:=w.heap.size) (ok:=fun k_=>((some k_ ≠ (u10 : Value).ownBlock ∧ some k_ ≠ (.slice (some ad108) t105.length co11 : Value).ownBlock) ∧ k_ ≠ gb109)) (n:=t102.length) (c:=co19) ?_).2.2;exact zz17);(case side2=>exact (Kd.zs HO_9.out).2.1);rintro e w20 ⟨rfl,hb⟩;refine ⟨_,rfl,?_⟩;have n0_:=z1.mk (Kd.zq zz17 hb);have n1_:=z1.mk (Kd.zq (by (with_reducible repeat (first|apply Kd.zI|apply Kd.zJ|apply Kd.zT));exact (Kd.z18 (Kd.z1M (p:=⟨gb109,1,none⟩) (Kd.z1M (p:=⟨gb109,0,none⟩) (Kd.z18 HO_10.out (fun k_ hk=>(⟨hk,hk.2⟩ : _ ∧ k_ ≠ gb109))) (fun _ hk=>hk.2) (.int .u64 ((rd_T30 t105 x29_1).f0))) (fun _ hk=>hk.2) (.int .u64 ((rd_T30 t105 x29_1).f1))) (fun _ h_=>h_.1))) hb);have n2_:=z1.mk (Kd.zq (by (with_reducible repeat (first|apply Kd.zI|apply Kd.zJ|apply Kd.zT));exact (Kd.z18 (Kd.z1M (p:=⟨gb109,1,none⟩) (Kd.z1M (p:=⟨gb109,0,none⟩) (Kd.z18 HO_27.out (fun k_ hk=>(⟨hk,hk.2⟩ : _ ∧ k_ ≠ gb109))) (fun _ hk=>hk.2) (.int .u64 ((rd_T30 t105 x29_1).f0))) (fun _ hk=>hk.2) (.int .u64 ((rd_T30 t105 x29_1).f1))) (fun _ h_=>h_.1))) hb);have n3_:=z1.mk (zc (g:=gb109) (o:=.cells #[.int .u64 ((rd_T30 t105 x29_1).f0),.int .u64 ((rd_T30 t105 x29_1).f1)] 30 (0,0)) (by (with_reducible repeat (first|refine z5 ?_ _|refine z8 ?_|refine z4 ?_ _));refine zX (cs:=#[.int .u64 ((rd_T30 t105 x29_1).f0),.int .u64 0]) ?_ 1 _ rfl;(with_reducible repeat (first|refine z5 ?_ _|refine z8 ?_|refine z4 ?_ _));refine zX (cs:=#[.int .u64 0,.int .u64 0]) ?_ 0 _ rfl;(with_reducible repeat (first|refine z5 ?_ _|refine z8 ?_|refine z4 ?_ _));exact BK109.out) hb);have n4_:=z1.mk (z3 zz44 hb);clear HO_9;clear HO_10;clear HO_27;clear BK109;clear HB;have HO_9:=n0_;have HO_10:=n1_;have HO_27:=n2_;have BK109:=n3_;have HB:=n4_;clear n0_ n1_ n2_ n3_ n4_;(try clear hb);(try clear hb2);(try clear hk);(try clear hi))|((with_reducible refine zp (N:=13) rfl ?_);refine zt ?hg (N:=13) ?hd (cs:=#[.int .u64 0,.int .u64 0]) (t:=30) ?hr ?_;(case hd=>rfl);(case hg=>rfl);(case hr=>first|(go_simp;done)|(go_simp;rfl));intro gb113 hg w21 hbox hb;have n0_:=z1.mk (Kd.zq (Kd.z1w zz72 gb113 (Nat.le_of_eq hg.symm)) hb);have n1_:=z1.mk (Kd.zq (Kd.z1w zz63 gb113 (Nat.le_of_eq hg.symm)) hb);have n2_:=z1.mk (Kd.zq (Kd.z1w zz64 gb113 (Nat.le_of_eq hg.symm)) hb);have n3_:=z1.mk (zc (g:=gb109) (o:=.cells #[.int .u64 ((rd_T30 t105 x29_1).f0),.int .u64 ((rd_T30 t105 x29_1).f1)] 30 (0,0)) zz53 hb);have n4_:=z1.mk (z3 zz44 hb);have n5_:=z1.mk (hbox);have n6_:=z1.mk ((by rw [hg];exact (zb zz44) : w.heap.size ≤ gb113));have n7_:=z1.mk ((by rw [hg];exact (zb zz44) : w.heap.size ≤ gb113));have n8_:=z1.mk ((by rw [hg];exact Nat.ne_of_lt (zL (g:=gb109) (o:=.cells #[.int .u64 ((rd_T30 t105 x29_1).f0),.int .u64 ((rd_T30 t105 x29_1).f1)] 30 (0,0)) zz53) : gb109 ≠ gb113));have n9_:=z1.mk ((by rw [hg];exact Nat.ne_of_gt (zL (g:=gb109) (o:=.cells #[.int .u64 ((rd_T30 t105 x29_1).f0),.int .u64 ((rd_T30 t105 x29_1).f1)] 30 (0,0)) zz53) : gb113 ≠ gb109));clear HO_9;clear HO_10;clear HO_27;clear BK109;clear HB;have HO_9:=n0_;have HO_10:=n1_;have HO_27:=n2_;have BK109:=n3_;have HB:=n4_;have BK113:=n5_;have GW113:=n6_;have GE113:=n7_;have NB109_113:=n8_;have NB113_109:=n9_;clear n0_ n1_ n2_ n3_ n4_ n5_ n6_ n7_ n8_ n9_;clear hb hbox hg;have hnb22:=NB113_109.out;have hnc22:=NB109_113.out;have hcz23_0 : w21.cell? ⟨gb113,0,none⟩ = some (.int .u64 0):=(z7 BK113.out 0).trans rfl;have hcz23_1 : w21.cell? ⟨gb113,1,none⟩ = some (.int .u64 0):=(z7 BK113.out 1).trans rfl;have hfz23_0:=z6 BK113.out 0;have hfz23_1:=z6 BK113.out 1)|((with_reducible refine z2f (b:=.append) (xs:=#[.tmp 39,.tmp 41]) rfl ?_);at_builtin;refine Kd.z3n k30 (w0:=w) w.heap.size rfl (.tmp 39) (.tmp 41) 24 30 (.agg #[(.int .u64 0),(.int .u64 0)]) 16 rfl Try.underlying24 info30 rfl zz91 zz92 u10 x10_1 (⟨t110,t111⟩ : S30) [.int .u64 t110,.int .u64 t111] (fun k_=>some k_ ≠ (.slice Ao19 t102.length co19 : Value).ownBlock ∧ some k_ ≠ (.slice (some ad108) t105.length co11 : Value).ownBlock ∧ k_ ≠ gb109 ∧ k_ ≠ gb113) (fun _=>False) rfl zz87 ?aP (fun _ hk=>hk.elim) ?aF ?aO ?aB ?aS ?aL ?_;(case aP=>exact z1J _ _ _ (⟨t110,t111⟩ : S30));(case aB=>exact zz38);(case aF=>exact (fun k_ hk=>⟨Kd.fresh' (Kd.R_lt (by (with_reducible repeat (first|apply Kd.zI|apply Kd.zJ|apply Kd.zT));exact (Kd.z18 (Kd.z1M (p:=⟨gb113,1,none⟩) (Kd.z1M (p:=⟨gb113,0,none⟩) (Kd.z18 HO_9.out (fun k_ hk=>(⟨hk,hk.2⟩ : _ ∧ k_ ≠ gb113))) (fun _ hk=>hk.2) (.int .u64 t110)) (fun _ hk=>hk.2) (.int .u64 t111)) (fun _ h_=>h_.1)))) k_ hk,Kd.fresh' (Kd.R_lt (by (with_reducible repeat (first|apply Kd.zI|apply Kd.zJ|apply Kd.zT));exact (Kd.z18 (Kd.z1M (p:=⟨gb113,1,none⟩) (Kd.z1M (p:=⟨gb113,0,none⟩) (Kd.z18 HO_27.out (fun k_ hk=>(⟨hk,hk.2⟩ : _ ∧ k_ ≠ gb113))) (fun _ hk=>hk.2) (.int .u64 t110)) (fun _ hk=>hk.2) (.int .u64 t111)) (fun _ h_=>h_.1)))) k_ hk,Kd.freshB (g:=gb109) (o:=.cells #[.int .u64 ((rd_T30 t105 x29_1).f0),.int .u64 ((rd_T30 t105 x29_1).f1)] 30 (0,0)) zz14 k_ hk,Kd.freshB (g:=gb113) (o:=.cells #[.int .u64 t110,.int .u64 t111] 30 (0,0)) zz5 k_ hk⟩));(case aO=>exact (by (with_reducible repeat (first|apply Kd.zI|apply Kd.zJ|apply Kd.zT));exact Kd.z18 (Kd.z1M (p:=⟨gb113,1,none⟩) (Kd.z1M (p:=⟨gb113,0,none⟩) (Kd.z18 HO_10.out (fun k_ hk=>(⟨hk,hk.2⟩ : _ ∧ k_ ≠ gb113))) (fun _ hk=>hk.2) (.int .u64 t110)) (fun _ hk=>hk.2) (.int .u64 t111)) (fun _ hk=>⟨hk.1.1.1.1,⟨hk.1.1.1.2,⟨hk.1.1.2,hk.1.2⟩⟩⟩)));(case aS=>exact (zb zz38));(case aL=>have:=LMc16.out;omega);intro v115 w24 ho hb hg hat;rw [← Ny114.out] at ho;have n0_:=z1.mk (Kd.z4O (ok:=(fun k_=>some k_ ≠ (.slice (some ad108) t105.length co11 : Value).ownBlock ∧ k_ ≠ gb109 ∧ k_ ≠ gb113)) (by (with_reducible repeat (first|apply Kd.zI|apply Kd.zJ|apply Kd.zT));exact Kd.z18 (Kd.z1M (p:=⟨gb113,1,none⟩) (Kd.z1M (p:=⟨gb113,0,none⟩) (Kd.z18 HO_9.out (fun k_ hk=>(⟨hk,hk.2⟩ : _ ∧ k_ ≠ gb113))) (fun _ hk=>hk.2) (.int .u64 t110)) (fun _ hk=>hk.2) (.int .u64 t111)) (fun _ hk=>⟨⟨hk.1.1.1.2,⟨hk.1.1.2,hk.1.2⟩⟩,hk.1.1.1.1⟩)) hg hat);have n1_:=z1.mk (Kd.z4O (ok:=(fun k_=>some k_ ≠ (.slice Ao19 t102.length co19 : Value).ownBlock ∧ k_ ≠ gb109 ∧ k_ ≠ gb113)) (by (with_reducible repeat (first|apply Kd.zI|apply Kd.zJ|apply Kd.zT));exact Kd.z18 (Kd.z1M (p:=⟨gb113,1,none⟩) (Kd.z1M (p:=⟨gb113,0,none⟩) (Kd.z18 HO_27.out (fun k_ hk=>(⟨hk,hk.2⟩ : _ ∧ k_ ≠ gb113))) (fun _ hk=>hk.2) (.int .u64 t110)) (fun _ hk=>hk.2) (.int .u64 t111)) (fun _ hk=>⟨⟨hk.1.1.1.1,⟨hk.1.1.2,hk.1.2⟩⟩,hk.1.1.1.2⟩)) hg hat);have n2_:=z1.mk (z1U (g:=gb109) (o:=.cells #[.int .u64 ((rd_T30 t105 x29_1).f0),.int .u64 ((rd_T30 t105 x29_1).f1)] 30 (0,0)) zz14 hg (Kd.z2e HO_10.out (fun _ hk=>hk.1.2)));have n3_:=z1.mk (z1U (g:=gb113) (o:=.cells #[.int .u64 t110,.int .u64 t111] 30 (0,0)) zz5 hg (Kd.z2e HO_10.out (fun _ hk=>hk.2)));have n4_:=z1.mk (hb);have n5_:=z1.mk (ho);clear HO_9;clear HO_27;clear BK109;clear BK113;clear HB;clear HO_10;have HO_9:=n0_;have HO_27:=n1_;have BK109:=n2_;have BK113:=n3_;have HB:=n4_;have HO116:=n5_;clear n0_ n1_ n2_ n3_ n4_ n5_;clear ho hb hg hat))
   go_roundg k1
   case measure=>have:=HK1.out;omega
   case rel=>exact ⟨(y114),(wrap64 (x29_1 + 1)),zz86,H',⟨by have:=HK1.out;omega⟩,⟨by (with_reducible repeat (first|apply Kd.zI|apply Kd.zJ|apply Kd.zT));exact Kd.z18 HO_9.out (fun _ hk=>⟨hk.2,hk.1.1⟩)⟩,⟨by (with_reducible repeat (first|apply Kd.zI|apply Kd.zJ|apply Kd.zT));exact Kd.z18 HO116.out (fun _ hk=>⟨hk.1,hk.2.1⟩)⟩,⟨by (with_reducible repeat (first|apply Kd.zI|apply Kd.zJ|apply Kd.zT));exact Kd.z18 HO_27.out (fun _ hk=>⟨hk.1.1,hk.2⟩)⟩,⟨by repeat (first|(with_reducible first|exact HB.out|apply zd|apply z2|apply z9|refine za ?_ GE109.out|refine za ?_ GE113.out)|exact HB.out)⟩⟩
end Go.Proofs.Ytkhmpaooinpfoaa.P

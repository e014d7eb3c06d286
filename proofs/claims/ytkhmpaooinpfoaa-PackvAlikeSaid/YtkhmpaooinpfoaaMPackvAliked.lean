/- Own text: merged by wip/tools/pack.py out of what the law PackvAlike reaches. -/
import Derived.Test.YtkhmpaooinpfoaaMPackvAlikeb
import Derived.Test.YtkhmpaooinpfoaaMPackvAlikec
namespace Go.Proofs.Ytkhmpaooinpfoaa.P
open Go.RowKit Go.Proofs.YtkhmpaooinpfoaaW.PrintWords Go.Proofs.YtkhmpaooinpfoaaW.PrintLast Go.Proofs.YtkhmpaooinpfoaaW.PrintMore
attribute [local go_sem] z15 z17 z1f z1g zW zX z16 z18   -- for this text's walks alone
set_option linter.unusedVariables false
set_option linter.unusedSimpArgs false
mutual
def zv.l0 : Nat → Int → List (S30) → List (S30) → List (S30) → Int → Int → Option ((List (S30)) × Int)
 | 0,_,_,_,_,_,_=>none
 | k + 1,x0,x1,x2,x9,x41,x42=>if x42 < x41 then ((z1z.f x9).bind fun t112=>(if 0 ≤ x42 then (if x42 < (x1.length : Int) then ((z1D.f).bind fun bt116=>((zm.f k x0 t112 x9 ((zi x1 x42).f0) ((zi x1 x42).f1) bt116.1 bt116.2).bind fun t118=>(zv.l1 k x0 x1 x2 x42 t118 x41 x42 x9 (x9.length : Int) 0))) else (none)) else (none))) else (some (x9,0))
def zv.l1 : Nat → Int → List (S30) → List (S30) → Int → List (S30) → Int → Int → List (S30) → Int → Int → Option ((List (S30)) × Int)
 | 0,_,_,_,_,_,_,_,_,_,_=>none
 | k + 1,x0,x1,x2,x10,x11,x41,x42,x56,x57,x58=>if x58 < x57 then (if 0 ≤ x58 then (if x58 < (x56.length : Int) then (if x58 < (x11.length : Int) then (if 0 ≤ x10 then (if x10 < (x2.length : Int) then ((zN.f k x0 ((zi x56 x58).f0) ((zi x56 x58).f1) ((zi x2 x10).f0) ((zi x2 x10).f1)).bind fun bt123=>((z1M.f ((zi x11 x58).f0) ((zi x11 x58).f1) bt123.1 bt123.2).bind fun bt125=>(zv.l1 k x0 x1 x2 x10 (x11.set (x58 : Int).toNat (⟨bt125.1,bt125.2⟩ : S30)) x41 x42 x56 x57 (wrap64 (x58 + 1))))) else (none)) else (none)) else (none)) else (none)) else (none)) else (zv.l0 k x0 x1 x2 x11 x41 (wrap64 (x42 + 1)))
end
def zv.f (k : Nat) (a0 : Int) (l1 : List (S30)) (l2 : List (S30)) : Option ((List (S30)) × Int):=(zH.f k a0).bind fun t101=>(if t101 = 0 then (some (([] : List (S30)),1)) else (if (l1.length : Int) = (l2.length : Int) then (if (l1.length : Int) > 16 then (some (([] : List (S30)),6)) else ((zn.f k (([l1,l2] : List (List (S30))))).bind fun t105=>((zA.f k a0 ([] : List (List (S30))) t105).bind fun t108=>(if t108 = 0 then ((z1k.f k a0).bind fun t109=>(zv.l0 k a0 l1 l2 t109 (l1.length : Int) 0)) else (some (([] : List (S30)),t108)))))) else (some (([] : List (S30)),6))))
theorem zv.z1b : ∀ k,(∀ y0 y1 y2 y3 y4 y5,LeO (zv.l0 k y0 y1 y2 y3 y4 y5) (zv.l0 (k + 1) y0 y1 y2 y3 y4 y5)) ∧ (∀ y0 y1 y2 y3 y4 y5 y6 y7 y8 y9,LeO (zv.l1 k y0 y1 y2 y3 y4 y5 y6 y7 y8 y9) (zv.l1 (k + 1) y0 y1 y2 y3 y4 y5 y6 y7 y8 y9))
 | 0=>⟨fun _ _ _ _ _ _ r h=>by simp [zv.l0] at h,fun _ _ _ _ _ _ _ _ _ _ r h=>by simp [zv.l1] at h⟩
 | k + 1=>by
  obtain ⟨ih0,ih1⟩:=zv.z1b k
  refine ⟨?_,?_⟩
  · intro y0 y1 y2 y3 y4 y5
    unfold zv.l0
    repeat' first
    | (with_reducible exact ih0 _ _ _ _ _ _)
    | (with_reducible exact ih1 _ _ _ _ _ _ _ _ _ _)
    | (with_reducible exact z1k.mono _ _)
    | (with_reducible exact zA.mono _ _ _ _)
    | (with_reducible exact zm.mono _ _ _ _ _ _ _ _)
    | (with_reducible exact zH.mono _ _)
    | (with_reducible exact zn.mono _ _)
    | (with_reducible exact zN.mono _ _ _ _ _ _)
    | (with_reducible exact LeO.refl _)
    | (with_reducible exact LeO.none _)
    | (with_reducible refine LeO.ite ?_ ?_)
    | (with_reducible refine LeO.bind ?_ (fun _=>?_))
    | exact ih0 _ _ _ _ _ _
    | exact ih1 _ _ _ _ _ _ _ _ _ _
    | exact z1k.mono _ _
    | exact zA.mono _ _ _ _
    | exact zm.mono _ _ _ _ _ _ _ _
    | exact zH.mono _ _
    | exact zn.mono _ _
    | exact zN.mono _ _ _ _ _ _
    | exact LeO.none _
    | refine LeO.ite ?_ ?_
    | refine LeO.bind ?_ (fun _=>?_)
  · intro y0 y1 y2 y3 y4 y5 y6 y7 y8 y9
    unfold zv.l1
    repeat' first
    | (with_reducible exact ih0 _ _ _ _ _ _)
    | (with_reducible exact ih1 _ _ _ _ _ _ _ _ _ _)
    | (with_reducible exact z1k.mono _ _)
    | (with_reducible exact zA.mono _ _ _ _)
    | (with_reducible exact zm.mono _ _ _ _ _ _ _ _)
    | (with_reducible exact zH.mono _ _)
    | (with_reducible exact zn.mono _ _)
    | (with_reducible exact zN.mono _ _ _ _ _ _)
    | (with_reducible exact LeO.refl _)
    | (with_reducible exact LeO.none _)
    | (with_reducible refine LeO.ite ?_ ?_)
    | (with_reducible refine LeO.bind ?_ (fun _=>?_))
    | exact ih0 _ _ _ _ _ _
    | exact ih1 _ _ _ _ _ _ _ _ _ _
    | exact z1k.mono _ _
    | exact zA.mono _ _ _ _
    | exact zm.mono _ _ _ _ _ _ _ _
    | exact zH.mono _ _
    | exact zn.mono _ _
    | exact zN.mono _ _ _ _ _ _
    | exact LeO.none _
    | refine LeO.ite ?_ ?_
    | refine LeO.bind ?_ (fun _=>?_)
theorem zv.mono : ∀ a0 a1 a2 k,LeO (zv.f k a0 a1 a2) (zv.f (k + 1) a0 a1 a2):=by
 intro a0 a1 a2 k
 obtain ⟨ih0,ih1⟩:=zv.z1b k
 unfold zv.f
 repeat' first
  | (with_reducible exact ih0 _ _ _ _ _ _)
  | (with_reducible exact ih1 _ _ _ _ _ _ _ _ _ _)
  | (with_reducible exact z1k.mono _ _)
  | (with_reducible exact zA.mono _ _ _ _)
  | (with_reducible exact zm.mono _ _ _ _ _ _ _ _)
  | (with_reducible exact zH.mono _ _)
  | (with_reducible exact zn.mono _ _)
  | (with_reducible exact zN.mono _ _ _ _ _ _)
  | (with_reducible exact LeO.refl _)
  | (with_reducible exact LeO.none _)
  | (with_reducible refine LeO.ite ?_ ?_)
  | (with_reducible refine LeO.bind ?_ (fun _=>?_))
  | exact ih0 _ _ _ _ _ _
  | exact ih1 _ _ _ _ _ _ _ _ _ _
  | exact z1k.mono _ _
  | exact zA.mono _ _ _ _
  | exact zm.mono _ _ _ _ _ _ _ _
  | exact zH.mono _ _
  | exact zn.mono _ _
  | exact zN.mono _ _ _ _ _ _
  | exact LeO.none _
  | refine LeO.ite ?_ ?_
  | refine LeO.bind ?_ (fun _=>?_)
def zv.T13 : Bool × List (List Nat × List Nat):=(true,[([],[]),([],[]),([],[]),([],[]),([],[]),([3,4],[3,4]),([5],[5]),([],[]),([0,1,2,6,7,7],[0,1,2,6,7])])
def zv.B13 : List Nat:=[0,0,0,0,0,24,56,0,255]
theorem zv.tab13 : rtab .any (opsOf Try.f49 13) = zv.T13:=by kernel_rfl
theorem zv.bits13 : waitsOk zv.T13.2 zv.B13 = true:=by kernel_rfl
def zv.T17 : Bool × List (List Nat × List Nat):=(true,[([],[]),([],[]),([],[]),([],[]),([2,3],[2,3]),([4],[4]),([],[]),([],[]),([],[]),([],[]),([8,9],[8,9]),([10],[10]),([6,7,11],[6,7,11]),([5,12,12],[5,12]),([0,1,0,1,2,3,4,5,6,7,8,9,10,11,12,13],[0,1]),([14,13,13,0,1,2,3,4,5,6,7,8,9,10,11,12,13],[13,14])])
def zv.B17 : List Nat:=[0,0,0,0,12,28,0,0,0,0,768,1792,4032,8188,16383,32767]
theorem zv.tab17 : rtab .any (opsOf Try.f49 17) = zv.T17:=by kernel_rfl
theorem zv.bits17 : waitsOk zv.T17.2 zv.B17 = true:=by kernel_rfl
set_option maxHeartbeats 8000000 in
set_option maxRecDepth 100000 in
theorem zv.calls (k : Nat) (a0 : Int) (P1_ : Nat → Prop) (A1 : Option Addr) (c1 : Nat) (l1 : List (S30)) (P2_ : Nat → Prop) (A2 : Option Addr) (c2 : Nat) (l2 : List (S30)) (r1 : List (S30)) (r2 : Int) (w : World) (hs1 : Kd.V k30 30 w w.heap.size (fun k_=>P1_ k_) (.slice A1 l1.length c1) l1) (hs2 : Kd.V k30 30 w w.heap.size (fun k_=>P2_ k_) (.slice A2 l2.length c2) l2) (h : zv.f k a0 l1 l2 = some (r1,r2)) :
 Calls Try.prog 49 #[.int .i64 a0,.slice A1 l1.length c1,.slice A2 l2.length c2] w fun e w'=>∃ v0_ : Value,e = .returned (.tuple #[v0_,.int .i64 r2]) ∧ Kd.R k30 30 w' w.heap.size (fun k_=>(w.heap.size ≤ k_)) v0_ r1 ∧ Below w.heap.size w w':=by
 have hu30:=Try.underlying30
 have HO1:=z2.mk (show Kd.V k30 30 w w.heap.size (fun k_=>((P1_ k_ ∨ P2_ k_) ∨ w.heap.size ≤ k_)) (.slice A1 l1.length c1) l1 from Kd.z1t hs1 (fun k_ hk=>.inl (.inl hk)))
 have HO2:=z2.mk (show Kd.V k30 30 w w.heap.size (fun k_=>((P1_ k_ ∨ P2_ k_) ∨ w.heap.size ≤ k_)) (.slice A2 l2.length c2) l2 from Kd.z1t hs2 (fun k_ hk=>.inl (.inr hk)))
 have HB:=z2.mk (Below.refl w.heap.size w)
 have H : ((zH.f k a0).bind fun t101=>(if t101 = 0 then (some (([] : List (S30)),1)) else (if (l1.length : Int) = (l2.length : Int) then (if (l1.length : Int) > 16 then (some (([] : List (S30)),6)) else ((zn.f k (([l1,l2] : List (List (S30))))).bind fun t105=>((zA.f k a0 ([] : List (List (S30))) t105).bind fun t108=>(if t108 = 0 then ((z1k.f k a0).bind fun t109=>(zv.l0 k a0 l1 l2 t109 (l1.length : Int) 0)) else (some (([] : List (S30)),t108)))))) else (some (([] : List (S30)),6))))) = some (r1,r2):=h
 clear h
 replace H:=Option.bind_eq_some_iff.mp H
 obtain ⟨t101,A40,H⟩:=H
 replace H : (if t101 = 0 then (some (([] : List (S30)),1)) else (if (l1.length : Int) = (l2.length : Int) then (if (l1.length : Int) > 16 then (some (([] : List (S30)),6)) else ((zn.f k (([l1,l2] : List (List (S30))))).bind fun t105=>((zA.f k a0 ([] : List (List (S30))) t105).bind fun t108=>(if t108 = 0 then ((z1k.f k a0).bind fun t109=>(zv.l0 k a0 l1 l2 t109 (l1.length : Int) 0)) else (some (([] : List (S30)),t108)))))) else (some (([] : List (S30)),6)))) = some (r1,r2):=H
 have A4:=z2.mk A40
 clear A40
 by_cases c5 : t101 = 0
 · rw [if_pos c5] at H
   have c5b0 : (t101 == 0) = true:=beq_iff_eq.mpr c5
   have c5b1 : (t101 != 0) = false:=bne_eq_false_iff_eq.mpr c5
   clear c5
   simp only [Option.some.injEq,Prod.mk.injEq] at H
   obtain ⟨rfl,rfl⟩:=H
   go_enter Try.func49,Try.ntmps49
   go_wp2_with (first|((with_reducible refine zj (f:=92) rfl ?_);refine goesL_ (some 16) rfl rfl Try.func92 (by kernel_rfl) rfl #[.int .i64 a0] rfl (by (try simp only [List.map_toArray,List.map_cons,List.map_nil]);first|done|rfl|(simp only [List.length_drop,List.length_take];rfl)) ?_;(with_reducible refine (zH.calls k a0 t101 _ A4.out).mono ?_);rintro e w' ⟨rfl,⟨nd,rfl⟩⟩;refine ⟨_,rfl,?_⟩))
   go_ret2
   exact ⟨_,by first|rfl|(simp [zk,zl] <;> rfl)|(simp [*,zk,zl] <;> rfl),by first|exact Kd.z2C _ _ _ _ _|exact Kd.z3k _ _ _ _ _|exact Kd.z3o _ _ _ _ _|exact Kd.z3m _ _ _ _ _|exact Kd.z3n _ _ _ _ _,by repeat (first|(with_reducible first|exact HB.out|apply z4|apply z1|apply z3)|exact HB.out)⟩
 rw [if_neg c5] at H
 have c5b0 : (t101 == 0) = false:=beq_eq_false_iff_ne.mpr c5
 have c5b1 : (t101 != 0) = true:=bne_iff_ne.mpr c5
 by_cases c6 : (l1.length : Int) = (l2.length : Int)
 rotate_left
 · rw [if_neg c6] at H
   have c6b0 : ((l1.length : Int) == (l2.length : Int)) = false:=beq_eq_false_iff_ne.mpr c6
   have c6b1 : ((l1.length : Int) != (l2.length : Int)) = true:=bne_iff_ne.mpr c6
   have c6b2 : (l1.length == l2.length) = false:=by first|simpa using c6|(simp at c6 ⊢;omega)
   simp only [Option.some.injEq,Prod.mk.injEq] at H
   obtain ⟨rfl,rfl⟩:=H
   go_enter Try.func49,Try.ntmps49
   go_wp2_with (first|((with_reducible refine zj (f:=92) rfl ?_);refine goesL_ (some 16) rfl rfl Try.func92 (by kernel_rfl) rfl #[.int .i64 a0] rfl (by (try simp only [List.map_toArray,List.map_cons,List.map_nil]);first|done|rfl|(simp only [List.length_drop,List.length_take];rfl)) ?_;(with_reducible refine (zH.calls k a0 t101 _ A4.out).mono ?_);rintro e w' ⟨rfl,⟨nd,rfl⟩⟩;refine ⟨_,rfl,?_⟩))
   go_ret2
   exact ⟨_,by first|rfl|(simp [zk,zl] <;> rfl)|(simp [*,zk,zl] <;> rfl),by first|exact Kd.z2C _ _ _ _ _|exact Kd.z3k _ _ _ _ _|exact Kd.z3o _ _ _ _ _|exact Kd.z3m _ _ _ _ _|exact Kd.z3n _ _ _ _ _,by repeat (first|(with_reducible first|exact HB.out|apply z4|apply z1|apply z3)|exact HB.out)⟩
 rw [if_pos c6] at H
 have c6b0 : ((l1.length : Int) == (l2.length : Int)) = true:=beq_iff_eq.mpr c6
 have c6b1 : ((l1.length : Int) != (l2.length : Int)) = false:=bne_eq_false_iff_eq.mpr c6
 have c6b2 : (l1.length == l2.length) = true:=by first|simpa using c6|(simp at c6 ⊢;omega)
 clear c6
 by_cases c7 : (l1.length : Int) > 16
 · rw [if_pos c7] at H
   have c7b0 : decide (16 < (l1.length : Int)) = true:=decide_eq_true c7
   have c7b1 : decide (16 < l1.length) = true:=decide_eq_true (by omega)
   clear c7
   simp only [Option.some.injEq,Prod.mk.injEq] at H
   obtain ⟨rfl,rfl⟩:=H
   go_enter Try.func49,Try.ntmps49
   go_wp2_with (first|((with_reducible refine zj (f:=92) rfl ?_);refine goesL_ (some 16) rfl rfl Try.func92 (by kernel_rfl) rfl #[.int .i64 a0] rfl (by (try simp only [List.map_toArray,List.map_cons,List.map_nil]);first|done|rfl|(simp only [List.length_drop,List.length_take];rfl)) ?_;(with_reducible refine (zH.calls k a0 t101 _ A4.out).mono ?_);rintro e w' ⟨rfl,⟨nd,rfl⟩⟩;refine ⟨_,rfl,?_⟩))
   go_ret2
   exact ⟨_,by first|rfl|(simp [zk,zl] <;> rfl)|(simp [*,zk,zl] <;> rfl),by first|exact Kd.z2C _ _ _ _ _|exact Kd.z3k _ _ _ _ _|exact Kd.z3o _ _ _ _ _|exact Kd.z3m _ _ _ _ _|exact Kd.z3n _ _ _ _ _,by repeat (first|(with_reducible first|exact HB.out|apply z4|apply z1|apply z3)|exact HB.out)⟩
 rw [if_neg c7] at H
 have c7b0 : decide (16 < (l1.length : Int)) = false:=decide_eq_false c7
 have c7b1 : decide (16 < l1.length) = false:=decide_eq_false (by omega)
 clear c7
 obtain ⟨y102,hy102⟩ : ∃ y_ : List (List (S30)),y_ = (([l1,l2] : List (List (S30)))):=⟨_,rfl⟩
 replace H : ((zn.f k y102).bind fun t105=>((zA.f k a0 ([] : List (List (S30))) t105).bind fun t108=>(if t108 = 0 then ((z1k.f k a0).bind fun t109=>(zv.l0 k a0 l1 l2 t109 (l1.length : Int) 0)) else (some (([] : List (S30)),t108))))) = some (r1,r2):=by first|(rw [hy102];with_reducible exact H)|(have H2_:=(Option.bind_some _ _).symm.trans H;rw [hy102];with_reducible exact H2_)|(have H2_:=(Option.bind_some _ _).symm.trans H;with_reducible exact H2_)|with_reducible exact H|(rw [hy102];exact H)|exact H
 have Ny102:=z2.mk hy102
 clear hy102
 replace H:=Option.bind_eq_some_iff.mp H
 obtain ⟨t105,A80,H⟩:=H
 replace H : ((zA.f k a0 ([] : List (List (S30))) t105).bind fun t108=>(if t108 = 0 then ((z1k.f k a0).bind fun t109=>(zv.l0 k a0 l1 l2 t109 (l1.length : Int) 0)) else (some (([] : List (S30)),t108)))) = some (r1,r2):=H
 have A8:=z2.mk A80
 clear A80
 replace H:=Option.bind_eq_some_iff.mp H
 obtain ⟨t108,A90,H⟩:=H
 replace H : (if t108 = 0 then ((z1k.f k a0).bind fun t109=>(zv.l0 k a0 l1 l2 t109 (l1.length : Int) 0)) else (some (([] : List (S30)),t108))) = some (r1,r2):=H
 have A9:=z2.mk A90
 clear A90
 by_cases c10 : t108 = 0
 rotate_left
 · rw [if_neg c10] at H
   have c10b0 : (t108 == 0) = false:=beq_eq_false_iff_ne.mpr c10
   have c10b1 : (t108 != 0) = true:=bne_iff_ne.mpr c10
   simp only [Option.some.injEq,Prod.mk.injEq] at H
   obtain ⟨rfl,rfl⟩:=H
   go_enter Try.func49,Try.ntmps49
   go_wp2_with (first|((with_reducible refine zj (f:=92) rfl ?_);refine goesL_ (some 16) rfl rfl Try.func92 (by kernel_rfl) rfl #[.int .i64 a0] rfl (by (try simp only [List.map_toArray,List.map_cons,List.map_nil]);first|done|rfl|(simp only [List.length_drop,List.length_take];rfl)) ?_;(with_reducible refine (zH.calls k a0 t101 _ A4.out).mono ?_);rintro e w' ⟨rfl,⟨nd,rfl⟩⟩;refine ⟨_,rfl,?_⟩)|((with_reducible refine zK (N:=32) rfl ?_);(try (refine z24 (by rfl) ?_;dsimp only));refine Kd.N_lit (Kd.slice 30 k30) _ 24 ?hg (N':=32) ?hd (xs:=([l1,l2] : List (List (S30)))) (inner:=[.slice A1 l1.length c1,.slice A2 l2.length c2]) (ok:=(fun k_=>((P1_ k_ ∨ P2_ k_) ∨ w.heap.size ≤ k_))) (okp:=(fun k_=>((P1_ k_ ∨ P2_ k_) ∨ w.heap.size ≤ k_))) ?hr ?hp (fun _ hk=>hk) ((show ∀ k_,w.heap.size ≤ k_ → (fun k_=>((P1_ k_ ∨ P2_ k_) ∨ w.heap.size ≤ k_)) k_ from fun k_ hk=>(.inr (Nat.le_trans (zb (by repeat (first|(with_reducible first|exact HB.out|apply z4|apply z1|apply z3)|exact HB.out))) hk))) _ (Nat.le_refl _)) (Below.refl _ _) (Nat.le_refl _) (by simp) ?_;(case hd=>rfl);(case hg=>rfl);(case hr=>first|(go_simp;done)|(go_simp;rfl));(case hp=>exact (Reps.one (show Kd.FK (Kd.slice 30 k30) _ _ l1 [.slice A1 l1.length c1] from (Kd.z26 (Kd.z1V (Kd.z1t (ok':=(fun k_=>((P1_ k_ ∨ P2_ k_) ∨ w.heap.size ≤ k_))) (HO1.out) (fun k_ hk=>hk))).2.1 (Kd.V_F (Kd.z1t (ok':=(fun k_=>((P1_ k_ ∨ P2_ k_) ∨ w.heap.size ≤ k_))) (by (with_reducible repeat (first|apply Kd.z19|apply Kd.z1a|apply Kd.z1e));exact HO1.out) (fun k_ hk=>hk))))) (Reps.one (show Kd.FK (Kd.slice 30 k30) _ _ l2 [.slice A2 l2.length c2] from (Kd.z26 (Kd.z1V (Kd.z1t (ok':=(fun k_=>((P1_ k_ ∨ P2_ k_) ∨ w.heap.size ≤ k_))) (HO2.out) (fun k_ hk=>hk))).2.1 (Kd.V_F (Kd.z1t (ok':=(fun k_=>((P1_ k_ ∨ P2_ k_) ∨ w.heap.size ≤ k_))) (by (with_reducible repeat (first|apply Kd.z19|apply Kd.z1a|apply Kd.z1e));exact HO2.out) (fun k_ hk=>hk))))) (Reps.none _ _))));intro v103 w47 ho48 hb hg_ hnew_;clear hg_ hnew_;(first|rw [← Ny102.out] at ho48|(simp only [Int.reduceToNat] at ho48;rw [← Ny102.out] at ho48));have n0_:=z2.mk (Kd.z1O (by (with_reducible repeat (first|apply Kd.z19|apply Kd.z1a|apply Kd.z1e));exact HO1.out) (Kd.z3L ho48) hb);have n1_:=z2.mk (Kd.z1O (by (with_reducible repeat (first|apply Kd.z19|apply Kd.z1a|apply Kd.z1e));exact HO2.out) (Kd.z3L ho48) hb);have n2_:=z2.mk (Kd.z57 ho48 (zb (by repeat (first|(with_reducible first|exact HB.out|apply z4|apply z1|apply z3)|exact HB.out))));have n3_:=z2.mk (za (by repeat (first|(with_reducible first|exact HB.out|apply z4|apply z1|apply z3)|exact HB.out)) hb);clear HO1;clear HO2;clear HB;have HO1:=n0_;have HO2:=n1_;have HO104:=n2_;have HB:=n3_;clear n0_ n1_ n2_ n3_;clear hb ho48;obtain ⟨Ao49,co49,eo49⟩:=Kd.z58 HO104.out;subst eo49)|((with_reducible refine zj (f:=100) rfl ?_);refine goesL_ (some 33) rfl rfl Try.func100 (by kernel_rfl) rfl #[.slice Ao49 y102.length co49] rfl (by (try simp only [List.map_toArray,List.map_cons,List.map_nil]);first|done|rfl|(simp only [List.length_drop,List.length_take];rfl)) ?_;(with_reducible refine (zn.calls k _ _ y102 t105 _ ?side1 ?side2 A8.out).mono ?_);(case side1=>repeat (first|exact (Kd.z2s HO104.out).2.2|(with_reducible refine Kd.z1o ?_ _)|(with_reducible refine Kd.z1p ?_ _)|(with_reducible refine Kd.z1C ?_)));(case side2=>exact (Kd.z2s HO104.out).2.1);rintro e w50 ⟨v106,rfl,ho0,hb⟩;refine ⟨_,rfl,?_⟩;have n0_:=z2.mk (Kd.z1O (by (with_reducible repeat (first|apply Kd.z19|apply Kd.z1a|apply Kd.z1e));exact HO1.out) (Kd.z1v ho0) hb);have n1_:=z2.mk (Kd.z1O (by (with_reducible repeat (first|apply Kd.z19|apply Kd.z1a|apply Kd.z1e));exact HO2.out) (Kd.z1v ho0) hb);have n2_:=z2.mk (Kd.z3V (by (with_reducible repeat (first|apply Kd.z2R|apply Kd.z2T|apply Kd.z3M));exact HO104.out) (Kd.z1v ho0) hb);have n3_:=z2.mk (Kd.z1l (Kd.z4U (M:=fun k_=>(w.heap.size ≤ k_)) ho0 (zb (by repeat (first|(with_reducible first|exact HB.out|apply z4|apply z1|apply z3)|exact HB.out))) (fun k_ h_=>h_)) (zb (by repeat (first|(with_reducible first|exact HB.out|apply z4|apply z1|apply z3)|exact HB.out))));have n4_:=z2.mk (za (by repeat (first|(with_reducible first|exact HB.out|apply z4|apply z1|apply z3)|exact HB.out)) hb);clear HO1;clear HO2;clear HO104;clear HB;have HO1:=n0_;have HO2:=n1_;have HO104:=n2_;have HO107:=n3_;have HB:=n4_;clear n0_ n1_ n2_ n3_ n4_;(try clear hb);(try clear hb2);(try clear hk);(try clear hi);(try clear ho0);obtain ⟨Ao51,co51,eo51⟩:=Kd.z1d HO107.out;subst eo51)|((with_reducible refine zj (f:=90) rfl ?_);refine goesL_ (some 34) rfl rfl Try.func90 (by kernel_rfl) rfl #[.int .i64 a0,.slice none 0 0,.slice Ao51 t105.length co51] rfl (by (try simp only [List.map_toArray,List.map_cons,List.map_nil]);first|done|rfl|(simp only [List.length_drop,List.length_take];rfl)) ?_;(refine (zA.calls k a0 _ _ ([] : List (List (S30))) _ _ t105 t108 _ ?side1 ?side2 ?side3 ?side4 A9.out).mono ?_);(case side1=>exact Kd.z6J _ _);(case side2=>exact Nat.le_refl _);(case side3=>repeat (first|exact (Kd.zI HO107.out).2.2|(with_reducible refine Kd.z1o ?_ _)|(with_reducible refine Kd.z1p ?_ _)|(with_reducible refine Kd.z1C ?_)));(case side4=>exact (Kd.zI HO107.out).2.1);rintro e w52 ⟨rfl,hb⟩;refine ⟨_,rfl,?_⟩;have n0_:=z2.mk (Kd.z1X (by (with_reducible repeat (first|apply Kd.z19|apply Kd.z1a|apply Kd.z1e));exact HO1.out) hb);have n1_:=z2.mk (Kd.z1X (by (with_reducible repeat (first|apply Kd.z19|apply Kd.z1a|apply Kd.z1e));exact HO2.out) hb);have n2_:=z2.mk (Kd.z2S (by (with_reducible repeat (first|apply Kd.z2R|apply Kd.z2T|apply Kd.z3M));exact HO104.out) hb);have n3_:=z2.mk (Kd.zO (by (with_reducible repeat (first|apply Kd.ze|apply Kd.zf|apply Kd.zo));exact HO107.out) hb);have n4_:=z2.mk (za (by repeat (first|(with_reducible first|exact HB.out|apply z4|apply z1|apply z3)|exact HB.out)) hb);clear HO1;clear HO2;clear HO104;clear HO107;clear HB;have HO1:=n0_;have HO2:=n1_;have HO104:=n2_;have HO107:=n3_;have HB:=n4_;clear n0_ n1_ n2_ n3_ n4_;(try clear hb);(try clear hb2);(try clear hk);(try clear hi)))
   go_ret2
   exact ⟨_,by first|rfl|(simp [zk,zl] <;> rfl)|(simp [*,zk,zl] <;> rfl),by first|exact Kd.z2C _ _ _ _ _|exact Kd.z3k _ _ _ _ _|exact Kd.z3o _ _ _ _ _|exact Kd.z3m _ _ _ _ _|exact Kd.z3n _ _ _ _ _,by repeat (first|(with_reducible first|exact HB.out|apply z4|apply z1|apply z3)|exact HB.out)⟩
 rw [if_pos c10] at H
 have c10b0 : (t108 == 0) = true:=beq_iff_eq.mpr c10
 have c10b1 : (t108 != 0) = false:=bne_eq_false_iff_eq.mpr c10
 clear c10
 replace H:=Option.bind_eq_some_iff.mp H
 obtain ⟨t109,A110,H⟩:=H
 replace H : (zv.l0 k a0 l1 l2 t109 (l1.length : Int) 0) = some (r1,r2):=H
 have A11:=z2.mk A110
 clear A110
 have H':=z2.mk H
 clear H
 go_enter Try.func49,Try.ntmps49
 go_wp2_with (first|((with_reducible refine zj (f:=92) rfl ?_);refine goesL_ (some 16) rfl rfl Try.func92 (by kernel_rfl) rfl #[.int .i64 a0] rfl (by (try simp only [List.map_toArray,List.map_cons,List.map_nil]);first|done|rfl|(simp only [List.length_drop,List.length_take];rfl)) ?_;(with_reducible refine (zH.calls k a0 t101 _ A4.out).mono ?_);rintro e w' ⟨rfl,⟨nd,rfl⟩⟩;refine ⟨_,rfl,?_⟩)|((with_reducible refine zK (N:=32) rfl ?_);(try (refine z24 (by rfl) ?_;dsimp only));refine Kd.N_lit (Kd.slice 30 k30) _ 24 ?hg (N':=32) ?hd (xs:=([l1,l2] : List (List (S30)))) (inner:=[.slice A1 l1.length c1,.slice A2 l2.length c2]) (ok:=(fun k_=>((P1_ k_ ∨ P2_ k_) ∨ w.heap.size ≤ k_))) (okp:=(fun k_=>((P1_ k_ ∨ P2_ k_) ∨ w.heap.size ≤ k_))) ?hr ?hp (fun _ hk=>hk) ((show ∀ k_,w.heap.size ≤ k_ → (fun k_=>((P1_ k_ ∨ P2_ k_) ∨ w.heap.size ≤ k_)) k_ from fun k_ hk=>(.inr (Nat.le_trans (zb (by repeat (first|(with_reducible first|exact HB.out|apply z4|apply z1|apply z3)|exact HB.out))) hk))) _ (Nat.le_refl _)) (Below.refl _ _) (Nat.le_refl _) (by simp) ?_;(case hd=>rfl);(case hg=>rfl);(case hr=>first|(go_simp;done)|(go_simp;rfl));(case hp=>exact (Reps.one (show Kd.FK (Kd.slice 30 k30) _ _ l1 [.slice A1 l1.length c1] from (Kd.z26 (Kd.z1V (Kd.z1t (ok':=(fun k_=>((P1_ k_ ∨ P2_ k_) ∨ w.heap.size ≤ k_))) (HO1.out) (fun k_ hk=>hk))).2.1 (Kd.V_F (Kd.z1t (ok':=(fun k_=>((P1_ k_ ∨ P2_ k_) ∨ w.heap.size ≤ k_))) (by (with_reducible repeat (first|apply Kd.z19|apply Kd.z1a|apply Kd.z1e));exact HO1.out) (fun k_ hk=>hk))))) (Reps.one (show Kd.FK (Kd.slice 30 k30) _ _ l2 [.slice A2 l2.length c2] from (Kd.z26 (Kd.z1V (Kd.z1t (ok':=(fun k_=>((P1_ k_ ∨ P2_ k_) ∨ w.heap.size ≤ k_))) (HO2.out) (fun k_ hk=>hk))).2.1 (Kd.V_F (Kd.z1t (ok':=(fun k_=>((P1_ k_ ∨ P2_ k_) ∨ w.heap.size ≤ k_))) (by (with_reducible repeat (first|apply Kd.z19|apply Kd.z1a|apply Kd.z1e));exact HO2.out) (fun k_ hk=>hk))))) (Reps.none _ _))));intro v103 w12 ho13 hb hg_ hnew_;clear hg_ hnew_;(first|rw [← Ny102.out] at ho13|(simp only [Int.reduceToNat] at ho13;rw [← Ny102.out] at ho13));have n0_:=z2.mk (Kd.z1O (by (with_reducible repeat (first|apply Kd.z19|apply Kd.z1a|apply Kd.z1e));exact HO1.out) (Kd.z3L ho13) hb);have n1_:=z2.mk (Kd.z1O (by (with_reducible repeat (first|apply Kd.z19|apply Kd.z1a|apply Kd.z1e));exact HO2.out) (Kd.z3L ho13) hb);have n2_:=z2.mk (Kd.z57 ho13 (zb (by repeat (first|(with_reducible first|exact HB.out|apply z4|apply z1|apply z3)|exact HB.out))));have n3_:=z2.mk (za (by repeat (first|(with_reducible first|exact HB.out|apply z4|apply z1|apply z3)|exact HB.out)) hb);clear HO1;clear HO2;clear HB;have HO1:=n0_;have HO2:=n1_;have HO104:=n2_;have HB:=n3_;clear n0_ n1_ n2_ n3_;clear hb ho13;obtain ⟨Ao14,co14,eo14⟩:=Kd.z58 HO104.out;subst eo14)|((with_reducible refine zj (f:=100) rfl ?_);refine goesL_ (some 33) rfl rfl Try.func100 (by kernel_rfl) rfl #[.slice Ao14 y102.length co14] rfl (by (try simp only [List.map_toArray,List.map_cons,List.map_nil]);first|done|rfl|(simp only [List.length_drop,List.length_take];rfl)) ?_;(with_reducible refine (zn.calls k _ _ y102 t105 _ ?side1 ?side2 A8.out).mono ?_);(case side1=>repeat (first|exact (Kd.z2s HO104.out).2.2|(with_reducible refine Kd.z1o ?_ _)|(with_reducible refine Kd.z1p ?_ _)|(with_reducible refine Kd.z1C ?_)));(case side2=>exact (Kd.z2s HO104.out).2.1);rintro e w15 ⟨v106,rfl,ho0,hb⟩;refine ⟨_,rfl,?_⟩;have n0_:=z2.mk (Kd.z1O (by (with_reducible repeat (first|apply Kd.z19|apply Kd.z1a|apply Kd.z1e));exact HO1.out) (Kd.z1v ho0) hb);have n1_:=z2.mk (Kd.z1O (by (with_reducible repeat (first|apply Kd.z19|apply Kd.z1a|apply Kd.z1e));exact HO2.out) (Kd.z1v ho0) hb);have n2_:=z2.mk (Kd.z3V (by (with_reducible repeat (first|apply Kd.z2R|apply Kd.z2T|apply Kd.z3M));exact HO104.out) (Kd.z1v ho0) hb);have n3_:=z2.mk (Kd.z1l (Kd.z4U (M:=fun k_=>(w.heap.size ≤ k_)) ho0 (zb (by repeat (first|(with_reducible first|exact HB.out|apply z4|apply z1|apply z3)|exact HB.out))) (fun k_ h_=>h_)) (zb (by repeat (first|(with_reducible first|exact HB.out|apply z4|apply z1|apply z3)|exact HB.out))));have n4_:=z2.mk (za (by repeat (first|(with_reducible first|exact HB.out|apply z4|apply z1|apply z3)|exact HB.out)) hb);clear HO1;clear HO2;clear HO104;clear HB;have HO1:=n0_;have HO2:=n1_;have HO104:=n2_;have HO107:=n3_;have HB:=n4_;clear n0_ n1_ n2_ n3_ n4_;(try clear hb);(try clear hb2);(try clear hk);(try clear hi);(try clear ho0);obtain ⟨Ao16,co16,eo16⟩:=Kd.z1d HO107.out;subst eo16)|((with_reducible refine zj (f:=90) rfl ?_);refine goesL_ (some 34) rfl rfl Try.func90 (by kernel_rfl) rfl #[.int .i64 a0,.slice none 0 0,.slice Ao16 t105.length co16] rfl (by (try simp only [List.map_toArray,List.map_cons,List.map_nil]);first|done|rfl|(simp only [List.length_drop,List.length_take];rfl)) ?_;(refine (zA.calls k a0 _ _ ([] : List (List (S30))) _ _ t105 t108 _ ?side1 ?side2 ?side3 ?side4 A9.out).mono ?_);(case side1=>exact Kd.z6J _ _);(case side2=>exact Nat.le_refl _);(case side3=>repeat (first|exact (Kd.zI HO107.out).2.2|(with_reducible refine Kd.z1o ?_ _)|(with_reducible refine Kd.z1p ?_ _)|(with_reducible refine Kd.z1C ?_)));(case side4=>exact (Kd.zI HO107.out).2.1);rintro e w17 ⟨rfl,hb⟩;refine ⟨_,rfl,?_⟩;have n0_:=z2.mk (Kd.z1X (by (with_reducible repeat (first|apply Kd.z19|apply Kd.z1a|apply Kd.z1e));exact HO1.out) hb);have n1_:=z2.mk (Kd.z1X (by (with_reducible repeat (first|apply Kd.z19|apply Kd.z1a|apply Kd.z1e));exact HO2.out) hb);have n2_:=z2.mk (Kd.z2S (by (with_reducible repeat (first|apply Kd.z2R|apply Kd.z2T|apply Kd.z3M));exact HO104.out) hb);have n3_:=z2.mk (Kd.zO (by (with_reducible repeat (first|apply Kd.ze|apply Kd.zf|apply Kd.zo));exact HO107.out) hb);have n4_:=z2.mk (za (by repeat (first|(with_reducible first|exact HB.out|apply z4|apply z1|apply z3)|exact HB.out)) hb);clear HO1;clear HO2;clear HO104;clear HO107;clear HB;have HO1:=n0_;have HO2:=n1_;have HO104:=n2_;have HO107:=n3_;have HB:=n4_;clear n0_ n1_ n2_ n3_ n4_;(try clear hb);(try clear hb2);(try clear hk);(try clear hi))|((with_reducible refine zj (f:=47) rfl ?_);refine goesL_ (some 39) rfl rfl Try.func47 (by kernel_rfl) rfl #[.int .i64 a0] rfl (by (try simp only [List.map_toArray,List.map_cons,List.map_nil]);first|done|rfl|(simp only [List.length_drop,List.length_take];rfl)) ?_;(with_reducible refine (z1k.calls k a0 t109 _ A11.out).mono ?_);rintro e w18 ⟨v110,rfl,ho0,hb⟩;refine ⟨_,rfl,?_⟩;have n0_:=z2.mk (Kd.z1O (by (with_reducible repeat (first|apply Kd.z19|apply Kd.z1a|apply Kd.z1e));exact HO1.out) (Kd.z1v ho0) hb);have n1_:=z2.mk (Kd.z1O (by (with_reducible repeat (first|apply Kd.z19|apply Kd.z1a|apply Kd.z1e));exact HO2.out) (Kd.z1v ho0) hb);have n2_:=z2.mk (Kd.z3V (by (with_reducible repeat (first|apply Kd.z2R|apply Kd.z2T|apply Kd.z3M));exact HO104.out) (Kd.z1v ho0) hb);have n3_:=z2.mk (Kd.z1r (by (with_reducible repeat (first|apply Kd.ze|apply Kd.zf|apply Kd.zo));exact HO107.out) (Kd.z1v ho0) hb);have n4_:=z2.mk (Kd.z1l (Kd.z1Q (Kd.z4U (M:=fun k_=>(w.heap.size ≤ k_)) ho0 (zb (by repeat (first|(with_reducible first|exact HB.out|apply z4|apply z1|apply z3)|exact HB.out))) (fun k_ h_=>h_)) (Kd.R_lt (by (with_reducible repeat (first|apply Kd.ze|apply Kd.zf|apply Kd.zo));exact HO107.out))) (zb (by repeat (first|(with_reducible first|exact HB.out|apply z4|apply z1|apply z3)|exact HB.out))));have n5_:=z2.mk (za (by repeat (first|(with_reducible first|exact HB.out|apply z4|apply z1|apply z3)|exact HB.out)) hb);clear HO1;clear HO2;clear HO104;clear HO107;clear HB;have HO1:=n0_;have HO2:=n1_;have HO104:=n2_;have HO107:=n3_;have HO111:=n4_;have HB:=n5_;clear n0_ n1_ n2_ n3_ n4_ n5_;(try clear hb);(try clear hb2);(try clear hk);(try clear hi);(try clear ho0)))
 go_loopg [9,42] k (fun kq v9 v42 w'=>∃ (x1_1 : List (S30)) (x2_1 : List (S30)) (x9_1 : List (S30)) (x42_1 : Int),v42 = .int .i64 x42_1 ∧ z2 (zv.l0 kq a0 x1_1 x2_1 x9_1 (l1.length : Int) x42_1 = some (r1,r2)) ∧ z2 (kq ≤ k) ∧ z2 (Kd.V k30 30 w' w.heap.size (fun k_=>((P1_ k_ ∨ P2_ k_) ∨ w.heap.size ≤ k_) ∧ some k_ ≠ (v9 : Value).ownBlock) (.slice A1 l1.length c1) x1_1) ∧ z2 (Kd.V k30 30 w' w.heap.size (fun k_=>((P1_ k_ ∨ P2_ k_) ∨ w.heap.size ≤ k_) ∧ some k_ ≠ (v9 : Value).ownBlock) (.slice A2 l2.length c2) x2_1) ∧ z2 (Kd.R k30 30 w' w.heap.size (fun k_=>(w.heap.size ≤ k_)) v9 x9_1) ∧ z2 (Below w.heap.size w w'))
 case atStart=>exact ⟨(l1),(l2),(t109),(0),(by first|rfl|(simp;done)|(simp [*];done)),H',⟨Nat.le_refl _⟩,⟨by (with_reducible repeat (first|apply Kd.z19|apply Kd.z1a|apply Kd.z1e));exact Kd.z1t HO1.out (fun _ hk=>⟨hk.1.1.1,hk.2⟩)⟩,⟨by (with_reducible repeat (first|apply Kd.z19|apply Kd.z1a|apply Kd.z1e));exact Kd.z1t HO2.out (fun _ hk=>⟨hk.1.1.1,hk.2⟩)⟩,⟨by (with_reducible repeat (first|apply Kd.ze|apply Kd.zf|apply Kd.zo));exact Kd.zY HO111.out (fun _ hk=>hk.1.1)⟩,⟨by repeat (first|(with_reducible first|exact HB.out|apply z4|apply z1|apply z3)|exact HB.out)⟩⟩
 case round =>
  clear H'
  (try clear c1);(try clear c2);(try clear p2);(try clear c4);(try clear c5);(try clear c5b0);(try clear c5b1);(try clear c6);(try clear c6b0);(try clear c6b1);(try clear c6b2);(try clear c7);(try clear c7b0);(try clear c7b1);(try clear c9);(try clear c10);(try clear c10b0);(try clear c10b1)
  obtain ⟨x1_1,x2_1,x9_1,x42_1,rfl,HA,HK1,HO_1,HO_2,HO_9,HB⟩:=hrel
  have hl1_1:=(Kd.z1V HO_1.out).1
  rw [hl1_1] at HO_1
  (try simp only [hl1_1])
  (try simp only [hl1_1] at HO_2)
  (try simp only [hl1_1] at HO_9)
  have hl2_1:=(Kd.z1V HO_2.out).1
  rw [hl2_1] at HO_2
  (try simp only [hl2_1])
  (try simp only [hl2_1] at HO_1)
  (try simp only [hl2_1] at HO_9)
  cases gk with
  | zero=>exact absurd HA.out (by simp [zv.l0])
  | succ k1 =>
   have H:=HA.out
   clear HA
   simp only [zv.l0] at H
   by_cases c19 : x42_1 < (l1.length : Int)
   rotate_left
   · rw [if_neg c19] at H
     have c19b0 : decide (x42_1 < (l1.length : Int)) = false:=decide_eq_false c19
     try have c19b9_1_1 : decide (x42_1 < (x1_1.length : Int)) = false:=by rw [← hl1_1];exact c19b0
     clear c19
     simp only [Option.some.injEq,Prod.mk.injEq] at H
     obtain ⟨rfl,rfl⟩:=H
     go_wp2
     go_ret2
     exact ⟨_,by first|rfl|(simp [zk,zl] <;> rfl)|(simp [*,zk,zl] <;> rfl),by (with_reducible repeat (first|apply Kd.ze|apply Kd.zf|apply Kd.zo));exact HO_9.out,by repeat (first|(with_reducible first|exact HB.out|apply z4|apply z1|apply z3)|exact HB.out)⟩
   rw [if_pos c19] at H
   have c19b0 : decide (x42_1 < (l1.length : Int)) = true:=decide_eq_true c19
   try have c19b9_1_1 : decide (x42_1 < (x1_1.length : Int)) = true:=by rw [← hl1_1];exact c19b0
   clear c19
   replace H:=Option.bind_eq_some_iff.mp H
   obtain ⟨t112,A200,H⟩:=H
   replace H : (if 0 ≤ x42_1 then (if x42_1 < (x1_1.length : Int) then ((z1D.f).bind fun bt116=>((zm.f k1 a0 t112 x9_1 ((zi x1_1 x42_1).f0) ((zi x1_1 x42_1).f1) bt116.1 bt116.2).bind fun t118=>(zv.l1 k1 a0 x1_1 x2_1 x42_1 t118 (l1.length : Int) x42_1 x9_1 (x9_1.length : Int) 0))) else (none)) else (none)) = some (r1,r2):=H
   have A20:=z2.mk A200
   clear A200
   by_cases c21 : 0 ≤ x42_1
   rotate_left
   · rw [if_neg c21] at H
     exact absurd H (by simp)
   rw [if_pos c21] at H
   have c21b0 : decide (0 ≤ x42_1) = true:=decide_eq_true c21
   clear c21
   by_cases c22 : x42_1 < (x1_1.length : Int)
   rotate_left
   · rw [if_neg c22] at H
     exact absurd H (by simp)
   rw [if_pos c22] at H
   have c22b0 : decide (x42_1 < (x1_1.length : Int)) = true:=decide_eq_true c22
   clear c22
   replace H:=Option.bind_eq_some_iff.mp H
   obtain ⟨⟨t116,t117⟩,A230,H⟩:=H
   replace H : ((zm.f k1 a0 t112 x9_1 ((zi x1_1 x42_1).f0) ((zi x1_1 x42_1).f1) t116 t117).bind fun t118=>(zv.l1 k1 a0 x1_1 x2_1 x42_1 t118 (l1.length : Int) x42_1 x9_1 (x9_1.length : Int) 0)) = some (r1,r2):=H
   have A23:=z2.mk A230
   clear A230
   replace H:=Option.bind_eq_some_iff.mp H
   obtain ⟨t118,A240,H⟩:=H
   replace H : (zv.l1 k1 a0 x1_1 x2_1 x42_1 t118 (l1.length : Int) x42_1 x9_1 (x9_1.length : Int) 0) = some (r1,r2):=H
   have A24:=z2.mk A240
   clear A240
   have H':=z2.mk H
   clear H
   obtain ⟨Ao25,co25,eo25⟩:=Kd.z1d HO_9.out
   subst eo25
   try go_wp2_with (first|((with_reducible refine zj (f:=91) rfl ?_);refine goesL_ (some 46) rfl rfl Try.func91 (by kernel_rfl) rfl #[.slice Ao25 x9_1.length co25] rfl (by (try simp only [List.map_toArray,List.map_cons,List.map_nil]);first|done|rfl|(simp only [List.length_drop,List.length_take];rfl)) ?_;(with_reducible refine (z1z.calls _ _ x9_1 t112 _ ?side1 ?side2 A20.out).mono ?_);(case side1=>repeat (first|exact (Kd.zI HO_9.out).2.2|(with_reducible refine Kd.z1o ?_ _)|(with_reducible refine Kd.z1p ?_ _)|(with_reducible refine Kd.z1C ?_)));(case side2=>exact (Kd.zI HO_9.out).2.1);rintro e w26 ⟨v113,rfl,ho0,hb⟩;refine ⟨_,rfl,?_⟩;have n0_:=z2.mk (Kd.z1O (by (with_reducible repeat (first|apply Kd.z19|apply Kd.z1a|apply Kd.z1e));exact HO_1.out) (Kd.z1v ho0) hb);have n1_:=z2.mk (Kd.z1O (by (with_reducible repeat (first|apply Kd.z19|apply Kd.z1a|apply Kd.z1e));exact HO_2.out) (Kd.z1v ho0) hb);have n2_:=z2.mk (Kd.z1r (by (with_reducible repeat (first|apply Kd.ze|apply Kd.zf|apply Kd.zo));exact HO_9.out) (Kd.z1v ho0) hb);have n3_:=z2.mk (Kd.z1l (Kd.z1Q (Kd.z4U (M:=fun k_=>(w.heap.size ≤ k_)) ho0 (zb (by repeat (first|(with_reducible first|exact HB.out|apply z4|apply z1|apply z3)|exact HB.out))) (fun k_ h_=>h_)) (Kd.R_lt (by (with_reducible repeat (first|apply Kd.ze|apply Kd.zf|apply Kd.zo));exact HO_9.out))) (zb (by repeat (first|(with_reducible first|exact HB.out|apply z4|apply z1|apply z3)|exact HB.out))));have n4_:=z2.mk (za (by repeat (first|(with_reducible first|exact HB.out|apply z4|apply z1|apply z3)|exact HB.out)) hb);clear HO_1;clear HO_2;clear HO_9;clear HB;have HO_1:=n0_;have HO_2:=n1_;have HO_9:=n2_;have HO114:=n3_;have HB:=n4_;clear n0_ n1_ n2_ n3_ n4_;(try clear hb);(try clear hb2);(try clear hk);(try clear hi);(try clear ho0)))
   have n0_:=z2.mk (Kd.z1e HO_1.out)
   have n1_:=z2.mk (Kd.z1e HO_2.out)
   have n2_:=z2.mk (Kd.zo HO_9.out)
   have n3_:=z2.mk (Kd.zo HO114.out)
   have n4_:=z2.mk (z3 HB.out)
   clear HO_1
   clear HO_2
   clear HO_9
   clear HO114
   clear HB
   have HO_1:=n0_
   have HO_2:=n1_
   have HO_9:=n2_
   have HO114:=n3_
   have HB:=n4_
   clear n0_ n1_ n2_ n3_ n4_
   have p115 : 0 ≤ (x42_1 : Int):=of_decide_eq_true (by first|(with_reducible assumption)|assumption)
   have q115 : x42_1 < (x1_1.length : Int):=of_decide_eq_true (by first|(with_reducible assumption)|assumption)
   obtain ⟨ad115,e115,hx115_0,hx115_1⟩:=z29 (Kd.z1V HO_1.out).2.2 x42_1 p115 q115
   cases e115
   replace p115:=eq_true p115
   replace q115:=eq_true q115
   refine start_ (n:=9) (S:=fun w'=>w'.cell? (ad115.add ((x42_1).toNat * 2)) = some (.int .u64 ((zi x1_1 x42_1).f0)) ∧ w'.cell? ⟨(ad115.add ((x42_1).toNat * 2)).block,(ad115.add ((x42_1).toNat * 2)).off + 1,none⟩ = some (.int .u64 ((zi x1_1 x42_1).f1))) (ds:=[]) #[false,false,false,false,false,false,false,false,false] (by kernel_rfl) rfl rfl ⟨hx115_0,hx115_1⟩ (fun hHeld=>?_);refine z2d zv.tab13 zv.bits13 (fun HT_ HW_=>?_)
   generalize w26.drew = w27 at HO_1 HO_2 HO_9 HO114 HB hx115_0 hx115_1 hHeld ⊢
   refine pure_ (i:=0) (N:=some 47) (v:=?_) (a':=?_) #[true,false,false,false,false,false,false,false,false] rfl rfl (z1i HT_.out (by kernel_rfl)) (fun _ _ _ h=>h) (Or.inl ⟨by rfl,?_⟩) ?_ ?_
   rotate_left
   · intro w'
     go_simp
     with_reducible rfl
   rotate_left
   · simp only [Act.put,List.setIfInBounds_toArray,List.set_cons_zero,List.set_cons_succ,zZ,z14]
     rfl
   refine pure_ (i:=1) (N:=some 48) (v:=?_) (a':=?_) #[true,true,false,false,false,false,false,false,false] rfl rfl (z1i HT_.out (by kernel_rfl)) (fun _ _ _ h=>h) (Or.inl ⟨by rfl,?_⟩) ?_ ?_
   rotate_left
   · intro w'
     go_simp
     with_reducible rfl
   rotate_left
   · simp only [Act.put,List.setIfInBounds_toArray,List.set_cons_zero,List.set_cons_succ,zZ,z14]
     rfl
   refine pure_ (i:=2) (N:=some 49) (v:=?_) (a':=?_) #[true,true,true,false,false,false,false,false,false] rfl rfl (z1i HT_.out (by kernel_rfl)) (fun _ _ _ h=>h) (Or.inl ⟨by rfl,?_⟩) ?_ ?_
   rotate_left
   · intro w'
     go_simp
     with_reducible rfl
   rotate_left
   · simp only [Act.put,List.setIfInBounds_toArray,List.set_cons_zero,List.set_cons_succ,zZ,z14]
     rfl
   refine pure_ (i:=3) (N:=some 50) (v:=?_) (a':=?_) #[true,true,true,true,false,false,false,false,false] rfl rfl (z1i HT_.out (by kernel_rfl)) (fun _ _ _ h=>h) (Or.inl ⟨by rfl,?_⟩) ?_ ?_
   rotate_left
   · intro w'
     go_simp
     with_reducible rfl
   rotate_left
   · simp only [Act.put,List.setIfInBounds_toArray,List.set_cons_zero,List.set_cons_succ,zZ,z14]
     rfl
   refine pure_ (i:=4) (N:=some 51) (v:=?_) (a':=?_) #[true,true,true,true,true,false,false,false,false] rfl rfl (z1i HT_.out (by kernel_rfl)) (fun _ _ _ h=>h) (Or.inl ⟨by rfl,?_⟩) ?_ ?_
   rotate_left
   · intro w'
     go_simp
     with_reducible rfl
   rotate_left
   · simp only [Act.put,List.setIfInBounds_toArray,List.set_cons_zero,List.set_cons_succ,zZ,z14]
     rfl
   refine pure_ (i:=5) (N:=some 52) (v:=?_) (a':=?_) #[true,true,true,true,true,true,false,false,false] rfl rfl (z1i HT_.out (by kernel_rfl)) (fun _ _ _ h=>h) (Or.inl ⟨by rfl,?_⟩) ?_ ?_
   rotate_left
   · intro w'
     go_simp
     with_reducible rfl
   rotate_left
   · simp only [Act.put,List.setIfInBounds_toArray,List.set_cons_zero,List.set_cons_succ,zZ,z14]
     rfl
   refine take_ (i:=6) (N:=some 53) (v:=?_) (a':=?_) #[true,true,true,true,true,true,true,false,false] rfl rfl (z1F HT_.out HW_.out (by kernel_rfl)) (fun _ _ _ h=>h) (Or.inl ⟨by rfl,?_⟩) hHeld ?_ ?_
   rotate_left
   · rintro w' ⟨s0,s1⟩
     go_simp
     with_reducible rfl
   rotate_left
   · simp only [Act.put,List.setIfInBounds_toArray,List.set_cons_zero,List.set_cons_succ,zZ,z14]
     rfl
   refine one_ (i:=7) (N:=some 54) #[true,true,true,true,true,true,true,true,false] rfl rfl (z21 HT_.out (by kernel_rfl)) (by decide) (fun K hK=>?_)
   refine goes_ Try.func99 (by kernel_rfl) rfl #[] (by rfl) rfl rfl (by (try simp only [List.map_toArray,List.map_cons,List.map_nil]);first|done|rfl|(simp only [List.length_drop,List.length_take];rfl)) ?_
   with_reducible refine (z1D.calls  t116 t117 _ A23.out).mono ?_
   rintro e w28 ⟨rfl,hb⟩
   have HS0_:=(hb.cell (World.block_lt_of_cell? _ _ (hHeld.1))).trans (hHeld.1)
   have HS1_:=(hb.cell (World.block_lt_of_cell? _ _ (hHeld.2))).trans (hHeld.2)
   refine ⟨_,rfl,?_⟩
   have n0_:=z2.mk (Kd.z1X (by (with_reducible repeat (first|apply Kd.z19|apply Kd.z1a|apply Kd.z1e));exact HO_1.out) hb)
   have n1_:=z2.mk (Kd.z1X (by (with_reducible repeat (first|apply Kd.z19|apply Kd.z1a|apply Kd.z1e));exact HO_2.out) hb)
   have n2_:=z2.mk (Kd.zO (by (with_reducible repeat (first|apply Kd.ze|apply Kd.zf|apply Kd.zo));exact HO_9.out) hb)
   have n3_:=z2.mk (Kd.zO (by (with_reducible repeat (first|apply Kd.ze|apply Kd.zf|apply Kd.zo));exact HO114.out) hb)
   have n4_:=z2.mk (za (by repeat (first|(with_reducible first|exact HB.out|apply z4|apply z1|apply z3)|exact HB.out)) hb)
   clear HO_1
   clear HO_2
   clear HO_9
   clear HO114
   clear HB
   have HO_1:=n0_
   have HO_2:=n1_
   have HO_9:=n2_
   have HO114:=n3_
   have HB:=n4_
   clear n0_ n1_ n2_ n3_ n4_
   (try clear hb)
   (try clear hb2)
   (try clear hk)
   (try clear hi)
   obtain ⟨Ao29,co29,eo29⟩:=Kd.z1d HO114.out
   (first|subst eo29|(injection eo29 with f1_ f2_ f3_;have f4_:=f1_.symm;have f5_:=f3_.symm;clear f1_ f2_ f3_;subst f4_;subst f5_))
   refine hK.out _ _ ⟨HS0_,HS1_⟩ (fun hHeld=>?_)
   clear hK K
   refine norm_ (a':=?_) ?_ ?_
   rotate_left
   · show Act.put _ (some 54) _ = _
     simp only [Act.put,List.setIfInBounds_toArray,List.set_cons_zero,List.set_cons_succ,zZ,z14]
     rfl
   refine one_ (i:=8) (N:=some 55) #[true,true,true,true,true,true,true,true,true] rfl rfl (z21 HT_.out (by kernel_rfl)) (by decide) (fun K hK=>?_)
   refine goes_ Try.func93 (by kernel_rfl) rfl #[.int .i64 a0,.slice Ao29 t112.length co29,.slice Ao25 x9_1.length co25,.agg #[.int .u64 ((zi x1_1 x42_1).f0),.int .u64 ((zi x1_1 x42_1).f1)],.agg #[.int .u64 t116,.int .u64 t117]] (by rfl) rfl rfl (by (try simp only [List.map_toArray,List.map_cons,List.map_nil]);first|done|rfl|(simp only [List.length_drop,List.length_take];rfl)) ?_
   with_reducible refine (zm.calls k1 a0 (fun k_=>some k_ = (.slice Ao29 t112.length co29 : Value).ownBlock) (.slice Ao29 t112.length co29) t112 _ _ x9_1 ((zi x1_1 x42_1).f0) ((zi x1_1 x42_1).f1) t116 t117 t118 w _ ?side1 ?side2 ?side3 ?side4 A24.out).mono ?_
   (case side1=>repeat (first|(with_reducible first|exact HB.out|apply z4|apply z1|apply z3)|exact HB.out))
   (case side2=>exact Kd.z2i rfl HO114.out)
   (case side3=>exact Kd.z4P (HO_9.out) (fun k_ hk_ hs_=>(hk_.2) hs_))
   (case side4=>exact (Kd.zI HO_9.out).2.1)
   rintro e w30 ⟨rfl,hy0,hb,hkp⟩
   obtain ⟨adH_,eH_,HS0_,HS1_⟩:=z29 (Kd.z1V (Kd.z4b (HO_1.out) hkp (fun k_ hk_ hs_=>(hk_.2) hs_))).2.2 x42_1 (by first|exact of_eq_true p115|omega) (by first|exact of_eq_true q115|omega);cases eH_
   refine ⟨_,rfl,?_⟩
   have n0_:=z2.mk (Kd.z1t (ok':=fun k_=>((P1_ k_ ∨ P2_ k_) ∨ w.heap.size ≤ k_) ∧ some k_ ≠ (.slice Ao25 x9_1.length co25 : Value).ownBlock ∧ some k_ ≠ (.slice Ao29 t112.length co29 : Value).ownBlock) (Kd.z4b (HO_1.out) hkp (fun k_ hk_ hs_=>(hk_.2) hs_)) (fun k_ hk_=>⟨hk_.1.1.1,hk_.1.1.2,hk_.1.2⟩))
   have n1_:=z2.mk (Kd.z1t (ok':=fun k_=>((P1_ k_ ∨ P2_ k_) ∨ w.heap.size ≤ k_) ∧ some k_ ≠ (.slice Ao25 x9_1.length co25 : Value).ownBlock ∧ some k_ ≠ (.slice Ao29 t112.length co29 : Value).ownBlock) (Kd.z4b (HO_2.out) hkp (fun k_ hk_ hs_=>(hk_.2) hs_)) (fun k_ hk_=>⟨hk_.1.1.1,hk_.1.1.2,hk_.1.2⟩))
   have n2_:=z2.mk (Kd.zY (ok':=fun k_=>(w.heap.size ≤ k_) ∧ some k_ ≠ (.slice Ao29 t112.length co29 : Value).ownBlock) (Kd.z5b (HO_9.out) hkp (fun k_ hk_ hs_=>(hk_.2) hs_)) (fun k_ hk_=>⟨hk_.1.1,hk_.1.2⟩))
   have n3_:=z2.mk (Kd.z7d rfl hy0 (fun k_ e_=>HO114.out.1 k_ e_))
   have n4_:=z2.mk (hb)
   clear HO_1
   clear HO_2
   clear HO_9
   clear HO114
   clear HB
   have HO_1:=n0_
   have HO_2:=n1_
   have HO_9:=n2_
   have HO114:=n3_
   have HB:=n4_
   clear n0_ n1_ n2_ n3_ n4_
   (try clear hb)
   (try clear hkp)
   (try clear hy0)
   refine hK.out _ _ ⟨HS0_,HS1_⟩ (fun hHeld=>?_)
   clear hK K
   refine norm_ (a':=?_) ?_ ?_
   rotate_left
   · show Act.put _ (some 55) _ = _
     simp only [Act.put,List.setIfInBounds_toArray,List.set_cons_zero,List.set_cons_succ,zZ,z14]
     rfl
   refine done_ (z2A HT_.out (by kernel_rfl)) ?_
   try go_wp2
   go_loopg [58] k1 (fun kq v58 w'=>∃ (x11_2 : List (S30)) (x58_2 : Int),v58 = .int .i64 x58_2 ∧ z2 (zv.l1 kq a0 x1_1 x2_1 x42_1 x11_2 (l1.length : Int) x42_1 x9_1 (x9_1.length : Int) x58_2 = some (r1,r2)) ∧ z2 (kq ≤ k1) ∧ z2 (Kd.V k30 30 w' w.heap.size (fun k_=>((P1_ k_ ∨ P2_ k_) ∨ w.heap.size ≤ k_) ∧ some k_ ≠ ((.slice Ao29 t112.length co29) : Value).ownBlock ∧ some k_ ≠ ((.slice Ao25 x9_1.length co25) : Value).ownBlock) (.slice (some ad115) x1_1.length c1) x1_1) ∧ z2 (Kd.V k30 30 w' w.heap.size (fun k_=>((P1_ k_ ∨ P2_ k_) ∨ w.heap.size ≤ k_) ∧ some k_ ≠ ((.slice Ao29 t112.length co29) : Value).ownBlock ∧ some k_ ≠ ((.slice Ao25 x9_1.length co25) : Value).ownBlock) (.slice A2 x2_1.length c2) x2_1) ∧ z2 (Kd.R k30 30 w' w.heap.size (fun k_=>(w.heap.size ≤ k_) ∧ some k_ ≠ ((.slice Ao25 x9_1.length co25) : Value).ownBlock) (.slice Ao29 t112.length co29) x11_2) ∧ z2 (Kd.R k30 30 w' w.heap.size (fun k_=>(w.heap.size ≤ k_) ∧ some k_ ≠ ((.slice Ao29 t112.length co29) : Value).ownBlock) (.slice Ao25 x9_1.length co25) x9_1) ∧ z2 (Below w.heap.size w w'))
   case atStart=>exact ⟨(t118),(0),(by first|rfl|(simp;done)|(simp [*];done)),H',⟨Nat.le_refl _⟩,⟨by (try simp only [hl1_1]);(try simp only [hl2_1]);(with_reducible repeat (first|apply Kd.z19|apply Kd.z1a|apply Kd.z1e));exact Kd.z1t HO_1.out (fun _ hk=>⟨hk.1,⟨hk.2.2,hk.2.1⟩⟩)⟩,⟨by (try simp only [hl1_1]);(try simp only [hl2_1]);(with_reducible repeat (first|apply Kd.z19|apply Kd.z1a|apply Kd.z1e));exact Kd.z1t HO_2.out (fun _ hk=>⟨hk.1,⟨hk.2.2,hk.2.1⟩⟩)⟩,⟨by (try simp only [hl1_1]);(try simp only [hl2_1]);(with_reducible repeat (first|apply Kd.ze|apply Kd.zf|apply Kd.zo));exact Kd.zY HO114.out (fun _ hk=>⟨hk.1.1,hk.2⟩)⟩,⟨by (try simp only [hl1_1]);(try simp only [hl2_1]);(with_reducible repeat (first|apply Kd.ze|apply Kd.zf|apply Kd.zo));exact HO_9.out⟩,⟨by repeat (first|(with_reducible first|exact HB.out|apply z4|apply z1|apply z3)|exact HB.out)⟩⟩
   case round =>
    clear H'
    (try clear c1);(try clear p1);(try clear q1);(try clear hx1);(try clear c2);(try clear p2);(try clear c4);(try clear c5);(try clear c5b0);(try clear c5b1);(try clear c6);(try clear c6b0);(try clear c6b1);(try clear c6b2);(try clear c7);(try clear c7b0);(try clear c7b1);(try clear c9);(try clear c10);(try clear c10b0);(try clear c10b1);(try clear p11);(try clear q11);(try clear hx11);(try clear c19);(try clear c19b0);(try clear c21);(try clear c21b0);(try clear c22);(try clear c22b0);(try clear hx115_0);(try clear hx115_1);(try clear p115);(try clear p2);(try clear q115)
    obtain ⟨x11_2,x58_2,rfl,HA,HK2,HO_1,HO_2,HO_11,HO_56,HB⟩:=hrel
    have hl11_2:=(Kd.zI HO_11.out).1
    rw [hl11_2] at HO_11
    (try simp only [hl11_2])
    (try simp only [hl11_2] at HO_1)
    (try simp only [hl11_2] at HO_2)
    (try simp only [hl11_2] at HO_56)
    cases gk with
    | zero=>exact absurd HA.out (by simp [zv.l1])
    | succ k2 =>
     have H:=HA.out
     clear HA
     simp only [zv.l1] at H
     by_cases c31 : x58_2 < (x9_1.length : Int)
     rotate_left
     · rw [if_neg c31] at H
       have c31b0 : decide (x58_2 < (x9_1.length : Int)) = false:=decide_eq_false c31
       clear c31
       have H':=z2.mk H
       clear H
       go_wp2
       (try simp only [← hl1_1,← hl2_1,← hl11_2])
       go_roundg k2
       case measure=>have:=HK1.out;have:=HK2.out;omega
       case rel=>exact ⟨(x1_1),(x2_1),(x11_2),(wrap64 (x42_1 + 1)),(by first|rfl|(simp;done)|(simp [*];done)),H',⟨by have:=HK1.out;have:=HK2.out;omega⟩,⟨by (try simp only [hl1_1]);(try simp only [hl2_1]);(try simp only [hl11_2]);(with_reducible repeat (first|apply Kd.z19|apply Kd.z1a|apply Kd.z1e));exact Kd.z1t HO_1.out (fun _ hk=>⟨hk.1,hk.2.1⟩)⟩,⟨by (try simp only [hl1_1]);(try simp only [hl2_1]);(try simp only [hl11_2]);(with_reducible repeat (first|apply Kd.z19|apply Kd.z1a|apply Kd.z1e));exact Kd.z1t HO_2.out (fun _ hk=>⟨hk.1,hk.2.1⟩)⟩,⟨by (try simp only [hl1_1]);(try simp only [hl2_1]);(try simp only [hl11_2]);(with_reducible repeat (first|apply Kd.ze|apply Kd.zf|apply Kd.zo));exact Kd.zY HO_11.out (fun _ hk=>hk.1)⟩,⟨by repeat (first|(with_reducible first|exact HB.out|apply z4|apply z1|apply z3)|exact HB.out)⟩⟩
     rw [if_pos c31] at H
     have c31b0 : decide (x58_2 < (x9_1.length : Int)) = true:=decide_eq_true c31
     clear c31
     by_cases c32 : 0 ≤ x58_2
     rotate_left
     · rw [if_neg c32] at H
       exact absurd H (by simp)
     rw [if_pos c32] at H
     have c32b0 : decide (0 ≤ x58_2) = true:=decide_eq_true c32
     clear c32
     by_cases c33 : x58_2 < (x9_1.length : Int)
     rotate_left
     · rw [if_neg c33] at H
       exact absurd H (by simp)
     rw [if_pos c33] at H
     have c33b0 : decide (x58_2 < (x9_1.length : Int)) = true:=decide_eq_true c33
     clear c33
     by_cases c34 : x58_2 < (x11_2.length : Int)
     rotate_left
     · rw [if_neg c34] at H
       exact absurd H (by simp)
     rw [if_pos c34] at H
     have c34b0 : decide (x58_2 < (x11_2.length : Int)) = true:=decide_eq_true c34
     clear c34
     by_cases c35 : 0 ≤ x42_1
     rotate_left
     · rw [if_neg c35] at H
       exact absurd H (by simp)
     rw [if_pos c35] at H
     have c35b0 : decide (0 ≤ x42_1) = true:=decide_eq_true c35
     clear c35
     by_cases c36 : x42_1 < (x2_1.length : Int)
     rotate_left
     · rw [if_neg c36] at H
       exact absurd H (by simp)
     rw [if_pos c36] at H
     have c36b0 : decide (x42_1 < (x2_1.length : Int)) = true:=decide_eq_true c36
     clear c36
     replace H:=Option.bind_eq_some_iff.mp H
     obtain ⟨⟨t123,t124⟩,A370,H⟩:=H
     replace H : ((z1M.f ((zi x11_2 x58_2).f0) ((zi x11_2 x58_2).f1) t123 t124).bind fun bt125=>(zv.l1 k2 a0 x1_1 x2_1 x42_1 (x11_2.set (x58_2 : Int).toNat (⟨bt125.1,bt125.2⟩ : S30)) (l1.length : Int) x42_1 x9_1 (x9_1.length : Int) (wrap64 (x58_2 + 1)))) = some (r1,r2):=H
     have A37:=z2.mk A370
     clear A370
     replace H:=Option.bind_eq_some_iff.mp H
     obtain ⟨⟨t125,t126⟩,A380,H⟩:=H
     replace H : (zv.l1 k2 a0 x1_1 x2_1 x42_1 (x11_2.set (x58_2 : Int).toNat (⟨t125,t126⟩ : S30)) (l1.length : Int) x42_1 x9_1 (x9_1.length : Int) (wrap64 (x58_2 + 1))) = some (r1,r2):=H
     have A38:=z2.mk A380
     clear A380
     obtain ⟨y127,hy127⟩ : ∃ y_ : List (S30),y_ = (x11_2.set (x58_2 : Int).toNat (⟨t125,t126⟩ : S30)):=⟨_,rfl⟩
     replace H : (zv.l1 k2 a0 x1_1 x2_1 x42_1 y127 (l1.length : Int) x42_1 x9_1 (x9_1.length : Int) (wrap64 (x58_2 + 1))) = some (r1,r2):=by first|(rw [hy127];with_reducible exact H)|(have H2_:=(Option.bind_some _ _).symm.trans H;rw [hy127];with_reducible exact H2_)|(have H2_:=(Option.bind_some _ _).symm.trans H;with_reducible exact H2_)|with_reducible exact H|(rw [hy127];exact H)|exact H
     have Ny127:=z2.mk hy127
     clear hy127
     have H':=z2.mk H
     clear H
     have p119 : 0 ≤ (x58_2 : Int):=of_decide_eq_true (by first|(with_reducible assumption)|assumption)
     have q119 : x58_2 < (x9_1.length : Int):=of_decide_eq_true (by first|(with_reducible assumption)|assumption)
     obtain ⟨ad119,e119,hx119_0,hx119_1⟩:=z29 (Kd.zI HO_56.out).2.2 x58_2 p119 q119
     cases e119
     replace p119:=eq_true p119
     replace q119:=eq_true q119
     try go_wp2_with (first|((with_reducible refine zK (N:=13) rfl ?_);(try (refine z24 (by rfl) ?_;dsimp only));refine zJ ?hg (N:=13) ?hd (cs:=#[.int .u64 0,.int .u64 0]) (t:=30) ?hr ?_;(case hd=>rfl);(case hg=>rfl);(case hr=>first|(go_simp;done)|(go_simp;rfl));intro gb120 hg w40 hbox hb;have n0_:=z2.mk (Kd.z1X (Kd.z3X (by (with_reducible repeat (first|apply Kd.z19|apply Kd.z1a|apply Kd.z1e));exact HO_1.out) gb120 (Nat.le_of_eq hg.symm)) hb);have n1_:=z2.mk (Kd.z1X (Kd.z3X (by (with_reducible repeat (first|apply Kd.z19|apply Kd.z1a|apply Kd.z1e));exact HO_2.out) gb120 (Nat.le_of_eq hg.symm)) hb);have n2_:=z2.mk (Kd.zO (Kd.z1R (by (with_reducible repeat (first|apply Kd.ze|apply Kd.zf|apply Kd.zo));exact HO_11.out) gb120 (Nat.le_of_eq hg.symm)) hb);have n3_:=z2.mk (Kd.zO (Kd.z1R (by (with_reducible repeat (first|apply Kd.ze|apply Kd.zf|apply Kd.zo));exact HO_56.out) gb120 (Nat.le_of_eq hg.symm)) hb);have n4_:=z2.mk (za (by repeat (first|(with_reducible first|exact HB.out|apply z4|apply z1|apply z3)|exact HB.out)) hb);have n5_:=z2.mk (hbox);have n6_:=z2.mk ((by rw [hg];exact (zb (by repeat (first|(with_reducible first|exact HB.out|apply z4|apply z1|apply z3)|exact HB.out))) : w.heap.size ≤ gb120));have n7_:=z2.mk ((by rw [hg];exact (zb (by repeat (first|(with_reducible first|exact HB.out|apply z4|apply z1|apply z3)|exact HB.out))) : w.heap.size ≤ gb120));clear HO_1;clear HO_2;clear HO_11;clear HO_56;clear HB;have HO_1:=n0_;have HO_2:=n1_;have HO_11:=n2_;have HO_56:=n3_;have HB:=n4_;have BK120:=n5_;have GW120:=n6_;have GE120:=n7_;clear n0_ n1_ n2_ n3_ n4_ n5_ n6_ n7_;clear hb hbox hg;have hcz41_0 : w40.cell? ⟨gb120,0,none⟩ = some (.int .u64 0):=(zc BK120.out 0).trans rfl;have hcz41_1 : w40.cell? ⟨gb120,1,none⟩ = some (.int .u64 0):=(zc BK120.out 1).trans rfl;have hfz41_0:=zd BK120.out 0;have hfz41_1:=zd BK120.out 1))
     have n0_ : z2 (Kd.V k30 30 ((w40.setCell ⟨gb120,0,none⟩ (.int .u64 ((zi x9_1 x58_2).f0))).setCell ⟨gb120,1,none⟩ (.int .u64 ((zi x9_1 x58_2).f1))) w.heap.size (fun k_=>((P1_ k_ ∨ P2_ k_) ∨ w.heap.size ≤ k_) ∧ some k_ ≠ (.slice Ao29 x11_2.length co29 : Value).ownBlock ∧ some k_ ≠ (.slice (some ad119) x9_1.length co25 : Value).ownBlock ∧ k_ ≠ gb120) (.slice (some ad115) x1_1.length c1) x1_1):=⟨by (with_reducible repeat (first|apply Kd.z19|apply Kd.z1a|apply Kd.z1e));exact Kd.z1t (Kd.z3T (p:=⟨gb120,1,none⟩) (Kd.z3T (p:=⟨gb120,0,none⟩) (Kd.z1t HO_1.out (fun k_ hk=>(⟨hk,hk.2⟩ : _ ∧ k_ ≠ gb120))) (fun _ hk=>hk.2) (.int .u64 ((zi x9_1 x58_2).f0))) (fun _ hk=>hk.2) (.int .u64 ((zi x9_1 x58_2).f1))) (fun _ hk=>⟨hk.1.1.1,⟨hk.1.1.2.1,⟨hk.1.1.2.2,hk.1.2⟩⟩⟩)⟩
     have n1_ : z2 (Kd.V k30 30 ((w40.setCell ⟨gb120,0,none⟩ (.int .u64 ((zi x9_1 x58_2).f0))).setCell ⟨gb120,1,none⟩ (.int .u64 ((zi x9_1 x58_2).f1))) w.heap.size (fun k_=>((P1_ k_ ∨ P2_ k_) ∨ w.heap.size ≤ k_) ∧ some k_ ≠ (.slice Ao29 x11_2.length co29 : Value).ownBlock ∧ some k_ ≠ (.slice (some ad119) x9_1.length co25 : Value).ownBlock ∧ k_ ≠ gb120) (.slice A2 x2_1.length c2) x2_1):=⟨by (with_reducible repeat (first|apply Kd.z19|apply Kd.z1a|apply Kd.z1e));exact Kd.z1t (Kd.z3T (p:=⟨gb120,1,none⟩) (Kd.z3T (p:=⟨gb120,0,none⟩) (Kd.z1t HO_2.out (fun k_ hk=>(⟨hk,hk.2⟩ : _ ∧ k_ ≠ gb120))) (fun _ hk=>hk.2) (.int .u64 ((zi x9_1 x58_2).f0))) (fun _ hk=>hk.2) (.int .u64 ((zi x9_1 x58_2).f1))) (fun _ hk=>⟨hk.1.1.1,⟨hk.1.1.2.1,⟨hk.1.1.2.2,hk.1.2⟩⟩⟩)⟩
     have n2_ : z2 (Kd.R k30 30 ((w40.setCell ⟨gb120,0,none⟩ (.int .u64 ((zi x9_1 x58_2).f0))).setCell ⟨gb120,1,none⟩ (.int .u64 ((zi x9_1 x58_2).f1))) w.heap.size (fun k_=>(w.heap.size ≤ k_) ∧ some k_ ≠ (.slice (some ad119) x9_1.length co25 : Value).ownBlock ∧ k_ ≠ gb120) (.slice Ao29 x11_2.length co29) x11_2):=⟨by (with_reducible repeat (first|apply Kd.ze|apply Kd.zf|apply Kd.zo));exact Kd.zY (Kd.z22 (p:=⟨gb120,1,none⟩) (Kd.z22 (p:=⟨gb120,0,none⟩) (Kd.zY HO_11.out (fun k_ hk=>(⟨hk,hk.2⟩ : _ ∧ k_ ≠ gb120))) (fun _ hk=>hk.2) (.int .u64 ((zi x9_1 x58_2).f0))) (fun _ hk=>hk.2) (.int .u64 ((zi x9_1 x58_2).f1))) (fun _ hk=>⟨hk.1.1.1,⟨hk.1.1.2,hk.1.2⟩⟩)⟩
     have n3_ : z2 (Kd.R k30 30 ((w40.setCell ⟨gb120,0,none⟩ (.int .u64 ((zi x9_1 x58_2).f0))).setCell ⟨gb120,1,none⟩ (.int .u64 ((zi x9_1 x58_2).f1))) w.heap.size (fun k_=>(w.heap.size ≤ k_) ∧ some k_ ≠ (.slice Ao29 x11_2.length co29 : Value).ownBlock ∧ k_ ≠ gb120) (.slice (some ad119) x9_1.length co25) x9_1):=⟨by (with_reducible repeat (first|apply Kd.ze|apply Kd.zf|apply Kd.zo));exact Kd.zY (Kd.z22 (p:=⟨gb120,1,none⟩) (Kd.z22 (p:=⟨gb120,0,none⟩) (Kd.zY HO_56.out (fun k_ hk=>(⟨hk,hk.2⟩ : _ ∧ k_ ≠ gb120))) (fun _ hk=>hk.2) (.int .u64 ((zi x9_1 x58_2).f0))) (fun _ hk=>hk.2) (.int .u64 ((zi x9_1 x58_2).f1))) (fun _ hk=>⟨hk.1.1.1,⟨hk.1.1.2,hk.1.2⟩⟩)⟩
     have n4_ : z2 (((w40.setCell ⟨gb120,0,none⟩ (.int .u64 ((zi x9_1 x58_2).f0))).setCell ⟨gb120,1,none⟩ (.int .u64 ((zi x9_1 x58_2).f1))).heap[gb120]? = some (.cells #[.int .u64 ((zi x9_1 x58_2).f0),.int .u64 ((zi x9_1 x58_2).f1)] 30 (0,0))):=⟨by (with_reducible repeat (first|refine z6 ?_ _|refine z8 ?_|refine z5 ?_ _));refine z11 (cs:=#[.int .u64 ((zi x9_1 x58_2).f0),.int .u64 0]) ?_ 1 _ rfl;(with_reducible repeat (first|refine z6 ?_ _|refine z8 ?_|refine z5 ?_ _));refine z11 (cs:=#[.int .u64 0,.int .u64 0]) ?_ 0 _ rfl;(with_reducible repeat (first|refine z6 ?_ _|refine z8 ?_|refine z5 ?_ _));exact BK120.out⟩
     have n5_ : z2 (Below w.heap.size w ((w40.setCell ⟨gb120,0,none⟩ (.int .u64 ((zi x9_1 x58_2).f0))).setCell ⟨gb120,1,none⟩ (.int .u64 ((zi x9_1 x58_2).f1)))):=⟨by repeat (first|(with_reducible first|exact HB.out|apply z4|apply z1|apply z3|refine z9 ?_ GE120.out)|exact HB.out)⟩
     (try clear HO_1)
     (try clear HO_2)
     (try clear HO_11)
     (try clear HO_56)
     (try clear BK120)
     (try clear HB)
     generalize ((w40.setCell ⟨gb120,0,none⟩ (.int .u64 ((zi x9_1 x58_2).f0))).setCell ⟨gb120,1,none⟩ (.int .u64 ((zi x9_1 x58_2).f1))) = w42 at n0_ n1_ n2_ n3_ n4_ n5_ ⊢
     have HO_1:=n0_
     have HO_2:=n1_
     have HO_11:=n2_
     have HO_56:=n3_
     have BK120:=n4_
     have HB:=n5_
     clear n0_ n1_ n2_ n3_ n4_ n5_
     have n0_:=z2.mk (Kd.z1e HO_1.out)
     have n1_:=z2.mk (Kd.z1e HO_2.out)
     have n2_:=z2.mk (Kd.zo HO_11.out)
     have n3_:=z2.mk (Kd.zo HO_56.out)
     have n4_:=z2.mk (z8 BK120.out)
     have n5_:=z2.mk (z3 HB.out)
     clear HO_1
     clear HO_2
     clear HO_11
     clear HO_56
     clear BK120
     clear HB
     have HO_1:=n0_
     have HO_2:=n1_
     have HO_11:=n2_
     have HO_56:=n3_
     have BK120:=n4_
     have HB:=n5_
     clear n0_ n1_ n2_ n3_ n4_ n5_
     have p121 : 0 ≤ (x58_2 : Int):=of_decide_eq_true (by first|(with_reducible assumption)|assumption)
     have q121 : x58_2 < (x11_2.length : Int):=of_decide_eq_true (by first|(with_reducible assumption)|assumption)
     obtain ⟨ad121,e121,hx121_0,hx121_1⟩:=z29 (Kd.zI HO_11.out).2.2 x58_2 p121 q121
     cases e121
     replace p121:=eq_true p121
     replace q121:=eq_true q121
     have p122 : 0 ≤ (x42_1 : Int):=of_decide_eq_true (by first|(with_reducible assumption)|assumption)
     have q122 : x42_1 < (x2_1.length : Int):=of_decide_eq_true (by first|(with_reducible assumption)|assumption)
     obtain ⟨ad122,e122,hx122_0,hx122_1⟩:=z29 (Kd.z1V HO_2.out).2.2 x42_1 p122 q122
     cases e122
     replace p122:=eq_true p122
     replace q122:=eq_true q122
     refine start_ (n:=16) (S:=fun w'=>w'.cell? ⟨gb120,0,none⟩ = some (.int .u64 ((zi x9_1 x58_2).f0)) ∧ w'.cell? ⟨gb120,1,none⟩ = some (.int .u64 ((zi x9_1 x58_2).f1)) ∧ w'.cell? (ad121.add ((x58_2).toNat * 2)) = some (.int .u64 ((zi x11_2 x58_2).f0)) ∧ w'.cell? ⟨(ad121.add ((x58_2).toNat * 2)).block,(ad121.add ((x58_2).toNat * 2)).off + 1,none⟩ = some (.int .u64 ((zi x11_2 x58_2).f1)) ∧ w'.cell? (ad122.add ((x42_1).toNat * 2)) = some (.int .u64 ((zi x2_1 x42_1).f0)) ∧ w'.cell? ⟨(ad122.add ((x42_1).toNat * 2)).block,(ad122.add ((x42_1).toNat * 2)).off + 1,none⟩ = some (.int .u64 ((zi x2_1 x42_1).f1))) (ds:=[15]) #[false,false,false,false,false,false,false,false,false,false,false,false,false,false,false,false] (by kernel_rfl) rfl rfl ⟨(zc BK120.out 0).trans rfl,(zc BK120.out 1).trans rfl,hx121_0,hx121_1,hx122_0,hx122_1⟩ (fun hHeld=>?_);refine z2d zv.tab17 zv.bits17 (fun HT_ HW_=>?_)
     generalize w42.drew = w43 at HO_1 HO_2 HO_11 HO_56 BK120 HB hx121_0 hx121_1 hx122_0 hx122_1 hHeld ⊢
     refine pure_ (i:=0) (N:=some 63) (v:=?_) (a':=?_) #[true,false,false,false,false,false,false,false,false,false,false,false,false,false,false,false] rfl rfl (z1i HT_.out (by kernel_rfl)) (fun _ _ _ h=>h) (Or.inl ⟨by rfl,?_⟩) ?_ ?_
     rotate_left
     · intro w'
       go_simp
       with_reducible rfl
     rotate_left
     · simp only [Act.put,List.setIfInBounds_toArray,List.set_cons_zero,List.set_cons_succ,zZ,z14]
       rfl
     refine pure_ (i:=1) (N:=some 64) (v:=?_) (a':=?_) #[true,true,false,false,false,false,false,false,false,false,false,false,false,false,false,false] rfl rfl (z1i HT_.out (by kernel_rfl)) (fun _ _ _ h=>h) (Or.inl ⟨by rfl,?_⟩) ?_ ?_
     rotate_left
     · intro w'
       go_simp
       with_reducible rfl
     rotate_left
     · simp only [Act.put,List.setIfInBounds_toArray,List.set_cons_zero,List.set_cons_succ,zZ,z14]
       rfl
     refine pure_ (i:=2) (N:=some 65) (v:=?_) (a':=?_) #[true,true,true,false,false,false,false,false,false,false,false,false,false,false,false,false] rfl rfl (z1i HT_.out (by kernel_rfl)) (fun _ _ _ h=>h) (Or.inl ⟨by rfl,?_⟩) ?_ ?_
     rotate_left
     · intro w'
       go_simp
       with_reducible rfl
     rotate_left
     · simp only [Act.put,List.setIfInBounds_toArray,List.set_cons_zero,List.set_cons_succ,zZ,z14]
       rfl
     refine pure_ (i:=3) (N:=some 66) (v:=?_) (a':=?_) #[true,true,true,true,false,false,false,false,false,false,false,false,false,false,false,false] rfl rfl (z1i HT_.out (by kernel_rfl)) (fun _ _ _ h=>h) (Or.inl ⟨by rfl,?_⟩) ?_ ?_
     rotate_left
     · intro w'
       go_simp
       with_reducible rfl
     rotate_left
     · simp only [Act.put,List.setIfInBounds_toArray,List.set_cons_zero,List.set_cons_succ,zZ,z14]
       rfl
     refine pure_ (i:=4) (N:=some 67) (v:=?_) (a':=?_) #[true,true,true,true,true,false,false,false,false,false,false,false,false,false,false,false] rfl rfl (z1i HT_.out (by kernel_rfl)) (fun _ _ _ h=>h) (Or.inl ⟨by rfl,?_⟩) ?_ ?_
     rotate_left
     · intro w'
       go_simp
       with_reducible rfl
     rotate_left
     · simp only [Act.put,List.setIfInBounds_toArray,List.set_cons_zero,List.set_cons_succ,zZ,z14]
       rfl
     refine pure_ (i:=6) (N:=some 69) (v:=?_) (a':=?_) #[true,true,true,true,true,false,true,false,false,false,false,false,false,false,false,false] rfl rfl (z1i HT_.out (by kernel_rfl)) (fun _ _ _ h=>h) (Or.inl ⟨by rfl,?_⟩) ?_ ?_
     rotate_left
     · intro w'
       go_simp
       with_reducible rfl
     rotate_left
     · simp only [Act.put,List.setIfInBounds_toArray,List.set_cons_zero,List.set_cons_succ,zZ,z14]
       rfl
     refine pure_ (i:=8) (N:=some 71) (v:=?_) (a':=?_) #[true,true,true,true,true,false,true,false,true,false,false,false,false,false,false,false] rfl rfl (z1i HT_.out (by kernel_rfl)) (fun _ _ _ h=>h) (Or.inl ⟨by rfl,?_⟩) ?_ ?_
     rotate_left
     · intro w'
       go_simp
       with_reducible rfl
     rotate_left
     · simp only [Act.put,List.setIfInBounds_toArray,List.set_cons_zero,List.set_cons_succ,zZ,z14]
       rfl
     refine pure_ (i:=9) (N:=some 72) (v:=?_) (a':=?_) #[true,true,true,true,true,false,true,false,true,true,false,false,false,false,false,false] rfl rfl (z1i HT_.out (by kernel_rfl)) (fun _ _ _ h=>h) (Or.inl ⟨by rfl,?_⟩) ?_ ?_
     rotate_left
     · intro w'
       go_simp
       with_reducible rfl
     rotate_left
     · simp only [Act.put,List.setIfInBounds_toArray,List.set_cons_zero,List.set_cons_succ,zZ,z14]
       rfl
     refine pure_ (i:=10) (N:=some 73) (v:=?_) (a':=?_) #[true,true,true,true,true,false,true,false,true,true,true,false,false,false,false,false] rfl rfl (z1i HT_.out (by kernel_rfl)) (fun _ _ _ h=>h) (Or.inl ⟨by rfl,?_⟩) ?_ ?_
     rotate_left
     · intro w'
       go_simp
       with_reducible rfl
     rotate_left
     · simp only [Act.put,List.setIfInBounds_toArray,List.set_cons_zero,List.set_cons_succ,zZ,z14]
       rfl
     refine take_ (i:=5) (N:=some 68) (v:=?_) (a':=?_) #[true,true,true,true,true,true,true,false,true,true,true,false,false,false,false,false] rfl rfl (z1F HT_.out HW_.out (by kernel_rfl)) (fun _ _ _ h=>h) (Or.inl ⟨by rfl,?_⟩) hHeld ?_ ?_
     rotate_left
     · rintro w' ⟨s0,s1,s2,s3,s4,s5⟩
       go_simp
       with_reducible rfl
     rotate_left
     · simp only [Act.put,List.setIfInBounds_toArray,List.set_cons_zero,List.set_cons_succ,zZ,z14]
       rfl
     refine take_ (i:=7) (N:=some 70) (v:=?_) (a':=?_) #[true,true,true,true,true,true,true,true,true,true,true,false,false,false,false,false] rfl rfl (z1F HT_.out HW_.out (by kernel_rfl)) (fun _ _ _ h=>h) (Or.inl ⟨by rfl,?_⟩) hHeld ?_ ?_
     rotate_left
     · rintro w' ⟨s0,s1,s2,s3,s4,s5⟩
       go_simp
       with_reducible rfl
     rotate_left
     · simp only [Act.put,List.setIfInBounds_toArray,List.set_cons_zero,List.set_cons_succ,zZ,z14]
       rfl
     refine take_ (i:=11) (N:=some 74) (v:=?_) (a':=?_) #[true,true,true,true,true,true,true,true,true,true,true,true,false,false,false,false] rfl rfl (z1F HT_.out HW_.out (by kernel_rfl)) (fun _ _ _ h=>h) (Or.inl ⟨by rfl,?_⟩) hHeld ?_ ?_
     rotate_left
     · rintro w' ⟨s0,s1,s2,s3,s4,s5⟩
       go_simp
       with_reducible rfl
     rotate_left
     · simp only [Act.put,List.setIfInBounds_toArray,List.set_cons_zero,List.set_cons_succ,zZ,z14]
       rfl
     refine one_ (i:=12) (N:=some 75) #[true,true,true,true,true,true,true,true,true,true,true,true,true,false,false,false] rfl rfl (z21 HT_.out (by kernel_rfl)) (by decide) (fun K hK=>?_)
     refine goes_ Try.func78 (by kernel_rfl) rfl #[.int .i64 a0,.agg #[.int .u64 ((zi x9_1 x58_2).f0),.int .u64 ((zi x9_1 x58_2).f1)],.agg #[.int .u64 ((zi x2_1 x42_1).f0),.int .u64 ((zi x2_1 x42_1).f1)]] (by rfl) rfl rfl (by (try simp only [List.map_toArray,List.map_cons,List.map_nil]);first|done|rfl|(simp only [List.length_drop,List.length_take];rfl)) ?_
     with_reducible refine (zN.calls k2 a0 ((zi x9_1 x58_2).f0) ((zi x9_1 x58_2).f1) ((zi x2_1 x42_1).f0) ((zi x2_1 x42_1).f1) t123 t124 _ A37.out).mono ?_
     rintro e w44 ⟨rfl,hb⟩
     have HS2_:=(hb.cell (World.block_lt_of_cell? _ _ (hHeld.2.2.1))).trans (hHeld.2.2.1)
     have HS3_:=(hb.cell (World.block_lt_of_cell? _ _ (hHeld.2.2.2.1))).trans (hHeld.2.2.2.1)
     have HS4_:=(hb.cell (World.block_lt_of_cell? _ _ (hHeld.2.2.2.2.1))).trans (hHeld.2.2.2.2.1)
     have HS5_:=(hb.cell (World.block_lt_of_cell? _ _ (hHeld.2.2.2.2.2))).trans (hHeld.2.2.2.2.2)
     refine ⟨_,rfl,?_⟩
     have n0_:=z2.mk (Kd.z1X (by (with_reducible repeat (first|apply Kd.z19|apply Kd.z1a|apply Kd.z1e));exact HO_1.out) hb)
     have n1_:=z2.mk (Kd.z1X (by (with_reducible repeat (first|apply Kd.z19|apply Kd.z1a|apply Kd.z1e));exact HO_2.out) hb)
     have n2_:=z2.mk (Kd.zO (by (with_reducible repeat (first|apply Kd.ze|apply Kd.zf|apply Kd.zo));exact HO_11.out) hb)
     have n3_:=z2.mk (Kd.zO (by (with_reducible repeat (first|apply Kd.ze|apply Kd.zf|apply Kd.zo));exact HO_56.out) hb)
     have n4_:=z2.mk (zg (g:=gb120) (o:=.cells #[.int .u64 ((zi x9_1 x58_2).f0),.int .u64 ((zi x9_1 x58_2).f1)] 30 (0,0)) (by (with_reducible repeat (first|refine z6 ?_ _|refine z8 ?_|refine z5 ?_ _));exact BK120.out) hb)
     have n5_:=z2.mk (za (by repeat (first|(with_reducible first|exact HB.out|apply z4|apply z1|apply z3|refine z9 ?_ GE120.out)|exact HB.out)) hb)
     clear HO_1
     clear HO_2
     clear HO_11
     clear HO_56
     clear BK120
     clear HB
     have HO_1:=n0_
     have HO_2:=n1_
     have HO_11:=n2_
     have HO_56:=n3_
     have BK120:=n4_
     have HB:=n5_
     clear n0_ n1_ n2_ n3_ n4_ n5_
     (try clear hb)
     (try clear hb2)
     (try clear hk)
     (try clear hi)
     refine hK.out _ _ ⟨(zc BK120.out 0).trans rfl,(zc BK120.out 1).trans rfl,HS2_,HS3_,HS4_,HS5_⟩ (fun hHeld=>?_)
     clear hK K
     refine norm_ (a':=?_) ?_ ?_
     rotate_left
     · show Act.put _ (some 75) _ = _
       simp only [Act.put,List.setIfInBounds_toArray,List.set_cons_zero,List.set_cons_succ,zZ,z14]
       rfl
     refine one_ (i:=13) (N:=some 76) #[true,true,true,true,true,true,true,true,true,true,true,true,true,true,false,false] rfl rfl (z21 HT_.out (by kernel_rfl)) (by decide) (fun K hK=>?_)
     refine goes_ Try.func64 (by kernel_rfl) rfl #[.agg #[.int .u64 ((zi x11_2 x58_2).f0),.int .u64 ((zi x11_2 x58_2).f1)],.agg #[.int .u64 t123,.int .u64 t124]] (by rfl) rfl rfl (by (try simp only [List.map_toArray,List.map_cons,List.map_nil]);first|done|rfl|(simp only [List.length_drop,List.length_take];rfl)) ?_
     with_reducible refine (z1M.calls ((zi x11_2 x58_2).f0) ((zi x11_2 x58_2).f1) t123 t124 t125 t126 _ A38.out).mono ?_
     rintro e w45 ⟨rfl,hb⟩
     have HS2_:=(hb.cell (World.block_lt_of_cell? _ _ (hHeld.2.2.1))).trans (hHeld.2.2.1)
     have HS3_:=(hb.cell (World.block_lt_of_cell? _ _ (hHeld.2.2.2.1))).trans (hHeld.2.2.2.1)
     have HS4_:=(hb.cell (World.block_lt_of_cell? _ _ (hHeld.2.2.2.2.1))).trans (hHeld.2.2.2.2.1)
     have HS5_:=(hb.cell (World.block_lt_of_cell? _ _ (hHeld.2.2.2.2.2))).trans (hHeld.2.2.2.2.2)
     refine ⟨_,rfl,?_⟩
     have n0_:=z2.mk (Kd.z1X (by (with_reducible repeat (first|apply Kd.z19|apply Kd.z1a|apply Kd.z1e));exact HO_1.out) hb)
     have n1_:=z2.mk (Kd.z1X (by (with_reducible repeat (first|apply Kd.z19|apply Kd.z1a|apply Kd.z1e));exact HO_2.out) hb)
     have n2_:=z2.mk (Kd.zO (by (with_reducible repeat (first|apply Kd.ze|apply Kd.zf|apply Kd.zo));exact HO_11.out) hb)
     have n3_:=z2.mk (Kd.zO (by (with_reducible repeat (first|apply Kd.ze|apply Kd.zf|apply Kd.zo));exact HO_56.out) hb)
     have n4_:=z2.mk (zg (g:=gb120) (o:=.cells #[.int .u64 ((zi x9_1 x58_2).f0),.int .u64 ((zi x9_1 x58_2).f1)] 30 (0,0)) (by (with_reducible repeat (first|refine z6 ?_ _|refine z8 ?_|refine z5 ?_ _));exact BK120.out) hb)
     have n5_:=z2.mk (za (by repeat (first|(with_reducible first|exact HB.out|apply z4|apply z1|apply z3|refine z9 ?_ GE120.out)|exact HB.out)) hb)
     clear HO_1
     clear HO_2
     clear HO_11
     clear HO_56
     clear BK120
     clear HB
     have HO_1:=n0_
     have HO_2:=n1_
     have HO_11:=n2_
     have HO_56:=n3_
     have BK120:=n4_
     have HB:=n5_
     clear n0_ n1_ n2_ n3_ n4_ n5_
     (try clear hb)
     (try clear hb2)
     (try clear hk)
     (try clear hi)
     have p39 : 0 ≤ (x58_2 : Int):=of_decide_eq_true (by first|(with_reducible assumption)|assumption)
     have q39 : (x58_2 : Int) < ((x11_2.length : Int) : Int):=of_decide_eq_true (by first|(with_reducible assumption)|assumption)
     obtain ⟨go39,co39,eo39,gb39,gl39,cl39,HG39⟩:=Kd.z4T HO_11.out (by omega)
     (first|cases eo39|(injection eo39 with ea_ en_ ec_;(first|subst ea_|(injection ea_ with ea_;subst ea_));subst ec_;clear en_))
     have GB39:=z2.mk gb39
     have GG39:=z2.mk HG39
     clear gb39 gl39 HG39
     (first|simp only [z28] at hx121_0|skip)
     (first|simp only [z28] at hx121_1|skip)
     obtain ⟨ce39,hcl39,hM39,hcc39,hfr39⟩:=Kd.z2O HO_11.out z30 (x58_2 : Int) p39 q39
     obtain rfl:=z1Z hM39
     have hx39_0 : World.cell? _ ⟨go39,(x58_2 : Int).toNat * 2,none⟩ = some (.int .u64 ((zi x11_2 x58_2).f0)):=hcc39 0 _ rfl
     have hx39_1 : World.cell? _ ⟨go39,(x58_2 : Int).toNat * 2 + 1,none⟩ = some (.int .u64 ((zi x11_2 x58_2).f1)):=hcc39 1 _ rfl
     have hf39_0 : World.frozen? _ ⟨go39,(x58_2 : Int).toNat * 2,none⟩ = false:=hfr39 0
     have hf39_1 : World.frozen? _ ⟨go39,(x58_2 : Int).toNat * 2 + 1,none⟩ = false:=hfr39 1
     clear hcl39 hcc39 hfr39 hM39
     replace p39:=eq_true p39
     replace q39:=eq_true q39
     obtain ⟨ce46,hcl46,hM46,hcc46,hfr46⟩:=Kd.z2O HO_11.out z30 (x58_2 : Int) (of_decide_eq_true (by first|(with_reducible assumption)|assumption)) (by have h_ : (x58_2 : Int) < ((x11_2.length : Int) : Int):=of_decide_eq_true (by first|(with_reducible assumption)|assumption);first|exact h_|(have e_:=(Kd.zI HO_11.out).1;omega)|simpa using h_)
     obtain rfl:=z1Z hM46
     have HP46:=(Kd.z6N HO_11.out (x58_2 : Int) (of_decide_eq_true (by first|(with_reducible assumption)|assumption)) (by have h_ : (x58_2 : Int) < ((x11_2.length : Int) : Int):=of_decide_eq_true (by first|(with_reducible assumption)|assumption);first|exact h_|(have e_:=(Kd.zI HO_11.out).1;omega)|simpa using h_) (seg:=[.int .u64 t125,.int .u64 t126]) (j:=0) hcl46 hcc46 (show 2 ≤ 2 from by decide) (x':=(⟨t125,t126⟩ : S30)) (z2e _ _ _ (⟨t125,t126⟩ : S30) ) (fun _ hk=>hk)).1
     rw [← Ny127.out] at HP46
     have HQ46:=z2.mk HP46
     clear hcl46 hcc46 hfr46 hM46 HP46
     refine hK.out _ _ ⟨(zc BK120.out 0).trans rfl,(zc BK120.out 1).trans rfl,HS2_,HS3_,HS4_,HS5_⟩ (fun hHeld=>?_)
     clear hK K
     refine norm_ (a':=?_) ?_ ?_
     rotate_left
     · show Act.put _ (some 76) _ = _
       simp only [Act.put,List.setIfInBounds_toArray,List.set_cons_zero,List.set_cons_succ,zZ,z14]
       rfl
     refine pure_ (i:=14) (N:=some 77) (v:=?_) (a':=?_) #[true,true,true,true,true,true,true,true,true,true,true,true,true,true,true,false] rfl rfl (z1i HT_.out (by kernel_rfl)) (fun _ _ _ h=>h) (Or.inl ⟨by rfl,?_⟩) ?_ ?_
     rotate_left
     · intro w'
       go_simp
       with_reducible rfl
     rotate_left
     · simp only [Act.put,List.setIfInBounds_toArray,List.set_cons_zero,List.set_cons_succ,zZ,z14]
       rfl
     refine last_ (i:=15) (N:=none) #[true,true,true,true,true,true,true,true,true,true,true,true,true,true,true,true] rfl rfl (z21 HT_.out (by kernel_rfl)) (by decide) (fun K hK=>?_)
     refine skip_ (w1:=?_) (by rfl) rfl ?_ ?_
     rotate_left
     · go_simp
       rfl
     refine hK.out _ _ ?_
     clear hK K
     refine done_ (z2A HT_.out (by kernel_rfl)) ?_
     try go_wp2
     (try simp only [← hl11_2])
     go_roundg k2
     case measure=>have:=HK1.out;have:=HK2.out;omega
     case rel=>exact ⟨(y127),(wrap64 (x58_2 + 1)),(by first|rfl|(simp;done)|(simp [*];done)),H',⟨by have:=HK1.out;have:=HK2.out;omega⟩,⟨by (try simp only [hl1_1]);(try simp only [hl2_1]);(try simp only [hl11_2]);(with_reducible repeat (first|apply Kd.z19|apply Kd.z1a|apply Kd.z1e));exact Kd.z1t (Kd.z3T (p:=⟨go39,(x58_2 : Int).toNat * 2 + 1,none⟩) (Kd.z3T (p:=⟨go39,(x58_2 : Int).toNat * 2,none⟩) (Kd.z1t HO_1.out (fun k_ hk=>(⟨hk,fun e_=>hk.2.1 (by rw [e_];rfl)⟩ : _ ∧ k_ ≠ go39))) (fun _ hk=>hk.2) (.int .u64 t125)) (fun _ hk=>hk.2) (.int .u64 t126)) (fun _ hk=>⟨hk.1.1,⟨hk.1.2.1,hk.1.2.2.1⟩⟩)⟩,⟨by (try simp only [hl1_1]);(try simp only [hl2_1]);(try simp only [hl11_2]);(with_reducible repeat (first|apply Kd.z19|apply Kd.z1a|apply Kd.z1e));exact Kd.z1t (Kd.z3T (p:=⟨go39,(x58_2 : Int).toNat * 2 + 1,none⟩) (Kd.z3T (p:=⟨go39,(x58_2 : Int).toNat * 2,none⟩) (Kd.z1t HO_2.out (fun k_ hk=>(⟨hk,fun e_=>hk.2.1 (by rw [e_];rfl)⟩ : _ ∧ k_ ≠ go39))) (fun _ hk=>hk.2) (.int .u64 t125)) (fun _ hk=>hk.2) (.int .u64 t126)) (fun _ hk=>⟨hk.1.1,⟨hk.1.2.1,hk.1.2.2.1⟩⟩)⟩,⟨by (try simp only [hl1_1]);(try simp only [hl2_1]);(try simp only [hl11_2]);(with_reducible repeat (first|apply Kd.ze|apply Kd.zf|apply Kd.zo));exact Kd.zY HQ46.out (fun _ hk=>⟨hk.1,hk.2.1⟩)⟩,⟨by (try simp only [hl1_1]);(try simp only [hl2_1]);(try simp only [hl11_2]);(with_reducible repeat (first|apply Kd.ze|apply Kd.zf|apply Kd.zo));exact Kd.zY (Kd.z22 (p:=⟨go39,(x58_2 : Int).toNat * 2 + 1,none⟩) (Kd.z22 (p:=⟨go39,(x58_2 : Int).toNat * 2,none⟩) (Kd.zY HO_56.out (fun k_ hk=>(⟨hk,fun e_=>hk.2.1 (by rw [e_];rfl)⟩ : _ ∧ k_ ≠ go39))) (fun _ hk=>hk.2) (.int .u64 t125)) (fun _ hk=>hk.2) (.int .u64 t126)) (fun _ hk=>⟨hk.1.1,hk.1.2.1⟩)⟩,⟨by repeat (first|(with_reducible first|exact HB.out|apply z4|apply z1|apply z3|refine z9 ?_ GB39.out|refine z9 ?_ GB39.out|refine z9 ?_ GE120.out)|exact HB.out)⟩⟩
end Go.Proofs.Ytkhmpaooinpfoaa.P
namespace Go.Proofs.Ytkhmpaooinpfoaa.P
open Go.RowKit Go.Proofs.YtkhmpaooinpfoaaW.PrintWords Go.Proofs.YtkhmpaooinpfoaaW.PrintLast Go.Proofs.YtkhmpaooinpfoaaW.PrintMore
attribute [local go_sem] z15 z17 z1f z1g zW zX z16 z18   -- for this text's walks alone
set_option linter.unusedVariables false
set_option linter.unusedSimpArgs false
def zD.l0 : Nat → Int → Int → Int → Option (Int)
 | 0,_,_,_=>none
 | k + 1,x0,x3,x4=>if x4 < x0 then (zD.l0 k x0 (wrap64 (2 * x3)) (wrap64 (x4 + 1))) else (some x3)
def zD.f (k : Nat) (a0 : Int) : Option (Int):=zD.l0 k a0 1 0
theorem zD.z1b : ∀ k,(∀ y0 y1 y2,LeO (zD.l0 k y0 y1 y2) (zD.l0 (k + 1) y0 y1 y2))
 | 0=>fun _ _ _ r h=>by simp [zD.l0] at h
 | k + 1=>by
  have ih0:=zD.z1b k
  · intro y0 y1 y2
    unfold zD.l0
    repeat' first
    | (with_reducible exact ih0 _ _ _)
    | (with_reducible exact LeO.refl _)
    | (with_reducible exact LeO.none _)
    | (with_reducible refine LeO.ite ?_ ?_)
    | (with_reducible refine LeO.bind ?_ (fun _=>?_))
    | exact ih0 _ _ _
    | exact LeO.none _
    | refine LeO.ite ?_ ?_
    | refine LeO.bind ?_ (fun _=>?_)
theorem zD.mono : ∀ a0 k,LeO (zD.f k a0) (zD.f (k + 1) a0):=by
 intro a0 k
 have ih0:=zD.z1b k
 unfold zD.f
 repeat' first
  | (with_reducible exact ih0 _ _ _)
  | (with_reducible exact LeO.refl _)
  | (with_reducible exact LeO.none _)
  | (with_reducible refine LeO.ite ?_ ?_)
  | (with_reducible refine LeO.bind ?_ (fun _=>?_))
  | exact ih0 _ _ _
  | exact LeO.none _
  | refine LeO.ite ?_ ?_
  | refine LeO.bind ?_ (fun _=>?_)
set_option maxHeartbeats 8000000 in
set_option maxRecDepth 100000 in
theorem zD.calls (k : Nat) (a0 : Int) (r : Int) (w : World) (h : zD.f k a0 = some r) :
 Calls Try.prog 67 #[.int .i64 a0] w fun e w'=>e = .returned (.int .i64 r) ∧ Drawn0 w w':=by
 have H : (zD.l0 k a0 1 0) = some r:=h
 clear h
 have H':=z2.mk H
 clear H
 go_enter Try.func67,Try.ntmps67
 go_wp2
 go_loopg [3,4] k (fun kq v3 v4 w'=>∃ (x3_1 : Int) (x4_1 : Int),v3 = .int .i64 x3_1 ∧ v4 = .int .i64 x4_1 ∧ z2 (zD.l0 kq a0 x3_1 x4_1 = some r) ∧ z2 (kq ≤ k) ∧ Drawn0 w w')
 case atStart=>exact ⟨(1),(0),(by first|rfl|(simp;done)|(simp [*];done)),(by first|rfl|(simp;done)|(simp [*];done)),H',⟨Nat.le_refl _⟩,by repeat (first|exact Drawn0.refl _|apply Drawn0.step)⟩
 case round =>
  clear H'
  obtain ⟨x3_1,x4_1,rfl,rfl,HA,HK1,⟨m1,rfl⟩⟩:=hrel
  cases gk with
  | zero=>exact absurd HA.out (by simp [zD.l0])
  | succ k1 =>
   have H:=HA.out
   clear HA
   simp only [zD.l0] at H
   by_cases c2 : x4_1 < a0
   rotate_left
   · rw [if_neg c2] at H
     have c2b0 : decide (x4_1 < a0) = false:=decide_eq_false c2
     clear c2
     obtain rfl:=Option.some.inj H
     go_wp2
     go_ret
     exact ⟨by first|rfl|(simp;done)|(simp [*];done),by repeat (first|exact Drawn0.refl _|apply Drawn0.step)⟩
   rw [if_pos c2] at H
   have c2b0 : decide (x4_1 < a0) = true:=decide_eq_true c2
   clear c2
   have H':=z2.mk H
   clear H
   go_wp2
   go_roundg k1
   case measure=>have:=HK1.out;omega
   case rel=>exact ⟨(wrap64 (2 * x3_1)),(wrap64 (x4_1 + 1)),(by first|rfl|(simp;done)|(simp [*];done)),(by first|rfl|(simp;done)|(simp [*];done)),H',⟨by have:=HK1.out;omega⟩,by repeat (first|exact Drawn0.refl _|apply Drawn0.step)⟩
end Go.Proofs.Ytkhmpaooinpfoaa.P
namespace Go.Proofs.Ytkhmpaooinpfoaa.P
open Go.RowKit Go.Proofs.YtkhmpaooinpfoaaW.PrintWords Go.Proofs.YtkhmpaooinpfoaaW.PrintLast Go.Proofs.YtkhmpaooinpfoaaW.PrintMore
attribute [local go_sem] z15 z17 z1f z1g zW zX z16 z18   -- for this text's walks alone
set_option linter.unusedVariables false
set_option linter.unusedSimpArgs false
def z1q.f (a0_0 : Int) (a0_1 : Int) (a1_0 : Int) (a1_1 : Int) : Option (Int × Int):=some (Go.bits .xor .u64 a0_0 a1_0,Go.bits .xor .u64 a0_1 a1_1)
set_option maxHeartbeats 8000000 in
set_option maxRecDepth 100000 in
theorem z1q.calls (a0_0 : Int) (a0_1 : Int) (a1_0 : Int) (a1_1 : Int) (r1 : Int) (r2 : Int) (w : World) (h : z1q.f a0_0 a0_1 a1_0 a1_1 = some (r1,r2)) :
 Calls Try.prog 69 #[.agg #[.int .u64 a0_0,.int .u64 a0_1],.agg #[.int .u64 a1_0,.int .u64 a1_1]] w fun e w'=>e = .returned (.agg #[.int .u64 r1,.int .u64 r2]) ∧ Below w.heap.size w w':=by
 have hu40:=Try.underlying40
 have HB:=z2.mk (Below.refl w.heap.size w)
 have H : (some (Go.bits .xor .u64 a0_0 a1_0,Go.bits .xor .u64 a0_1 a1_1)) = some (r1,r2):=h
 clear h
 simp only [Option.some.injEq,Prod.mk.injEq] at H
 obtain ⟨rfl,rfl⟩:=H
 go_enter Try.func69,Try.ntmps69
 go_wp2_with (first|((with_reducible refine zK (N:=2) rfl ?_);refine zJ ?hg (N:=2) ?hd (cs:=#[.int .u64 a0_0,.int .u64 a0_1]) (t:=40) ?hr ?_;(case hd=>rfl);(case hg=>rfl);(case hr=>first|(go_simp;done)|(go_simp;rfl));intro gb101 hg w3 hbox hb;have n0_:=z2.mk (za (by repeat (first|(with_reducible first|exact HB.out|apply z4|apply z1|apply z3)|exact HB.out)) hb);have n1_:=z2.mk (hbox);have n2_:=z2.mk ((by rw [hg];exact (zb (by repeat (first|(with_reducible first|exact HB.out|apply z4|apply z1|apply z3)|exact HB.out))) : w.heap.size ≤ gb101));have n3_:=z2.mk ((by rw [hg];exact (zb (by repeat (first|(with_reducible first|exact HB.out|apply z4|apply z1|apply z3)|exact HB.out))) : w.heap.size ≤ gb101));clear HB;have HB:=n0_;have BK101:=n1_;have GW101:=n2_;have GE101:=n3_;clear n0_ n1_ n2_ n3_;clear hb hbox hg)|((with_reducible refine zK (N:=3) rfl ?_);refine zJ ?hg (N:=3) ?hd (cs:=#[.int .u64 a1_0,.int .u64 a1_1]) (t:=40) ?hr ?_;(case hd=>rfl);(case hg=>rfl);(case hr=>first|(go_simp;done)|(go_simp;rfl));intro gb102 hg w4 hbox hb;have n0_:=z2.mk (zg (g:=gb101) (o:=.cells #[.int .u64 a0_0,.int .u64 a0_1] 40 (0,0)) (by (with_reducible repeat (first|refine z6 ?_ _|refine z8 ?_|refine z5 ?_ _));exact BK101.out) hb);have n1_:=z2.mk (za (by repeat (first|(with_reducible first|exact HB.out|apply z4|apply z1|apply z3|refine z9 ?_ GE101.out)|exact HB.out)) hb);have n2_:=z2.mk (hbox);have n3_:=z2.mk ((by rw [hg];exact (zb (by repeat (first|(with_reducible first|exact HB.out|apply z4|apply z1|apply z3|refine z9 ?_ GE101.out)|exact HB.out))) : w.heap.size ≤ gb102));have n4_:=z2.mk ((by rw [hg];exact (zb (by repeat (first|(with_reducible first|exact HB.out|apply z4|apply z1|apply z3|refine z9 ?_ GE101.out)|exact HB.out))) : w.heap.size ≤ gb102));have n5_:=z2.mk ((by rw [hg];exact Nat.ne_of_lt (zV (g:=gb101) (o:=.cells #[.int .u64 a0_0,.int .u64 a0_1] 40 (0,0)) (by (with_reducible repeat (first|refine z6 ?_ _|refine z8 ?_|refine z5 ?_ _));exact BK101.out)) : gb101 ≠ gb102));have n6_:=z2.mk ((by rw [hg];exact Nat.ne_of_gt (zV (g:=gb101) (o:=.cells #[.int .u64 a0_0,.int .u64 a0_1] 40 (0,0)) (by (with_reducible repeat (first|refine z6 ?_ _|refine z8 ?_|refine z5 ?_ _));exact BK101.out)) : gb102 ≠ gb101));clear BK101;clear HB;have BK101:=n0_;have HB:=n1_;have BK102:=n2_;have GW102:=n3_;have GE102:=n4_;have NB101_102:=n5_;have NB102_101:=n6_;clear n0_ n1_ n2_ n3_ n4_ n5_ n6_;clear hb hbox hg)|((with_reducible refine zK (N:=4) rfl ?_);refine zJ ?hg (N:=4) ?hd (cs:=#[.int .u64 0,.int .u64 0]) (t:=40) ?hr ?_;(case hd=>rfl);(case hg=>rfl);(case hr=>first|(go_simp;done)|(go_simp;rfl));intro gb103 hg w5 hbox hb;have n0_:=z2.mk (zg (g:=gb101) (o:=.cells #[.int .u64 a0_0,.int .u64 a0_1] 40 (0,0)) (by (with_reducible repeat (first|refine z6 ?_ _|refine z8 ?_|refine z5 ?_ _));exact BK101.out) hb);have n1_:=z2.mk (zg (g:=gb102) (o:=.cells #[.int .u64 a1_0,.int .u64 a1_1] 40 (0,0)) (by (with_reducible repeat (first|refine z6 ?_ _|refine z8 ?_|refine z5 ?_ _));exact BK102.out) hb);have n2_:=z2.mk (za (by repeat (first|(with_reducible first|exact HB.out|apply z4|apply z1|apply z3|refine z9 ?_ GE101.out|refine z9 ?_ GE102.out)|exact HB.out)) hb);have n3_:=z2.mk (hbox);have n4_:=z2.mk ((by rw [hg];exact (zb (by repeat (first|(with_reducible first|exact HB.out|apply z4|apply z1|apply z3|refine z9 ?_ GE101.out|refine z9 ?_ GE102.out)|exact HB.out))) : w.heap.size ≤ gb103));have n5_:=z2.mk ((by rw [hg];exact (zb (by repeat (first|(with_reducible first|exact HB.out|apply z4|apply z1|apply z3|refine z9 ?_ GE101.out|refine z9 ?_ GE102.out)|exact HB.out))) : w.heap.size ≤ gb103));have n6_:=z2.mk ((by rw [hg];exact Nat.ne_of_lt (zV (g:=gb101) (o:=.cells #[.int .u64 a0_0,.int .u64 a0_1] 40 (0,0)) (by (with_reducible repeat (first|refine z6 ?_ _|refine z8 ?_|refine z5 ?_ _));exact BK101.out)) : gb101 ≠ gb103));have n7_:=z2.mk ((by rw [hg];exact Nat.ne_of_gt (zV (g:=gb101) (o:=.cells #[.int .u64 a0_0,.int .u64 a0_1] 40 (0,0)) (by (with_reducible repeat (first|refine z6 ?_ _|refine z8 ?_|refine z5 ?_ _));exact BK101.out)) : gb103 ≠ gb101));have n8_:=z2.mk ((by rw [hg];exact Nat.ne_of_lt (zV (g:=gb102) (o:=.cells #[.int .u64 a1_0,.int .u64 a1_1] 40 (0,0)) (by (with_reducible repeat (first|refine z6 ?_ _|refine z8 ?_|refine z5 ?_ _));exact BK102.out)) : gb102 ≠ gb103));have n9_:=z2.mk ((by rw [hg];exact Nat.ne_of_gt (zV (g:=gb102) (o:=.cells #[.int .u64 a1_0,.int .u64 a1_1] 40 (0,0)) (by (with_reducible repeat (first|refine z6 ?_ _|refine z8 ?_|refine z5 ?_ _));exact BK102.out)) : gb103 ≠ gb102));clear BK101;clear BK102;clear HB;have BK101:=n0_;have BK102:=n1_;have HB:=n2_;have BK103:=n3_;have GW103:=n4_;have GE103:=n5_;have NB101_103:=n6_;have NB103_101:=n7_;have NB102_103:=n8_;have NB103_102:=n9_;clear n0_ n1_ n2_ n3_ n4_ n5_ n6_ n7_ n8_ n9_;clear hb hbox hg;have hnb6:=NB101_102.out;have hnc6:=NB102_101.out;have hnb7:=NB101_103.out;have hnc7:=NB103_101.out;have hcz8_0 : w5.cell? ⟨gb101,0,none⟩ = some (.int .u64 a0_0):=(zc BK101.out 0).trans rfl;have hcz8_1 : w5.cell? ⟨gb101,1,none⟩ = some (.int .u64 a0_1):=(zc BK101.out 1).trans rfl;have hfz8_0:=zd BK101.out 0;have hfz8_1:=zd BK101.out 1;have hnb9:=NB102_103.out;have hnc9:=NB103_102.out;have hcz10_0 : w5.cell? ⟨gb102,0,none⟩ = some (.int .u64 a1_0):=(zc BK102.out 0).trans rfl;have hcz10_1 : w5.cell? ⟨gb102,1,none⟩ = some (.int .u64 a1_1):=(zc BK102.out 1).trans rfl;have hfz10_0:=zd BK102.out 0;have hfz10_1:=zd BK102.out 1;have hcz11_0 : w5.cell? ⟨gb103,0,none⟩ = some (.int .u64 0):=(zc BK103.out 0).trans rfl;have hcz11_1 : w5.cell? ⟨gb103,1,none⟩ = some (.int .u64 0):=(zc BK103.out 1).trans rfl;have hfz11_0:=zd BK103.out 0;have hfz11_1:=zd BK103.out 1))
 refine bodyPost_ret (results_cell_row rfl _ _ gb103 40 #[.int .u64 (Go.bits .xor .u64 a0_0 a1_0),.int .u64 (Go.bits .xor .u64 a0_1 a1_1)] (0,0) _ rfl (by (with_reducible repeat (first|refine z6 ?_ _|refine z8 ?_|refine z5 ?_ _));refine z11 (cs:=#[.int .u64 (Go.bits .xor .u64 a0_0 a1_0),.int .u64 0]) ?_ 1 _ rfl;(with_reducible repeat (first|refine z6 ?_ _|refine z8 ?_|refine z5 ?_ _));refine z11 (cs:=#[.int .u64 0,.int .u64 0]) ?_ 0 _ rfl;(with_reducible repeat (first|refine z6 ?_ _|refine z8 ?_|refine z5 ?_ _));exact BK103.out) Try.underlying40 rfl (by kernel_rfl)) rfl ?_
 exact ⟨by first|rfl|(simp [zk,zl] <;> rfl)|(simp [*,zk,zl] <;> rfl),by repeat (first|(with_reducible first|exact HB.out|apply z4|apply z1|apply z3|refine z9 ?_ GE101.out|refine z9 ?_ GE102.out|refine z9 ?_ GE103.out)|exact HB.out)⟩
end Go.Proofs.Ytkhmpaooinpfoaa.P
namespace Go.Proofs.Ytkhmpaooinpfoaa.P
open Go.RowKit Go.Proofs.YtkhmpaooinpfoaaW.PrintWords Go.Proofs.YtkhmpaooinpfoaaW.PrintLast Go.Proofs.YtkhmpaooinpfoaaW.PrintMore
attribute [local go_sem] z15 z17 z1f z1g zW zX z16 z18   -- for this text's walks alone
set_option linter.unusedVariables false
set_option linter.unusedSimpArgs false
def zM.j0 : Nat → Int → Bool → Option (Int × Int)
 | 0,_,_=>none
 | k + 1,x0,x8=>if x8 = true then (some (0,0)) else (if x0 > 63 then (if 0 ≤ (IntKind.u64.wrap (wrap64 (x0 - 64))) then (some (shl .u64 1 (IntKind.u64.wrap (wrap64 (x0 - 64))),0)) else (none)) else (if 0 ≤ (IntKind.u64.wrap (x0)) then (some (0,shl .u64 1 (IntKind.u64.wrap (x0)))) else (none)))
def zM.f (k : Nat) (a0 : Int) : Option (Int × Int):=if a0 < 0 then (zM.j0 k a0 true) else (zM.j0 k a0 (decide (a0 > 127)))
theorem zM.z1b : ∀ k,(∀ y0 y1,LeO (zM.j0 k y0 y1) (zM.j0 (k + 1) y0 y1))
 | 0=>fun _ _ r h=>by simp [zM.j0] at h
 | k + 1=>by
  have ih0:=zM.z1b k
  · intro y0 y1
    unfold zM.j0
    repeat' first
    | (with_reducible exact ih0 _ _)
    | (with_reducible exact LeO.refl _)
    | (with_reducible exact LeO.none _)
    | (with_reducible refine LeO.ite ?_ ?_)
    | (with_reducible refine LeO.bind ?_ (fun _=>?_))
    | exact ih0 _ _
    | exact LeO.none _
    | refine LeO.ite ?_ ?_
    | refine LeO.bind ?_ (fun _=>?_)
theorem zM.mono : ∀ a0 k,LeO (zM.f k a0) (zM.f (k + 1) a0):=by
 intro a0 k
 have ih0:=zM.z1b k
 unfold zM.f
 repeat' first
  | (with_reducible exact ih0 _ _)
  | (with_reducible exact LeO.refl _)
  | (with_reducible exact LeO.none _)
  | (with_reducible refine LeO.ite ?_ ?_)
  | (with_reducible refine LeO.bind ?_ (fun _=>?_))
  | exact ih0 _ _
  | exact LeO.none _
  | refine LeO.ite ?_ ?_
  | refine LeO.bind ?_ (fun _=>?_)
set_option maxHeartbeats 8000000 in
set_option maxRecDepth 100000 in
theorem zM.calls (k : Nat) (a0 : Int) (r1 : Int) (r2 : Int) (w : World) (h : zM.f k a0 = some (r1,r2)) :
 Calls Try.prog 98 #[.int .i64 a0] w fun e w'=>e = .returned (.agg #[.int .u64 r1,.int .u64 r2]) ∧ Below w.heap.size w w':=by
 have hu40:=Try.underlying40
 have HB:=z2.mk (Below.refl w.heap.size w)
 have H : (if a0 < 0 then (zM.j0 k a0 true) else (zM.j0 k a0 (decide (a0 > 127)))) = some (r1,r2):=h
 clear h
 have HC2:=z2.mk H
 clear H
 go_enter Try.func98,Try.ntmps98
 go_upto_region 1 with (first|((with_reducible refine zK (N:=2) rfl ?_);refine zJ ?hg (N:=2) ?hd (cs:=#[.int .u64 0,.int .u64 0]) (t:=40) ?hr ?_;(case hd=>rfl);(case hg=>rfl);(case hr=>first|(go_simp;done)|(go_simp;rfl));intro gb101 hg w3 hbox hb;have n0_:=z2.mk (za (by repeat (first|(with_reducible first|exact HB.out|apply z4|apply z1|apply z3)|exact HB.out)) hb);have n1_:=z2.mk (hbox);have n2_:=z2.mk ((by rw [hg];exact (zb (by repeat (first|(with_reducible first|exact HB.out|apply z4|apply z1|apply z3)|exact HB.out))) : w.heap.size ≤ gb101));have n3_:=z2.mk ((by rw [hg];exact (zb (by repeat (first|(with_reducible first|exact HB.out|apply z4|apply z1|apply z3)|exact HB.out))) : w.heap.size ≤ gb101));clear HB;have HB:=n0_;have BK101:=n1_;have GW101:=n2_;have GE101:=n3_;clear n0_ n1_ n2_ n3_;clear hb hbox hg))
 (try simp only [Act.put,List.setIfInBounds_toArray,List.set_cons_zero,List.set_cons_succ])
 go_cut [8] (fun v8 wc=>∃ (kq : Nat) (x8_1 : Bool),v8 = .bool x8_1 ∧ z2 (zM.j0 kq a0 x8_1 = some (r1,r2)) ∧ z2 (kq ≤ k) ∧ z2 (wc.heap[gb101]? = some (.cells #[.int .u64 0,.int .u64 0] 40 (0,0))) ∧ z2 (Below w.heap.size w wc))
 case first =>
  have H:=HC2.out
  clear HC2
  by_cases c4 : a0 < 0
  rotate_left
  · rw [if_neg c4] at H
    have c4b0 : decide (a0 < 0) = false:=decide_eq_false c4
    clear c4
    (first|rw [c4b0]|(simp only [zZ,z14];rw [c4b0])|skip)
    have H':=z2.mk H
    clear H
    go_wp2
    go_meet
    case rel=>exact ⟨_,(decide (a0 > 127)),(by first|rfl|(simp;done)|(simp [*];done)),H',⟨by first|omega|exact Nat.le_refl _⟩,⟨by (with_reducible repeat (first|refine z6 ?_ _|refine z8 ?_|refine z5 ?_ _));exact BK101.out⟩,⟨by repeat (first|(with_reducible first|exact HB.out|apply z4|apply z1|apply z3|refine z9 ?_ GE101.out)|exact HB.out)⟩⟩
  rw [if_pos c4] at H
  have c4b0 : decide (a0 < 0) = true:=decide_eq_true c4
  clear c4
  (first|rw [c4b0]|(simp only [zZ,z14];rw [c4b0])|skip)
  have H':=z2.mk H
  clear H
  go_wp2
  go_meet
  case rel=>exact ⟨_,(true),(by first|rfl|(simp;done)|(simp [*];done)),H',⟨by first|omega|exact Nat.le_refl _⟩,⟨by (with_reducible repeat (first|refine z6 ?_ _|refine z8 ?_|refine z5 ?_ _));exact BK101.out⟩,⟨by repeat (first|(with_reducible first|exact HB.out|apply z4|apply z1|apply z3|refine z9 ?_ GE101.out)|exact HB.out)⟩⟩
 case rest =>
  clear HC2
  (try clear p2);(try clear c4);(try clear c4b0)
  obtain ⟨kq,x8_1,rfl,HA,HJ1,BK101,HB⟩:=hcut
  cases kq with
  | zero=>exact absurd HA.out (by simp [zM.j0])
  | succ kj1 =>
   have H:=HA.out
   clear HA
   simp only [zM.j0] at H
   by_cases c5 : x8_1 = true
   · subst c5
     have H1 : (some (0,0)) = some (r1,r2):=by rw [if_pos rfl] at H;exact H
     clear H
     have H:=H1
     clear H1
     simp only [Option.some.injEq,Prod.mk.injEq] at H
     obtain ⟨rfl,rfl⟩:=H
     have hcz6_0 : wc.cell? ⟨gb101,0,none⟩ = some (.int .u64 0):=(zc BK101.out 0).trans rfl
     have hcz6_1 : wc.cell? ⟨gb101,1,none⟩ = some (.int .u64 0):=(zc BK101.out 1).trans rfl
     have hfz6_0:=zd BK101.out 0
     have hfz6_1:=zd BK101.out 1
     go_wp2
     refine bodyPost_ret (results_cell_row rfl _ _ gb101 40 #[.int .u64 0,.int .u64 0] (0,0) _ rfl (by (with_reducible repeat (first|refine z6 ?_ _|refine z8 ?_|refine z5 ?_ _));refine z11 (cs:=#[.int .u64 0,.int .u64 0]) ?_ 1 _ rfl;(with_reducible repeat (first|refine z6 ?_ _|refine z8 ?_|refine z5 ?_ _));refine z11 (cs:=#[.int .u64 0,.int .u64 0]) ?_ 0 _ rfl;(with_reducible repeat (first|refine z6 ?_ _|refine z8 ?_|refine z5 ?_ _));exact BK101.out) Try.underlying40 rfl (by kernel_rfl)) rfl ?_
     exact ⟨by first|rfl|(simp [zk,zl] <;> rfl)|(simp [*,zk,zl] <;> rfl),by repeat (first|(with_reducible first|exact HB.out|apply z4|apply z1|apply z3|refine z9 ?_ GE101.out)|exact HB.out)⟩
   replace c5:=Bool.eq_false_iff.mpr c5
   subst c5
   have H1 : (if a0 > 63 then (if 0 ≤ (IntKind.u64.wrap (wrap64 (a0 - 64))) then (some (shl .u64 1 (IntKind.u64.wrap (wrap64 (a0 - 64))),0)) else (none)) else (if 0 ≤ (IntKind.u64.wrap (a0)) then (some (0,shl .u64 1 (IntKind.u64.wrap (a0)))) else (none))) = some (r1,r2):=by rw [if_neg (show ¬ (false = true) by decide)] at H;exact H
   clear H
   have H:=H1
   clear H1
   by_cases c7 : a0 > 63
   · rw [if_pos c7] at H
     have c7b0 : decide (63 < a0) = true:=decide_eq_true c7
     clear c7
     obtain ⟨ji8,hji8⟩ : ∃ j_ : Int,(IntKind.u64.wrap (wrap64 (a0 - 64))) = j_:=⟨_,rfl⟩
     replace H : (if 0 ≤ (ji8) then (some (shl .u64 1 (ji8),0)) else (none)) = some (r1,r2):=by first|(rw [hji8] at H;exact H)|(simp only [hji8] at H ⊢;exact H)
     by_cases c9 : 0 ≤ (ji8)
     rotate_left
     · rw [if_neg c9] at H
       exact absurd H (by simp)
     rw [if_pos c9] at H
     have c9b0:=eq_true c9
     have c9b1 : decide (0 ≤ (ji8)) = true:=decide_eq_true c9
     clear c9
     obtain ⟨ji10,hji10⟩ : ∃ j_ : Int,(shl .u64 1 (ji8)) = j_:=⟨_,rfl⟩
     replace H : (some (ji10,0)) = some (r1,r2):=by first|(rw [hji10] at H;exact H)|(simp only [hji10] at H ⊢;exact H)
     have hji10_ : (IntKind.u64.wrap (1 * 2 ^ min (ji8).toNat 64)) = ji10:=hji10
     have hji10z : (ji8) ≤ 64 → (IntKind.u64.wrap (1 * 2 ^ (ji8).toNat)) = ji10:=z1U hji10
     have hji10n0 : 0 ≤ ji10:=by rw [← hji10];exact Int.emod_nonneg _ (by decide)
     have hji10n1 : decide (0 ≤ ji10) = true:=decide_eq_true hji10n0
     replace hji10n0:=eq_true hji10n0
     have hji10u : (IntKind.u64.wrap (2 ^ min (ji8).toNat 64)) = ji10:=by have h_:=hji10_;rw [Int.one_mul] at h_;exact h_
     have hji10v : (ji8) ≤ 64 → (IntKind.u64.wrap (2 ^ (ji8).toNat)) = ji10:=fun hle_=>by have h_:=hji10z hle_;rw [Int.one_mul] at h_;exact h_
     simp only [Option.some.injEq,Prod.mk.injEq] at H
     obtain ⟨rfl,rfl⟩:=H
     have hcz11_0 : wc.cell? ⟨gb101,0,none⟩ = some (.int .u64 0):=(zc BK101.out 0).trans rfl
     have hcz11_1 : wc.cell? ⟨gb101,1,none⟩ = some (.int .u64 0):=(zc BK101.out 1).trans rfl
     have hfz11_0:=zd BK101.out 0
     have hfz11_1:=zd BK101.out 1
     go_wp2
     refine bodyPost_ret (results_cell_row rfl _ _ gb101 40 #[.int .u64 ji10,.int .u64 0] (0,0) _ rfl (by (with_reducible repeat (first|refine z6 ?_ _|refine z8 ?_|refine z5 ?_ _));refine z11 (cs:=#[.int .u64 ji10,.int .u64 0]) ?_ 1 _ rfl;(with_reducible repeat (first|refine z6 ?_ _|refine z8 ?_|refine z5 ?_ _));refine z11 (cs:=#[.int .u64 0,.int .u64 0]) ?_ 0 _ rfl;(with_reducible repeat (first|refine z6 ?_ _|refine z8 ?_|refine z5 ?_ _));exact BK101.out) Try.underlying40 rfl (by kernel_rfl)) rfl ?_
     exact ⟨by first|rfl|(simp [zk,zl] <;> rfl)|(simp only [← hji8,← hji10];first|rfl|(simp [zk,zl] <;> rfl))|(simp [*,zk,zl] <;> rfl),by repeat (first|(with_reducible first|exact HB.out|apply z4|apply z1|apply z3|refine z9 ?_ GE101.out)|exact HB.out)⟩
   rw [if_neg c7] at H
   have c7b0 : decide (63 < a0) = false:=decide_eq_false c7
   clear c7
   obtain ⟨ji12,hji12⟩ : ∃ j_ : Int,(IntKind.u64.wrap (a0)) = j_:=⟨_,rfl⟩
   replace H : (if 0 ≤ (ji12) then (some (0,shl .u64 1 (ji12))) else (none)) = some (r1,r2):=by first|(rw [hji12] at H;exact H)|(simp only [hji12] at H ⊢;exact H)
   by_cases c13 : 0 ≤ (ji12)
   rotate_left
   · rw [if_neg c13] at H
     exact absurd H (by simp)
   rw [if_pos c13] at H
   have c13b0:=eq_true c13
   have c13b1 : decide (0 ≤ (ji12)) = true:=decide_eq_true c13
   clear c13
   obtain ⟨ji14,hji14⟩ : ∃ j_ : Int,(shl .u64 1 (ji12)) = j_:=⟨_,rfl⟩
   replace H : (some (0,ji14)) = some (r1,r2):=by first|(rw [hji14] at H;exact H)|(simp only [hji14] at H ⊢;exact H)
   have hji14_ : (IntKind.u64.wrap (1 * 2 ^ min (ji12).toNat 64)) = ji14:=hji14
   have hji14z : (ji12) ≤ 64 → (IntKind.u64.wrap (1 * 2 ^ (ji12).toNat)) = ji14:=z1U hji14
   have hji14n0 : 0 ≤ ji14:=by rw [← hji14];exact Int.emod_nonneg _ (by decide)
   have hji14n1 : decide (0 ≤ ji14) = true:=decide_eq_true hji14n0
   replace hji14n0:=eq_true hji14n0
   have hji14u : (IntKind.u64.wrap (2 ^ min (ji12).toNat 64)) = ji14:=by have h_:=hji14_;rw [Int.one_mul] at h_;exact h_
   have hji14v : (ji12) ≤ 64 → (IntKind.u64.wrap (2 ^ (ji12).toNat)) = ji14:=fun hle_=>by have h_:=hji14z hle_;rw [Int.one_mul] at h_;exact h_
   simp only [Option.some.injEq,Prod.mk.injEq] at H
   obtain ⟨rfl,rfl⟩:=H
   have hcz15_0 : wc.cell? ⟨gb101,0,none⟩ = some (.int .u64 0):=(zc BK101.out 0).trans rfl
   have hcz15_1 : wc.cell? ⟨gb101,1,none⟩ = some (.int .u64 0):=(zc BK101.out 1).trans rfl
   have hfz15_0:=zd BK101.out 0
   have hfz15_1:=zd BK101.out 1
   go_wp2
   refine bodyPost_ret (results_cell_row rfl _ _ gb101 40 #[.int .u64 0,.int .u64 ji14] (0,0) _ rfl (by (with_reducible repeat (first|refine z6 ?_ _|refine z8 ?_|refine z5 ?_ _));refine z11 (cs:=#[.int .u64 0,.int .u64 0]) ?_ 1 _ rfl;(with_reducible repeat (first|refine z6 ?_ _|refine z8 ?_|refine z5 ?_ _));refine z11 (cs:=#[.int .u64 0,.int .u64 0]) ?_ 0 _ rfl;(with_reducible repeat (first|refine z6 ?_ _|refine z8 ?_|refine z5 ?_ _));exact BK101.out) Try.underlying40 rfl (by kernel_rfl)) rfl ?_
   exact ⟨by first|rfl|(simp [zk,zl] <;> rfl)|(simp only [← hji12,← hji14];first|rfl|(simp [zk,zl] <;> rfl))|(simp [*,zk,zl] <;> rfl),by repeat (first|(with_reducible first|exact HB.out|apply z4|apply z1|apply z3|refine z9 ?_ GE101.out)|exact HB.out)⟩
end Go.Proofs.Ytkhmpaooinpfoaa.P
namespace Go.Proofs.Ytkhmpaooinpfoaa.P
open Go.RowKit Go.Proofs.YtkhmpaooinpfoaaW.PrintWords Go.Proofs.YtkhmpaooinpfoaaW.PrintLast Go.Proofs.YtkhmpaooinpfoaaW.PrintMore
attribute [local go_sem] z15 z17 z1f z1g zW zX z16 z18   -- for this text's walks alone
set_option linter.unusedVariables false
set_option linter.unusedSimpArgs false
def zS.f (k : Nat) (a0_0 : Int) (a0_1 : Int) (a1 : Int) : Option (Bool):=(zM.f k a1).bind fun bt102=>(some ((Go.bits .or .u64 (Go.bits .and .u64 a0_1 bt102.2) (Go.bits .and .u64 a0_0 bt102.1)) != 0))
theorem zS.mono : ∀ a0 a1 a2 k,LeO (zS.f k a0 a1 a2) (zS.f (k + 1) a0 a1 a2):=by
 intro a0 a1 a2 k
 unfold zS.f
 repeat' first
  | (with_reducible exact zM.mono _ _)
  | (with_reducible exact LeO.refl _)
  | (with_reducible exact LeO.none _)
  | (with_reducible refine LeO.ite ?_ ?_)
  | (with_reducible refine LeO.bind ?_ (fun _=>?_))
  | exact zM.mono _ _
  | exact LeO.none _
  | refine LeO.ite ?_ ?_
  | refine LeO.bind ?_ (fun _=>?_)
set_option maxHeartbeats 8000000 in
set_option maxRecDepth 100000 in
theorem zS.calls (k : Nat) (a0_0 : Int) (a0_1 : Int) (a1 : Int) (r : Bool) (w : World) (h : zS.f k a0_0 a0_1 a1 = some r) :
 Calls Try.prog 104 #[.agg #[.int .u64 a0_0,.int .u64 a0_1],.int .i64 a1] w fun e w'=>e = .returned (.bool r) ∧ Below w.heap.size w w':=by
 have hu40:=Try.underlying40
 have HB:=z2.mk (Below.refl w.heap.size w)
 have H : ((zM.f k a1).bind fun bt102=>(some ((Go.bits .or .u64 (Go.bits .and .u64 a0_1 bt102.2) (Go.bits .and .u64 a0_0 bt102.1)) != 0))) = some r:=h
 clear h
 replace H:=Option.bind_eq_some_iff.mp H
 obtain ⟨⟨t102,t103⟩,A30,H⟩:=H
 replace H : (some ((Go.bits .or .u64 (Go.bits .and .u64 a0_1 t103) (Go.bits .and .u64 a0_0 t102)) != 0)) = some r:=H
 have A3:=z2.mk A30
 clear A30
 obtain rfl:=Option.some.inj H
 go_enter Try.func104,Try.ntmps104
 go_wp2_with (first|((with_reducible refine zK (N:=2) rfl ?_);refine zJ ?hg (N:=2) ?hd (cs:=#[.int .u64 a0_0,.int .u64 a0_1]) (t:=40) ?hr ?_;(case hd=>rfl);(case hg=>rfl);(case hr=>first|(go_simp;done)|(go_simp;rfl));intro gb101 hg w4 hbox hb;have n0_:=z2.mk (za (by repeat (first|(with_reducible first|exact HB.out|apply z4|apply z1|apply z3)|exact HB.out)) hb);have n1_:=z2.mk (hbox);have n2_:=z2.mk ((by rw [hg];exact (zb (by repeat (first|(with_reducible first|exact HB.out|apply z4|apply z1|apply z3)|exact HB.out))) : w.heap.size ≤ gb101));have n3_:=z2.mk ((by rw [hg];exact (zb (by repeat (first|(with_reducible first|exact HB.out|apply z4|apply z1|apply z3)|exact HB.out))) : w.heap.size ≤ gb101));clear HB;have HB:=n0_;have BK101:=n1_;have GW101:=n2_;have GE101:=n3_;clear n0_ n1_ n2_ n3_;clear hb hbox hg)|((with_reducible refine zj (f:=98) rfl ?_);refine goesL_ (some 7) rfl rfl Try.func98 (by kernel_rfl) rfl #[.int .i64 a1] rfl (by (try simp only [List.map_toArray,List.map_cons,List.map_nil]);first|done|rfl|(simp only [List.length_drop,List.length_take];rfl)) ?_;(with_reducible refine (zM.calls k a1 t102 t103 _ A3.out).mono ?_);rintro e w5 ⟨rfl,hb⟩;refine ⟨_,rfl,?_⟩;have n0_:=z2.mk (zg (g:=gb101) (o:=.cells #[.int .u64 a0_0,.int .u64 a0_1] 40 (0,0)) (by (with_reducible repeat (first|refine z6 ?_ _|refine z8 ?_|refine z5 ?_ _));exact BK101.out) hb);have n1_:=z2.mk (za (by repeat (first|(with_reducible first|exact HB.out|apply z4|apply z1|apply z3|refine z9 ?_ GE101.out)|exact HB.out)) hb);clear BK101;clear HB;have BK101:=n0_;have HB:=n1_;clear n0_ n1_;(try clear hb);(try clear hb2);(try clear hk);(try clear hi))|((with_reducible refine zK (N:=5) rfl ?_);refine zJ ?hg (N:=5) ?hd (cs:=#[.int .u64 0,.int .u64 0]) (t:=40) ?hr ?_;(case hd=>rfl);(case hg=>rfl);(case hr=>first|(go_simp;done)|(go_simp;rfl));intro gb104 hg w6 hbox hb;have n0_:=z2.mk (zg (g:=gb101) (o:=.cells #[.int .u64 a0_0,.int .u64 a0_1] 40 (0,0)) (by (with_reducible repeat (first|refine z6 ?_ _|refine z8 ?_|refine z5 ?_ _));exact BK101.out) hb);have n1_:=z2.mk (za (by repeat (first|(with_reducible first|exact HB.out|apply z4|apply z1|apply z3|refine z9 ?_ GE101.out)|exact HB.out)) hb);have n2_:=z2.mk (hbox);have n3_:=z2.mk ((by rw [hg];exact (zb (by repeat (first|(with_reducible first|exact HB.out|apply z4|apply z1|apply z3|refine z9 ?_ GE101.out)|exact HB.out))) : w.heap.size ≤ gb104));have n4_:=z2.mk ((by rw [hg];exact (zb (by repeat (first|(with_reducible first|exact HB.out|apply z4|apply z1|apply z3|refine z9 ?_ GE101.out)|exact HB.out))) : w.heap.size ≤ gb104));have n5_:=z2.mk ((by rw [hg];exact Nat.ne_of_lt (zV (g:=gb101) (o:=.cells #[.int .u64 a0_0,.int .u64 a0_1] 40 (0,0)) (by (with_reducible repeat (first|refine z6 ?_ _|refine z8 ?_|refine z5 ?_ _));exact BK101.out)) : gb101 ≠ gb104));have n6_:=z2.mk ((by rw [hg];exact Nat.ne_of_gt (zV (g:=gb101) (o:=.cells #[.int .u64 a0_0,.int .u64 a0_1] 40 (0,0)) (by (with_reducible repeat (first|refine z6 ?_ _|refine z8 ?_|refine z5 ?_ _));exact BK101.out)) : gb104 ≠ gb101));clear BK101;clear HB;have BK101:=n0_;have HB:=n1_;have BK104:=n2_;have GW104:=n3_;have GE104:=n4_;have NB101_104:=n5_;have NB104_101:=n6_;clear n0_ n1_ n2_ n3_ n4_ n5_ n6_;clear hb hbox hg;have hnb7:=NB104_101.out;have hnc7:=NB101_104.out;have hcz8_0 : w6.cell? ⟨gb104,0,none⟩ = some (.int .u64 0):=(zc BK104.out 0).trans rfl;have hcz8_1 : w6.cell? ⟨gb104,1,none⟩ = some (.int .u64 0):=(zc BK104.out 1).trans rfl;have hfz8_0:=zd BK104.out 0;have hfz8_1:=zd BK104.out 1;have hcz9_0 : w6.cell? ⟨gb101,0,none⟩ = some (.int .u64 a0_0):=(zc BK101.out 0).trans rfl;have hcz9_1 : w6.cell? ⟨gb101,1,none⟩ = some (.int .u64 a0_1):=(zc BK101.out 1).trans rfl;have hfz9_0:=zd BK101.out 0;have hfz9_1:=zd BK101.out 1))
 go_ret
 exact ⟨by first|rfl|(simp [zk,zl] <;> rfl)|(simp [*,zk,zl] <;> rfl),by repeat (first|(with_reducible first|exact HB.out|apply z4|apply z1|apply z3|refine z9 ?_ GE101.out|refine z9 ?_ GE104.out)|exact HB.out)⟩
end Go.Proofs.Ytkhmpaooinpfoaa.P
namespace Go.Proofs.Ytkhmpaooinpfoaa.P
open Go.RowKit Go.Proofs.YtkhmpaooinpfoaaW.PrintWords Go.Proofs.YtkhmpaooinpfoaaW.PrintLast Go.Proofs.YtkhmpaooinpfoaaW.PrintMore
attribute [local go_sem] z15 z17 z1f z1g zW zX z16 z18   -- for this text's walks alone
set_option linter.unusedVariables false
set_option linter.unusedSimpArgs false
def z1c.f (a0 : Int) : Option (Int):=(some (([6148914691236517205,3689348814741910323,1085102592571150095,71777214294589695,281470681808895,4294967295] : List Int) : List Int)).bind fun y101=>(if 0 ≤ a0 then (if a0 < (y101.length : Int) then (some (rd y101 a0)) else (none)) else (none))
set_option maxHeartbeats 8000000 in
set_option maxRecDepth 100000 in
theorem z1c.calls (a0 : Int) (r : Int) (w : World) (h : z1c.f a0 = some r) :
 Calls Try.prog 147 #[.int .i64 a0] w fun e w'=>e = .returned (.int .u64 r) ∧ Below w.heap.size w w':=by
 have HB:=z2.mk (Below.refl w.heap.size w)
 have H : ((some (([6148914691236517205,3689348814741910323,1085102592571150095,71777214294589695,281470681808895,4294967295] : List Int) : List Int)).bind fun y101=>(if 0 ≤ a0 then (if a0 < (y101.length : Int) then (some (rd y101 a0)) else (none)) else (none))) = some r:=h
 clear h
 obtain ⟨y101,hy101⟩ : ∃ y_ : List Int,y_ = (([6148914691236517205,3689348814741910323,1085102592571150095,71777214294589695,281470681808895,4294967295] : List Int)):=⟨_,rfl⟩
 replace H : (if 0 ≤ a0 then (if a0 < (y101.length : Int) then (some (rd y101 a0)) else (none)) else (none)) = some r:=by first|(rw [hy101];with_reducible exact H)|(have H2_:=(Option.bind_some _ _).symm.trans H;rw [hy101];with_reducible exact H2_)|(have H2_:=(Option.bind_some _ _).symm.trans H;with_reducible exact H2_)|with_reducible exact H|(rw [hy101];exact H)|exact H
 have Ny101:=z2.mk hy101
 clear hy101
 by_cases c2 : 0 ≤ a0
 rotate_left
 · rw [if_neg c2] at H
   exact absurd H (by simp)
 rw [if_pos c2] at H
 have c2b0 : decide (0 ≤ a0) = true:=decide_eq_true c2
 clear c2
 by_cases c3 : a0 < (y101.length : Int)
 rotate_left
 · rw [if_neg c3] at H
   exact absurd H (by simp)
 rw [if_pos c3] at H
 have c3b0 : decide (a0 < (y101.length : Int)) = true:=decide_eq_true c3
 clear c3
 obtain rfl:=Option.some.inj H
 go_enter Try.func147,Try.ntmps147
 go_wp2_with (first|((with_reducible refine zK (N:=4) rfl ?_);refine Kd.z6M (Kd.int .u64) _ 28 ?hg (N:=4) ?hd (xs:=([6148914691236517205,3689348814741910323,1085102592571150095,71777214294589695,281470681808895,4294967295] : List Int)) (inner:=[.int .u64 6148914691236517205,.int .u64 3689348814741910323,.int .u64 1085102592571150095,.int .u64 71777214294589695,.int .u64 281470681808895,.int .u64 4294967295]) (ok:=fun _=>True) (okp:=fun _=>True) ?hr ?hp (fun _ hk=>hk) trivial (Below.refl _ _) (Nat.le_refl _) (by simp) ?_;(case hd=>rfl);(case hg=>rfl);(case hr=>first|(go_simp;done)|(go_simp;rfl));(case hp=>exact (Reps.one (show Kd.M (Kd.int .u64) _ _ _ 6148914691236517205 [.int .u64 6148914691236517205] from rfl) (Reps.one (show Kd.M (Kd.int .u64) _ _ _ 3689348814741910323 [.int .u64 3689348814741910323] from rfl) (Reps.one (show Kd.M (Kd.int .u64) _ _ _ 1085102592571150095 [.int .u64 1085102592571150095] from rfl) (Reps.one (show Kd.M (Kd.int .u64) _ _ _ 71777214294589695 [.int .u64 71777214294589695] from rfl) (Reps.one (show Kd.M (Kd.int .u64) _ _ _ 281470681808895 [.int .u64 281470681808895] from rfl) (Reps.one (show Kd.M (Kd.int .u64) _ _ _ 4294967295 [.int .u64 4294967295] from rfl) (Reps.none _ _))))))));intro v102 w4 ho5 hb hg_ hnew_;clear hg_ hnew_;(first|rw [← Ny101.out] at ho5|(simp only [Int.reduceToNat] at ho5;rw [← Ny101.out] at ho5));have n0_:=z2.mk (Kd.z1l ho5 (zb (by repeat (first|(with_reducible first|exact HB.out|apply z4|apply z1|apply z3)|exact HB.out))));have n1_:=z2.mk (za (by repeat (first|(with_reducible first|exact HB.out|apply z4|apply z1|apply z3)|exact HB.out)) hb);clear HB;have HO103:=n0_;have HB:=n1_;clear n0_ n1_;clear hb ho5;obtain ⟨Ao6,co6,eo6⟩:=Kd.z1d HO103.out;subst eo6;have p104 : 0 ≤ (a0 : Int):=of_decide_eq_true (by first|(with_reducible assumption)|assumption);have q104 : a0 < (y101.length : Int):=of_decide_eq_true (by first|(with_reducible assumption)|assumption);obtain ⟨ad104,e104,hx104_0⟩:=Kd.at_int (Kd.zI HO103.out).2.2 a0 p104 q104;cases e104;replace p104:=eq_true p104;replace q104:=eq_true q104))
 go_ret
 exact ⟨by first|rfl|(simp [zk,zl] <;> rfl)|(simp [*,zk,zl] <;> rfl),by repeat (first|(with_reducible first|exact HB.out|apply z4|apply z1|apply z3)|exact HB.out)⟩
end Go.Proofs.Ytkhmpaooinpfoaa.P
namespace Go.Proofs.Ytkhmpaooinpfoaa.P
open Go.RowKit Go.Proofs.YtkhmpaooinpfoaaW.PrintWords Go.Proofs.YtkhmpaooinpfoaaW.PrintLast Go.Proofs.YtkhmpaooinpfoaaW.PrintMore
attribute [local go_sem] z15 z17 z1f z1g zW zX z16 z18   -- for this text's walks alone
set_option linter.unusedVariables false
set_option linter.unusedSimpArgs false
def zt.f : Nat → Int → Int → Option (Int)
 | 0,_,_=>none
 | k + 1,a0,a1=>if a0 < 0 then (some a1) else (if 0 ≤ (IntKind.u64.wrap (a0)) then ((z1c.f a0).bind fun t101=>((z1c.f a0).bind fun t102=>((zt.f k (wrap64 (a0 - 1)) (Go.bits .and .u64 (shr .u64 a1 (shl .u64 1 (IntKind.u64.wrap (a0)))) t101)).bind fun t103=>(some (Go.bits .or .u64 (shl .u64 (Go.bits .xor .u64 (Go.bits .and .u64 a1 t102) t103) (shl .u64 1 (IntKind.u64.wrap (a0)))) (Go.bits .and .u64 (shr .u64 a1 (shl .u64 1 (IntKind.u64.wrap (a0)))) t101)))))) else (none))
theorem zt.z1b : ∀ k,(∀ y0 y1,LeO (zt.f k y0 y1) (zt.f (k + 1) y0 y1))
 | 0=>fun _ _ r h=>by simp [zt.f] at h
 | k + 1=>by
  have ih0:=zt.z1b k
  · intro y0 y1
    unfold zt.f
    repeat' first
    | (with_reducible exact ih0 _ _)
    | (with_reducible exact LeO.refl _)
    | (with_reducible exact LeO.none _)
    | (with_reducible refine LeO.ite ?_ ?_)
    | (with_reducible refine LeO.bind ?_ (fun _=>?_))
    | exact ih0 _ _
    | exact LeO.none _
    | refine LeO.ite ?_ ?_
    | refine LeO.bind ?_ (fun _=>?_)
theorem zt.mono : ∀ a0 a1 k,LeO (zt.f k a0 a1) (zt.f (k + 1) a0 a1):=by
 intro a0 a1 k
 have ih0:=zt.z1b k
 exact ih0 a0 a1
set_option maxHeartbeats 8000000 in
set_option maxRecDepth 100000 in
theorem zt.calls (k : Nat) : ∀ (a0 : Int) (a1 : Int) (r : Int) (w : World) (h : zt.f k a0 a1 = some r),
 Calls Try.prog 137 #[.int .i64 a0,.int .u64 a1] w fun e w'=>e = .returned (.int .u64 r) ∧ Below w.heap.size w w':=by
 induction k using Nat.strongRecOn with
 | _ k ih =>
 intro a0 a1 r w h
 cases k with
 | zero=>exact absurd h (by simp [zt.f])
 | succ k =>
 simp only [zt.f] at h
 have HB:=z2.mk (Below.refl w.heap.size w)
 have H : (if a0 < 0 then (some a1) else (if 0 ≤ (IntKind.u64.wrap (a0)) then ((z1c.f a0).bind fun t101=>((z1c.f a0).bind fun t102=>((zt.f k (wrap64 (a0 - 1)) (Go.bits .and .u64 (shr .u64 a1 (shl .u64 1 (IntKind.u64.wrap (a0)))) t101)).bind fun t103=>(some (Go.bits .or .u64 (shl .u64 (Go.bits .xor .u64 (Go.bits .and .u64 a1 t102) t103) (shl .u64 1 (IntKind.u64.wrap (a0)))) (Go.bits .and .u64 (shr .u64 a1 (shl .u64 1 (IntKind.u64.wrap (a0)))) t101)))))) else (none))) = some r:=h
 clear h
 by_cases c3 : a0 < 0
 · rw [if_pos c3] at H
   have c3b0 : decide (a0 < 0) = true:=decide_eq_true c3
   clear c3
   obtain rfl:=Option.some.inj H
   go_enter Try.func137,Try.ntmps137
   go_wp2
   go_ret
   exact ⟨by first|rfl|(simp [zk,zl] <;> rfl)|(simp [*,zk,zl] <;> rfl),by repeat (first|(with_reducible first|exact HB.out|apply z4|apply z1|apply z3)|exact HB.out)⟩
 rw [if_neg c3] at H
 have c3b0 : decide (a0 < 0) = false:=decide_eq_false c3
 clear c3
 obtain ⟨ji4,hji4⟩ : ∃ j_ : Int,(IntKind.u64.wrap (a0)) = j_:=⟨_,rfl⟩
 replace H : (if 0 ≤ (ji4) then ((z1c.f a0).bind fun t101=>((z1c.f a0).bind fun t102=>((zt.f k (wrap64 (a0 - 1)) (Go.bits .and .u64 (shr .u64 a1 (shl .u64 1 (ji4))) t101)).bind fun t103=>(some (Go.bits .or .u64 (shl .u64 (Go.bits .xor .u64 (Go.bits .and .u64 a1 t102) t103) (shl .u64 1 (ji4))) (Go.bits .and .u64 (shr .u64 a1 (shl .u64 1 (ji4))) t101)))))) else (none)) = some r:=by first|(rw [hji4] at H;exact H)|(simp only [hji4] at H ⊢;exact H)
 by_cases c5 : 0 ≤ (ji4)
 rotate_left
 · rw [if_neg c5] at H
   exact absurd H (by simp)
 rw [if_pos c5] at H
 have c5b0:=eq_true c5
 have c5b1 : decide (0 ≤ (ji4)) = true:=decide_eq_true c5
 clear c5
 obtain ⟨ji6,hji6⟩ : ∃ j_ : Int,(shl .u64 1 (ji4)) = j_:=⟨_,rfl⟩
 replace H : ((z1c.f a0).bind fun t101=>((z1c.f a0).bind fun t102=>((zt.f k (wrap64 (a0 - 1)) (Go.bits .and .u64 (shr .u64 a1 (ji6)) t101)).bind fun t103=>(some (Go.bits .or .u64 (shl .u64 (Go.bits .xor .u64 (Go.bits .and .u64 a1 t102) t103) (ji6)) (Go.bits .and .u64 (shr .u64 a1 (ji6)) t101)))))) = some r:=by first|(rw [hji6] at H;exact H)|(simp only [hji6] at H ⊢;exact H)
 have hji6_ : (IntKind.u64.wrap (1 * 2 ^ min (ji4).toNat 64)) = ji6:=hji6
 have hji6z : (ji4) ≤ 64 → (IntKind.u64.wrap (1 * 2 ^ (ji4).toNat)) = ji6:=z1U hji6
 have hji6n0 : 0 ≤ ji6:=by rw [← hji6];exact Int.emod_nonneg _ (by decide)
 have hji6n1 : decide (0 ≤ ji6) = true:=decide_eq_true hji6n0
 replace hji6n0:=eq_true hji6n0
 have hji6u : (IntKind.u64.wrap (2 ^ min (ji4).toNat 64)) = ji6:=by have h_:=hji6_;rw [Int.one_mul] at h_;exact h_
 have hji6v : (ji4) ≤ 64 → (IntKind.u64.wrap (2 ^ (ji4).toNat)) = ji6:=fun hle_=>by have h_:=hji6z hle_;rw [Int.one_mul] at h_;exact h_
 obtain ⟨ji7,hji7⟩ : ∃ j_ : Int,(shr .u64 a1 (ji6)) = j_:=⟨_,rfl⟩
 replace H : ((z1c.f a0).bind fun t101=>((z1c.f a0).bind fun t102=>((zt.f k (wrap64 (a0 - 1)) (Go.bits .and .u64 (ji7) t101)).bind fun t103=>(some (Go.bits .or .u64 (shl .u64 (Go.bits .xor .u64 (Go.bits .and .u64 a1 t102) t103) (ji6)) (Go.bits .and .u64 (ji7) t101)))))) = some r:=by first|(rw [hji7] at H;exact H)|(simp only [hji7] at H ⊢;exact H)
 have hji7_ : (a1 / 2 ^ min (ji6).toNat 64) = ji7:=hji7
 have hji7z : (ji6) ≤ 64 → (a1 / 2 ^ (ji6).toNat) = ji7:=z2F hji7
 replace H:=Option.bind_eq_some_iff.mp H
 obtain ⟨t101,A80,H⟩:=H
 replace H : ((z1c.f a0).bind fun t102=>((zt.f k (wrap64 (a0 - 1)) (Go.bits .and .u64 (ji7) t101)).bind fun t103=>(some (Go.bits .or .u64 (shl .u64 (Go.bits .xor .u64 (Go.bits .and .u64 a1 t102) t103) (ji6)) (Go.bits .and .u64 (ji7) t101))))) = some r:=H
 have A8:=z2.mk A80
 clear A80
 replace H:=Option.bind_eq_some_iff.mp H
 obtain ⟨t102,A90,H⟩:=H
 replace H : ((zt.f k (wrap64 (a0 - 1)) (Go.bits .and .u64 (ji7) t101)).bind fun t103=>(some (Go.bits .or .u64 (shl .u64 (Go.bits .xor .u64 (Go.bits .and .u64 a1 t102) t103) (ji6)) (Go.bits .and .u64 (ji7) t101)))) = some r:=H
 have A9:=z2.mk A90
 clear A90
 replace H:=Option.bind_eq_some_iff.mp H
 obtain ⟨t103,A100,H⟩:=H
 replace H : (some (Go.bits .or .u64 (shl .u64 (Go.bits .xor .u64 (Go.bits .and .u64 a1 t102) t103) (ji6)) (Go.bits .and .u64 (ji7) t101))) = some r:=H
 have A10:=z2.mk A100
 clear A100
 obtain ⟨ji11,hji11⟩ : ∃ j_ : Int,(shl .u64 (Go.bits .xor .u64 (Go.bits .and .u64 a1 t102) t103) (ji6)) = j_:=⟨_,rfl⟩
 replace H : (some (Go.bits .or .u64 (ji11) (Go.bits .and .u64 (ji7) t101))) = some r:=by first|(rw [hji11] at H;exact H)|(simp only [hji11] at H ⊢;exact H)
 (try rw [hji11] at A8)
 (try rw [hji11] at A9)
 (try rw [hji11] at A10)
 have hji11_ : (IntKind.u64.wrap ((Go.bits .xor .u64 (Go.bits .and .u64 a1 t102) t103) * 2 ^ min (ji6).toNat 64)) = ji11:=hji11
 have hji11z : (ji6) ≤ 64 → (IntKind.u64.wrap ((Go.bits .xor .u64 (Go.bits .and .u64 a1 t102) t103) * 2 ^ (ji6).toNat)) = ji11:=z1U hji11
 have hji11n0 : 0 ≤ ji11:=by rw [← hji11];exact Int.emod_nonneg _ (by decide)
 have hji11n1 : decide (0 ≤ ji11) = true:=decide_eq_true hji11n0
 replace hji11n0:=eq_true hji11n0
 obtain rfl:=Option.some.inj H
 go_enter Try.func137,Try.ntmps137
 go_wp2_with (first|((with_reducible refine zj (f:=147) rfl ?_);refine goesL_ (some 18) rfl rfl Try.func147 (by kernel_rfl) rfl #[.int .i64 a0] rfl (by (try simp only [List.map_toArray,List.map_cons,List.map_nil]);first|done|rfl|(simp only [List.length_drop,List.length_take];rfl)) ?_;(with_reducible refine (z1c.calls a0 t101 _ A8.out).mono ?_);rintro e w12 ⟨rfl,hb⟩;refine ⟨_,rfl,?_⟩;have n0_:=z2.mk (za (by repeat (first|(with_reducible first|exact HB.out|apply z4|apply z1|apply z3)|exact HB.out)) hb);clear HB;have HB:=n0_;clear n0_;(try clear hb);(try clear hb2);(try clear hk);(try clear hi))|((with_reducible refine zj (f:=147) rfl ?_);refine goesL_ (some 22) rfl rfl Try.func147 (by kernel_rfl) rfl #[.int .i64 a0] rfl (by (try simp only [List.map_toArray,List.map_cons,List.map_nil]);first|done|rfl|(simp only [List.length_drop,List.length_take];rfl)) ?_;(with_reducible refine (z1c.calls a0 t102 _ A9.out).mono ?_);rintro e w13 ⟨rfl,hb⟩;refine ⟨_,rfl,?_⟩;have n0_:=z2.mk (za (by repeat (first|(with_reducible first|exact HB.out|apply z4|apply z1|apply z3)|exact HB.out)) hb);clear HB;have HB:=n0_;clear n0_;(try clear hb);(try clear hb2);(try clear hk);(try clear hi))|((with_reducible refine zj (f:=137) rfl ?_);refine goesL_ (some 28) rfl rfl Try.func137 (by kernel_rfl) rfl #[.int .i64 (wrap64 (a0 - 1)),.int .u64 (Go.bits .and .u64 (ji7) t101)] rfl (by (try simp only [List.map_toArray,List.map_cons,List.map_nil]);first|done|(simp only [hji7];rfl)|rfl|(simp only [List.length_drop,List.length_take];rfl)) ?_;(with_reducible refine (ih k (by omega) (wrap64 (a0 - 1)) (Go.bits .and .u64 (ji7) t101) t103 _ A10.out).mono ?_);rintro e w14 ⟨rfl,hb⟩;refine ⟨_,rfl,?_⟩;have n0_:=z2.mk (za (by repeat (first|(with_reducible first|exact HB.out|apply z4|apply z1|apply z3)|exact HB.out)) hb);clear HB;have HB:=n0_;clear n0_;(try clear hb);(try clear hb2);(try clear hk);(try clear hi)))
 go_ret
 exact ⟨by first|rfl|(simp [zk,zl] <;> rfl)|(simp only [← hji4,← hji6,← hji7,← hji11];first|rfl|(simp [zk,zl] <;> rfl))|(simp [*,zk,zl] <;> rfl),by repeat (first|(with_reducible first|exact HB.out|apply z4|apply z1|apply z3)|exact HB.out)⟩
end Go.Proofs.Ytkhmpaooinpfoaa.P
namespace Go.Proofs.Ytkhmpaooinpfoaa.P
open Go.RowKit Go.Proofs.YtkhmpaooinpfoaaW.PrintWords Go.Proofs.YtkhmpaooinpfoaaW.PrintLast Go.Proofs.YtkhmpaooinpfoaaW.PrintMore
attribute [local go_sem] z15 z17 z1f z1g zW zX z16 z18   -- for this text's walks alone
set_option linter.unusedVariables false
set_option linter.unusedSimpArgs false
def zB.f (k : Nat) (a0 : Int) (a1_0 : Int) (a1_1 : Int) : Option (Int × Int):=if a0 < 6 then ((zt.f k a0 a1_0).bind fun t103=>((zt.f k a0 a1_1).bind fun t104=>(some (t103,t104)))) else ((zt.f k 5 a1_0).bind fun t105=>(some (Go.bits .xor .u64 a1_1 t105,a1_0)))
theorem zB.mono : ∀ a0 a1 a2 k,LeO (zB.f k a0 a1 a2) (zB.f (k + 1) a0 a1 a2):=by
 intro a0 a1 a2 k
 unfold zB.f
 repeat' first
  | (with_reducible exact zt.mono _ _ _)
  | (with_reducible exact LeO.refl _)
  | (with_reducible exact LeO.none _)
  | (with_reducible refine LeO.ite ?_ ?_)
  | (with_reducible refine LeO.bind ?_ (fun _=>?_))
  | exact zt.mono _ _ _
  | exact LeO.none _
  | refine LeO.ite ?_ ?_
  | refine LeO.bind ?_ (fun _=>?_)
def zB.T2 : Bool × List (List Nat × List Nat):=(true,[([],[]),([],[]),([1],[1]),([0,2],[0,2]),([],[]),([],[]),([5],[5]),([4,6,3],[4,6]),([3,7],[3,7]),([8,7,0,1,2,3,4,5,6,7,8],[8])])
def zB.B2 : List Nat:=[0,0,2,7,0,0,32,127,255,511]
theorem zB.tab2 : rtab .any (opsOf Try.f110 2) = zB.T2:=by kernel_rfl
theorem zB.bits2 : waitsOk zB.T2.2 zB.B2 = true:=by kernel_rfl
def zB.T3 : Bool × List (List Nat × List Nat):=(true,[([],[]),([0],[0]),([],[]),([2],[2]),([3],[3]),([1,4],[1,4]),([],[]),([6],[6]),([5,7],[5,7]),([8,4,0,1,2,3,4,5,6,7,8],[8])])
def zB.B3 : List Nat:=[0,1,0,4,12,31,0,64,255,511]
theorem zB.tab3 : rtab .any (opsOf Try.f110 3) = zB.T3:=by kernel_rfl
theorem zB.bits3 : waitsOk zB.T3.2 zB.B3 = true:=by kernel_rfl
set_option maxHeartbeats 8000000 in
set_option maxRecDepth 100000 in
theorem zB.calls (k : Nat) (a0 : Int) (a1_0 : Int) (a1_1 : Int) (r1 : Int) (r2 : Int) (w : World) (h : zB.f k a0 a1_0 a1_1 = some (r1,r2)) :
 Calls Try.prog 110 #[.int .i64 a0,.agg #[.int .u64 a1_0,.int .u64 a1_1]] w fun e w'=>e = .returned (.agg #[.int .u64 r1,.int .u64 r2]) ∧ Below w.heap.size w w':=by
 have hu40:=Try.underlying40
 have HB:=z2.mk (Below.refl w.heap.size w)
 have H : (if a0 < 6 then ((zt.f k a0 a1_0).bind fun t103=>((zt.f k a0 a1_1).bind fun t104=>(some (t103,t104)))) else ((zt.f k 5 a1_0).bind fun t105=>(some (Go.bits .xor .u64 a1_1 t105,a1_0)))) = some (r1,r2):=h
 clear h
 by_cases c3 : a0 < 6
 rotate_left
 · rw [if_neg c3] at H
   have c3b0 : decide (a0 < 6) = false:=decide_eq_false c3
   clear c3
   replace H:=Option.bind_eq_some_iff.mp H
   obtain ⟨t105,A130,H⟩:=H
   replace H : (some (Go.bits .xor .u64 a1_1 t105,a1_0)) = some (r1,r2):=H
   have A13:=z2.mk A130
   clear A130
   simp only [Option.some.injEq,Prod.mk.injEq] at H
   obtain ⟨rfl,rfl⟩:=H
   go_enter Try.func110,Try.ntmps110
   try go_wp2_with (first|((with_reducible refine zK (N:=3) rfl ?_);refine zJ ?hg (N:=3) ?hd (cs:=#[.int .u64 a1_0,.int .u64 a1_1]) (t:=40) ?hr ?_;(case hd=>rfl);(case hg=>rfl);(case hr=>first|(go_simp;done)|(go_simp;rfl));intro gb101 hg w14 hbox hb;have n0_:=z2.mk (za (by repeat (first|(with_reducible first|exact HB.out|apply z4|apply z1|apply z3)|exact HB.out)) hb);have n1_:=z2.mk (hbox);have n2_:=z2.mk ((by rw [hg];exact (zb (by repeat (first|(with_reducible first|exact HB.out|apply z4|apply z1|apply z3)|exact HB.out))) : w.heap.size ≤ gb101));have n3_:=z2.mk ((by rw [hg];exact (zb (by repeat (first|(with_reducible first|exact HB.out|apply z4|apply z1|apply z3)|exact HB.out))) : w.heap.size ≤ gb101));clear HB;have HB:=n0_;have BK101:=n1_;have GW101:=n2_;have GE101:=n3_;clear n0_ n1_ n2_ n3_;clear hb hbox hg)|((with_reducible refine zK (N:=4) rfl ?_);refine zJ ?hg (N:=4) ?hd (cs:=#[.int .u64 0,.int .u64 0]) (t:=40) ?hr ?_;(case hd=>rfl);(case hg=>rfl);(case hr=>first|(go_simp;done)|(go_simp;rfl));intro gb102 hg w15 hbox hb;have n0_:=z2.mk (zg (g:=gb101) (o:=.cells #[.int .u64 a1_0,.int .u64 a1_1] 40 (0,0)) (by (with_reducible repeat (first|refine z6 ?_ _|refine z8 ?_|refine z5 ?_ _));exact BK101.out) hb);have n1_:=z2.mk (za (by repeat (first|(with_reducible first|exact HB.out|apply z4|apply z1|apply z3|refine z9 ?_ GE101.out)|exact HB.out)) hb);have n2_:=z2.mk (hbox);have n3_:=z2.mk ((by rw [hg];exact (zb (by repeat (first|(with_reducible first|exact HB.out|apply z4|apply z1|apply z3|refine z9 ?_ GE101.out)|exact HB.out))) : w.heap.size ≤ gb102));have n4_:=z2.mk ((by rw [hg];exact (zb (by repeat (first|(with_reducible first|exact HB.out|apply z4|apply z1|apply z3|refine z9 ?_ GE101.out)|exact HB.out))) : w.heap.size ≤ gb102));have n5_:=z2.mk ((by rw [hg];exact Nat.ne_of_lt (zV (g:=gb101) (o:=.cells #[.int .u64 a1_0,.int .u64 a1_1] 40 (0,0)) (by (with_reducible repeat (first|refine z6 ?_ _|refine z8 ?_|refine z5 ?_ _));exact BK101.out)) : gb101 ≠ gb102));have n6_:=z2.mk ((by rw [hg];exact Nat.ne_of_gt (zV (g:=gb101) (o:=.cells #[.int .u64 a1_0,.int .u64 a1_1] 40 (0,0)) (by (with_reducible repeat (first|refine z6 ?_ _|refine z8 ?_|refine z5 ?_ _));exact BK101.out)) : gb102 ≠ gb101));clear BK101;clear HB;have BK101:=n0_;have HB:=n1_;have BK102:=n2_;have GW102:=n3_;have GE102:=n4_;have NB101_102:=n5_;have NB102_101:=n6_;clear n0_ n1_ n2_ n3_ n4_ n5_ n6_;clear hb hbox hg))
   have n0_:=z2.mk (z8 BK101.out)
   have n1_:=z2.mk (z8 BK102.out)
   have n2_:=z2.mk (z3 HB.out)
   clear BK101
   clear BK102
   clear HB
   have BK101:=n0_
   have BK102:=n1_
   have HB:=n2_
   clear n0_ n1_ n2_
   refine start_ (n:=10) (S:=fun w'=>w'.cell? ⟨gb101,0,none⟩ = some (.int .u64 a1_0) ∧ w'.cell? ⟨gb101,1,none⟩ = some (.int .u64 a1_1)) (ds:=[]) #[false,false,false,false,false,false,false,false,false,false] (by kernel_rfl) rfl rfl ⟨(zc BK101.out 0).trans rfl,(zc BK101.out 1).trans rfl⟩ (fun hHeld=>?_);refine z2d zB.tab3 zB.bits3 (fun HT_ HW_=>?_)
   generalize w15.drew = w16 at BK101 BK102 HB hHeld ⊢
   refine pure_ (i:=0) (N:=some 16) (v:=?_) (a':=?_) #[true,false,false,false,false,false,false,false,false,false] rfl rfl (z1i HT_.out (by kernel_rfl)) (fun _ _ _ h=>h) (Or.inl ⟨by rfl,?_⟩) ?_ ?_
   rotate_left
   · intro w'
     go_simp
     with_reducible rfl
   rotate_left
   · simp only [Act.put,List.setIfInBounds_toArray,List.set_cons_zero,List.set_cons_succ,zZ,z14]
     rfl
   refine pure_ (i:=2) (N:=some 18) (v:=?_) (a':=?_) #[true,false,true,false,false,false,false,false,false,false] rfl rfl (z1i HT_.out (by kernel_rfl)) (fun _ _ _ h=>h) (Or.inl ⟨by rfl,?_⟩) ?_ ?_
   rotate_left
   · intro w'
     go_simp
     with_reducible rfl
   rotate_left
   · simp only [Act.put,List.setIfInBounds_toArray,List.set_cons_zero,List.set_cons_succ,zZ,z14]
     rfl
   refine pure_ (i:=6) (N:=some 22) (v:=?_) (a':=?_) #[true,false,true,false,false,false,true,false,false,false] rfl rfl (z1i HT_.out (by kernel_rfl)) (fun _ _ _ h=>h) (Or.inl ⟨by rfl,?_⟩) ?_ ?_
   rotate_left
   · intro w'
     go_simp
     with_reducible rfl
   rotate_left
   · simp only [Act.put,List.setIfInBounds_toArray,List.set_cons_zero,List.set_cons_succ,zZ,z14]
     rfl
   refine take_ (i:=1) (N:=some 17) (v:=?_) (a':=?_) #[true,true,true,false,false,false,true,false,false,false] rfl rfl (z1F HT_.out HW_.out (by kernel_rfl)) (fun _ _ _ h=>h) (Or.inl ⟨by rfl,?_⟩) hHeld ?_ ?_
   rotate_left
   · rintro w' ⟨s0,s1⟩
     go_simp
     with_reducible rfl
   rotate_left
   · simp only [Act.put,List.setIfInBounds_toArray,List.set_cons_zero,List.set_cons_succ,zZ,z14]
     rfl
   refine take_ (i:=3) (N:=some 19) (v:=?_) (a':=?_) #[true,true,true,true,false,false,true,false,false,false] rfl rfl (z1F HT_.out HW_.out (by kernel_rfl)) (fun _ _ _ h=>h) (Or.inl ⟨by rfl,?_⟩) hHeld ?_ ?_
   rotate_left
   · rintro w' ⟨s0,s1⟩
     go_simp
     with_reducible rfl
   rotate_left
   · simp only [Act.put,List.setIfInBounds_toArray,List.set_cons_zero,List.set_cons_succ,zZ,z14]
     rfl
   refine take_ (i:=7) (N:=some 23) (v:=?_) (a':=?_) #[true,true,true,true,false,false,true,true,false,false] rfl rfl (z1F HT_.out HW_.out (by kernel_rfl)) (fun _ _ _ h=>h) (Or.inl ⟨by rfl,?_⟩) hHeld ?_ ?_
   rotate_left
   · rintro w' ⟨s0,s1⟩
     go_simp
     with_reducible rfl
   rotate_left
   · simp only [Act.put,List.setIfInBounds_toArray,List.set_cons_zero,List.set_cons_succ,zZ,z14]
     rfl
   refine one_ (i:=4) (N:=some 20) #[true,true,true,true,true,false,true,true,false,false] rfl rfl (z21 HT_.out (by kernel_rfl)) (by decide) (fun K hK=>?_)
   refine goes_ Try.func137 (by kernel_rfl) rfl #[.int .i64 5,.int .u64 a1_0] (by rfl) rfl rfl (by (try simp only [List.map_toArray,List.map_cons,List.map_nil]);first|done|rfl|(simp only [List.length_drop,List.length_take];rfl)) ?_
   with_reducible refine (zt.calls k 5 a1_0 t105 _ A13.out).mono ?_
   rintro e w17 ⟨rfl,hb⟩
   refine ⟨_,rfl,?_⟩
   have n0_:=z2.mk (zg (g:=gb101) (o:=.cells #[.int .u64 a1_0,.int .u64 a1_1] 40 (0,0)) (by (with_reducible repeat (first|refine z6 ?_ _|refine z8 ?_|refine z5 ?_ _));exact BK101.out) hb)
   have n1_:=z2.mk (zg (g:=gb102) (o:=.cells #[.int .u64 0,.int .u64 0] 40 (0,0)) (by (with_reducible repeat (first|refine z6 ?_ _|refine z8 ?_|refine z5 ?_ _));exact BK102.out) hb)
   have n2_:=z2.mk (za (by repeat (first|(with_reducible first|exact HB.out|apply z4|apply z1|apply z3|refine z9 ?_ GE101.out|refine z9 ?_ GE102.out)|exact HB.out)) hb)
   clear BK101
   clear BK102
   clear HB
   have BK101:=n0_
   have BK102:=n1_
   have HB:=n2_
   clear n0_ n1_ n2_
   (try clear hb)
   (try clear hb2)
   (try clear hk)
   (try clear hi)
   refine hK.out _ _ ⟨(zc BK101.out 0).trans rfl,(zc BK101.out 1).trans rfl⟩ (fun hHeld=>?_)
   clear hK K
   refine norm_ (a':=?_) ?_ ?_
   rotate_left
   · show Act.put _ (some 20) _ = _
     simp only [Act.put,List.setIfInBounds_toArray,List.set_cons_zero,List.set_cons_succ,zZ,z14]
     rfl
   refine pure_ (i:=5) (N:=some 21) (v:=?_) (a':=?_) #[true,true,true,true,true,true,true,true,false,false] rfl rfl (z1i HT_.out (by kernel_rfl)) (fun _ _ _ h=>h) (Or.inl ⟨by rfl,?_⟩) ?_ ?_
   rotate_left
   · intro w'
     go_simp
     with_reducible rfl
   rotate_left
   · simp only [Act.put,List.setIfInBounds_toArray,List.set_cons_zero,List.set_cons_succ,zZ,z14]
     rfl
   refine pure_ (i:=8) (N:=some 24) (v:=?_) (a':=?_) #[true,true,true,true,true,true,true,true,true,false] rfl rfl (z1i HT_.out (by kernel_rfl)) (fun _ _ _ h=>h) (Or.inl ⟨by rfl,?_⟩) ?_ ?_
   rotate_left
   · intro w'
     go_simp
     with_reducible rfl
   rotate_left
   · simp only [Act.put,List.setIfInBounds_toArray,List.set_cons_zero,List.set_cons_succ,zZ,z14]
     rfl
   refine one_ (i:=9) (N:=none) #[true,true,true,true,true,true,true,true,true,true] rfl rfl (z21 HT_.out (by kernel_rfl)) (by decide) (fun K hK=>?_)
   have hs18 : w17.cell? ⟨gb102,0,none⟩ = some (.int .u64 0):=(zc BK102.out 0).trans rfl
   have hfs18:=zd BK102.out 0
   have hns18_0:=NB101_102.out
   have hms18_0:=NB102_101.out
   have hs19 : w17.cell? ⟨gb102,1,none⟩ = some (.int .u64 0):=(zc BK102.out 1).trans rfl
   have hfs19:=zd BK102.out 1
   have hns19_0:=NB101_102.out
   have hms19_0:=NB102_101.out
   refine skip_ (w1:=?_) (by rfl) rfl ?_ ?_
   rotate_left
   · go_simp
     rfl
   refine hK.out _ _ ⟨((z2t (p:=⟨gb102,_,none⟩) NB101_102.out _).trans (((z2t (p:=⟨gb102,_,none⟩) NB101_102.out _).trans (hHeld.1)))),((z2t (p:=⟨gb102,_,none⟩) NB101_102.out _).trans (((z2t (p:=⟨gb102,_,none⟩) NB101_102.out _).trans (hHeld.2))))⟩ (fun hHeld=>?_)
   clear hK K
   refine done_ (z2A HT_.out (by kernel_rfl)) ?_
   try go_wp2
   refine bodyPost_ret (results_cell_row rfl _ _ gb102 40 #[.int .u64 (Go.bits .xor .u64 a1_1 t105),.int .u64 a1_0] (0,0) _ rfl (by (with_reducible repeat (first|refine z6 ?_ _|refine z8 ?_|refine z5 ?_ _));refine z11 (cs:=#[.int .u64 (Go.bits .xor .u64 a1_1 t105),.int .u64 0]) ?_ 1 _ rfl;(with_reducible repeat (first|refine z6 ?_ _|refine z8 ?_|refine z5 ?_ _));refine z11 (cs:=#[.int .u64 0,.int .u64 0]) ?_ 0 _ rfl;(with_reducible repeat (first|refine z6 ?_ _|refine z8 ?_|refine z5 ?_ _));exact BK102.out) Try.underlying40 rfl (by kernel_rfl)) rfl ?_
   exact ⟨by first|rfl|(simp [zk,zl] <;> rfl)|(simp [*,zk,zl] <;> rfl),by repeat (first|(with_reducible first|exact HB.out|apply z4|apply z1|apply z3|refine z9 ?_ GE101.out|refine z9 ?_ GE102.out)|exact HB.out)⟩
 rw [if_pos c3] at H
 have c3b0 : decide (a0 < 6) = true:=decide_eq_true c3
 clear c3
 replace H:=Option.bind_eq_some_iff.mp H
 obtain ⟨t103,A40,H⟩:=H
 replace H : ((zt.f k a0 a1_1).bind fun t104=>(some (t103,t104))) = some (r1,r2):=H
 have A4:=z2.mk A40
 clear A40
 replace H:=Option.bind_eq_some_iff.mp H
 obtain ⟨t104,A50,H⟩:=H
 replace H : (some (t103,t104)) = some (r1,r2):=H
 have A5:=z2.mk A50
 clear A50
 simp only [Option.some.injEq,Prod.mk.injEq] at H
 obtain ⟨rfl,rfl⟩:=H
 go_enter Try.func110,Try.ntmps110
 try go_wp2_with (first|((with_reducible refine zK (N:=3) rfl ?_);refine zJ ?hg (N:=3) ?hd (cs:=#[.int .u64 a1_0,.int .u64 a1_1]) (t:=40) ?hr ?_;(case hd=>rfl);(case hg=>rfl);(case hr=>first|(go_simp;done)|(go_simp;rfl));intro gb101 hg w6 hbox hb;have n0_:=z2.mk (za (by repeat (first|(with_reducible first|exact HB.out|apply z4|apply z1|apply z3)|exact HB.out)) hb);have n1_:=z2.mk (hbox);have n2_:=z2.mk ((by rw [hg];exact (zb (by repeat (first|(with_reducible first|exact HB.out|apply z4|apply z1|apply z3)|exact HB.out))) : w.heap.size ≤ gb101));have n3_:=z2.mk ((by rw [hg];exact (zb (by repeat (first|(with_reducible first|exact HB.out|apply z4|apply z1|apply z3)|exact HB.out))) : w.heap.size ≤ gb101));clear HB;have HB:=n0_;have BK101:=n1_;have GW101:=n2_;have GE101:=n3_;clear n0_ n1_ n2_ n3_;clear hb hbox hg)|((with_reducible refine zK (N:=4) rfl ?_);refine zJ ?hg (N:=4) ?hd (cs:=#[.int .u64 0,.int .u64 0]) (t:=40) ?hr ?_;(case hd=>rfl);(case hg=>rfl);(case hr=>first|(go_simp;done)|(go_simp;rfl));intro gb102 hg w7 hbox hb;have n0_:=z2.mk (zg (g:=gb101) (o:=.cells #[.int .u64 a1_0,.int .u64 a1_1] 40 (0,0)) (by (with_reducible repeat (first|refine z6 ?_ _|refine z8 ?_|refine z5 ?_ _));exact BK101.out) hb);have n1_:=z2.mk (za (by repeat (first|(with_reducible first|exact HB.out|apply z4|apply z1|apply z3|refine z9 ?_ GE101.out)|exact HB.out)) hb);have n2_:=z2.mk (hbox);have n3_:=z2.mk ((by rw [hg];exact (zb (by repeat (first|(with_reducible first|exact HB.out|apply z4|apply z1|apply z3|refine z9 ?_ GE101.out)|exact HB.out))) : w.heap.size ≤ gb102));have n4_:=z2.mk ((by rw [hg];exact (zb (by repeat (first|(with_reducible first|exact HB.out|apply z4|apply z1|apply z3|refine z9 ?_ GE101.out)|exact HB.out))) : w.heap.size ≤ gb102));have n5_:=z2.mk ((by rw [hg];exact Nat.ne_of_lt (zV (g:=gb101) (o:=.cells #[.int .u64 a1_0,.int .u64 a1_1] 40 (0,0)) (by (with_reducible repeat (first|refine z6 ?_ _|refine z8 ?_|refine z5 ?_ _));exact BK101.out)) : gb101 ≠ gb102));have n6_:=z2.mk ((by rw [hg];exact Nat.ne_of_gt (zV (g:=gb101) (o:=.cells #[.int .u64 a1_0,.int .u64 a1_1] 40 (0,0)) (by (with_reducible repeat (first|refine z6 ?_ _|refine z8 ?_|refine z5 ?_ _));exact BK101.out)) : gb102 ≠ gb101));clear BK101;clear HB;have BK101:=n0_;have HB:=n1_;have BK102:=n2_;have GW102:=n3_;have GE102:=n4_;have NB101_102:=n5_;have NB102_101:=n6_;clear n0_ n1_ n2_ n3_ n4_ n5_ n6_;clear hb hbox hg))
 have n0_:=z2.mk (z8 BK101.out)
 have n1_:=z2.mk (z8 BK102.out)
 have n2_:=z2.mk (z3 HB.out)
 clear BK101
 clear BK102
 clear HB
 have BK101:=n0_
 have BK102:=n1_
 have HB:=n2_
 clear n0_ n1_ n2_
 refine start_ (n:=10) (S:=fun w'=>w'.cell? ⟨gb101,0,none⟩ = some (.int .u64 a1_0) ∧ w'.cell? ⟨gb101,1,none⟩ = some (.int .u64 a1_1)) (ds:=[]) #[false,false,false,false,false,false,false,false,false,false] (by kernel_rfl) rfl rfl ⟨(zc BK101.out 0).trans rfl,(zc BK101.out 1).trans rfl⟩ (fun hHeld=>?_);refine z2d zB.tab2 zB.bits2 (fun HT_ HW_=>?_)
 generalize w7.drew = w8 at BK101 BK102 HB hHeld ⊢
 refine pure_ (i:=0) (N:=some 7) (v:=?_) (a':=?_) #[true,false,false,false,false,false,false,false,false,false] rfl rfl (z1i HT_.out (by kernel_rfl)) (fun _ _ _ h=>h) (Or.inl ⟨by rfl,?_⟩) ?_ ?_
 rotate_left
 · intro w'
   go_simp
   with_reducible rfl
 rotate_left
 · simp only [Act.put,List.setIfInBounds_toArray,List.set_cons_zero,List.set_cons_succ,zZ,z14]
   rfl
 refine pure_ (i:=1) (N:=some 8) (v:=?_) (a':=?_) #[true,true,false,false,false,false,false,false,false,false] rfl rfl (z1i HT_.out (by kernel_rfl)) (fun _ _ _ h=>h) (Or.inl ⟨by rfl,?_⟩) ?_ ?_
 rotate_left
 · intro w'
   go_simp
   with_reducible rfl
 rotate_left
 · simp only [Act.put,List.setIfInBounds_toArray,List.set_cons_zero,List.set_cons_succ,zZ,z14]
   rfl
 refine pure_ (i:=4) (N:=some 11) (v:=?_) (a':=?_) #[true,true,false,false,true,false,false,false,false,false] rfl rfl (z1i HT_.out (by kernel_rfl)) (fun _ _ _ h=>h) (Or.inl ⟨by rfl,?_⟩) ?_ ?_
 rotate_left
 · intro w'
   go_simp
   with_reducible rfl
 rotate_left
 · simp only [Act.put,List.setIfInBounds_toArray,List.set_cons_zero,List.set_cons_succ,zZ,z14]
   rfl
 refine pure_ (i:=5) (N:=some 12) (v:=?_) (a':=?_) #[true,true,false,false,true,true,false,false,false,false] rfl rfl (z1i HT_.out (by kernel_rfl)) (fun _ _ _ h=>h) (Or.inl ⟨by rfl,?_⟩) ?_ ?_
 rotate_left
 · intro w'
   go_simp
   with_reducible rfl
 rotate_left
 · simp only [Act.put,List.setIfInBounds_toArray,List.set_cons_zero,List.set_cons_succ,zZ,z14]
   rfl
 refine take_ (i:=2) (N:=some 9) (v:=?_) (a':=?_) #[true,true,true,false,true,true,false,false,false,false] rfl rfl (z1F HT_.out HW_.out (by kernel_rfl)) (fun _ _ _ h=>h) (Or.inl ⟨by rfl,?_⟩) hHeld ?_ ?_
 rotate_left
 · rintro w' ⟨s0,s1⟩
   go_simp
   with_reducible rfl
 rotate_left
 · simp only [Act.put,List.setIfInBounds_toArray,List.set_cons_zero,List.set_cons_succ,zZ,z14]
   rfl
 refine take_ (i:=6) (N:=some 13) (v:=?_) (a':=?_) #[true,true,true,false,true,true,true,false,false,false] rfl rfl (z1F HT_.out HW_.out (by kernel_rfl)) (fun _ _ _ h=>h) (Or.inl ⟨by rfl,?_⟩) hHeld ?_ ?_
 rotate_left
 · rintro w' ⟨s0,s1⟩
   go_simp
   with_reducible rfl
 rotate_left
 · simp only [Act.put,List.setIfInBounds_toArray,List.set_cons_zero,List.set_cons_succ,zZ,z14]
   rfl
 refine one_ (i:=3) (N:=some 10) #[true,true,true,true,true,true,true,false,false,false] rfl rfl (z21 HT_.out (by kernel_rfl)) (by decide) (fun K hK=>?_)
 refine goes_ Try.func137 (by kernel_rfl) rfl #[.int .i64 a0,.int .u64 a1_0] (by rfl) rfl rfl (by (try simp only [List.map_toArray,List.map_cons,List.map_nil]);first|done|rfl|(simp only [List.length_drop,List.length_take];rfl)) ?_
 with_reducible refine (zt.calls k a0 a1_0 t103 _ A4.out).mono ?_
 rintro e w9 ⟨rfl,hb⟩
 refine ⟨_,rfl,?_⟩
 have n0_:=z2.mk (zg (g:=gb101) (o:=.cells #[.int .u64 a1_0,.int .u64 a1_1] 40 (0,0)) (by (with_reducible repeat (first|refine z6 ?_ _|refine z8 ?_|refine z5 ?_ _));exact BK101.out) hb)
 have n1_:=z2.mk (zg (g:=gb102) (o:=.cells #[.int .u64 0,.int .u64 0] 40 (0,0)) (by (with_reducible repeat (first|refine z6 ?_ _|refine z8 ?_|refine z5 ?_ _));exact BK102.out) hb)
 have n2_:=z2.mk (za (by repeat (first|(with_reducible first|exact HB.out|apply z4|apply z1|apply z3|refine z9 ?_ GE101.out|refine z9 ?_ GE102.out)|exact HB.out)) hb)
 clear BK101
 clear BK102
 clear HB
 have BK101:=n0_
 have BK102:=n1_
 have HB:=n2_
 clear n0_ n1_ n2_
 (try clear hb)
 (try clear hb2)
 (try clear hk)
 (try clear hi)
 refine hK.out _ _ ⟨(zc BK101.out 0).trans rfl,(zc BK101.out 1).trans rfl⟩ (fun hHeld=>?_)
 clear hK K
 refine norm_ (a':=?_) ?_ ?_
 rotate_left
 · show Act.put _ (some 10) _ = _
   simp only [Act.put,List.setIfInBounds_toArray,List.set_cons_zero,List.set_cons_succ,zZ,z14]
   rfl
 refine one_ (i:=7) (N:=some 14) #[true,true,true,true,true,true,true,true,false,false] rfl rfl (z21 HT_.out (by kernel_rfl)) (by decide) (fun K hK=>?_)
 refine goes_ Try.func137 (by kernel_rfl) rfl #[.int .i64 a0,.int .u64 a1_1] (by rfl) rfl rfl (by (try simp only [List.map_toArray,List.map_cons,List.map_nil]);first|done|rfl|(simp only [List.length_drop,List.length_take];rfl)) ?_
 with_reducible refine (zt.calls k a0 a1_1 t104 _ A5.out).mono ?_
 rintro e w10 ⟨rfl,hb⟩
 refine ⟨_,rfl,?_⟩
 have n0_:=z2.mk (zg (g:=gb101) (o:=.cells #[.int .u64 a1_0,.int .u64 a1_1] 40 (0,0)) (by (with_reducible repeat (first|refine z6 ?_ _|refine z8 ?_|refine z5 ?_ _));exact BK101.out) hb)
 have n1_:=z2.mk (zg (g:=gb102) (o:=.cells #[.int .u64 0,.int .u64 0] 40 (0,0)) (by (with_reducible repeat (first|refine z6 ?_ _|refine z8 ?_|refine z5 ?_ _));exact BK102.out) hb)
 have n2_:=z2.mk (za (by repeat (first|(with_reducible first|exact HB.out|apply z4|apply z1|apply z3|refine z9 ?_ GE101.out|refine z9 ?_ GE102.out)|exact HB.out)) hb)
 clear BK101
 clear BK102
 clear HB
 have BK101:=n0_
 have BK102:=n1_
 have HB:=n2_
 clear n0_ n1_ n2_
 (try clear hb)
 (try clear hb2)
 (try clear hk)
 (try clear hi)
 refine hK.out _ _ ⟨(zc BK101.out 0).trans rfl,(zc BK101.out 1).trans rfl⟩ (fun hHeld=>?_)
 clear hK K
 refine norm_ (a':=?_) ?_ ?_
 rotate_left
 · show Act.put _ (some 14) _ = _
   simp only [Act.put,List.setIfInBounds_toArray,List.set_cons_zero,List.set_cons_succ,zZ,z14]
   rfl
 refine pure_ (i:=8) (N:=some 15) (v:=?_) (a':=?_) #[true,true,true,true,true,true,true,true,true,false] rfl rfl (z1i HT_.out (by kernel_rfl)) (fun _ _ _ h=>h) (Or.inl ⟨by rfl,?_⟩) ?_ ?_
 rotate_left
 · intro w'
   go_simp
   with_reducible rfl
 rotate_left
 · simp only [Act.put,List.setIfInBounds_toArray,List.set_cons_zero,List.set_cons_succ,zZ,z14]
   rfl
 refine one_ (i:=9) (N:=none) #[true,true,true,true,true,true,true,true,true,true] rfl rfl (z21 HT_.out (by kernel_rfl)) (by decide) (fun K hK=>?_)
 have hs11 : w10.cell? ⟨gb102,0,none⟩ = some (.int .u64 0):=(zc BK102.out 0).trans rfl
 have hfs11:=zd BK102.out 0
 have hns11_0:=NB101_102.out
 have hms11_0:=NB102_101.out
 have hs12 : w10.cell? ⟨gb102,1,none⟩ = some (.int .u64 0):=(zc BK102.out 1).trans rfl
 have hfs12:=zd BK102.out 1
 have hns12_0:=NB101_102.out
 have hms12_0:=NB102_101.out
 refine skip_ (w1:=?_) (by rfl) rfl ?_ ?_
 rotate_left
 · go_simp
   rfl
 refine hK.out _ _ ⟨((z2t (p:=⟨gb102,_,none⟩) NB101_102.out _).trans (((z2t (p:=⟨gb102,_,none⟩) NB101_102.out _).trans (hHeld.1)))),((z2t (p:=⟨gb102,_,none⟩) NB101_102.out _).trans (((z2t (p:=⟨gb102,_,none⟩) NB101_102.out _).trans (hHeld.2))))⟩ (fun hHeld=>?_)
 clear hK K
 refine done_ (z2A HT_.out (by kernel_rfl)) ?_
 try go_wp2
 refine bodyPost_ret (results_cell_row rfl _ _ gb102 40 #[.int .u64 t103,.int .u64 t104] (0,0) _ rfl (by (with_reducible repeat (first|refine z6 ?_ _|refine z8 ?_|refine z5 ?_ _));refine z11 (cs:=#[.int .u64 t103,.int .u64 0]) ?_ 1 _ rfl;(with_reducible repeat (first|refine z6 ?_ _|refine z8 ?_|refine z5 ?_ _));refine z11 (cs:=#[.int .u64 0,.int .u64 0]) ?_ 0 _ rfl;(with_reducible repeat (first|refine z6 ?_ _|refine z8 ?_|refine z5 ?_ _));exact BK102.out) Try.underlying40 rfl (by kernel_rfl)) rfl ?_
 exact ⟨by first|rfl|(simp [zk,zl] <;> rfl)|(simp [*,zk,zl] <;> rfl),by repeat (first|(with_reducible first|exact HB.out|apply z4|apply z1|apply z3|refine z9 ?_ GE101.out|refine z9 ?_ GE102.out)|exact HB.out)⟩
end Go.Proofs.Ytkhmpaooinpfoaa.P
namespace Go.Proofs.Ytkhmpaooinpfoaa.P
open Go.RowKit Go.Proofs.YtkhmpaooinpfoaaW.PrintWords Go.Proofs.YtkhmpaooinpfoaaW.PrintLast Go.Proofs.YtkhmpaooinpfoaaW.PrintMore
attribute [local go_sem] z15 z17 z1f z1g zW zX z16 z18   -- for this text's walks alone
set_option linter.unusedVariables false
set_option linter.unusedSimpArgs false
mutual
def zh.l0 : Nat → Int → Int → Int → Int → Int → Int → Int → Option (Int × Int)
 | 0,_,_,_,_,_,_,_=>none
 | k + 1,x6,x102000,x102001,x103000,x103001,x105000,x105001=>if x6 < 128 then ((zS.f k x103000 x103001 x6).bind fun t105=>(if t105 = true then (zh.l1 k x6 0 x102000 x102001 x103000 x103001 x105000 x105001 x102000 x102001) else (zh.l0 k (wrap64 (x6 + 1)) x102000 x102001 x103000 x103001 x105000 x105001))) else (some (x105000,x105001))
def zh.l1 : Nat → Int → Int → Int → Int → Int → Int → Int → Int → Int → Int → Option (Int × Int)
 | 0,_,_,_,_,_,_,_,_,_,_=>none
 | k + 1,x6,x8,x102000,x102001,x103000,x103001,x105000,x105001,x107000,x107001=>if x8 < 7 then (if 0 ≤ (IntKind.u64.wrap (x8)) then (if (Go.bits .and .i64 (shr .i64 x6 (IntKind.u64.wrap (x8))) 1) = 1 then ((zB.f k x8 x107000 x107001).bind fun bt107=>(zh.l1 k x6 (wrap64 (x8 + 1)) x102000 x102001 x103000 x103001 x105000 x105001 bt107.1 bt107.2)) else (zh.l1 k x6 (wrap64 (x8 + 1)) x102000 x102001 x103000 x103001 x105000 x105001 x107000 x107001)) else (none)) else ((z1q.f x105000 x105001 x107000 x107001).bind fun bt109=>(zh.l0 k (wrap64 (x6 + 1)) x102000 x102001 x103000 x103001 bt109.1 bt109.2))
end
def zh.f (k : Nat) (a0_0 : Int) (a0_1 : Int) (a1_0 : Int) (a1_1 : Int) : Option (Int × Int):=zh.l0 k 0 a0_0 a0_1 a1_0 a1_1 0 0
theorem zh.z1b : ∀ k,(∀ y0 y1 y2 y3 y4 y5 y6,LeO (zh.l0 k y0 y1 y2 y3 y4 y5 y6) (zh.l0 (k + 1) y0 y1 y2 y3 y4 y5 y6)) ∧ (∀ y0 y1 y2 y3 y4 y5 y6 y7 y8 y9,LeO (zh.l1 k y0 y1 y2 y3 y4 y5 y6 y7 y8 y9) (zh.l1 (k + 1) y0 y1 y2 y3 y4 y5 y6 y7 y8 y9))
 | 0=>⟨fun _ _ _ _ _ _ _ r h=>by simp [zh.l0] at h,fun _ _ _ _ _ _ _ _ _ _ r h=>by simp [zh.l1] at h⟩
 | k + 1=>by
  obtain ⟨ih0,ih1⟩:=zh.z1b k
  refine ⟨?_,?_⟩
  · intro y0 y1 y2 y3 y4 y5 y6
    unfold zh.l0
    repeat' first
    | (with_reducible exact ih0 _ _ _ _ _ _ _)
    | (with_reducible exact ih1 _ _ _ _ _ _ _ _ _ _)
    | (with_reducible exact zS.mono _ _ _ _)
    | (with_reducible exact zB.mono _ _ _ _)
    | (with_reducible exact LeO.refl _)
    | (with_reducible exact LeO.none _)
    | (with_reducible refine LeO.ite ?_ ?_)
    | (with_reducible refine LeO.bind ?_ (fun _=>?_))
    | exact ih0 _ _ _ _ _ _ _
    | exact ih1 _ _ _ _ _ _ _ _ _ _
    | exact zS.mono _ _ _ _
    | exact zB.mono _ _ _ _
    | exact LeO.none _
    | refine LeO.ite ?_ ?_
    | refine LeO.bind ?_ (fun _=>?_)
  · intro y0 y1 y2 y3 y4 y5 y6 y7 y8 y9
    unfold zh.l1
    repeat' first
    | (with_reducible exact ih0 _ _ _ _ _ _ _)
    | (with_reducible exact ih1 _ _ _ _ _ _ _ _ _ _)
    | (with_reducible exact zS.mono _ _ _ _)
    | (with_reducible exact zB.mono _ _ _ _)
    | (with_reducible exact LeO.refl _)
    | (with_reducible exact LeO.none _)
    | (with_reducible refine LeO.ite ?_ ?_)
    | (with_reducible refine LeO.bind ?_ (fun _=>?_))
    | exact ih0 _ _ _ _ _ _ _
    | exact ih1 _ _ _ _ _ _ _ _ _ _
    | exact zS.mono _ _ _ _
    | exact zB.mono _ _ _ _
    | exact LeO.none _
    | refine LeO.ite ?_ ?_
    | refine LeO.bind ?_ (fun _=>?_)
theorem zh.mono : ∀ a0 a1 a2 a3 k,LeO (zh.f k a0 a1 a2 a3) (zh.f (k + 1) a0 a1 a2 a3):=by
 intro a0 a1 a2 a3 k
 obtain ⟨ih0,ih1⟩:=zh.z1b k
 unfold zh.f
 repeat' first
  | (with_reducible exact ih0 _ _ _ _ _ _ _)
  | (with_reducible exact ih1 _ _ _ _ _ _ _ _ _ _)
  | (with_reducible exact zS.mono _ _ _ _)
  | (with_reducible exact zB.mono _ _ _ _)
  | (with_reducible exact LeO.refl _)
  | (with_reducible exact LeO.none _)
  | (with_reducible refine LeO.ite ?_ ?_)
  | (with_reducible refine LeO.bind ?_ (fun _=>?_))
  | exact ih0 _ _ _ _ _ _ _
  | exact ih1 _ _ _ _ _ _ _ _ _ _
  | exact zS.mono _ _ _ _
  | exact zB.mono _ _ _ _
  | exact LeO.none _
  | refine LeO.ite ?_ ?_
  | refine LeO.bind ?_ (fun _=>?_)
set_option maxHeartbeats 8000000 in
set_option maxRecDepth 100000 in
theorem zh.calls (k : Nat) (a0_0 : Int) (a0_1 : Int) (a1_0 : Int) (a1_1 : Int) (r1 : Int) (r2 : Int) (w : World) (h : zh.f k a0_0 a0_1 a1_0 a1_1 = some (r1,r2)) :
 Calls Try.prog 71 #[.agg #[.int .u64 a0_0,.int .u64 a0_1],.agg #[.int .u64 a1_0,.int .u64 a1_1]] w fun e w'=>e = .returned (.agg #[.int .u64 r1,.int .u64 r2]) ∧ Below w.heap.size w w':=by
 have hu40:=Try.underlying40
 have HB:=z2.mk (Below.refl w.heap.size w)
 have H : (zh.l0 k 0 a0_0 a0_1 a1_0 a1_1 0 0) = some (r1,r2):=h
 clear h
 have H':=z2.mk H
 clear H
 go_enter Try.func71,Try.ntmps71
 go_wp2_with (first|((with_reducible refine zK (N:=2) rfl ?_);refine zJ ?hg (N:=2) ?hd (cs:=#[.int .u64 a0_0,.int .u64 a0_1]) (t:=40) ?hr ?_;(case hd=>rfl);(case hg=>rfl);(case hr=>first|(go_simp;done)|(go_simp;rfl));intro gb101 hg w3 hbox hb;have n0_:=z2.mk (za (by repeat (first|(with_reducible first|exact HB.out|apply z4|apply z1|apply z3)|exact HB.out)) hb);have n1_:=z2.mk (hbox);have n2_:=z2.mk ((by rw [hg];exact (zb (by repeat (first|(with_reducible first|exact HB.out|apply z4|apply z1|apply z3)|exact HB.out))) : w.heap.size ≤ gb101));have n3_:=z2.mk ((by rw [hg];exact (zb (by repeat (first|(with_reducible first|exact HB.out|apply z4|apply z1|apply z3)|exact HB.out))) : w.heap.size ≤ gb101));clear HB;have HB:=n0_;have BK101:=n1_;have GW101:=n2_;have GE101:=n3_;clear n0_ n1_ n2_ n3_;clear hb hbox hg)|((with_reducible refine zK (N:=3) rfl ?_);refine zJ ?hg (N:=3) ?hd (cs:=#[.int .u64 a1_0,.int .u64 a1_1]) (t:=40) ?hr ?_;(case hd=>rfl);(case hg=>rfl);(case hr=>first|(go_simp;done)|(go_simp;rfl));intro gb102 hg w4 hbox hb;have n0_:=z2.mk (zg (g:=gb101) (o:=.cells #[.int .u64 a0_0,.int .u64 a0_1] 40 (0,0)) (by (with_reducible repeat (first|refine z6 ?_ _|refine z8 ?_|refine z5 ?_ _));exact BK101.out) hb);have n1_:=z2.mk (za (by repeat (first|(with_reducible first|exact HB.out|apply z4|apply z1|apply z3|refine z9 ?_ GE101.out)|exact HB.out)) hb);have n2_:=z2.mk (hbox);have n3_:=z2.mk ((by rw [hg];exact (zb (by repeat (first|(with_reducible first|exact HB.out|apply z4|apply z1|apply z3|refine z9 ?_ GE101.out)|exact HB.out))) : w.heap.size ≤ gb102));have n4_:=z2.mk ((by rw [hg];exact (zb (by repeat (first|(with_reducible first|exact HB.out|apply z4|apply z1|apply z3|refine z9 ?_ GE101.out)|exact HB.out))) : w.heap.size ≤ gb102));have n5_:=z2.mk ((by rw [hg];exact Nat.ne_of_lt (zV (g:=gb101) (o:=.cells #[.int .u64 a0_0,.int .u64 a0_1] 40 (0,0)) (by (with_reducible repeat (first|refine z6 ?_ _|refine z8 ?_|refine z5 ?_ _));exact BK101.out)) : gb101 ≠ gb102));have n6_:=z2.mk ((by rw [hg];exact Nat.ne_of_gt (zV (g:=gb101) (o:=.cells #[.int .u64 a0_0,.int .u64 a0_1] 40 (0,0)) (by (with_reducible repeat (first|refine z6 ?_ _|refine z8 ?_|refine z5 ?_ _));exact BK101.out)) : gb102 ≠ gb101));clear BK101;clear HB;have BK101:=n0_;have HB:=n1_;have BK102:=n2_;have GW102:=n3_;have GE102:=n4_;have NB101_102:=n5_;have NB102_101:=n6_;clear n0_ n1_ n2_ n3_ n4_ n5_ n6_;clear hb hbox hg)|((with_reducible refine zK (N:=4) rfl ?_);refine zJ ?hg (N:=4) ?hd (cs:=#[.int .u64 0,.int .u64 0]) (t:=40) ?hr ?_;(case hd=>rfl);(case hg=>rfl);(case hr=>first|(go_simp;done)|(go_simp;rfl));intro gb103 hg w5 hbox hb;have n0_:=z2.mk (zg (g:=gb101) (o:=.cells #[.int .u64 a0_0,.int .u64 a0_1] 40 (0,0)) (by (with_reducible repeat (first|refine z6 ?_ _|refine z8 ?_|refine z5 ?_ _));exact BK101.out) hb);have n1_:=z2.mk (zg (g:=gb102) (o:=.cells #[.int .u64 a1_0,.int .u64 a1_1] 40 (0,0)) (by (with_reducible repeat (first|refine z6 ?_ _|refine z8 ?_|refine z5 ?_ _));exact BK102.out) hb);have n2_:=z2.mk (za (by repeat (first|(with_reducible first|exact HB.out|apply z4|apply z1|apply z3|refine z9 ?_ GE101.out|refine z9 ?_ GE102.out)|exact HB.out)) hb);have n3_:=z2.mk (hbox);have n4_:=z2.mk ((by rw [hg];exact (zb (by repeat (first|(with_reducible first|exact HB.out|apply z4|apply z1|apply z3|refine z9 ?_ GE101.out|refine z9 ?_ GE102.out)|exact HB.out))) : w.heap.size ≤ gb103));have n5_:=z2.mk ((by rw [hg];exact (zb (by repeat (first|(with_reducible first|exact HB.out|apply z4|apply z1|apply z3|refine z9 ?_ GE101.out|refine z9 ?_ GE102.out)|exact HB.out))) : w.heap.size ≤ gb103));have n6_:=z2.mk ((by rw [hg];exact Nat.ne_of_lt (zV (g:=gb101) (o:=.cells #[.int .u64 a0_0,.int .u64 a0_1] 40 (0,0)) (by (with_reducible repeat (first|refine z6 ?_ _|refine z8 ?_|refine z5 ?_ _));exact BK101.out)) : gb101 ≠ gb103));have n7_:=z2.mk ((by rw [hg];exact Nat.ne_of_gt (zV (g:=gb101) (o:=.cells #[.int .u64 a0_0,.int .u64 a0_1] 40 (0,0)) (by (with_reducible repeat (first|refine z6 ?_ _|refine z8 ?_|refine z5 ?_ _));exact BK101.out)) : gb103 ≠ gb101));have n8_:=z2.mk ((by rw [hg];exact Nat.ne_of_lt (zV (g:=gb102) (o:=.cells #[.int .u64 a1_0,.int .u64 a1_1] 40 (0,0)) (by (with_reducible repeat (first|refine z6 ?_ _|refine z8 ?_|refine z5 ?_ _));exact BK102.out)) : gb102 ≠ gb103));have n9_:=z2.mk ((by rw [hg];exact Nat.ne_of_gt (zV (g:=gb102) (o:=.cells #[.int .u64 a1_0,.int .u64 a1_1] 40 (0,0)) (by (with_reducible repeat (first|refine z6 ?_ _|refine z8 ?_|refine z5 ?_ _));exact BK102.out)) : gb103 ≠ gb102));clear BK101;clear BK102;clear HB;have BK101:=n0_;have BK102:=n1_;have HB:=n2_;have BK103:=n3_;have GW103:=n4_;have GE103:=n5_;have NB101_103:=n6_;have NB103_101:=n7_;have NB102_103:=n8_;have NB103_102:=n9_;clear n0_ n1_ n2_ n3_ n4_ n5_ n6_ n7_ n8_ n9_;clear hb hbox hg)|((with_reducible refine zK (N:=5) rfl ?_);refine zJ ?hg (N:=5) ?hd (cs:=#[.int .u64 0,.int .u64 0]) (t:=40) ?hr ?_;(case hd=>rfl);(case hg=>rfl);(case hr=>first|(go_simp;done)|(go_simp;rfl));intro gb104 hg w6 hbox hb;have n0_:=z2.mk (zg (g:=gb101) (o:=.cells #[.int .u64 a0_0,.int .u64 a0_1] 40 (0,0)) (by (with_reducible repeat (first|refine z6 ?_ _|refine z8 ?_|refine z5 ?_ _));exact BK101.out) hb);have n1_:=z2.mk (zg (g:=gb102) (o:=.cells #[.int .u64 a1_0,.int .u64 a1_1] 40 (0,0)) (by (with_reducible repeat (first|refine z6 ?_ _|refine z8 ?_|refine z5 ?_ _));exact BK102.out) hb);have n2_:=z2.mk (zg (g:=gb103) (o:=.cells #[.int .u64 0,.int .u64 0] 40 (0,0)) (by (with_reducible repeat (first|refine z6 ?_ _|refine z8 ?_|refine z5 ?_ _));exact BK103.out) hb);have n3_:=z2.mk (za (by repeat (first|(with_reducible first|exact HB.out|apply z4|apply z1|apply z3|refine z9 ?_ GE101.out|refine z9 ?_ GE102.out|refine z9 ?_ GE103.out)|exact HB.out)) hb);have n4_:=z2.mk (hbox);have n5_:=z2.mk ((by rw [hg];exact (zb (by repeat (first|(with_reducible first|exact HB.out|apply z4|apply z1|apply z3|refine z9 ?_ GE101.out|refine z9 ?_ GE102.out|refine z9 ?_ GE103.out)|exact HB.out))) : w.heap.size ≤ gb104));have n6_:=z2.mk ((by rw [hg];exact (zb (by repeat (first|(with_reducible first|exact HB.out|apply z4|apply z1|apply z3|refine z9 ?_ GE101.out|refine z9 ?_ GE102.out|refine z9 ?_ GE103.out)|exact HB.out))) : w.heap.size ≤ gb104));have n7_:=z2.mk ((by rw [hg];exact Nat.ne_of_lt (zV (g:=gb101) (o:=.cells #[.int .u64 a0_0,.int .u64 a0_1] 40 (0,0)) (by (with_reducible repeat (first|refine z6 ?_ _|refine z8 ?_|refine z5 ?_ _));exact BK101.out)) : gb101 ≠ gb104));have n8_:=z2.mk ((by rw [hg];exact Nat.ne_of_gt (zV (g:=gb101) (o:=.cells #[.int .u64 a0_0,.int .u64 a0_1] 40 (0,0)) (by (with_reducible repeat (first|refine z6 ?_ _|refine z8 ?_|refine z5 ?_ _));exact BK101.out)) : gb104 ≠ gb101));have n9_:=z2.mk ((by rw [hg];exact Nat.ne_of_lt (zV (g:=gb102) (o:=.cells #[.int .u64 a1_0,.int .u64 a1_1] 40 (0,0)) (by (with_reducible repeat (first|refine z6 ?_ _|refine z8 ?_|refine z5 ?_ _));exact BK102.out)) : gb102 ≠ gb104));have n10_:=z2.mk ((by rw [hg];exact Nat.ne_of_gt (zV (g:=gb102) (o:=.cells #[.int .u64 a1_0,.int .u64 a1_1] 40 (0,0)) (by (with_reducible repeat (first|refine z6 ?_ _|refine z8 ?_|refine z5 ?_ _));exact BK102.out)) : gb104 ≠ gb102));have n11_:=z2.mk ((by rw [hg];exact Nat.ne_of_lt (zV (g:=gb103) (o:=.cells #[.int .u64 0,.int .u64 0] 40 (0,0)) (by (with_reducible repeat (first|refine z6 ?_ _|refine z8 ?_|refine z5 ?_ _));exact BK103.out)) : gb103 ≠ gb104));have n12_:=z2.mk ((by rw [hg];exact Nat.ne_of_gt (zV (g:=gb103) (o:=.cells #[.int .u64 0,.int .u64 0] 40 (0,0)) (by (with_reducible repeat (first|refine z6 ?_ _|refine z8 ?_|refine z5 ?_ _));exact BK103.out)) : gb104 ≠ gb103));clear BK101;clear BK102;clear BK103;clear HB;have BK101:=n0_;have BK102:=n1_;have BK103:=n2_;have HB:=n3_;have BK104:=n4_;have GW104:=n5_;have GE104:=n6_;have NB101_104:=n7_;have NB104_101:=n8_;have NB102_104:=n9_;have NB104_102:=n10_;have NB103_104:=n11_;have NB104_103:=n12_;clear n0_ n1_ n2_ n3_ n4_ n5_ n6_ n7_ n8_ n9_ n10_ n11_ n12_;clear hb hbox hg))
 go_loopg [6] k (fun kq v6 w'=>∃ (x6_1 : Int) (x105000_1 : Int) (x105001_1 : Int),v6 = .int .i64 x6_1 ∧ z2 (zh.l0 kq x6_1 a0_0 a0_1 a1_0 a1_1 x105000_1 x105001_1 = some (r1,r2)) ∧ z2 (kq ≤ k) ∧ z2 (w'.heap[gb101]? = some (.cells #[.int .u64 a0_0,.int .u64 a0_1] 40 (0,0))) ∧ z2 (w'.heap[gb102]? = some (.cells #[.int .u64 a1_0,.int .u64 a1_1] 40 (0,0))) ∧ z2 (w'.heap[gb103]? = some (.cells #[.int .u64 0,.int .u64 0] 40 (0,0))) ∧ z2 (w'.heap[gb104]? = some (.cells #[.int .u64 x105000_1,.int .u64 x105001_1] 40 (0,0))) ∧ z2 (Below w.heap.size w w'))
 case atStart=>exact ⟨(0),(0),(0),(by first|rfl|(simp;done)|(simp [*];done)),H',⟨Nat.le_refl _⟩,⟨by (with_reducible repeat (first|refine z6 ?_ _|refine z8 ?_|refine z5 ?_ _));exact BK101.out⟩,⟨by (with_reducible repeat (first|refine z6 ?_ _|refine z8 ?_|refine z5 ?_ _));exact BK102.out⟩,⟨by (with_reducible repeat (first|refine z6 ?_ _|refine z8 ?_|refine z5 ?_ _));exact BK103.out⟩,⟨by (with_reducible repeat (first|refine z6 ?_ _|refine z8 ?_|refine z5 ?_ _));exact BK104.out⟩,⟨by repeat (first|(with_reducible first|exact HB.out|apply z4|apply z1|apply z3|refine z9 ?_ GE101.out|refine z9 ?_ GE102.out|refine z9 ?_ GE103.out|refine z9 ?_ GE104.out)|exact HB.out)⟩⟩
 case round =>
  clear H'
  (try clear p2)
  obtain ⟨x6_1,x105000_1,x105001_1,rfl,HA,HK1,BK101,BK102,BK103,BK104,HB⟩:=hrel
  cases gk with
  | zero=>exact absurd HA.out (by simp [zh.l0])
  | succ k1 =>
   have H:=HA.out
   clear HA
   simp only [zh.l0] at H
   by_cases c7 : x6_1 < 128
   rotate_left
   · rw [if_neg c7] at H
     have c7b0 : decide (x6_1 < 128) = false:=decide_eq_false c7
     clear c7
     simp only [Option.some.injEq,Prod.mk.injEq] at H
     obtain ⟨rfl,rfl⟩:=H
     have hnb54:=NB104_101.out
     have hnc54:=NB101_104.out
     have hnb55:=NB104_102.out
     have hnc55:=NB102_104.out
     have hnb56:=NB104_103.out
     have hnc56:=NB103_104.out
     have hcz57_0 : wr.cell? ⟨gb104,0,none⟩ = some (.int .u64 x105000_1):=(zc BK104.out 0).trans rfl
     have hcz57_1 : wr.cell? ⟨gb104,1,none⟩ = some (.int .u64 x105001_1):=(zc BK104.out 1).trans rfl
     have hfz57_0:=zd BK104.out 0
     have hfz57_1:=zd BK104.out 1
     have hnb58:=NB103_101.out
     have hnc58:=NB101_103.out
     have hnb59:=NB103_102.out
     have hnc59:=NB102_103.out
     have hcz60_0 : wr.cell? ⟨gb103,0,none⟩ = some (.int .u64 0):=(zc BK103.out 0).trans rfl
     have hcz60_1 : wr.cell? ⟨gb103,1,none⟩ = some (.int .u64 0):=(zc BK103.out 1).trans rfl
     have hfz60_0:=zd BK103.out 0
     have hfz60_1:=zd BK103.out 1
     go_wp2
     refine bodyPost_ret (results_cell_row rfl _ _ gb103 40 #[.int .u64 x105000_1,.int .u64 x105001_1] (0,0) _ rfl (by (with_reducible repeat (first|refine z6 ?_ _|refine z8 ?_|refine z5 ?_ _));refine z11 (cs:=#[.int .u64 x105000_1,.int .u64 0]) ?_ 1 _ rfl;(with_reducible repeat (first|refine z6 ?_ _|refine z8 ?_|refine z5 ?_ _));refine z11 (cs:=#[.int .u64 0,.int .u64 0]) ?_ 0 _ rfl;(with_reducible repeat (first|refine z6 ?_ _|refine z8 ?_|refine z5 ?_ _));exact BK103.out) Try.underlying40 rfl (by kernel_rfl)) rfl ?_
     exact ⟨by first|rfl|(simp [zk,zl] <;> rfl)|(simp [*,zk,zl] <;> rfl),by repeat (first|(with_reducible first|exact HB.out|apply z4|apply z1|apply z3|refine z9 ?_ GE101.out|refine z9 ?_ GE102.out|refine z9 ?_ GE103.out|refine z9 ?_ GE104.out)|exact HB.out)⟩
   rw [if_pos c7] at H
   have c7b0 : decide (x6_1 < 128) = true:=decide_eq_true c7
   clear c7
   replace H:=Option.bind_eq_some_iff.mp H
   obtain ⟨t105,A80,H⟩:=H
   replace H : (if t105 = true then (zh.l1 k1 x6_1 0 a0_0 a0_1 a1_0 a1_1 x105000_1 x105001_1 a0_0 a0_1) else (zh.l0 k1 (wrap64 (x6_1 + 1)) a0_0 a0_1 a1_0 a1_1 x105000_1 x105001_1)) = some (r1,r2):=H
   have A8:=z2.mk A80
   clear A80
   by_cases c9 : t105 = true
   rotate_left
   · replace c9:=Bool.eq_false_iff.mpr c9
     subst c9
     have H1 : (zh.l0 k1 (wrap64 (x6_1 + 1)) a0_0 a0_1 a1_0 a1_1 x105000_1 x105001_1) = some (r1,r2):=by rw [if_neg (show ¬ (false = true) by decide)] at H;exact H
     clear H
     have H:=H1
     clear H1
     have H':=z2.mk H
     clear H
     have hnb49:=NB102_101.out
     have hnc49:=NB101_102.out
     have hnb50:=NB102_103.out
     have hnc50:=NB103_102.out
     have hnb51:=NB102_104.out
     have hnc51:=NB104_102.out
     have hcz52_0 : wr.cell? ⟨gb102,0,none⟩ = some (.int .u64 a1_0):=(zc BK102.out 0).trans rfl
     have hcz52_1 : wr.cell? ⟨gb102,1,none⟩ = some (.int .u64 a1_1):=(zc BK102.out 1).trans rfl
     have hfz52_0:=zd BK102.out 0
     have hfz52_1:=zd BK102.out 1
     go_wp2_with (first|((with_reducible refine zj (f:=104) rfl ?_);refine goesL_ (some 15) rfl rfl Try.func104 (by kernel_rfl) rfl #[.agg #[.int .u64 a1_0,.int .u64 a1_1],.int .i64 x6_1] rfl (by (try simp only [List.map_toArray,List.map_cons,List.map_nil]);first|done|rfl|(simp only [List.length_drop,List.length_take];rfl)) ?_;(with_reducible refine (zS.calls k1 a1_0 a1_1 x6_1 false _ A8.out).mono ?_);rintro e w53 ⟨rfl,hb⟩;refine ⟨_,rfl,?_⟩;have n0_:=z2.mk (zg (g:=gb101) (o:=.cells #[.int .u64 a0_0,.int .u64 a0_1] 40 (0,0)) (by (with_reducible repeat (first|refine z6 ?_ _|refine z8 ?_|refine z5 ?_ _));exact BK101.out) hb);have n1_:=z2.mk (zg (g:=gb102) (o:=.cells #[.int .u64 a1_0,.int .u64 a1_1] 40 (0,0)) (by (with_reducible repeat (first|refine z6 ?_ _|refine z8 ?_|refine z5 ?_ _));exact BK102.out) hb);have n2_:=z2.mk (zg (g:=gb103) (o:=.cells #[.int .u64 0,.int .u64 0] 40 (0,0)) (by (with_reducible repeat (first|refine z6 ?_ _|refine z8 ?_|refine z5 ?_ _));exact BK103.out) hb);have n3_:=z2.mk (zg (g:=gb104) (o:=.cells #[.int .u64 x105000_1,.int .u64 x105001_1] 40 (0,0)) (by (with_reducible repeat (first|refine z6 ?_ _|refine z8 ?_|refine z5 ?_ _));exact BK104.out) hb);have n4_:=z2.mk (za (by repeat (first|(with_reducible first|exact HB.out|apply z4|apply z1|apply z3|refine z9 ?_ GE101.out|refine z9 ?_ GE102.out|refine z9 ?_ GE103.out|refine z9 ?_ GE104.out)|exact HB.out)) hb);clear BK101;clear BK102;clear BK103;clear BK104;clear HB;have BK101:=n0_;have BK102:=n1_;have BK103:=n2_;have BK104:=n3_;have HB:=n4_;clear n0_ n1_ n2_ n3_ n4_;(try clear hb);(try clear hb2);(try clear hk);(try clear hi)))
     go_roundg k1
     case measure=>have:=HK1.out;omega
     case rel=>exact ⟨(wrap64 (x6_1 + 1)),(x105000_1),(x105001_1),(by first|rfl|(simp;done)|(simp [*];done)),H',⟨by have:=HK1.out;omega⟩,⟨by (with_reducible repeat (first|refine z6 ?_ _|refine z8 ?_|refine z5 ?_ _));exact BK101.out⟩,⟨by (with_reducible repeat (first|refine z6 ?_ _|refine z8 ?_|refine z5 ?_ _));exact BK102.out⟩,⟨by (with_reducible repeat (first|refine z6 ?_ _|refine z8 ?_|refine z5 ?_ _));exact BK103.out⟩,⟨by (with_reducible repeat (first|refine z6 ?_ _|refine z8 ?_|refine z5 ?_ _));exact BK104.out⟩,⟨by repeat (first|(with_reducible first|exact HB.out|apply z4|apply z1|apply z3|refine z9 ?_ GE101.out|refine z9 ?_ GE102.out|refine z9 ?_ GE103.out|refine z9 ?_ GE104.out)|exact HB.out)⟩⟩
   subst c9
   have H1 : (zh.l1 k1 x6_1 0 a0_0 a0_1 a1_0 a1_1 x105000_1 x105001_1 a0_0 a0_1) = some (r1,r2):=by rw [if_pos rfl] at H;exact H
   clear H
   have H:=H1
   clear H1
   have H':=z2.mk H
   clear H
   have hnb10:=NB102_101.out
   have hnc10:=NB101_102.out
   have hnb11:=NB102_103.out
   have hnc11:=NB103_102.out
   have hnb12:=NB102_104.out
   have hnc12:=NB104_102.out
   have hcz13_0 : wr.cell? ⟨gb102,0,none⟩ = some (.int .u64 a1_0):=(zc BK102.out 0).trans rfl
   have hcz13_1 : wr.cell? ⟨gb102,1,none⟩ = some (.int .u64 a1_1):=(zc BK102.out 1).trans rfl
   have hfz13_0:=zd BK102.out 0
   have hfz13_1:=zd BK102.out 1
   go_wp2_with (first|((with_reducible refine zj (f:=104) rfl ?_);refine goesL_ (some 15) rfl rfl Try.func104 (by kernel_rfl) rfl #[.agg #[.int .u64 a1_0,.int .u64 a1_1],.int .i64 x6_1] rfl (by (try simp only [List.map_toArray,List.map_cons,List.map_nil]);first|done|rfl|(simp only [List.length_drop,List.length_take];rfl)) ?_;(with_reducible refine (zS.calls k1 a1_0 a1_1 x6_1 true _ A8.out).mono ?_);rintro e w14 ⟨rfl,hb⟩;refine ⟨_,rfl,?_⟩;have n0_:=z2.mk (zg (g:=gb101) (o:=.cells #[.int .u64 a0_0,.int .u64 a0_1] 40 (0,0)) (by (with_reducible repeat (first|refine z6 ?_ _|refine z8 ?_|refine z5 ?_ _));exact BK101.out) hb);have n1_:=z2.mk (zg (g:=gb102) (o:=.cells #[.int .u64 a1_0,.int .u64 a1_1] 40 (0,0)) (by (with_reducible repeat (first|refine z6 ?_ _|refine z8 ?_|refine z5 ?_ _));exact BK102.out) hb);have n2_:=z2.mk (zg (g:=gb103) (o:=.cells #[.int .u64 0,.int .u64 0] 40 (0,0)) (by (with_reducible repeat (first|refine z6 ?_ _|refine z8 ?_|refine z5 ?_ _));exact BK103.out) hb);have n3_:=z2.mk (zg (g:=gb104) (o:=.cells #[.int .u64 x105000_1,.int .u64 x105001_1] 40 (0,0)) (by (with_reducible repeat (first|refine z6 ?_ _|refine z8 ?_|refine z5 ?_ _));exact BK104.out) hb);have n4_:=z2.mk (za (by repeat (first|(with_reducible first|exact HB.out|apply z4|apply z1|apply z3|refine z9 ?_ GE101.out|refine z9 ?_ GE102.out|refine z9 ?_ GE103.out|refine z9 ?_ GE104.out)|exact HB.out)) hb);clear BK101;clear BK102;clear BK103;clear BK104;clear HB;have BK101:=n0_;have BK102:=n1_;have BK103:=n2_;have BK104:=n3_;have HB:=n4_;clear n0_ n1_ n2_ n3_ n4_;(try clear hb);(try clear hb2);(try clear hk);(try clear hi);have hnb15:=NB101_103.out;have hnc15:=NB103_101.out;have hnb16:=NB101_104.out;have hnc16:=NB104_101.out;have hcz17_0 : w14.cell? ⟨gb101,0,none⟩ = some (.int .u64 a0_0):=(zc BK101.out 0).trans rfl;have hcz17_1 : w14.cell? ⟨gb101,1,none⟩ = some (.int .u64 a0_1):=(zc BK101.out 1).trans rfl;have hfz17_0:=zd BK101.out 0;have hfz17_1:=zd BK101.out 1)|((with_reducible refine zK (N:=7) rfl ?_);refine zJ ?hg (N:=7) ?hd (cs:=#[.int .u64 0,.int .u64 0]) (t:=40) ?hr ?_;(case hd=>rfl);(case hg=>rfl);(case hr=>first|(go_simp;done)|(go_simp;rfl));intro gb106 hg w18 hbox hb;have n0_:=z2.mk (zg (g:=gb101) (o:=.cells #[.int .u64 a0_0,.int .u64 a0_1] 40 (0,0)) (by (with_reducible repeat (first|refine z6 ?_ _|refine z8 ?_|refine z5 ?_ _));exact BK101.out) hb);have n1_:=z2.mk (zg (g:=gb102) (o:=.cells #[.int .u64 a1_0,.int .u64 a1_1] 40 (0,0)) (by (with_reducible repeat (first|refine z6 ?_ _|refine z8 ?_|refine z5 ?_ _));exact BK102.out) hb);have n2_:=z2.mk (zg (g:=gb103) (o:=.cells #[.int .u64 0,.int .u64 0] 40 (0,0)) (by (with_reducible repeat (first|refine z6 ?_ _|refine z8 ?_|refine z5 ?_ _));exact BK103.out) hb);have n3_:=z2.mk (zg (g:=gb104) (o:=.cells #[.int .u64 x105000_1,.int .u64 x105001_1] 40 (0,0)) (by (with_reducible repeat (first|refine z6 ?_ _|refine z8 ?_|refine z5 ?_ _));exact BK104.out) hb);have n4_:=z2.mk (za (by repeat (first|(with_reducible first|exact HB.out|apply z4|apply z1|apply z3|refine z9 ?_ GE101.out|refine z9 ?_ GE102.out|refine z9 ?_ GE103.out|refine z9 ?_ GE104.out)|exact HB.out)) hb);have n5_:=z2.mk (hbox);have n6_:=z2.mk ((by rw [hg];exact (zb (by repeat (first|(with_reducible first|exact HB.out|apply z4|apply z1|apply z3|refine z9 ?_ GE101.out|refine z9 ?_ GE102.out|refine z9 ?_ GE103.out|refine z9 ?_ GE104.out)|exact HB.out))) : w.heap.size ≤ gb106));have n7_:=z2.mk ((by rw [hg];exact (zb (by repeat (first|(with_reducible first|exact HB.out|apply z4|apply z1|apply z3|refine z9 ?_ GE101.out|refine z9 ?_ GE102.out|refine z9 ?_ GE103.out|refine z9 ?_ GE104.out)|exact HB.out))) : w.heap.size ≤ gb106));have n8_:=z2.mk ((by rw [hg];exact Nat.ne_of_lt (zV (g:=gb101) (o:=.cells #[.int .u64 a0_0,.int .u64 a0_1] 40 (0,0)) (by (with_reducible repeat (first|refine z6 ?_ _|refine z8 ?_|refine z5 ?_ _));exact BK101.out)) : gb101 ≠ gb106));have n9_:=z2.mk ((by rw [hg];exact Nat.ne_of_gt (zV (g:=gb101) (o:=.cells #[.int .u64 a0_0,.int .u64 a0_1] 40 (0,0)) (by (with_reducible repeat (first|refine z6 ?_ _|refine z8 ?_|refine z5 ?_ _));exact BK101.out)) : gb106 ≠ gb101));have n10_:=z2.mk ((by rw [hg];exact Nat.ne_of_lt (zV (g:=gb102) (o:=.cells #[.int .u64 a1_0,.int .u64 a1_1] 40 (0,0)) (by (with_reducible repeat (first|refine z6 ?_ _|refine z8 ?_|refine z5 ?_ _));exact BK102.out)) : gb102 ≠ gb106));have n11_:=z2.mk ((by rw [hg];exact Nat.ne_of_gt (zV (g:=gb102) (o:=.cells #[.int .u64 a1_0,.int .u64 a1_1] 40 (0,0)) (by (with_reducible repeat (first|refine z6 ?_ _|refine z8 ?_|refine z5 ?_ _));exact BK102.out)) : gb106 ≠ gb102));have n12_:=z2.mk ((by rw [hg];exact Nat.ne_of_lt (zV (g:=gb103) (o:=.cells #[.int .u64 0,.int .u64 0] 40 (0,0)) (by (with_reducible repeat (first|refine z6 ?_ _|refine z8 ?_|refine z5 ?_ _));exact BK103.out)) : gb103 ≠ gb106));have n13_:=z2.mk ((by rw [hg];exact Nat.ne_of_gt (zV (g:=gb103) (o:=.cells #[.int .u64 0,.int .u64 0] 40 (0,0)) (by (with_reducible repeat (first|refine z6 ?_ _|refine z8 ?_|refine z5 ?_ _));exact BK103.out)) : gb106 ≠ gb103));have n14_:=z2.mk ((by rw [hg];exact Nat.ne_of_lt (zV (g:=gb104) (o:=.cells #[.int .u64 x105000_1,.int .u64 x105001_1] 40 (0,0)) (by (with_reducible repeat (first|refine z6 ?_ _|refine z8 ?_|refine z5 ?_ _));exact BK104.out)) : gb104 ≠ gb106));have n15_:=z2.mk ((by rw [hg];exact Nat.ne_of_gt (zV (g:=gb104) (o:=.cells #[.int .u64 x105000_1,.int .u64 x105001_1] 40 (0,0)) (by (with_reducible repeat (first|refine z6 ?_ _|refine z8 ?_|refine z5 ?_ _));exact BK104.out)) : gb106 ≠ gb104));clear BK101;clear BK102;clear BK103;clear BK104;clear HB;have BK101:=n0_;have BK102:=n1_;have BK103:=n2_;have BK104:=n3_;have HB:=n4_;have BK106:=n5_;have GW106:=n6_;have GE106:=n7_;have NB101_106:=n8_;have NB106_101:=n9_;have NB102_106:=n10_;have NB106_102:=n11_;have NB103_106:=n12_;have NB106_103:=n13_;have NB104_106:=n14_;have NB106_104:=n15_;clear n0_ n1_ n2_ n3_ n4_ n5_ n6_ n7_ n8_ n9_ n10_ n11_ n12_ n13_ n14_ n15_;clear hb hbox hg;have hnb19:=NB106_101.out;have hnc19:=NB101_106.out;have hnb20:=NB106_102.out;have hnc20:=NB102_106.out;have hnb21:=NB106_103.out;have hnc21:=NB103_106.out;have hnb22:=NB106_104.out;have hnc22:=NB104_106.out;have hcz23_0 : w18.cell? ⟨gb106,0,none⟩ = some (.int .u64 0):=(zc BK106.out 0).trans rfl;have hcz23_1 : w18.cell? ⟨gb106,1,none⟩ = some (.int .u64 0):=(zc BK106.out 1).trans rfl;have hfz23_0:=zd BK106.out 0;have hfz23_1:=zd BK106.out 1))
   go_loopg [8] k1 (fun kq v8 w'=>∃ (x8_2 : Int) (x107000_2 : Int) (x107001_2 : Int),v8 = .int .i64 x8_2 ∧ z2 (zh.l1 kq x6_1 x8_2 a0_0 a0_1 a1_0 a1_1 x105000_1 x105001_1 x107000_2 x107001_2 = some (r1,r2)) ∧ z2 (kq ≤ k1) ∧ z2 (w'.heap[gb101]? = some (.cells #[.int .u64 a0_0,.int .u64 a0_1] 40 (0,0))) ∧ z2 (w'.heap[gb102]? = some (.cells #[.int .u64 a1_0,.int .u64 a1_1] 40 (0,0))) ∧ z2 (w'.heap[gb103]? = some (.cells #[.int .u64 0,.int .u64 0] 40 (0,0))) ∧ z2 (w'.heap[gb104]? = some (.cells #[.int .u64 x105000_1,.int .u64 x105001_1] 40 (0,0))) ∧ z2 (w'.heap[gb106]? = some (.cells #[.int .u64 x107000_2,.int .u64 x107001_2] 40 (0,0))) ∧ z2 (Below w.heap.size w w'))
   case atStart=>exact ⟨(0),(a0_0),(a0_1),(by first|rfl|(simp;done)|(simp [*];done)),H',⟨Nat.le_refl _⟩,⟨by (with_reducible repeat (first|refine z6 ?_ _|refine z8 ?_|refine z5 ?_ _));refine z13 ?_ NB101_106.out _;(with_reducible repeat (first|refine z6 ?_ _|refine z8 ?_|refine z5 ?_ _));refine z13 ?_ NB101_106.out _;(with_reducible repeat (first|refine z6 ?_ _|refine z8 ?_|refine z5 ?_ _));exact BK101.out⟩,⟨by (with_reducible repeat (first|refine z6 ?_ _|refine z8 ?_|refine z5 ?_ _));refine z13 ?_ NB102_106.out _;(with_reducible repeat (first|refine z6 ?_ _|refine z8 ?_|refine z5 ?_ _));refine z13 ?_ NB102_106.out _;(with_reducible repeat (first|refine z6 ?_ _|refine z8 ?_|refine z5 ?_ _));exact BK102.out⟩,⟨by (with_reducible repeat (first|refine z6 ?_ _|refine z8 ?_|refine z5 ?_ _));refine z13 ?_ NB103_106.out _;(with_reducible repeat (first|refine z6 ?_ _|refine z8 ?_|refine z5 ?_ _));refine z13 ?_ NB103_106.out _;(with_reducible repeat (first|refine z6 ?_ _|refine z8 ?_|refine z5 ?_ _));exact BK103.out⟩,⟨by (with_reducible repeat (first|refine z6 ?_ _|refine z8 ?_|refine z5 ?_ _));refine z13 ?_ NB104_106.out _;(with_reducible repeat (first|refine z6 ?_ _|refine z8 ?_|refine z5 ?_ _));refine z13 ?_ NB104_106.out _;(with_reducible repeat (first|refine z6 ?_ _|refine z8 ?_|refine z5 ?_ _));exact BK104.out⟩,⟨by (with_reducible repeat (first|refine z6 ?_ _|refine z8 ?_|refine z5 ?_ _));refine z11 (cs:=#[.int .u64 a0_0,.int .u64 0]) ?_ 1 _ rfl;(with_reducible repeat (first|refine z6 ?_ _|refine z8 ?_|refine z5 ?_ _));refine z11 (cs:=#[.int .u64 0,.int .u64 0]) ?_ 0 _ rfl;(with_reducible repeat (first|refine z6 ?_ _|refine z8 ?_|refine z5 ?_ _));exact BK106.out⟩,⟨by repeat (first|(with_reducible first|exact HB.out|apply z4|apply z1|apply z3|refine z9 ?_ GE101.out|refine z9 ?_ GE102.out|refine z9 ?_ GE103.out|refine z9 ?_ GE104.out|refine z9 ?_ GE106.out)|exact HB.out)⟩⟩
   case round =>
    clear H'
    (try clear c1);(try clear c2);(try clear p2);(try clear p6);(try clear c7);(try clear c7b0);(try clear c9);(try clear c10);(try clear c11);(try clear c12);(try clear c15);(try clear c16);(try clear c19);(try clear c20);(try clear c21);(try clear c22);(try clear hcz13_0);(try clear hcz13_1);(try clear hcz17_0);(try clear hcz17_1);(try clear hcz23_0);(try clear hcz23_1);(try clear hfz13_0);(try clear hfz13_1);(try clear hfz17_0);(try clear hfz17_1);(try clear hfz23_0);(try clear hfz23_1);(try clear p2)
    obtain ⟨x8_2,x107000_2,x107001_2,rfl,HA,HK2,BK101,BK102,BK103,BK104,BK106,HB⟩:=hrel
    cases gk with
    | zero=>exact absurd HA.out (by simp [zh.l1])
    | succ k2 =>
     have H:=HA.out
     clear HA
     simp only [zh.l1] at H
     by_cases c24 : x8_2 < 7
     rotate_left
     · rw [if_neg c24] at H
       have c24b0 : decide (x8_2 < 7) = false:=decide_eq_false c24
       clear c24
       replace H:=Option.bind_eq_some_iff.mp H
       obtain ⟨⟨t109,t110⟩,A370,H⟩:=H
       replace H : (zh.l0 k2 (wrap64 (x6_1 + 1)) a0_0 a0_1 a1_0 a1_1 t109 t110) = some (r1,r2):=H
       have A37:=z2.mk A370
       clear A370
       have H':=z2.mk H
       clear H
       have hnb38:=NB104_101.out
       have hnc38:=NB101_104.out
       have hnb39:=NB104_102.out
       have hnc39:=NB102_104.out
       have hnb40:=NB104_103.out
       have hnc40:=NB103_104.out
       have hnb41:=NB104_106.out
       have hnc41:=NB106_104.out
       have hcz42_0 : wr.cell? ⟨gb104,0,none⟩ = some (.int .u64 x105000_1):=(zc BK104.out 0).trans rfl
       have hcz42_1 : wr.cell? ⟨gb104,1,none⟩ = some (.int .u64 x105001_1):=(zc BK104.out 1).trans rfl
       have hfz42_0:=zd BK104.out 0
       have hfz42_1:=zd BK104.out 1
       have hnb43:=NB106_101.out
       have hnc43:=NB101_106.out
       have hnb44:=NB106_102.out
       have hnc44:=NB102_106.out
       have hnb45:=NB106_103.out
       have hnc45:=NB103_106.out
       have hcz46_0 : wr.cell? ⟨gb106,0,none⟩ = some (.int .u64 x107000_2):=(zc BK106.out 0).trans rfl
       have hcz46_1 : wr.cell? ⟨gb106,1,none⟩ = some (.int .u64 x107001_2):=(zc BK106.out 1).trans rfl
       have hfz46_0:=zd BK106.out 0
       have hfz46_1:=zd BK106.out 1
       go_wp2_with (first|((with_reducible refine zj (f:=69) rfl ?_);refine goesL_ (some 33) rfl rfl Try.func69 (by kernel_rfl) rfl #[.agg #[.int .u64 x105000_1,.int .u64 x105001_1],.agg #[.int .u64 x107000_2,.int .u64 x107001_2]] rfl (by (try simp only [List.map_toArray,List.map_cons,List.map_nil]);first|done|rfl|(simp only [List.length_drop,List.length_take];rfl)) ?_;(with_reducible refine (z1q.calls x105000_1 x105001_1 x107000_2 x107001_2 t109 t110 _ A37.out).mono ?_);rintro e w47 ⟨rfl,hb⟩;refine ⟨_,rfl,?_⟩;have n0_:=z2.mk (zg (g:=gb101) (o:=.cells #[.int .u64 a0_0,.int .u64 a0_1] 40 (0,0)) (by (with_reducible repeat (first|refine z6 ?_ _|refine z8 ?_|refine z5 ?_ _));exact BK101.out) hb);have n1_:=z2.mk (zg (g:=gb102) (o:=.cells #[.int .u64 a1_0,.int .u64 a1_1] 40 (0,0)) (by (with_reducible repeat (first|refine z6 ?_ _|refine z8 ?_|refine z5 ?_ _));exact BK102.out) hb);have n2_:=z2.mk (zg (g:=gb103) (o:=.cells #[.int .u64 0,.int .u64 0] 40 (0,0)) (by (with_reducible repeat (first|refine z6 ?_ _|refine z8 ?_|refine z5 ?_ _));exact BK103.out) hb);have n3_:=z2.mk (zg (g:=gb104) (o:=.cells #[.int .u64 x105000_1,.int .u64 x105001_1] 40 (0,0)) (by (with_reducible repeat (first|refine z6 ?_ _|refine z8 ?_|refine z5 ?_ _));exact BK104.out) hb);have n4_:=z2.mk (zg (g:=gb106) (o:=.cells #[.int .u64 x107000_2,.int .u64 x107001_2] 40 (0,0)) (by (with_reducible repeat (first|refine z6 ?_ _|refine z8 ?_|refine z5 ?_ _));exact BK106.out) hb);have n5_:=z2.mk (za (by repeat (first|(with_reducible first|exact HB.out|apply z4|apply z1|apply z3|refine z9 ?_ GE101.out|refine z9 ?_ GE102.out|refine z9 ?_ GE103.out|refine z9 ?_ GE104.out|refine z9 ?_ GE106.out)|exact HB.out)) hb);clear BK101;clear BK102;clear BK103;clear BK104;clear BK106;clear HB;have BK101:=n0_;have BK102:=n1_;have BK103:=n2_;have BK104:=n3_;have BK106:=n4_;have HB:=n5_;clear n0_ n1_ n2_ n3_ n4_ n5_;(try clear hb);(try clear hb2);(try clear hk);(try clear hi);have hcz48_0 : w47.cell? ⟨gb104,0,none⟩ = some (.int .u64 x105000_1):=(zc BK104.out 0).trans rfl;have hcz48_1 : w47.cell? ⟨gb104,1,none⟩ = some (.int .u64 x105001_1):=(zc BK104.out 1).trans rfl;have hfz48_0:=zd BK104.out 0;have hfz48_1:=zd BK104.out 1))
       go_roundg k2
       case measure=>have:=HK1.out;have:=HK2.out;omega
       case rel=>exact ⟨(wrap64 (x6_1 + 1)),(t109),(t110),(by first|rfl|(simp;done)|(simp [*];done)),H',⟨by have:=HK1.out;have:=HK2.out;omega⟩,⟨by (with_reducible repeat (first|refine z6 ?_ _|refine z8 ?_|refine z5 ?_ _));refine z13 ?_ NB101_104.out _;(with_reducible repeat (first|refine z6 ?_ _|refine z8 ?_|refine z5 ?_ _));refine z13 ?_ NB101_104.out _;(with_reducible repeat (first|refine z6 ?_ _|refine z8 ?_|refine z5 ?_ _));exact BK101.out⟩,⟨by (with_reducible repeat (first|refine z6 ?_ _|refine z8 ?_|refine z5 ?_ _));refine z13 ?_ NB102_104.out _;(with_reducible repeat (first|refine z6 ?_ _|refine z8 ?_|refine z5 ?_ _));refine z13 ?_ NB102_104.out _;(with_reducible repeat (first|refine z6 ?_ _|refine z8 ?_|refine z5 ?_ _));exact BK102.out⟩,⟨by (with_reducible repeat (first|refine z6 ?_ _|refine z8 ?_|refine z5 ?_ _));refine z13 ?_ NB103_104.out _;(with_reducible repeat (first|refine z6 ?_ _|refine z8 ?_|refine z5 ?_ _));refine z13 ?_ NB103_104.out _;(with_reducible repeat (first|refine z6 ?_ _|refine z8 ?_|refine z5 ?_ _));exact BK103.out⟩,⟨by (with_reducible repeat (first|refine z6 ?_ _|refine z8 ?_|refine z5 ?_ _));refine z11 (cs:=#[.int .u64 t109,.int .u64 x105001_1]) ?_ 1 _ rfl;(with_reducible repeat (first|refine z6 ?_ _|refine z8 ?_|refine z5 ?_ _));refine z11 (cs:=#[.int .u64 x105000_1,.int .u64 x105001_1]) ?_ 0 _ rfl;(with_reducible repeat (first|refine z6 ?_ _|refine z8 ?_|refine z5 ?_ _));exact BK104.out⟩,⟨by repeat (first|(with_reducible first|exact HB.out|apply z4|apply z1|apply z3|refine z9 ?_ GE101.out|refine z9 ?_ GE102.out|refine z9 ?_ GE103.out|refine z9 ?_ GE104.out|refine z9 ?_ GE106.out)|exact HB.out)⟩⟩
     rw [if_pos c24] at H
     have c24b0 : decide (x8_2 < 7) = true:=decide_eq_true c24
     clear c24
     obtain ⟨ji25,hji25⟩ : ∃ j_ : Int,(IntKind.u64.wrap (x8_2)) = j_:=⟨_,rfl⟩
     replace H : (if 0 ≤ (ji25) then (if (Go.bits .and .i64 (shr .i64 x6_1 (ji25)) 1) = 1 then ((zB.f k2 x8_2 x107000_2 x107001_2).bind fun bt107=>(zh.l1 k2 x6_1 (wrap64 (x8_2 + 1)) a0_0 a0_1 a1_0 a1_1 x105000_1 x105001_1 bt107.1 bt107.2)) else (zh.l1 k2 x6_1 (wrap64 (x8_2 + 1)) a0_0 a0_1 a1_0 a1_1 x105000_1 x105001_1 x107000_2 x107001_2)) else (none)) = some (r1,r2):=by first|(rw [hji25] at H;exact H)|(simp only [hji25] at H ⊢;exact H)
     by_cases c26 : 0 ≤ (ji25)
     rotate_left
     · rw [if_neg c26] at H
       exact absurd H (by simp)
     rw [if_pos c26] at H
     have c26b0:=eq_true c26
     have c26b1 : decide (0 ≤ (ji25)) = true:=decide_eq_true c26
     clear c26
     obtain ⟨ji27,hji27⟩ : ∃ j_ : Int,(shr .i64 x6_1 (ji25)) = j_:=⟨_,rfl⟩
     replace H : (if (Go.bits .and .i64 (ji27) 1) = 1 then ((zB.f k2 x8_2 x107000_2 x107001_2).bind fun bt107=>(zh.l1 k2 x6_1 (wrap64 (x8_2 + 1)) a0_0 a0_1 a1_0 a1_1 x105000_1 x105001_1 bt107.1 bt107.2)) else (zh.l1 k2 x6_1 (wrap64 (x8_2 + 1)) a0_0 a0_1 a1_0 a1_1 x105000_1 x105001_1 x107000_2 x107001_2)) = some (r1,r2):=by first|(rw [hji27] at H;exact H)|(simp only [hji27] at H ⊢;exact H)
     have hji27_ : (x6_1 / 2 ^ min (ji25).toNat 64) = ji27:=hji27
     have hji27z : (ji25) ≤ 64 → (x6_1 / 2 ^ (ji25).toNat) = ji27:=z2F hji27
     by_cases c28 : (Go.bits .and .i64 (ji27) 1) = 1
     rotate_left
     · rw [if_neg c28] at H
       have c28b0 : ((Go.bits .and .i64 (ji27) 1) == 1) = false:=beq_eq_false_iff_ne.mpr c28
       have c28b1 : ((Go.bits .and .i64 (ji27) 1) != 1) = true:=bne_iff_ne.mpr c28
       have H':=z2.mk H
       clear H
       go_wp2
       go_roundg k2
       case measure=>have:=HK1.out;have:=HK2.out;omega
       case rel=>exact ⟨(wrap64 (x8_2 + 1)),(x107000_2),(x107001_2),(by first|rfl|(simp;done)|(simp [*];done)),H',⟨by have:=HK1.out;have:=HK2.out;omega⟩,⟨by (with_reducible repeat (first|refine z6 ?_ _|refine z8 ?_|refine z5 ?_ _));exact BK101.out⟩,⟨by (with_reducible repeat (first|refine z6 ?_ _|refine z8 ?_|refine z5 ?_ _));exact BK102.out⟩,⟨by (with_reducible repeat (first|refine z6 ?_ _|refine z8 ?_|refine z5 ?_ _));exact BK103.out⟩,⟨by (with_reducible repeat (first|refine z6 ?_ _|refine z8 ?_|refine z5 ?_ _));exact BK104.out⟩,⟨by (with_reducible repeat (first|refine z6 ?_ _|refine z8 ?_|refine z5 ?_ _));exact BK106.out⟩,⟨by repeat (first|(with_reducible first|exact HB.out|apply z4|apply z1|apply z3|refine z9 ?_ GE101.out|refine z9 ?_ GE102.out|refine z9 ?_ GE103.out|refine z9 ?_ GE104.out|refine z9 ?_ GE106.out)|exact HB.out)⟩⟩
     rw [if_pos c28] at H
     have c28b0 : ((Go.bits .and .i64 (ji27) 1) == 1) = true:=beq_iff_eq.mpr c28
     have c28b1 : ((Go.bits .and .i64 (ji27) 1) != 1) = false:=bne_eq_false_iff_eq.mpr c28
     clear c28
     replace H:=Option.bind_eq_some_iff.mp H
     obtain ⟨⟨t107,t108⟩,A290,H⟩:=H
     replace H : (zh.l1 k2 x6_1 (wrap64 (x8_2 + 1)) a0_0 a0_1 a1_0 a1_1 x105000_1 x105001_1 t107 t108) = some (r1,r2):=H
     have A29:=z2.mk A290
     clear A290
     have H':=z2.mk H
     clear H
     have hnb30:=NB106_101.out
     have hnc30:=NB101_106.out
     have hnb31:=NB106_102.out
     have hnc31:=NB102_106.out
     have hnb32:=NB106_103.out
     have hnc32:=NB103_106.out
     have hnb33:=NB106_104.out
     have hnc33:=NB104_106.out
     have hcz34_0 : wr.cell? ⟨gb106,0,none⟩ = some (.int .u64 x107000_2):=(zc BK106.out 0).trans rfl
     have hcz34_1 : wr.cell? ⟨gb106,1,none⟩ = some (.int .u64 x107001_2):=(zc BK106.out 1).trans rfl
     have hfz34_0:=zd BK106.out 0
     have hfz34_1:=zd BK106.out 1
     go_wp2_with (first|((with_reducible refine zj (f:=110) rfl ?_);refine goesL_ (some 30) rfl rfl Try.func110 (by kernel_rfl) rfl #[.int .i64 x8_2,.agg #[.int .u64 x107000_2,.int .u64 x107001_2]] rfl (by (try simp only [List.map_toArray,List.map_cons,List.map_nil]);first|done|rfl|(simp only [List.length_drop,List.length_take];rfl)) ?_;(with_reducible refine (zB.calls k2 x8_2 x107000_2 x107001_2 t107 t108 _ A29.out).mono ?_);rintro e w35 ⟨rfl,hb⟩;refine ⟨_,rfl,?_⟩;have n0_:=z2.mk (zg (g:=gb101) (o:=.cells #[.int .u64 a0_0,.int .u64 a0_1] 40 (0,0)) (by (with_reducible repeat (first|refine z6 ?_ _|refine z8 ?_|refine z5 ?_ _));exact BK101.out) hb);have n1_:=z2.mk (zg (g:=gb102) (o:=.cells #[.int .u64 a1_0,.int .u64 a1_1] 40 (0,0)) (by (with_reducible repeat (first|refine z6 ?_ _|refine z8 ?_|refine z5 ?_ _));exact BK102.out) hb);have n2_:=z2.mk (zg (g:=gb103) (o:=.cells #[.int .u64 0,.int .u64 0] 40 (0,0)) (by (with_reducible repeat (first|refine z6 ?_ _|refine z8 ?_|refine z5 ?_ _));exact BK103.out) hb);have n3_:=z2.mk (zg (g:=gb104) (o:=.cells #[.int .u64 x105000_1,.int .u64 x105001_1] 40 (0,0)) (by (with_reducible repeat (first|refine z6 ?_ _|refine z8 ?_|refine z5 ?_ _));exact BK104.out) hb);have n4_:=z2.mk (zg (g:=gb106) (o:=.cells #[.int .u64 x107000_2,.int .u64 x107001_2] 40 (0,0)) (by (with_reducible repeat (first|refine z6 ?_ _|refine z8 ?_|refine z5 ?_ _));exact BK106.out) hb);have n5_:=z2.mk (za (by repeat (first|(with_reducible first|exact HB.out|apply z4|apply z1|apply z3|refine z9 ?_ GE101.out|refine z9 ?_ GE102.out|refine z9 ?_ GE103.out|refine z9 ?_ GE104.out|refine z9 ?_ GE106.out)|exact HB.out)) hb);clear BK101;clear BK102;clear BK103;clear BK104;clear BK106;clear HB;have BK101:=n0_;have BK102:=n1_;have BK103:=n2_;have BK104:=n3_;have BK106:=n4_;have HB:=n5_;clear n0_ n1_ n2_ n3_ n4_ n5_;(try clear hb);(try clear hb2);(try clear hk);(try clear hi);have hcz36_0 : w35.cell? ⟨gb106,0,none⟩ = some (.int .u64 x107000_2):=(zc BK106.out 0).trans rfl;have hcz36_1 : w35.cell? ⟨gb106,1,none⟩ = some (.int .u64 x107001_2):=(zc BK106.out 1).trans rfl;have hfz36_0:=zd BK106.out 0;have hfz36_1:=zd BK106.out 1))
     go_roundg k2
     case measure=>have:=HK1.out;have:=HK2.out;omega
     case rel=>exact ⟨(wrap64 (x8_2 + 1)),(t107),(t108),(by first|rfl|(simp;done)|(simp [*];done)),H',⟨by have:=HK1.out;have:=HK2.out;omega⟩,⟨by (with_reducible repeat (first|refine z6 ?_ _|refine z8 ?_|refine z5 ?_ _));refine z13 ?_ NB101_106.out _;(with_reducible repeat (first|refine z6 ?_ _|refine z8 ?_|refine z5 ?_ _));refine z13 ?_ NB101_106.out _;(with_reducible repeat (first|refine z6 ?_ _|refine z8 ?_|refine z5 ?_ _));exact BK101.out⟩,⟨by (with_reducible repeat (first|refine z6 ?_ _|refine z8 ?_|refine z5 ?_ _));refine z13 ?_ NB102_106.out _;(with_reducible repeat (first|refine z6 ?_ _|refine z8 ?_|refine z5 ?_ _));refine z13 ?_ NB102_106.out _;(with_reducible repeat (first|refine z6 ?_ _|refine z8 ?_|refine z5 ?_ _));exact BK102.out⟩,⟨by (with_reducible repeat (first|refine z6 ?_ _|refine z8 ?_|refine z5 ?_ _));refine z13 ?_ NB103_106.out _;(with_reducible repeat (first|refine z6 ?_ _|refine z8 ?_|refine z5 ?_ _));refine z13 ?_ NB103_106.out _;(with_reducible repeat (first|refine z6 ?_ _|refine z8 ?_|refine z5 ?_ _));exact BK103.out⟩,⟨by (with_reducible repeat (first|refine z6 ?_ _|refine z8 ?_|refine z5 ?_ _));refine z13 ?_ NB104_106.out _;(with_reducible repeat (first|refine z6 ?_ _|refine z8 ?_|refine z5 ?_ _));refine z13 ?_ NB104_106.out _;(with_reducible repeat (first|refine z6 ?_ _|refine z8 ?_|refine z5 ?_ _));exact BK104.out⟩,⟨by (with_reducible repeat (first|refine z6 ?_ _|refine z8 ?_|refine z5 ?_ _));refine z11 (cs:=#[.int .u64 t107,.int .u64 x107001_2]) ?_ 1 _ rfl;(with_reducible repeat (first|refine z6 ?_ _|refine z8 ?_|refine z5 ?_ _));refine z11 (cs:=#[.int .u64 x107000_2,.int .u64 x107001_2]) ?_ 0 _ rfl;(with_reducible repeat (first|refine z6 ?_ _|refine z8 ?_|refine z5 ?_ _));exact BK106.out⟩,⟨by repeat (first|(with_reducible first|exact HB.out|apply z4|apply z1|apply z3|refine z9 ?_ GE101.out|refine z9 ?_ GE102.out|refine z9 ?_ GE103.out|refine z9 ?_ GE104.out|refine z9 ?_ GE106.out)|exact HB.out)⟩⟩
end Go.Proofs.Ytkhmpaooinpfoaa.P
namespace Go.Proofs.Ytkhmpaooinpfoaa.P
open Go.RowKit Go.Proofs.YtkhmpaooinpfoaaW.PrintWords Go.Proofs.YtkhmpaooinpfoaaW.PrintLast Go.Proofs.YtkhmpaooinpfoaaW.PrintMore
attribute [local go_sem] z15 z17 z1f z1g zW zX z16 z18   -- for this text's walks alone
set_option linter.unusedVariables false
set_option linter.unusedSimpArgs false
def z1y.f  : Option (Int × Int):=some (0,1)
set_option maxHeartbeats 8000000 in
set_option maxRecDepth 100000 in
theorem z1y.calls  (r1 : Int) (r2 : Int) (w : World) (h : z1y.f  = some (r1,r2)) :
 Calls Try.prog 109 #[] w fun e w'=>e = .returned (.agg #[.int .u64 r1,.int .u64 r2]) ∧ Below w.heap.size w w':=by
 have hu40:=Try.underlying40
 have HB:=z2.mk (Below.refl w.heap.size w)
 have H : (some (0,1)) = some (r1,r2):=h
 clear h
 simp only [Option.some.injEq,Prod.mk.injEq] at H
 obtain ⟨rfl,rfl⟩:=H
 go_enter Try.func109,Try.ntmps109
 go_wp2_with (first|((with_reducible refine zK (N:=0) rfl ?_);refine zJ ?hg (N:=0) ?hd (cs:=#[.int .u64 0,.int .u64 0]) (t:=40) ?hr ?_;(case hd=>rfl);(case hg=>rfl);(case hr=>first|(go_simp;done)|(go_simp;rfl));intro gb101 hg w1 hbox hb;have n0_:=z2.mk (za (by repeat (first|(with_reducible first|exact HB.out|apply z4|apply z1|apply z3)|exact HB.out)) hb);have n1_:=z2.mk (hbox);have n2_:=z2.mk ((by rw [hg];exact (zb (by repeat (first|(with_reducible first|exact HB.out|apply z4|apply z1|apply z3)|exact HB.out))) : w.heap.size ≤ gb101));have n3_:=z2.mk ((by rw [hg];exact (zb (by repeat (first|(with_reducible first|exact HB.out|apply z4|apply z1|apply z3)|exact HB.out))) : w.heap.size ≤ gb101));clear HB;have HB:=n0_;have BK101:=n1_;have GW101:=n2_;have GE101:=n3_;clear n0_ n1_ n2_ n3_;clear hb hbox hg;have hcz2_0 : w1.cell? ⟨gb101,0,none⟩ = some (.int .u64 0):=(zc BK101.out 0).trans rfl;have hcz2_1 : w1.cell? ⟨gb101,1,none⟩ = some (.int .u64 0):=(zc BK101.out 1).trans rfl;have hfz2_0:=zd BK101.out 0;have hfz2_1:=zd BK101.out 1))
 refine bodyPost_ret (results_cell_row rfl _ _ gb101 40 #[.int .u64 0,.int .u64 1] (0,0) _ rfl (by (with_reducible repeat (first|refine z6 ?_ _|refine z8 ?_|refine z5 ?_ _));refine z11 (cs:=#[.int .u64 0,.int .u64 0]) ?_ 1 _ rfl;(with_reducible repeat (first|refine z6 ?_ _|refine z8 ?_|refine z5 ?_ _));refine z11 (cs:=#[.int .u64 0,.int .u64 0]) ?_ 0 _ rfl;(with_reducible repeat (first|refine z6 ?_ _|refine z8 ?_|refine z5 ?_ _));exact BK101.out) Try.underlying40 rfl (by kernel_rfl)) rfl ?_
 exact ⟨by first|rfl|(simp [zk,zl] <;> rfl)|(simp [*,zk,zl] <;> rfl),by repeat (first|(with_reducible first|exact HB.out|apply z4|apply z1|apply z3|refine z9 ?_ GE101.out)|exact HB.out)⟩
end Go.Proofs.Ytkhmpaooinpfoaa.P
namespace Go.Proofs.Ytkhmpaooinpfoaa.P
open Go.RowKit Go.Proofs.YtkhmpaooinpfoaaW.PrintWords Go.Proofs.YtkhmpaooinpfoaaW.PrintLast Go.Proofs.YtkhmpaooinpfoaaW.PrintMore
attribute [local go_sem] z15 z17 z1f z1g zW zX z16 z18   -- for this text's walks alone
set_option linter.unusedVariables false
set_option linter.unusedSimpArgs false
def zp.l0 : Nat → List (S40) → Int → Int → Int → Int → Option (Int × Int)
 | 0,_,_,_,_,_=>none
 | k + 1,x0,x6,x7,x105000,x105001=>if x7 < (x0.length : Int) then (if (Int.tmod x6 2) = 1 then (if 0 ≤ x7 then ((zh.f k x105000 x105001 ((z1m x0 x7).f0) ((z1m x0 x7).f1)).bind fun bt106=>(zp.l0 k x0 (wrap64 (Int.tdiv x6 2)) (wrap64 (x7 + 1)) bt106.1 bt106.2)) else (none)) else ((z1y.f).bind fun bt108=>(if 0 ≤ x7 then ((z1q.f bt108.1 bt108.2 ((z1m x0 x7).f0) ((z1m x0 x7).f1)).bind fun bt111=>((zh.f k x105000 x105001 bt111.1 bt111.2).bind fun bt113=>(zp.l0 k x0 (wrap64 (Int.tdiv x6 2)) (wrap64 (x7 + 1)) bt113.1 bt113.2))) else (none)))) else (some (x105000,x105001))
def zp.f (k : Nat) (l0 : List (S40)) (a1 : Int) : Option (Int × Int):=(z1y.f).bind fun bt102=>(zp.l0 k l0 a1 0 bt102.1 bt102.2)
theorem zp.z1b : ∀ k,(∀ y0 y1 y2 y3 y4,LeO (zp.l0 k y0 y1 y2 y3 y4) (zp.l0 (k + 1) y0 y1 y2 y3 y4))
 | 0=>fun _ _ _ _ _ r h=>by simp [zp.l0] at h
 | k + 1=>by
  have ih0:=zp.z1b k
  · intro y0 y1 y2 y3 y4
    unfold zp.l0
    repeat' first
    | (with_reducible exact ih0 _ _ _ _ _)
    | (with_reducible exact zh.mono _ _ _ _ _)
    | (with_reducible exact LeO.refl _)
    | (with_reducible exact LeO.none _)
    | (with_reducible refine LeO.ite ?_ ?_)
    | (with_reducible refine LeO.bind ?_ (fun _=>?_))
    | exact ih0 _ _ _ _ _
    | exact zh.mono _ _ _ _ _
    | exact LeO.none _
    | refine LeO.ite ?_ ?_
    | refine LeO.bind ?_ (fun _=>?_)
theorem zp.mono : ∀ a0 a1 k,LeO (zp.f k a0 a1) (zp.f (k + 1) a0 a1):=by
 intro a0 a1 k
 have ih0:=zp.z1b k
 unfold zp.f
 repeat' first
  | (with_reducible exact ih0 _ _ _ _ _)
  | (with_reducible exact zh.mono _ _ _ _ _)
  | (with_reducible exact LeO.refl _)
  | (with_reducible exact LeO.none _)
  | (with_reducible refine LeO.ite ?_ ?_)
  | (with_reducible refine LeO.bind ?_ (fun _=>?_))
  | exact ih0 _ _ _ _ _
  | exact zh.mono _ _ _ _ _
  | exact LeO.none _
  | refine LeO.ite ?_ ?_
  | refine LeO.bind ?_ (fun _=>?_)
def zp.T8 : Bool × List (List Nat × List Nat):=(true,[([],[]),([],[]),([],[]),([],[]),([2,3],[2,3]),([4],[4]),([1,5,1],[1,5]),([0,6,6],[0,6]),([7,7,0,1,2,3,4,5,6,7],[7])])
def zp.B8 : List Nat:=[0,0,0,0,12,28,62,127,255]
theorem zp.tab8 : rtab .any (opsOf Try.f70 8) = zp.T8:=by kernel_rfl
theorem zp.bits8 : waitsOk zp.T8.2 zp.B8 = true:=by kernel_rfl
set_option maxHeartbeats 8000000 in
set_option maxRecDepth 100000 in
theorem zp.calls (k : Nat) (A0 : Option Addr) (c0 : Nat) (l0 : List (S40)) (a1 : Int) (r1 : Int) (r2 : Int) (w : World) (hr0 : Kd.C k40 w A0 l0.length l0) (hc0 : l0.length ≤ c0) (h : zp.f k l0 a1 = some (r1,r2)) :
 Calls Try.prog 70 #[.slice A0 l0.length c0,.int .i64 a1] w fun e w'=>e = .returned (.agg #[.int .u64 r1,.int .u64 r2]) ∧ Below w.heap.size w w':=by
 have hu40:=Try.underlying40
 have HR0:=z2.mk hr0
 have HC0:=z2.mk hc0
 clear hr0 hc0
 have HB:=z2.mk (Below.refl w.heap.size w)
 have H : ((z1y.f).bind fun bt102=>(zp.l0 k l0 a1 0 bt102.1 bt102.2)) = some (r1,r2):=h
 clear h
 replace H:=Option.bind_eq_some_iff.mp H
 obtain ⟨⟨t102,t103⟩,A30,H⟩:=H
 replace H : (zp.l0 k l0 a1 0 t102 t103) = some (r1,r2):=H
 have A3:=z2.mk A30
 clear A30
 have H':=z2.mk H
 clear H
 go_enter Try.func70,Try.ntmps70
 go_wp2_with (first|((with_reducible refine zK (N:=4) rfl ?_);refine zJ ?hg (N:=4) ?hd (cs:=#[.int .u64 0,.int .u64 0]) (t:=40) ?hr ?_;(case hd=>rfl);(case hg=>rfl);(case hr=>first|(go_simp;done)|(go_simp;rfl));intro gb101 hg w4 hbox hb;have n0_:=z2.mk (za (by repeat (first|(with_reducible first|exact HB.out|apply z4|apply z1|apply z3)|exact HB.out)) hb);have n1_:=z2.mk (hbox);have n2_:=z2.mk ((by rw [hg];exact (zb (by repeat (first|(with_reducible first|exact HB.out|apply z4|apply z1|apply z3)|exact HB.out))) : w.heap.size ≤ gb101));have n3_:=z2.mk ((by rw [hg];exact (zb (by repeat (first|(with_reducible first|exact HB.out|apply z4|apply z1|apply z3)|exact HB.out))) : w.heap.size ≤ gb101));clear HB;have HB:=n0_;have BK101:=n1_;have GW101:=n2_;have GE101:=n3_;clear n0_ n1_ n2_ n3_;clear hb hbox hg)|((with_reducible refine zj (f:=109) rfl ?_);refine goesL_ (some 8) rfl rfl Try.func109 (by kernel_rfl) rfl #[] rfl (by (try simp only [List.map_toArray,List.map_cons,List.map_nil]);first|done|rfl|(simp only [List.length_drop,List.length_take];rfl)) ?_;(with_reducible refine (z1y.calls  t102 t103 _ A3.out).mono ?_);rintro e w5 ⟨rfl,hb⟩;refine ⟨_,rfl,?_⟩;have n0_:=z2.mk (zg (g:=gb101) (o:=.cells #[.int .u64 0,.int .u64 0] 40 (0,0)) (by (with_reducible repeat (first|refine z6 ?_ _|refine z8 ?_|refine z5 ?_ _));exact BK101.out) hb);have n1_:=z2.mk (za (by repeat (first|(with_reducible first|exact HB.out|apply z4|apply z1|apply z3|refine z9 ?_ GE101.out)|exact HB.out)) hb);clear BK101;clear HB;have BK101:=n0_;have HB:=n1_;clear n0_ n1_;(try clear hb);(try clear hb2);(try clear hk);(try clear hi))|((with_reducible refine zK (N:=5) rfl ?_);refine zJ ?hg (N:=5) ?hd (cs:=#[.int .u64 0,.int .u64 0]) (t:=40) ?hr ?_;(case hd=>rfl);(case hg=>rfl);(case hr=>first|(go_simp;done)|(go_simp;rfl));intro gb104 hg w6 hbox hb;have n0_:=z2.mk (zg (g:=gb101) (o:=.cells #[.int .u64 0,.int .u64 0] 40 (0,0)) (by (with_reducible repeat (first|refine z6 ?_ _|refine z8 ?_|refine z5 ?_ _));exact BK101.out) hb);have n1_:=z2.mk (za (by repeat (first|(with_reducible first|exact HB.out|apply z4|apply z1|apply z3|refine z9 ?_ GE101.out)|exact HB.out)) hb);have n2_:=z2.mk (hbox);have n3_:=z2.mk ((by rw [hg];exact (zb (by repeat (first|(with_reducible first|exact HB.out|apply z4|apply z1|apply z3|refine z9 ?_ GE101.out)|exact HB.out))) : w.heap.size ≤ gb104));have n4_:=z2.mk ((by rw [hg];exact (zb (by repeat (first|(with_reducible first|exact HB.out|apply z4|apply z1|apply z3|refine z9 ?_ GE101.out)|exact HB.out))) : w.heap.size ≤ gb104));have n5_:=z2.mk ((by rw [hg];exact Nat.ne_of_lt (zV (g:=gb101) (o:=.cells #[.int .u64 0,.int .u64 0] 40 (0,0)) (by (with_reducible repeat (first|refine z6 ?_ _|refine z8 ?_|refine z5 ?_ _));exact BK101.out)) : gb101 ≠ gb104));have n6_:=z2.mk ((by rw [hg];exact Nat.ne_of_gt (zV (g:=gb101) (o:=.cells #[.int .u64 0,.int .u64 0] 40 (0,0)) (by (with_reducible repeat (first|refine z6 ?_ _|refine z8 ?_|refine z5 ?_ _));exact BK101.out)) : gb104 ≠ gb101));clear BK101;clear HB;have BK101:=n0_;have HB:=n1_;have BK104:=n2_;have GW104:=n3_;have GE104:=n4_;have NB101_104:=n5_;have NB104_101:=n6_;clear n0_ n1_ n2_ n3_ n4_ n5_ n6_;clear hb hbox hg;have hnb7:=NB104_101.out;have hnc7:=NB101_104.out;have hcz8_0 : w6.cell? ⟨gb104,0,none⟩ = some (.int .u64 0):=(zc BK104.out 0).trans rfl;have hcz8_1 : w6.cell? ⟨gb104,1,none⟩ = some (.int .u64 0):=(zc BK104.out 1).trans rfl;have hfz8_0:=zd BK104.out 0;have hfz8_1:=zd BK104.out 1))
 go_loopg [6,7] k (fun kq v6 v7 w'=>∃ (x6_1 : Int) (x7_1 : Int) (x105000_1 : Int) (x105001_1 : Int),v6 = .int .i64 x6_1 ∧ v7 = .int .i64 x7_1 ∧ z2 (zp.l0 kq l0 x6_1 x7_1 x105000_1 x105001_1 = some (r1,r2)) ∧ z2 (kq ≤ k) ∧ z2 (w'.heap[gb101]? = some (.cells #[.int .u64 0,.int .u64 0] 40 (0,0))) ∧ z2 (w'.heap[gb104]? = some (.cells #[.int .u64 x105000_1,.int .u64 x105001_1] 40 (0,0))) ∧ z2 (Below w.heap.size w w'))
 case atStart=>exact ⟨(a1),(0),(t102),(t103),(by first|rfl|(simp;done)|(simp [*];done)),(by first|rfl|(simp;done)|(simp [*];done)),H',⟨Nat.le_refl _⟩,⟨by (with_reducible repeat (first|refine z6 ?_ _|refine z8 ?_|refine z5 ?_ _));refine z13 ?_ NB101_104.out _;(with_reducible repeat (first|refine z6 ?_ _|refine z8 ?_|refine z5 ?_ _));refine z13 ?_ NB101_104.out _;(with_reducible repeat (first|refine z6 ?_ _|refine z8 ?_|refine z5 ?_ _));exact BK101.out⟩,⟨by (with_reducible repeat (first|refine z6 ?_ _|refine z8 ?_|refine z5 ?_ _));refine z11 (cs:=#[.int .u64 t102,.int .u64 0]) ?_ 1 _ rfl;(with_reducible repeat (first|refine z6 ?_ _|refine z8 ?_|refine z5 ?_ _));refine z11 (cs:=#[.int .u64 0,.int .u64 0]) ?_ 0 _ rfl;(with_reducible repeat (first|refine z6 ?_ _|refine z8 ?_|refine z5 ?_ _));exact BK104.out⟩,⟨by repeat (first|(with_reducible first|exact HB.out|apply z4|apply z1|apply z3|refine z9 ?_ GE101.out|refine z9 ?_ GE104.out)|exact HB.out)⟩⟩
 case round =>
  clear H'
  (try clear c1);(try clear p2);(try clear c7);(try clear hcz8_0);(try clear hcz8_1);(try clear hfz8_0);(try clear hfz8_1)
  obtain ⟨x6_1,x7_1,x105000_1,x105001_1,rfl,rfl,HA,HK1,BK101,BK104,HB⟩:=hrel
  cases gk with
  | zero=>exact absurd HA.out (by simp [zp.l0])
  | succ k1 =>
   have H:=HA.out
   clear HA
   simp only [zp.l0] at H
   by_cases c9 : x7_1 < (l0.length : Int)
   rotate_left
   · rw [if_neg c9] at H
     have c9b0 : decide (x7_1 < (l0.length : Int)) = false:=decide_eq_false c9
     clear c9
     simp only [Option.some.injEq,Prod.mk.injEq] at H
     obtain ⟨rfl,rfl⟩:=H
     have hnb27:=NB104_101.out
     have hnc27:=NB101_104.out
     have hcz28_0 : wr.cell? ⟨gb104,0,none⟩ = some (.int .u64 x105000_1):=(zc BK104.out 0).trans rfl
     have hcz28_1 : wr.cell? ⟨gb104,1,none⟩ = some (.int .u64 x105001_1):=(zc BK104.out 1).trans rfl
     have hfz28_0:=zd BK104.out 0
     have hfz28_1:=zd BK104.out 1
     have hcz29_0 : wr.cell? ⟨gb101,0,none⟩ = some (.int .u64 0):=(zc BK101.out 0).trans rfl
     have hcz29_1 : wr.cell? ⟨gb101,1,none⟩ = some (.int .u64 0):=(zc BK101.out 1).trans rfl
     have hfz29_0:=zd BK101.out 0
     have hfz29_1:=zd BK101.out 1
     go_wp2
     refine bodyPost_ret (results_cell_row rfl _ _ gb101 40 #[.int .u64 x105000_1,.int .u64 x105001_1] (0,0) _ rfl (by (with_reducible repeat (first|refine z6 ?_ _|refine z8 ?_|refine z5 ?_ _));refine z11 (cs:=#[.int .u64 x105000_1,.int .u64 0]) ?_ 1 _ rfl;(with_reducible repeat (first|refine z6 ?_ _|refine z8 ?_|refine z5 ?_ _));refine z11 (cs:=#[.int .u64 0,.int .u64 0]) ?_ 0 _ rfl;(with_reducible repeat (first|refine z6 ?_ _|refine z8 ?_|refine z5 ?_ _));exact BK101.out) Try.underlying40 rfl (by kernel_rfl)) rfl ?_
     exact ⟨by first|rfl|(simp [zk,zl] <;> rfl)|(simp [*,zk,zl] <;> rfl),by repeat (first|(with_reducible first|exact HB.out|apply z4|apply z1|apply z3|refine z9 ?_ GE101.out|refine z9 ?_ GE104.out)|exact HB.out)⟩
   rw [if_pos c9] at H
   have c9b0 : decide (x7_1 < (l0.length : Int)) = true:=decide_eq_true c9
   clear c9
   by_cases c10 : (Int.tmod x6_1 2) = 1
   · rw [if_pos c10] at H
     have c10b0 : ((Int.tmod x6_1 2) == 1) = true:=beq_iff_eq.mpr c10
     have c10b1 : ((Int.tmod x6_1 2) != 1) = false:=bne_eq_false_iff_eq.mpr c10
     clear c10
     by_cases c11 : 0 ≤ x7_1
     rotate_left
     · rw [if_neg c11] at H
       exact absurd H (by simp)
     rw [if_pos c11] at H
     have c11b0 : decide (0 ≤ x7_1) = true:=decide_eq_true c11
     clear c11
     replace H:=Option.bind_eq_some_iff.mp H
     obtain ⟨⟨t106,t107⟩,A120,H⟩:=H
     replace H : (zp.l0 k1 l0 (wrap64 (Int.tdiv x6_1 2)) (wrap64 (x7_1 + 1)) t106 t107) = some (r1,r2):=H
     have A12:=z2.mk A120
     clear A120
     have H':=z2.mk H
     clear H
     try go_wp2
     have n0_:=z2.mk (z8 BK101.out)
     have n1_:=z2.mk (z8 BK104.out)
     have n2_:=z2.mk (z3 HB.out)
     clear BK101
     clear BK104
     clear HB
     have BK101:=n0_
     have BK104:=n1_
     have HB:=n2_
     clear n0_ n1_ n2_
     have p105 : 0 ≤ (x7_1 : Int):=of_decide_eq_true (by first|(with_reducible assumption)|assumption)
     have q105 : x7_1 < (l0.length : Int):=of_decide_eq_true (by first|(with_reducible assumption)|assumption)
     obtain ⟨ad105,e105,hx105_0,hx105_1⟩:=z3N HR0.out x7_1 p105 q105
     have hw105_1:=hx105_1
     have hw105_0:=hx105_0
     cases e105
     replace hx105_0:=(HB.out.cell (World.block_lt_of_cell? w _ hx105_0)).trans hx105_0
     replace hx105_1:=(HB.out.cell (World.block_lt_of_cell? w _ hx105_1)).trans hx105_1
     replace p105:=eq_true p105
     replace q105:=eq_true q105
     refine start_ (n:=7) (S:=fun w'=>w'.cell? ⟨gb104,0,none⟩ = some (.int .u64 x105000_1) ∧ w'.cell? ⟨gb104,1,none⟩ = some (.int .u64 x105001_1) ∧ w'.cell? (ad105.add ((x7_1).toNat * 2)) = some (.int .u64 ((z1m l0 x7_1).f0)) ∧ w'.cell? ⟨(ad105.add ((x7_1).toNat * 2)).block,(ad105.add ((x7_1).toNat * 2)).off + 1,none⟩ = some (.int .u64 ((z1m l0 x7_1).f1))) (ds:=[6]) #[false,false,false,false,false,false,false] (by kernel_rfl) rfl rfl ⟨(zc BK104.out 0).trans rfl,(zc BK104.out 1).trans rfl,((HB.out.cell (World.block_lt_of_cell? w _ hw105_0)).trans hw105_0),((HB.out.cell (World.block_lt_of_cell? w _ hw105_1)).trans hw105_1)⟩ (fun hHeld=>?_)
     generalize wr.drew = w13 at BK101 BK104 HB hx105_0 hx105_1 hHeld ⊢
     refine pure_ (i:=1) (N:=some 20) (v:=?_) (a':=?_) #[false,true,false,false,false,false,false] rfl rfl (by kernel_rfl) (fun _ _ _ h=>h) (Or.inl ⟨by rfl,?_⟩) ?_ ?_
     rotate_left
     · intro w'
       go_simp
       with_reducible rfl
     rotate_left
     · simp only [Act.put,List.setIfInBounds_toArray,List.set_cons_zero,List.set_cons_succ,zZ,z14]
       rfl
     refine pure_ (i:=2) (N:=some 21) (v:=?_) (a':=?_) #[false,true,true,false,false,false,false] rfl rfl (by kernel_rfl) (fun _ _ _ h=>h) (Or.inl ⟨by rfl,?_⟩) ?_ ?_
     rotate_left
     · intro w'
       go_simp
       with_reducible rfl
     rotate_left
     · simp only [Act.put,List.setIfInBounds_toArray,List.set_cons_zero,List.set_cons_succ,zZ,z14]
       rfl
     refine pure_ (i:=3) (N:=some 22) (v:=?_) (a':=?_) #[false,true,true,true,false,false,false] rfl rfl (by kernel_rfl) (fun _ _ _ h=>h) (Or.inl ⟨by rfl,?_⟩) ?_ ?_
     rotate_left
     · intro w'
       go_simp
       with_reducible rfl
     rotate_left
     · simp only [Act.put,List.setIfInBounds_toArray,List.set_cons_zero,List.set_cons_succ,zZ,z14]
       rfl
     refine take_ (i:=0) (N:=some 19) (v:=?_) (a':=?_) #[true,true,true,true,false,false,false] rfl rfl (by kernel_rfl) (fun _ _ _ h=>h) (Or.inl ⟨by rfl,?_⟩) hHeld ?_ ?_
     rotate_left
     · rintro w' ⟨s0,s1,s2,s3⟩
       go_simp
       with_reducible rfl
     rotate_left
     · simp only [Act.put,List.setIfInBounds_toArray,List.set_cons_zero,List.set_cons_succ,zZ,z14]
       rfl
     refine take_ (i:=4) (N:=some 23) (v:=?_) (a':=?_) #[true,true,true,true,true,false,false] rfl rfl (by kernel_rfl) (fun _ _ _ h=>h) (Or.inl ⟨by rfl,?_⟩) hHeld ?_ ?_
     rotate_left
     · rintro w' ⟨s0,s1,s2,s3⟩
       go_simp
       with_reducible rfl
     rotate_left
     · simp only [Act.put,List.setIfInBounds_toArray,List.set_cons_zero,List.set_cons_succ,zZ,z14]
       rfl
     refine one_ (i:=5) (N:=some 24) #[true,true,true,true,true,true,false] rfl rfl (by kernel_rfl) (by decide) (fun K hK=>?_)
     refine goes_ Try.func71 (by kernel_rfl) rfl #[.agg #[.int .u64 x105000_1,.int .u64 x105001_1],.agg #[.int .u64 ((z1m l0 x7_1).f0),.int .u64 ((z1m l0 x7_1).f1)]] (by rfl) rfl rfl (by (try simp only [List.map_toArray,List.map_cons,List.map_nil]);first|done|rfl|(simp only [List.length_drop,List.length_take];rfl)) ?_
     with_reducible refine (zh.calls k1 x105000_1 x105001_1 ((z1m l0 x7_1).f0) ((z1m l0 x7_1).f1) t106 t107 _ A12.out).mono ?_
     rintro e w14 ⟨rfl,hb⟩
     refine ⟨_,rfl,?_⟩
     have n0_:=z2.mk (zg (g:=gb101) (o:=.cells #[.int .u64 0,.int .u64 0] 40 (0,0)) (by (with_reducible repeat (first|refine z6 ?_ _|refine z8 ?_|refine z5 ?_ _));exact BK101.out) hb)
     have n1_:=z2.mk (zg (g:=gb104) (o:=.cells #[.int .u64 x105000_1,.int .u64 x105001_1] 40 (0,0)) (by (with_reducible repeat (first|refine z6 ?_ _|refine z8 ?_|refine z5 ?_ _));exact BK104.out) hb)
     have n2_:=z2.mk (za (by repeat (first|(with_reducible first|exact HB.out|apply z4|apply z1|apply z3|refine z9 ?_ GE101.out|refine z9 ?_ GE104.out)|exact HB.out)) hb)
     clear BK101
     clear BK104
     clear HB
     have BK101:=n0_
     have BK104:=n1_
     have HB:=n2_
     clear n0_ n1_ n2_
     (try clear hb)
     (try clear hb2)
     (try clear hk)
     (try clear hi)
     refine hK.out _ _ ⟨(zc BK104.out 0).trans rfl,(zc BK104.out 1).trans rfl,((HB.out.cell (World.block_lt_of_cell? w _ hw105_0)).trans hw105_0),((HB.out.cell (World.block_lt_of_cell? w _ hw105_1)).trans hw105_1)⟩ (fun hHeld=>?_)
     clear hK K
     refine norm_ (a':=?_) ?_ ?_
     rotate_left
     · show Act.put _ (some 24) _ = _
       simp only [Act.put,List.setIfInBounds_toArray,List.set_cons_zero,List.set_cons_succ,zZ,z14]
       rfl
     refine last_ (i:=6) (N:=none) #[true,true,true,true,true,true,true] rfl rfl (by kernel_rfl) (by decide) (fun K hK=>?_)
     have hs15 : w14.cell? ⟨gb104,0,none⟩ = some (.int .u64 x105000_1):=(zc BK104.out 0).trans rfl
     have hfs15:=zd BK104.out 0
     have hns15_0:=NB101_104.out
     have hms15_0:=NB104_101.out
     have hs16 : w14.cell? ⟨gb104,1,none⟩ = some (.int .u64 x105001_1):=(zc BK104.out 1).trans rfl
     have hfs16:=zd BK104.out 1
     have hns16_0:=NB101_104.out
     have hms16_0:=NB104_101.out
     refine skip_ (w1:=?_) (by rfl) rfl ?_ ?_
     rotate_left
     · go_simp
       rfl
     refine hK.out _ _ ?_
     clear hK K
     refine done_ (by kernel_rfl) ?_
     try go_wp2
     go_roundg k1
     case measure=>have:=HK1.out;omega
     case rel=>exact ⟨(wrap64 (Int.tdiv x6_1 2)),(wrap64 (x7_1 + 1)),(t106),(t107),(by first|rfl|(simp;done)|(simp [*];done)),(by first|rfl|(simp;done)|(simp [*];done)),H',⟨by have:=HK1.out;omega⟩,⟨by (with_reducible repeat (first|refine z6 ?_ _|refine z8 ?_|refine z5 ?_ _));refine z13 ?_ NB101_104.out _;(with_reducible repeat (first|refine z6 ?_ _|refine z8 ?_|refine z5 ?_ _));refine z13 ?_ NB101_104.out _;(with_reducible repeat (first|refine z6 ?_ _|refine z8 ?_|refine z5 ?_ _));exact BK101.out⟩,⟨by (with_reducible repeat (first|refine z6 ?_ _|refine z8 ?_|refine z5 ?_ _));refine z11 (cs:=#[.int .u64 t106,.int .u64 x105001_1]) ?_ 1 _ rfl;(with_reducible repeat (first|refine z6 ?_ _|refine z8 ?_|refine z5 ?_ _));refine z11 (cs:=#[.int .u64 x105000_1,.int .u64 x105001_1]) ?_ 0 _ rfl;(with_reducible repeat (first|refine z6 ?_ _|refine z8 ?_|refine z5 ?_ _));exact BK104.out⟩,⟨by repeat (first|(with_reducible first|exact HB.out|apply z4|apply z1|apply z3|refine z9 ?_ GE101.out|refine z9 ?_ GE104.out)|exact HB.out)⟩⟩
   rw [if_neg c10] at H
   have c10b0 : ((Int.tmod x6_1 2) == 1) = false:=beq_eq_false_iff_ne.mpr c10
   have c10b1 : ((Int.tmod x6_1 2) != 1) = true:=bne_iff_ne.mpr c10
   replace H:=Option.bind_eq_some_iff.mp H
   obtain ⟨⟨t108,t109⟩,A170,H⟩:=H
   replace H : (if 0 ≤ x7_1 then ((z1q.f t108 t109 ((z1m l0 x7_1).f0) ((z1m l0 x7_1).f1)).bind fun bt111=>((zh.f k1 x105000_1 x105001_1 bt111.1 bt111.2).bind fun bt113=>(zp.l0 k1 l0 (wrap64 (Int.tdiv x6_1 2)) (wrap64 (x7_1 + 1)) bt113.1 bt113.2))) else (none)) = some (r1,r2):=H
   have A17:=z2.mk A170
   clear A170
   by_cases c18 : 0 ≤ x7_1
   rotate_left
   · rw [if_neg c18] at H
     exact absurd H (by simp)
   rw [if_pos c18] at H
   have c18b0 : decide (0 ≤ x7_1) = true:=decide_eq_true c18
   clear c18
   replace H:=Option.bind_eq_some_iff.mp H
   obtain ⟨⟨t111,t112⟩,A190,H⟩:=H
   replace H : ((zh.f k1 x105000_1 x105001_1 t111 t112).bind fun bt113=>(zp.l0 k1 l0 (wrap64 (Int.tdiv x6_1 2)) (wrap64 (x7_1 + 1)) bt113.1 bt113.2)) = some (r1,r2):=H
   have A19:=z2.mk A190
   clear A190
   replace H:=Option.bind_eq_some_iff.mp H
   obtain ⟨⟨t113,t114⟩,A200,H⟩:=H
   replace H : (zp.l0 k1 l0 (wrap64 (Int.tdiv x6_1 2)) (wrap64 (x7_1 + 1)) t113 t114) = some (r1,r2):=H
   have A20:=z2.mk A200
   clear A200
   have H':=z2.mk H
   clear H
   try go_wp2
   have n0_:=z2.mk (z8 BK101.out)
   have n1_:=z2.mk (z8 BK104.out)
   have n2_:=z2.mk (z3 HB.out)
   clear BK101
   clear BK104
   clear HB
   have BK101:=n0_
   have BK104:=n1_
   have HB:=n2_
   clear n0_ n1_ n2_
   have p110 : 0 ≤ (x7_1 : Int):=of_decide_eq_true (by first|(with_reducible assumption)|assumption)
   have q110 : x7_1 < (l0.length : Int):=of_decide_eq_true (by first|(with_reducible assumption)|assumption)
   obtain ⟨ad110,e110,hx110_0,hx110_1⟩:=z3N HR0.out x7_1 p110 q110
   have hw110_1:=hx110_1
   have hw110_0:=hx110_0
   cases e110
   replace hx110_0:=(HB.out.cell (World.block_lt_of_cell? w _ hx110_0)).trans hx110_0
   replace hx110_1:=(HB.out.cell (World.block_lt_of_cell? w _ hx110_1)).trans hx110_1
   replace p110:=eq_true p110
   replace q110:=eq_true q110
   refine start_ (n:=9) (S:=fun w'=>w'.cell? ⟨gb104,0,none⟩ = some (.int .u64 x105000_1) ∧ w'.cell? ⟨gb104,1,none⟩ = some (.int .u64 x105001_1) ∧ w'.cell? (ad110.add ((x7_1).toNat * 2)) = some (.int .u64 ((z1m l0 x7_1).f0)) ∧ w'.cell? ⟨(ad110.add ((x7_1).toNat * 2)).block,(ad110.add ((x7_1).toNat * 2)).off + 1,none⟩ = some (.int .u64 ((z1m l0 x7_1).f1))) (ds:=[8]) #[false,false,false,false,false,false,false,false,false] (by kernel_rfl) rfl rfl ⟨(zc BK104.out 0).trans rfl,(zc BK104.out 1).trans rfl,((HB.out.cell (World.block_lt_of_cell? w _ hw110_0)).trans hw110_0),((HB.out.cell (World.block_lt_of_cell? w _ hw110_1)).trans hw110_1)⟩ (fun hHeld=>?_);refine z2d zp.tab8 zp.bits8 (fun HT_ HW_=>?_)
   generalize wr.drew = w21 at BK101 BK104 HB hx110_0 hx110_1 hHeld ⊢
   refine pure_ (i:=2) (N:=some 27) (v:=?_) (a':=?_) #[false,false,true,false,false,false,false,false,false] rfl rfl (z1i HT_.out (by kernel_rfl)) (fun _ _ _ h=>h) (Or.inl ⟨by rfl,?_⟩) ?_ ?_
   rotate_left
   · intro w'
     go_simp
     with_reducible rfl
   rotate_left
   · simp only [Act.put,List.setIfInBounds_toArray,List.set_cons_zero,List.set_cons_succ,zZ,z14]
     rfl
   refine pure_ (i:=3) (N:=some 28) (v:=?_) (a':=?_) #[false,false,true,true,false,false,false,false,false] rfl rfl (z1i HT_.out (by kernel_rfl)) (fun _ _ _ h=>h) (Or.inl ⟨by rfl,?_⟩) ?_ ?_
   rotate_left
   · intro w'
     go_simp
     with_reducible rfl
   rotate_left
   · simp only [Act.put,List.setIfInBounds_toArray,List.set_cons_zero,List.set_cons_succ,zZ,z14]
     rfl
   refine pure_ (i:=4) (N:=some 29) (v:=?_) (a':=?_) #[false,false,true,true,true,false,false,false,false] rfl rfl (z1i HT_.out (by kernel_rfl)) (fun _ _ _ h=>h) (Or.inl ⟨by rfl,?_⟩) ?_ ?_
   rotate_left
   · intro w'
     go_simp
     with_reducible rfl
   rotate_left
   · simp only [Act.put,List.setIfInBounds_toArray,List.set_cons_zero,List.set_cons_succ,zZ,z14]
     rfl
   refine take_ (i:=0) (N:=some 25) (v:=?_) (a':=?_) #[true,false,true,true,true,false,false,false,false] rfl rfl (z1F HT_.out HW_.out (by kernel_rfl)) (fun _ _ _ h=>h) (Or.inl ⟨by rfl,?_⟩) hHeld ?_ ?_
   rotate_left
   · rintro w' ⟨s0,s1,s2,s3⟩
     go_simp
     with_reducible rfl
   rotate_left
   · simp only [Act.put,List.setIfInBounds_toArray,List.set_cons_zero,List.set_cons_succ,zZ,z14]
     rfl
   refine take_ (i:=5) (N:=some 30) (v:=?_) (a':=?_) #[true,false,true,true,true,true,false,false,false] rfl rfl (z1F HT_.out HW_.out (by kernel_rfl)) (fun _ _ _ h=>h) (Or.inl ⟨by rfl,?_⟩) hHeld ?_ ?_
   rotate_left
   · rintro w' ⟨s0,s1,s2,s3⟩
     go_simp
     with_reducible rfl
   rotate_left
   · simp only [Act.put,List.setIfInBounds_toArray,List.set_cons_zero,List.set_cons_succ,zZ,z14]
     rfl
   refine one_ (i:=1) (N:=some 26) #[true,true,true,true,true,true,false,false,false] rfl rfl (z21 HT_.out (by kernel_rfl)) (by decide) (fun K hK=>?_)
   refine goes_ Try.func109 (by kernel_rfl) rfl #[] (by rfl) rfl rfl (by (try simp only [List.map_toArray,List.map_cons,List.map_nil]);first|done|rfl|(simp only [List.length_drop,List.length_take];rfl)) ?_
   with_reducible refine (z1y.calls  t108 t109 _ A17.out).mono ?_
   rintro e w22 ⟨rfl,hb⟩
   refine ⟨_,rfl,?_⟩
   have n0_:=z2.mk (zg (g:=gb101) (o:=.cells #[.int .u64 0,.int .u64 0] 40 (0,0)) (by (with_reducible repeat (first|refine z6 ?_ _|refine z8 ?_|refine z5 ?_ _));exact BK101.out) hb)
   have n1_:=z2.mk (zg (g:=gb104) (o:=.cells #[.int .u64 x105000_1,.int .u64 x105001_1] 40 (0,0)) (by (with_reducible repeat (first|refine z6 ?_ _|refine z8 ?_|refine z5 ?_ _));exact BK104.out) hb)
   have n2_:=z2.mk (za (by repeat (first|(with_reducible first|exact HB.out|apply z4|apply z1|apply z3|refine z9 ?_ GE101.out|refine z9 ?_ GE104.out)|exact HB.out)) hb)
   clear BK101
   clear BK104
   clear HB
   have BK101:=n0_
   have BK104:=n1_
   have HB:=n2_
   clear n0_ n1_ n2_
   (try clear hb)
   (try clear hb2)
   (try clear hk)
   (try clear hi)
   refine hK.out _ _ ⟨(zc BK104.out 0).trans rfl,(zc BK104.out 1).trans rfl,((HB.out.cell (World.block_lt_of_cell? w _ hw110_0)).trans hw110_0),((HB.out.cell (World.block_lt_of_cell? w _ hw110_1)).trans hw110_1)⟩ (fun hHeld=>?_)
   clear hK K
   refine norm_ (a':=?_) ?_ ?_
   rotate_left
   · show Act.put _ (some 26) _ = _
     simp only [Act.put,List.setIfInBounds_toArray,List.set_cons_zero,List.set_cons_succ,zZ,z14]
     rfl
   refine one_ (i:=6) (N:=some 31) #[true,true,true,true,true,true,true,false,false] rfl rfl (z21 HT_.out (by kernel_rfl)) (by decide) (fun K hK=>?_)
   refine goes_ Try.func69 (by kernel_rfl) rfl #[.agg #[.int .u64 t108,.int .u64 t109],.agg #[.int .u64 ((z1m l0 x7_1).f0),.int .u64 ((z1m l0 x7_1).f1)]] (by rfl) rfl rfl (by (try simp only [List.map_toArray,List.map_cons,List.map_nil]);first|done|rfl|(simp only [List.length_drop,List.length_take];rfl)) ?_
   with_reducible refine (z1q.calls t108 t109 ((z1m l0 x7_1).f0) ((z1m l0 x7_1).f1) t111 t112 _ A19.out).mono ?_
   rintro e w23 ⟨rfl,hb⟩
   refine ⟨_,rfl,?_⟩
   have n0_:=z2.mk (zg (g:=gb101) (o:=.cells #[.int .u64 0,.int .u64 0] 40 (0,0)) (by (with_reducible repeat (first|refine z6 ?_ _|refine z8 ?_|refine z5 ?_ _));exact BK101.out) hb)
   have n1_:=z2.mk (zg (g:=gb104) (o:=.cells #[.int .u64 x105000_1,.int .u64 x105001_1] 40 (0,0)) (by (with_reducible repeat (first|refine z6 ?_ _|refine z8 ?_|refine z5 ?_ _));exact BK104.out) hb)
   have n2_:=z2.mk (za (by repeat (first|(with_reducible first|exact HB.out|apply z4|apply z1|apply z3|refine z9 ?_ GE101.out|refine z9 ?_ GE104.out)|exact HB.out)) hb)
   clear BK101
   clear BK104
   clear HB
   have BK101:=n0_
   have BK104:=n1_
   have HB:=n2_
   clear n0_ n1_ n2_
   (try clear hb)
   (try clear hb2)
   (try clear hk)
   (try clear hi)
   refine hK.out _ _ ⟨(zc BK104.out 0).trans rfl,(zc BK104.out 1).trans rfl,((HB.out.cell (World.block_lt_of_cell? w _ hw110_0)).trans hw110_0),((HB.out.cell (World.block_lt_of_cell? w _ hw110_1)).trans hw110_1)⟩ (fun hHeld=>?_)
   clear hK K
   refine norm_ (a':=?_) ?_ ?_
   rotate_left
   · show Act.put _ (some 31) _ = _
     simp only [Act.put,List.setIfInBounds_toArray,List.set_cons_zero,List.set_cons_succ,zZ,z14]
     rfl
   refine one_ (i:=7) (N:=some 32) #[true,true,true,true,true,true,true,true,false] rfl rfl (z21 HT_.out (by kernel_rfl)) (by decide) (fun K hK=>?_)
   refine goes_ Try.func71 (by kernel_rfl) rfl #[.agg #[.int .u64 x105000_1,.int .u64 x105001_1],.agg #[.int .u64 t111,.int .u64 t112]] (by rfl) rfl rfl (by (try simp only [List.map_toArray,List.map_cons,List.map_nil]);first|done|rfl|(simp only [List.length_drop,List.length_take];rfl)) ?_
   with_reducible refine (zh.calls k1 x105000_1 x105001_1 t111 t112 t113 t114 _ A20.out).mono ?_
   rintro e w24 ⟨rfl,hb⟩
   refine ⟨_,rfl,?_⟩
   have n0_:=z2.mk (zg (g:=gb101) (o:=.cells #[.int .u64 0,.int .u64 0] 40 (0,0)) (by (with_reducible repeat (first|refine z6 ?_ _|refine z8 ?_|refine z5 ?_ _));exact BK101.out) hb)
   have n1_:=z2.mk (zg (g:=gb104) (o:=.cells #[.int .u64 x105000_1,.int .u64 x105001_1] 40 (0,0)) (by (with_reducible repeat (first|refine z6 ?_ _|refine z8 ?_|refine z5 ?_ _));exact BK104.out) hb)
   have n2_:=z2.mk (za (by repeat (first|(with_reducible first|exact HB.out|apply z4|apply z1|apply z3|refine z9 ?_ GE101.out|refine z9 ?_ GE104.out)|exact HB.out)) hb)
   clear BK101
   clear BK104
   clear HB
   have BK101:=n0_
   have BK104:=n1_
   have HB:=n2_
   clear n0_ n1_ n2_
   (try clear hb)
   (try clear hb2)
   (try clear hk)
   (try clear hi)
   refine hK.out _ _ ⟨(zc BK104.out 0).trans rfl,(zc BK104.out 1).trans rfl,((HB.out.cell (World.block_lt_of_cell? w _ hw110_0)).trans hw110_0),((HB.out.cell (World.block_lt_of_cell? w _ hw110_1)).trans hw110_1)⟩ (fun hHeld=>?_)
   clear hK K
   refine norm_ (a':=?_) ?_ ?_
   rotate_left
   · show Act.put _ (some 32) _ = _
     simp only [Act.put,List.setIfInBounds_toArray,List.set_cons_zero,List.set_cons_succ,zZ,z14]
     rfl
   refine last_ (i:=8) (N:=none) #[true,true,true,true,true,true,true,true,true] rfl rfl (z21 HT_.out (by kernel_rfl)) (by decide) (fun K hK=>?_)
   have hs25 : w24.cell? ⟨gb104,0,none⟩ = some (.int .u64 x105000_1):=(zc BK104.out 0).trans rfl
   have hfs25:=zd BK104.out 0
   have hns25_0:=NB101_104.out
   have hms25_0:=NB104_101.out
   have hs26 : w24.cell? ⟨gb104,1,none⟩ = some (.int .u64 x105001_1):=(zc BK104.out 1).trans rfl
   have hfs26:=zd BK104.out 1
   have hns26_0:=NB101_104.out
   have hms26_0:=NB104_101.out
   refine skip_ (w1:=?_) (by rfl) rfl ?_ ?_
   rotate_left
   · go_simp
     rfl
   refine hK.out _ _ ?_
   clear hK K
   refine done_ (z2A HT_.out (by kernel_rfl)) ?_
   try go_wp2
   go_roundg k1
   case measure=>have:=HK1.out;omega
   case rel=>exact ⟨(wrap64 (Int.tdiv x6_1 2)),(wrap64 (x7_1 + 1)),(t113),(t114),(by first|rfl|(simp;done)|(simp [*];done)),(by first|rfl|(simp;done)|(simp [*];done)),H',⟨by have:=HK1.out;omega⟩,⟨by (with_reducible repeat (first|refine z6 ?_ _|refine z8 ?_|refine z5 ?_ _));refine z13 ?_ NB101_104.out _;(with_reducible repeat (first|refine z6 ?_ _|refine z8 ?_|refine z5 ?_ _));refine z13 ?_ NB101_104.out _;(with_reducible repeat (first|refine z6 ?_ _|refine z8 ?_|refine z5 ?_ _));exact BK101.out⟩,⟨by (with_reducible repeat (first|refine z6 ?_ _|refine z8 ?_|refine z5 ?_ _));refine z11 (cs:=#[.int .u64 t113,.int .u64 x105001_1]) ?_ 1 _ rfl;(with_reducible repeat (first|refine z6 ?_ _|refine z8 ?_|refine z5 ?_ _));refine z11 (cs:=#[.int .u64 x105000_1,.int .u64 x105001_1]) ?_ 0 _ rfl;(with_reducible repeat (first|refine z6 ?_ _|refine z8 ?_|refine z5 ?_ _));exact BK104.out⟩,⟨by repeat (first|(with_reducible first|exact HB.out|apply z4|apply z1|apply z3|refine z9 ?_ GE101.out|refine z9 ?_ GE104.out)|exact HB.out)⟩⟩
end Go.Proofs.Ytkhmpaooinpfoaa.P
namespace Go.Proofs.Ytkhmpaooinpfoaa.P
open Go.RowKit Go.Proofs.YtkhmpaooinpfoaaW.PrintWords Go.Proofs.YtkhmpaooinpfoaaW.PrintLast Go.Proofs.YtkhmpaooinpfoaaW.PrintMore
attribute [local go_sem] z15 z17 z1f z1g zW zX z16 z18   -- for this text's walks alone
set_option linter.unusedVariables false
set_option linter.unusedSimpArgs false
def zz.l0 : Nat → List (S40) → List (S40) → List (S40) → Int → Option ((List (S40)))
 | 0,_,_,_,_=>none
 | k + 1,x0,x1,x5,x6=>if x6 < (x0.length : Int) then (if 0 ≤ x6 then (if x6 < (x1.length : Int) then ((z1q.f ((z1m x0 x6).f0) ((z1m x0 x6).f1) ((z1m x1 x6).f0) ((z1m x1 x6).f1)).bind fun bt103=>(if x5.length < 8796093022208 then (zz.l0 k x0 x1 (x5 ++ [(⟨bt103.1,bt103.2⟩ : S40)]) (wrap64 (x6 + 1))) else (none))) else (none)) else (none)) else (some x5)
def zz.f (k : Nat) (l0 : List (S40)) (l1 : List (S40)) : Option ((List (S40))):=zz.l0 k l0 l1 ([] : List (S40)) 0
theorem zz.z1b : ∀ k,(∀ y0 y1 y2 y3,LeO (zz.l0 k y0 y1 y2 y3) (zz.l0 (k + 1) y0 y1 y2 y3))
 | 0=>fun _ _ _ _ r h=>by simp [zz.l0] at h
 | k + 1=>by
  have ih0:=zz.z1b k
  · intro y0 y1 y2 y3
    unfold zz.l0
    repeat' first
    | (with_reducible exact ih0 _ _ _ _)
    | (with_reducible exact LeO.refl _)
    | (with_reducible exact LeO.none _)
    | (with_reducible refine LeO.ite ?_ ?_)
    | (with_reducible refine LeO.bind ?_ (fun _=>?_))
    | exact ih0 _ _ _ _
    | exact LeO.none _
    | refine LeO.ite ?_ ?_
    | refine LeO.bind ?_ (fun _=>?_)
theorem zz.mono : ∀ a0 a1 k,LeO (zz.f k a0 a1) (zz.f (k + 1) a0 a1):=by
 intro a0 a1 k
 have ih0:=zz.z1b k
 unfold zz.f
 repeat' first
  | (with_reducible exact ih0 _ _ _ _)
  | (with_reducible exact LeO.refl _)
  | (with_reducible exact LeO.none _)
  | (with_reducible refine LeO.ite ?_ ?_)
  | (with_reducible refine LeO.bind ?_ (fun _=>?_))
  | exact ih0 _ _ _ _
  | exact LeO.none _
  | refine LeO.ite ?_ ?_
  | refine LeO.bind ?_ (fun _=>?_)
def zz.T5 : Bool × List (List Nat × List Nat):=(true,[([],[]),([],[]),([],[]),([1,2],[1,2]),([3],[3]),([],[]),([],[]),([5,6],[5,6]),([7],[7]),([4,8],[4,8]),([9],[9]),([0,10,9],[0,10]),([11,11,0,1,2,3,4,5,6,7,8,9,10,11],[0,11])])
def zz.B5 : List Nat:=[0,0,0,6,14,0,0,96,224,510,1022,2047,4095]
theorem zz.tab5 : rtab .any (opsOf Try.f45 5) = zz.T5:=by kernel_rfl
theorem zz.bits5 : waitsOk zz.T5.2 zz.B5 = true:=by kernel_rfl
set_option maxHeartbeats 8000000 in
set_option maxRecDepth 100000 in
theorem zz.calls (k : Nat) (A0 : Option Addr) (c0 : Nat) (l0 : List (S40)) (A1 : Option Addr) (c1 : Nat) (l1 : List (S40)) (r : List (S40)) (w : World) (hr0 : Kd.C k40 w A0 l0.length l0) (hc0 : l0.length ≤ c0) (hr1 : Kd.C k40 w A1 l1.length l1) (hc1 : l1.length ≤ c1) (h : zz.f k l0 l1 = some r) :
 Calls Try.prog 45 #[.slice A0 l0.length c0,.slice A1 l1.length c1] w fun e w'=>∃ v0_ : Value,e = .returned (v0_) ∧ Kd.R k40 40 w' w.heap.size (fun _=>True) v0_ r ∧ Below w.heap.size w w':=by
 have hu40:=Try.underlying40
 have HR0:=z2.mk hr0
 have HC0:=z2.mk hc0
 clear hr0 hc0
 have HR1:=z2.mk hr1
 have HC1:=z2.mk hc1
 clear hr1 hc1
 have HB:=z2.mk (Below.refl w.heap.size w)
 have H : (zz.l0 k l0 l1 ([] : List (S40)) 0) = some r:=h
 clear h
 have H':=z2.mk H
 clear H
 go_enter Try.func45,Try.ntmps45
 go_wp2
 go_loopg [5,6] k (fun kq v5 v6 w'=>∃ (x5_1 : List (S40)) (x6_1 : Int),v6 = .int .i64 x6_1 ∧ z2 (zz.l0 kq l0 l1 x5_1 x6_1 = some r) ∧ z2 (kq ≤ k) ∧ z2 (Kd.R k40 40 w' w.heap.size (fun _=>True) v5 x5_1) ∧ z2 (Below w.heap.size w w'))
 case atStart=>exact ⟨(([] : List (S40))),(0),(by first|rfl|(simp;done)|(simp [*];done)),H',⟨Nat.le_refl _⟩,⟨by first|exact Kd.z2C _ _ _ _ _|exact Kd.z3k _ _ _ _ _|exact Kd.z3o _ _ _ _ _|exact Kd.z3m _ _ _ _ _|exact Kd.z3n _ _ _ _ _⟩,⟨by repeat (first|(with_reducible first|exact HB.out|apply z4|apply z1|apply z3)|exact HB.out)⟩⟩
 case round =>
  clear H'
  (try clear c1);(try clear p2)
  obtain ⟨x5_1,x6_1,rfl,HA,HK1,HO_5,HB⟩:=hrel
  cases gk with
  | zero=>exact absurd HA.out (by simp [zz.l0])
  | succ k1 =>
   have H:=HA.out
   clear HA
   simp only [zz.l0] at H
   by_cases c3 : x6_1 < (l0.length : Int)
   rotate_left
   · rw [if_neg c3] at H
     have c3b0 : decide (x6_1 < (l0.length : Int)) = false:=decide_eq_false c3
     clear c3
     obtain rfl:=Option.some.inj H
     go_wp2
     go_ret
     exact ⟨_,by first|rfl|(simp [zk,zl] <;> rfl)|(simp [*,zk,zl] <;> rfl),by (with_reducible repeat (first|apply Kd.ze|apply Kd.zf|apply Kd.zo));exact HO_5.out,by repeat (first|(with_reducible first|exact HB.out|apply z4|apply z1|apply z3)|exact HB.out)⟩
   rw [if_pos c3] at H
   have c3b0 : decide (x6_1 < (l0.length : Int)) = true:=decide_eq_true c3
   clear c3
   by_cases c4 : 0 ≤ x6_1
   rotate_left
   · rw [if_neg c4] at H
     exact absurd H (by simp)
   rw [if_pos c4] at H
   have c4b0 : decide (0 ≤ x6_1) = true:=decide_eq_true c4
   clear c4
   by_cases c5 : x6_1 < (l1.length : Int)
   rotate_left
   · rw [if_neg c5] at H
     exact absurd H (by simp)
   rw [if_pos c5] at H
   have c5b0 : decide (x6_1 < (l1.length : Int)) = true:=decide_eq_true c5
   clear c5
   replace H:=Option.bind_eq_some_iff.mp H
   obtain ⟨⟨t103,t104⟩,A60,H⟩:=H
   replace H : (if x5_1.length < 8796093022208 then (zz.l0 k1 l0 l1 (x5_1 ++ [(⟨t103,t104⟩ : S40)]) (wrap64 (x6_1 + 1))) else (none)) = some r:=H
   have A6:=z2.mk A60
   clear A60
   by_cases c7 : x5_1.length < 8796093022208
   rotate_left
   · rw [if_neg c7] at H
     exact absurd H (by simp)
   rw [if_pos c7] at H
   have LMc7:=z2.mk c7
   clear c7
   obtain ⟨y105,hy105⟩ : ∃ y_ : List (S40),y_ = (x5_1 ++ [(⟨t103,t104⟩ : S40)]):=⟨_,rfl⟩
   replace H : (zz.l0 k1 l0 l1 y105 (wrap64 (x6_1 + 1))) = some r:=by first|(rw [hy105];with_reducible exact H)|(have H2_:=(Option.bind_some _ _).symm.trans H;rw [hy105];with_reducible exact H2_)|(have H2_:=(Option.bind_some _ _).symm.trans H;with_reducible exact H2_)|with_reducible exact H|(rw [hy105];exact H)|exact H
   have Ny105:=z2.mk hy105
   clear hy105
   have H':=z2.mk H
   clear H
   try go_wp2
   have n0_:=z2.mk (Kd.zo HO_5.out)
   have n1_:=z2.mk (z3 HB.out)
   clear HO_5
   clear HB
   have HO_5:=n0_
   have HB:=n1_
   clear n0_ n1_
   have p101 : 0 ≤ (x6_1 : Int):=of_decide_eq_true (by first|(with_reducible assumption)|assumption)
   have q101 : x6_1 < (l0.length : Int):=of_decide_eq_true (by first|(with_reducible assumption)|assumption)
   obtain ⟨ad101,e101,hx101_0,hx101_1⟩:=z3N HR0.out x6_1 p101 q101
   have hw101_1:=hx101_1
   have hw101_0:=hx101_0
   cases e101
   replace hx101_0:=(HB.out.cell (World.block_lt_of_cell? w _ hx101_0)).trans hx101_0
   replace hx101_1:=(HB.out.cell (World.block_lt_of_cell? w _ hx101_1)).trans hx101_1
   replace p101:=eq_true p101
   replace q101:=eq_true q101
   have p102 : 0 ≤ (x6_1 : Int):=of_decide_eq_true (by first|(with_reducible assumption)|assumption)
   have q102 : x6_1 < (l1.length : Int):=of_decide_eq_true (by first|(with_reducible assumption)|assumption)
   obtain ⟨ad102,e102,hx102_0,hx102_1⟩:=z3N HR1.out x6_1 p102 q102
   have hw102_1:=hx102_1
   have hw102_0:=hx102_0
   cases e102
   replace hx102_0:=(HB.out.cell (World.block_lt_of_cell? w _ hx102_0)).trans hx102_0
   replace hx102_1:=(HB.out.cell (World.block_lt_of_cell? w _ hx102_1)).trans hx102_1
   replace p102:=eq_true p102
   replace q102:=eq_true q102
   refine start_ (n:=13) (S:=fun w'=>w'.cell? (ad101.add ((x6_1).toNat * 2)) = some (.int .u64 ((z1m l0 x6_1).f0)) ∧ w'.cell? ⟨(ad101.add ((x6_1).toNat * 2)).block,(ad101.add ((x6_1).toNat * 2)).off + 1,none⟩ = some (.int .u64 ((z1m l0 x6_1).f1)) ∧ w'.cell? (ad102.add ((x6_1).toNat * 2)) = some (.int .u64 ((z1m l1 x6_1).f0)) ∧ w'.cell? ⟨(ad102.add ((x6_1).toNat * 2)).block,(ad102.add ((x6_1).toNat * 2)).off + 1,none⟩ = some (.int .u64 ((z1m l1 x6_1).f1))) (ds:=[]) #[false,false,false,false,false,false,false,false,false,false,false,false,false] (by kernel_rfl) rfl rfl ⟨((HB.out.cell (World.block_lt_of_cell? w _ hw101_0)).trans hw101_0),((HB.out.cell (World.block_lt_of_cell? w _ hw101_1)).trans hw101_1),((HB.out.cell (World.block_lt_of_cell? w _ hw102_0)).trans hw102_0),((HB.out.cell (World.block_lt_of_cell? w _ hw102_1)).trans hw102_1)⟩ (fun hHeld=>?_);refine z2d zz.tab5 zz.bits5 (fun HT_ HW_=>?_)
   generalize wr.drew = w8 at HO_5 HB hx101_0 hx101_1 hx102_0 hx102_1 hHeld ⊢
   refine pure_ (i:=0) (N:=some 13) (v:=?_) (a':=?_) #[true,false,false,false,false,false,false,false,false,false,false,false,false] rfl rfl (z1i HT_.out (by kernel_rfl)) (fun _ _ _ h=>h) (Or.inl ⟨by rfl,?_⟩) ?_ ?_
   rotate_left
   · intro w'
     go_simp
     with_reducible rfl
   rotate_left
   · simp only [Act.put,List.setIfInBounds_toArray,List.set_cons_zero,List.set_cons_succ,zZ,z14]
     rfl
   refine pure_ (i:=1) (N:=some 14) (v:=?_) (a':=?_) #[true,true,false,false,false,false,false,false,false,false,false,false,false] rfl rfl (z1i HT_.out (by kernel_rfl)) (fun _ _ _ h=>h) (Or.inl ⟨by rfl,?_⟩) ?_ ?_
   rotate_left
   · intro w'
     go_simp
     with_reducible rfl
   rotate_left
   · simp only [Act.put,List.setIfInBounds_toArray,List.set_cons_zero,List.set_cons_succ,zZ,z14]
     rfl
   refine pure_ (i:=2) (N:=some 15) (v:=?_) (a':=?_) #[true,true,true,false,false,false,false,false,false,false,false,false,false] rfl rfl (z1i HT_.out (by kernel_rfl)) (fun _ _ _ h=>h) (Or.inl ⟨by rfl,?_⟩) ?_ ?_
   rotate_left
   · intro w'
     go_simp
     with_reducible rfl
   rotate_left
   · simp only [Act.put,List.setIfInBounds_toArray,List.set_cons_zero,List.set_cons_succ,zZ,z14]
     rfl
   refine pure_ (i:=3) (N:=some 16) (v:=?_) (a':=?_) #[true,true,true,true,false,false,false,false,false,false,false,false,false] rfl rfl (z1i HT_.out (by kernel_rfl)) (fun _ _ _ h=>h) (Or.inl ⟨by rfl,?_⟩) ?_ ?_
   rotate_left
   · intro w'
     go_simp
     with_reducible rfl
   rotate_left
   · simp only [Act.put,List.setIfInBounds_toArray,List.set_cons_zero,List.set_cons_succ,zZ,z14]
     rfl
   refine pure_ (i:=5) (N:=some 18) (v:=?_) (a':=?_) #[true,true,true,true,false,true,false,false,false,false,false,false,false] rfl rfl (z1i HT_.out (by kernel_rfl)) (fun _ _ _ h=>h) (Or.inl ⟨by rfl,?_⟩) ?_ ?_
   rotate_left
   · intro w'
     go_simp
     with_reducible rfl
   rotate_left
   · simp only [Act.put,List.setIfInBounds_toArray,List.set_cons_zero,List.set_cons_succ,zZ,z14]
     rfl
   refine pure_ (i:=6) (N:=some 19) (v:=?_) (a':=?_) #[true,true,true,true,false,true,true,false,false,false,false,false,false] rfl rfl (z1i HT_.out (by kernel_rfl)) (fun _ _ _ h=>h) (Or.inl ⟨by rfl,?_⟩) ?_ ?_
   rotate_left
   · intro w'
     go_simp
     with_reducible rfl
   rotate_left
   · simp only [Act.put,List.setIfInBounds_toArray,List.set_cons_zero,List.set_cons_succ,zZ,z14]
     rfl
   refine pure_ (i:=7) (N:=some 20) (v:=?_) (a':=?_) #[true,true,true,true,false,true,true,true,false,false,false,false,false] rfl rfl (z1i HT_.out (by kernel_rfl)) (fun _ _ _ h=>h) (Or.inl ⟨by rfl,?_⟩) ?_ ?_
   rotate_left
   · intro w'
     go_simp
     with_reducible rfl
   rotate_left
   · simp only [Act.put,List.setIfInBounds_toArray,List.set_cons_zero,List.set_cons_succ,zZ,z14]
     rfl
   refine take_ (i:=4) (N:=some 17) (v:=?_) (a':=?_) #[true,true,true,true,true,true,true,true,false,false,false,false,false] rfl rfl (z1F HT_.out HW_.out (by kernel_rfl)) (fun _ _ _ h=>h) (Or.inl ⟨by rfl,?_⟩) hHeld ?_ ?_
   rotate_left
   · rintro w' ⟨s0,s1,s2,s3⟩
     go_simp
     with_reducible rfl
   rotate_left
   · simp only [Act.put,List.setIfInBounds_toArray,List.set_cons_zero,List.set_cons_succ,zZ,z14]
     rfl
   refine take_ (i:=8) (N:=some 21) (v:=?_) (a':=?_) #[true,true,true,true,true,true,true,true,true,false,false,false,false] rfl rfl (z1F HT_.out HW_.out (by kernel_rfl)) (fun _ _ _ h=>h) (Or.inl ⟨by rfl,?_⟩) hHeld ?_ ?_
   rotate_left
   · rintro w' ⟨s0,s1,s2,s3⟩
     go_simp
     with_reducible rfl
   rotate_left
   · simp only [Act.put,List.setIfInBounds_toArray,List.set_cons_zero,List.set_cons_succ,zZ,z14]
     rfl
   refine one_ (i:=9) (N:=some 22) #[true,true,true,true,true,true,true,true,true,true,false,false,false] rfl rfl (z21 HT_.out (by kernel_rfl)) (by decide) (fun K hK=>?_)
   refine goes_ Try.func69 (by kernel_rfl) rfl #[.agg #[.int .u64 ((z1m l0 x6_1).f0),.int .u64 ((z1m l0 x6_1).f1)],.agg #[.int .u64 ((z1m l1 x6_1).f0),.int .u64 ((z1m l1 x6_1).f1)]] (by rfl) rfl rfl (by (try simp only [List.map_toArray,List.map_cons,List.map_nil]);first|done|rfl|(simp only [List.length_drop,List.length_take];rfl)) ?_
   with_reducible refine (z1q.calls ((z1m l0 x6_1).f0) ((z1m l0 x6_1).f1) ((z1m l1 x6_1).f0) ((z1m l1 x6_1).f1) t103 t104 _ A6.out).mono ?_
   rintro e w9 ⟨rfl,hb⟩
   refine ⟨_,rfl,?_⟩
   have n0_:=z2.mk (Kd.zO (by (with_reducible repeat (first|apply Kd.ze|apply Kd.zf|apply Kd.zo));exact HO_5.out) hb)
   have n1_:=z2.mk (za (by repeat (first|(with_reducible first|exact HB.out|apply z4|apply z1|apply z3)|exact HB.out)) hb)
   clear HO_5
   clear HB
   have HO_5:=n0_
   have HB:=n1_
   clear n0_ n1_
   (try clear hb)
   (try clear hb2)
   (try clear hk)
   (try clear hi)
   refine hK.out _ _ ⟨((HB.out.cell (World.block_lt_of_cell? w _ hw101_0)).trans hw101_0),((HB.out.cell (World.block_lt_of_cell? w _ hw101_1)).trans hw101_1),((HB.out.cell (World.block_lt_of_cell? w _ hw102_0)).trans hw102_0),((HB.out.cell (World.block_lt_of_cell? w _ hw102_1)).trans hw102_1)⟩ (fun hHeld=>?_)
   clear hK K
   refine norm_ (a':=?_) ?_ ?_
   rotate_left
   · show Act.put _ (some 22) _ = _
     simp only [Act.put,List.setIfInBounds_toArray,List.set_cons_zero,List.set_cons_succ,zZ,z14]
     rfl
   refine one_ (i:=10) (N:=some 23) #[true,true,true,true,true,true,true,true,true,true,true,false,false] rfl rfl (z21 HT_.out (by kernel_rfl)) (by decide) (fun K hK=>?_)
   refine value_ (w1:=?_) (v:=?_) (by rfl) rfl ?_ ?_
   rotate_left 2
   · go_simp
     constructor
     · rfl
     · rfl
   refine hK.out _ _ ⟨(World.cell?_alloc_lt _ _ _ (World.block_lt_of_cell? _ _ (((HB.out.cell (World.block_lt_of_cell? w _ hw101_0)).trans hw101_0)))).trans (((HB.out.cell (World.block_lt_of_cell? w _ hw101_0)).trans hw101_0)),(World.cell?_alloc_lt _ _ _ (World.block_lt_of_cell? _ _ (((HB.out.cell (World.block_lt_of_cell? w _ hw101_1)).trans hw101_1)))).trans (((HB.out.cell (World.block_lt_of_cell? w _ hw101_1)).trans hw101_1)),(World.cell?_alloc_lt _ _ _ (World.block_lt_of_cell? _ _ (((HB.out.cell (World.block_lt_of_cell? w _ hw102_0)).trans hw102_0)))).trans (((HB.out.cell (World.block_lt_of_cell? w _ hw102_0)).trans hw102_0)),(World.cell?_alloc_lt _ _ _ (World.block_lt_of_cell? _ _ (((HB.out.cell (World.block_lt_of_cell? w _ hw102_1)).trans hw102_1)))).trans (((HB.out.cell (World.block_lt_of_cell? w _ hw102_1)).trans hw102_1))⟩ (fun hHeld=>?_)
   clear hK K
   refine norm_ (a':=?_) ?_ ?_
   rotate_left
   · show Act.put _ (some 23) _ = _
     simp only [Act.put,List.setIfInBounds_toArray,List.set_cons_zero,List.set_cons_succ,zZ,z14]
     rfl
   refine one_ (i:=11) (N:=some 24) #[true,true,true,true,true,true,true,true,true,true,true,true,false] rfl rfl (z21 HT_.out (by kernel_rfl)) (by decide) (fun K hK=>?_)
   refine Kd.z5a k40 (w0:=w) w.heap.size (by rfl) (.tmp 13) (.tmp 23) 36 40 (.agg #[(.int .u64 0),(.int .u64 0)]) 16 rfl Try.underlying36 info40 rfl (by decide) (by omega) u5 x5_1 (⟨t103,t104⟩ : S40) [.int .u64 t103,.int .u64 t104] (fun _=>True) (fun _=>False) rfl rfl ?aP (fun _ hk=>hk.elim) ?aF ?aO ?aB ?aS ?aL ?_
   (case aP=>exact z4l _ _ _ (⟨t103,t104⟩ : S40))
   (case aB=>exact (by repeat (first|(with_reducible first|exact HB.out|apply z4|apply z1|apply z3)|exact HB.out)))
   (case aF=>exact (fun _ _=>trivial))
   (case aO=>exact (by (with_reducible repeat (first|apply Kd.ze|apply Kd.zf|apply Kd.zo));exact HO_5.out))
   (case aS=>exact (zb (by repeat (first|(with_reducible first|exact HB.out|apply z4|apply z1|apply z3)|exact HB.out))))
   (case aL=>have:=LMc7.out;omega)
   intro v106 w10 ho hb hg hat
   rw [← Ny105.out] at ho
   have n0_:=z2.mk (hb)
   have n1_:=z2.mk (ho)
   clear HB
   clear HO_5
   have HB:=n0_
   have HO107:=n1_
   clear n0_ n1_
   clear ho hb hg hat
   refine hK.out _ _ ⟨((HB.out.cell (World.block_lt_of_cell? w _ hw101_0)).trans hw101_0),((HB.out.cell (World.block_lt_of_cell? w _ hw101_1)).trans hw101_1),((HB.out.cell (World.block_lt_of_cell? w _ hw102_0)).trans hw102_0),((HB.out.cell (World.block_lt_of_cell? w _ hw102_1)).trans hw102_1)⟩ (fun hHeld=>?_)
   clear hK K
   refine norm_ (a':=?_) ?_ ?_
   rotate_left
   · show Act.put _ (some 24) _ = _
     simp only [Act.put,List.setIfInBounds_toArray,List.set_cons_zero,List.set_cons_succ,zZ,z14]
     rfl
   refine pure_ (i:=12) (N:=some 5) (v:=?_) (a':=?_) #[true,true,true,true,true,true,true,true,true,true,true,true,true] rfl rfl (z1i HT_.out (by kernel_rfl)) (fun _ _ _ h=>h) (Or.inl ⟨by rfl,?_⟩) ?_ ?_
   rotate_left
   · intro w'
     go_simp
     with_reducible rfl
   rotate_left
   · simp only [Act.put,List.setIfInBounds_toArray,List.set_cons_zero,List.set_cons_succ,zZ,z14]
     rfl
   refine done_ (z2A HT_.out (by kernel_rfl)) ?_
   try go_wp2
   go_roundg k1
   case measure=>have:=HK1.out;omega
   case rel=>exact ⟨(y105),(wrap64 (x6_1 + 1)),(by first|rfl|(simp;done)|(simp [*];done)),H',⟨by have:=HK1.out;omega⟩,⟨by (with_reducible repeat (first|apply Kd.ze|apply Kd.zf|apply Kd.zo));exact HO107.out⟩,⟨by repeat (first|(with_reducible first|exact HB.out|apply z4|apply z1|apply z3)|exact HB.out)⟩⟩
end Go.Proofs.Ytkhmpaooinpfoaa.P

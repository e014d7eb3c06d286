/- Own text: merged by wip/tools/pack.py out of what the law PackvAlike reaches. -/
import Derived.Deep.Slices
import Derived.OpenShut
import Derived.ProofKit
import Derived.Laws.BitsLemmas
import Derived.Test.YtkhmpaooinpfoaaMPackvAlikea
import Derived.Test.YtkhmpaooinpfoaaMPackvAlikeb
import Derived.Test.YtkhmpaooinpfoaaMPackvAlikec
import Derived.Test.YtkhmpaooinpfoaaMPackvAliked
import Derived.Test.YtkhmpaooinpfoaaMPackvAlikee
namespace Go.Proofs.Ytkhmpaooinpfoaa.P
open Go.RowKit Go.Proofs.YtkhmpaooinpfoaaW.PrintWords Go.Proofs.YtkhmpaooinpfoaaW.PrintLast Go.Proofs.YtkhmpaooinpfoaaW.PrintMore
attribute [local go_sem] z15 z17 z1f z1g zW zX z16 z18   -- for this text's walks alone
set_option linter.unusedVariables false
set_option linter.unusedSimpArgs false
mutual
def z7.j0 : Nat → Int → List (S30) → List (S30) → Bool → Option (Bool)
 | 0,_,_,_,_=>none
 | k + 1,x0,x1,x2,x47=>if x47 = true then ((zC.f k).bind fun t101=>(some t101)) else ((zv.f k x0 x1 x2).bind fun bt102=>((zu.f k x1).bind fun t106=>((zu.f k x2).bind fun t109=>(if x0 < 0 then (z7.j1 k x0 x1 x2 bt102.1 bt102.2 t106 t109 0 true) else (z7.j1 k x0 x1 x2 bt102.1 bt102.2 t106 t109 0 (decide (x0 > 7)))))))
def z7.j1 : Nat → Int → List (S30) → List (S30) → List (S30) → Int → List (S40) → List (S40) → Int → Bool → Option (Bool)
 | 0,_,_,_,_,_,_,_,_,_=>none
 | k + 1,x0,x1,x2,x7,x8,x9,x10,x11,x65=>if x65 = true then (z7.j3 k x0 x1 x2 x7 x8 x9 x10 1) else (if (x1.length : Int) = (x2.length : Int) then (z7.j2 k x0 x1 x2 x7 x8 x9 x10 x11 (decide ((x1.length : Int) > 16))) else (z7.j2 k x0 x1 x2 x7 x8 x9 x10 x11 true))
def z7.j3 : Nat → Int → List (S30) → List (S30) → List (S30) → Int → List (S40) → List (S40) → Int → Option (Bool)
 | 0,_,_,_,_,_,_,_,_=>none
 | k + 1,x0,x1,x2,x7,x8,x9,x10,x11=>if x8 = x11 then (z7.j4 k x0 x1 x2 x7 x8 x9 x10 x11 (x8 != 0)) else (z7.j4 k x0 x1 x2 x7 x8 x9 x10 x11 true)
def z7.j4 : Nat → Int → List (S30) → List (S30) → List (S30) → Int → List (S40) → List (S40) → Int → Bool → Option (Bool)
 | 0,_,_,_,_,_,_,_,_,_=>none
 | k + 1,x0,x1,x2,x7,x8,x9,x10,x11,x92=>if x92 = true then ((zC.f k).bind fun t114=>(if t114 = true then (if x8 = x11 then (some ((x7.length : Int) == 0)) else (some false)) else (some false))) else ((zC.f k).bind fun t115=>(if t115 = true then ((zr.f k x0 x9 x10).bind fun t116=>((zs.f k x7 t116).bind fun t119=>(if t119 = true then ((zF.f k x0 x1 x2).bind fun t120=>((zG.f k t120 x7).bind fun t123=>(some t123))) else (some false)))) else (some false)))
def z7.j2 : Nat → Int → List (S30) → List (S30) → List (S30) → Int → List (S40) → List (S40) → Int → Bool → Option (Bool)
 | 0,_,_,_,_,_,_,_,_,_=>none
 | k + 1,x0,x1,x2,x7,x8,x9,x10,x11,x75=>if x75 = true then (z7.j3 k x0 x1 x2 x7 x8 x9 x10 6) else ((zx.f k x0 x9).bind fun t112=>(if t112 = true then ((zx.f k x0 x10).bind fun t113=>(if t113 = true then (z7.j3 k x0 x1 x2 x7 x8 x9 x10 x11) else (z7.j3 k x0 x1 x2 x7 x8 x9 x10 5))) else (z7.j3 k x0 x1 x2 x7 x8 x9 x10 5)))
end
def z7.f (k : Nat) (a0 : Int) (l1 : List (S30)) (l2 : List (S30)) : Option (Bool):=if a0 > 4 then (if a0 ≤ 7 then (z7.j0 k a0 l1 l2 true) else (if (l1.length : Int) > 5 then (if (l1.length : Int) ≤ 16 then (z7.j0 k a0 l1 l2 true) else (if (l2.length : Int) > 5 then (if (l2.length : Int) ≤ 16 then (z7.j0 k a0 l1 l2 true) else (if (l1.length : Int) > 30 then (z7.j0 k a0 l1 l2 true) else (z7.j0 k a0 l1 l2 (decide ((l2.length : Int) > 30))))) else (if (l1.length : Int) > 30 then (z7.j0 k a0 l1 l2 true) else (z7.j0 k a0 l1 l2 (decide ((l2.length : Int) > 30)))))) else (if (l2.length : Int) > 5 then (if (l2.length : Int) ≤ 16 then (z7.j0 k a0 l1 l2 true) else (if (l1.length : Int) > 30 then (z7.j0 k a0 l1 l2 true) else (z7.j0 k a0 l1 l2 (decide ((l2.length : Int) > 30))))) else (if (l1.length : Int) > 30 then (z7.j0 k a0 l1 l2 true) else (z7.j0 k a0 l1 l2 (decide ((l2.length : Int) > 30))))))) else (if (l1.length : Int) > 5 then (if (l1.length : Int) ≤ 16 then (z7.j0 k a0 l1 l2 true) else (if (l2.length : Int) > 5 then (if (l2.length : Int) ≤ 16 then (z7.j0 k a0 l1 l2 true) else (if (l1.length : Int) > 30 then (z7.j0 k a0 l1 l2 true) else (z7.j0 k a0 l1 l2 (decide ((l2.length : Int) > 30))))) else (if (l1.length : Int) > 30 then (z7.j0 k a0 l1 l2 true) else (z7.j0 k a0 l1 l2 (decide ((l2.length : Int) > 30)))))) else (if (l2.length : Int) > 5 then (if (l2.length : Int) ≤ 16 then (z7.j0 k a0 l1 l2 true) else (if (l1.length : Int) > 30 then (z7.j0 k a0 l1 l2 true) else (z7.j0 k a0 l1 l2 (decide ((l2.length : Int) > 30))))) else (if (l1.length : Int) > 30 then (z7.j0 k a0 l1 l2 true) else (z7.j0 k a0 l1 l2 (decide ((l2.length : Int) > 30))))))
theorem z7.z1b : ∀ k,(∀ y0 y1 y2 y3,LeO (z7.j0 k y0 y1 y2 y3) (z7.j0 (k + 1) y0 y1 y2 y3)) ∧ (∀ y0 y1 y2 y3 y4 y5 y6 y7 y8,LeO (z7.j1 k y0 y1 y2 y3 y4 y5 y6 y7 y8) (z7.j1 (k + 1) y0 y1 y2 y3 y4 y5 y6 y7 y8)) ∧ (∀ y0 y1 y2 y3 y4 y5 y6 y7,LeO (z7.j3 k y0 y1 y2 y3 y4 y5 y6 y7) (z7.j3 (k + 1) y0 y1 y2 y3 y4 y5 y6 y7)) ∧ (∀ y0 y1 y2 y3 y4 y5 y6 y7 y8,LeO (z7.j4 k y0 y1 y2 y3 y4 y5 y6 y7 y8) (z7.j4 (k + 1) y0 y1 y2 y3 y4 y5 y6 y7 y8)) ∧ (∀ y0 y1 y2 y3 y4 y5 y6 y7 y8,LeO (z7.j2 k y0 y1 y2 y3 y4 y5 y6 y7 y8) (z7.j2 (k + 1) y0 y1 y2 y3 y4 y5 y6 y7 y8))
 | 0=>⟨fun _ _ _ _ r h=>by simp [z7.j0] at h,fun _ _ _ _ _ _ _ _ _ r h=>by simp [z7.j1] at h,fun _ _ _ _ _ _ _ _ r h=>by simp [z7.j3] at h,fun _ _ _ _ _ _ _ _ _ r h=>by simp [z7.j4] at h,fun _ _ _ _ _ _ _ _ _ r h=>by simp [z7.j2] at h⟩
 | k + 1=>by
  obtain ⟨ih0,ih1,ih2,ih3,ih4⟩:=z7.z1b k
  refine ⟨?_,?_,?_,?_,?_⟩
  · intro y0 y1 y2 y3
    unfold z7.j0
    repeat' first
    | (with_reducible exact ih0 _ _ _ _)
    | (with_reducible exact ih1 _ _ _ _ _ _ _ _ _)
    | (with_reducible exact ih2 _ _ _ _ _ _ _ _)
    | (with_reducible exact ih3 _ _ _ _ _ _ _ _ _)
    | (with_reducible exact ih4 _ _ _ _ _ _ _ _ _)
    | (with_reducible exact zv.mono _ _ _ _)
    | (with_reducible exact zF.mono _ _ _ _)
    | (with_reducible exact zu.mono _ _)
    | (with_reducible exact zs.mono _ _ _)
    | (with_reducible exact zG.mono _ _ _)
    | (with_reducible exact zC.mono _)
    | (with_reducible exact zx.mono _ _ _)
    | (with_reducible exact zr.mono _ _ _ _)
    | (with_reducible exact LeO.refl _)
    | (with_reducible exact LeO.none _)
    | (with_reducible refine LeO.ite ?_ ?_)
    | (with_reducible refine LeO.bind ?_ (fun _=>?_))
    | exact ih0 _ _ _ _
    | exact ih1 _ _ _ _ _ _ _ _ _
    | exact ih2 _ _ _ _ _ _ _ _
    | exact ih3 _ _ _ _ _ _ _ _ _
    | exact ih4 _ _ _ _ _ _ _ _ _
    | exact zv.mono _ _ _ _
    | exact zF.mono _ _ _ _
    | exact zu.mono _ _
    | exact zs.mono _ _ _
    | exact zG.mono _ _ _
    | exact zC.mono _
    | exact zx.mono _ _ _
    | exact zr.mono _ _ _ _
    | exact LeO.none _
    | refine LeO.ite ?_ ?_
    | refine LeO.bind ?_ (fun _=>?_)
  · intro y0 y1 y2 y3 y4 y5 y6 y7 y8
    unfold z7.j1
    repeat' first
    | (with_reducible exact ih0 _ _ _ _)
    | (with_reducible exact ih1 _ _ _ _ _ _ _ _ _)
    | (with_reducible exact ih2 _ _ _ _ _ _ _ _)
    | (with_reducible exact ih3 _ _ _ _ _ _ _ _ _)
    | (with_reducible exact ih4 _ _ _ _ _ _ _ _ _)
    | (with_reducible exact zv.mono _ _ _ _)
    | (with_reducible exact zF.mono _ _ _ _)
    | (with_reducible exact zu.mono _ _)
    | (with_reducible exact zs.mono _ _ _)
    | (with_reducible exact zG.mono _ _ _)
    | (with_reducible exact zC.mono _)
    | (with_reducible exact zx.mono _ _ _)
    | (with_reducible exact zr.mono _ _ _ _)
    | (with_reducible exact LeO.refl _)
    | (with_reducible exact LeO.none _)
    | (with_reducible refine LeO.ite ?_ ?_)
    | (with_reducible refine LeO.bind ?_ (fun _=>?_))
    | exact ih0 _ _ _ _
    | exact ih1 _ _ _ _ _ _ _ _ _
    | exact ih2 _ _ _ _ _ _ _ _
    | exact ih3 _ _ _ _ _ _ _ _ _
    | exact ih4 _ _ _ _ _ _ _ _ _
    | exact zv.mono _ _ _ _
    | exact zF.mono _ _ _ _
    | exact zu.mono _ _
    | exact zs.mono _ _ _
    | exact zG.mono _ _ _
    | exact zC.mono _
    | exact zx.mono _ _ _
    | exact zr.mono _ _ _ _
    | exact LeO.none _
    | refine LeO.ite ?_ ?_
    | refine LeO.bind ?_ (fun _=>?_)
  · intro y0 y1 y2 y3 y4 y5 y6 y7
    unfold z7.j3
    repeat' first
    | (with_reducible exact ih0 _ _ _ _)
    | (with_reducible exact ih1 _ _ _ _ _ _ _ _ _)
    | (with_reducible exact ih2 _ _ _ _ _ _ _ _)
    | (with_reducible exact ih3 _ _ _ _ _ _ _ _ _)
    | (with_reducible exact ih4 _ _ _ _ _ _ _ _ _)
    | (with_reducible exact zv.mono _ _ _ _)
    | (with_reducible exact zF.mono _ _ _ _)
    | (with_reducible exact zu.mono _ _)
    | (with_reducible exact zs.mono _ _ _)
    | (with_reducible exact zG.mono _ _ _)
    | (with_reducible exact zC.mono _)
    | (with_reducible exact zx.mono _ _ _)
    | (with_reducible exact zr.mono _ _ _ _)
    | (with_reducible exact LeO.refl _)
    | (with_reducible exact LeO.none _)
    | (with_reducible refine LeO.ite ?_ ?_)
    | (with_reducible refine LeO.bind ?_ (fun _=>?_))
    | exact ih0 _ _ _ _
    | exact ih1 _ _ _ _ _ _ _ _ _
    | exact ih2 _ _ _ _ _ _ _ _
    | exact ih3 _ _ _ _ _ _ _ _ _
    | exact ih4 _ _ _ _ _ _ _ _ _
    | exact zv.mono _ _ _ _
    | exact zF.mono _ _ _ _
    | exact zu.mono _ _
    | exact zs.mono _ _ _
    | exact zG.mono _ _ _
    | exact zC.mono _
    | exact zx.mono _ _ _
    | exact zr.mono _ _ _ _
    | exact LeO.none _
    | refine LeO.ite ?_ ?_
    | refine LeO.bind ?_ (fun _=>?_)
  · intro y0 y1 y2 y3 y4 y5 y6 y7 y8
    unfold z7.j4
    repeat' first
    | (with_reducible exact ih0 _ _ _ _)
    | (with_reducible exact ih1 _ _ _ _ _ _ _ _ _)
    | (with_reducible exact ih2 _ _ _ _ _ _ _ _)
    | (with_reducible exact ih3 _ _ _ _ _ _ _ _ _)
    | (with_reducible exact ih4 _ _ _ _ _ _ _ _ _)
    | (with_reducible exact zv.mono _ _ _ _)
    | (with_reducible exact zF.mono _ _ _ _)
    | (with_reducible exact zu.mono _ _)
    | (with_reducible exact zs.mono _ _ _)
    | (with_reducible exact zG.mono _ _ _)
    | (with_reducible exact zC.mono _)
    | (with_reducible exact zx.mono _ _ _)
    | (with_reducible exact zr.mono _ _ _ _)
    | (with_reducible exact LeO.refl _)
    | (with_reducible exact LeO.none _)
    | (with_reducible refine LeO.ite ?_ ?_)
    | (with_reducible refine LeO.bind ?_ (fun _=>?_))
    | exact ih0 _ _ _ _
    | exact ih1 _ _ _ _ _ _ _ _ _
    | exact ih2 _ _ _ _ _ _ _ _
    | exact ih3 _ _ _ _ _ _ _ _ _
    | exact ih4 _ _ _ _ _ _ _ _ _
    | exact zv.mono _ _ _ _
    | exact zF.mono _ _ _ _
    | exact zu.mono _ _
    | exact zs.mono _ _ _
    | exact zG.mono _ _ _
    | exact zC.mono _
    | exact zx.mono _ _ _
    | exact zr.mono _ _ _ _
    | exact LeO.none _
    | refine LeO.ite ?_ ?_
    | refine LeO.bind ?_ (fun _=>?_)
  · intro y0 y1 y2 y3 y4 y5 y6 y7 y8
    unfold z7.j2
    repeat' first
    | (with_reducible exact ih0 _ _ _ _)
    | (with_reducible exact ih1 _ _ _ _ _ _ _ _ _)
    | (with_reducible exact ih2 _ _ _ _ _ _ _ _)
    | (with_reducible exact ih3 _ _ _ _ _ _ _ _ _)
    | (with_reducible exact ih4 _ _ _ _ _ _ _ _ _)
    | (with_reducible exact zv.mono _ _ _ _)
    | (with_reducible exact zF.mono _ _ _ _)
    | (with_reducible exact zu.mono _ _)
    | (with_reducible exact zs.mono _ _ _)
    | (with_reducible exact zG.mono _ _ _)
    | (with_reducible exact zC.mono _)
    | (with_reducible exact zx.mono _ _ _)
    | (with_reducible exact zr.mono _ _ _ _)
    | (with_reducible exact LeO.refl _)
    | (with_reducible exact LeO.none _)
    | (with_reducible refine LeO.ite ?_ ?_)
    | (with_reducible refine LeO.bind ?_ (fun _=>?_))
    | exact ih0 _ _ _ _
    | exact ih1 _ _ _ _ _ _ _ _ _
    | exact ih2 _ _ _ _ _ _ _ _
    | exact ih3 _ _ _ _ _ _ _ _ _
    | exact ih4 _ _ _ _ _ _ _ _ _
    | exact zv.mono _ _ _ _
    | exact zF.mono _ _ _ _
    | exact zu.mono _ _
    | exact zs.mono _ _ _
    | exact zG.mono _ _ _
    | exact zC.mono _
    | exact zx.mono _ _ _
    | exact zr.mono _ _ _ _
    | exact LeO.none _
    | refine LeO.ite ?_ ?_
    | refine LeO.bind ?_ (fun _=>?_)
theorem z7.mono : ∀ a0 a1 a2 k,LeO (z7.f k a0 a1 a2) (z7.f (k + 1) a0 a1 a2):=by
 intro a0 a1 a2 k
 obtain ⟨ih0,ih1,ih2,ih3,ih4⟩:=z7.z1b k
 unfold z7.f
 repeat' first
  | (with_reducible exact ih0 _ _ _ _)
  | (with_reducible exact ih1 _ _ _ _ _ _ _ _ _)
  | (with_reducible exact ih2 _ _ _ _ _ _ _ _)
  | (with_reducible exact ih3 _ _ _ _ _ _ _ _ _)
  | (with_reducible exact ih4 _ _ _ _ _ _ _ _ _)
  | (with_reducible exact zv.mono _ _ _ _)
  | (with_reducible exact zF.mono _ _ _ _)
  | (with_reducible exact zu.mono _ _)
  | (with_reducible exact zs.mono _ _ _)
  | (with_reducible exact zG.mono _ _ _)
  | (with_reducible exact zC.mono _)
  | (with_reducible exact zx.mono _ _ _)
  | (with_reducible exact zr.mono _ _ _ _)
  | (with_reducible exact LeO.refl _)
  | (with_reducible exact LeO.none _)
  | (with_reducible refine LeO.ite ?_ ?_)
  | (with_reducible refine LeO.bind ?_ (fun _=>?_))
  | exact ih0 _ _ _ _
  | exact ih1 _ _ _ _ _ _ _ _ _
  | exact ih2 _ _ _ _ _ _ _ _
  | exact ih3 _ _ _ _ _ _ _ _ _
  | exact ih4 _ _ _ _ _ _ _ _ _
  | exact zv.mono _ _ _ _
  | exact zF.mono _ _ _ _
  | exact zu.mono _ _
  | exact zs.mono _ _ _
  | exact zG.mono _ _ _
  | exact zC.mono _
  | exact zx.mono _ _ _
  | exact zr.mono _ _ _ _
  | exact LeO.none _
  | refine LeO.ite ?_ ?_
  | refine LeO.bind ?_ (fun _=>?_)
set_option maxHeartbeats 8000000 in
set_option maxRecDepth 100000 in
theorem z7.calls (k : Nat) (a0 : Int) (A1 : Option Addr) (c1 : Nat) (l1 : List (S30)) (A2 : Option Addr) (c2 : Nat) (l2 : List (S30)) (r : Bool) (w : World) (hr1 : Kd.C k30 w A1 l1.length l1) (hc1 : l1.length ≤ c1) (hr2 : Kd.C k30 w A2 l2.length l2) (hc2 : l2.length ≤ c2) (h : z7.f k a0 l1 l2 = some r) :
 Calls Try.prog 9 #[.int .i64 a0,.slice A1 l1.length c1,.slice A2 l2.length c2] w fun e w'=>e = .returned (.bool r) ∧ Below w.heap.size w w':=by
 have HR1:=z2.mk hr1
 have HC1:=z2.mk hc1
 clear hr1 hc1
 have HR2:=z2.mk hr2
 have HC2:=z2.mk hc2
 clear hr2 hc2
 have HB:=z2.mk (Below.refl w.heap.size w)
 have H : (if a0 > 4 then (if a0 ≤ 7 then (z7.j0 k a0 l1 l2 true) else (if (l1.length : Int) > 5 then (if (l1.length : Int) ≤ 16 then (z7.j0 k a0 l1 l2 true) else (if (l2.length : Int) > 5 then (if (l2.length : Int) ≤ 16 then (z7.j0 k a0 l1 l2 true) else (if (l1.length : Int) > 30 then (z7.j0 k a0 l1 l2 true) else (z7.j0 k a0 l1 l2 (decide ((l2.length : Int) > 30))))) else (if (l1.length : Int) > 30 then (z7.j0 k a0 l1 l2 true) else (z7.j0 k a0 l1 l2 (decide ((l2.length : Int) > 30)))))) else (if (l2.length : Int) > 5 then (if (l2.length : Int) ≤ 16 then (z7.j0 k a0 l1 l2 true) else (if (l1.length : Int) > 30 then (z7.j0 k a0 l1 l2 true) else (z7.j0 k a0 l1 l2 (decide ((l2.length : Int) > 30))))) else (if (l1.length : Int) > 30 then (z7.j0 k a0 l1 l2 true) else (z7.j0 k a0 l1 l2 (decide ((l2.length : Int) > 30))))))) else (if (l1.length : Int) > 5 then (if (l1.length : Int) ≤ 16 then (z7.j0 k a0 l1 l2 true) else (if (l2.length : Int) > 5 then (if (l2.length : Int) ≤ 16 then (z7.j0 k a0 l1 l2 true) else (if (l1.length : Int) > 30 then (z7.j0 k a0 l1 l2 true) else (z7.j0 k a0 l1 l2 (decide ((l2.length : Int) > 30))))) else (if (l1.length : Int) > 30 then (z7.j0 k a0 l1 l2 true) else (z7.j0 k a0 l1 l2 (decide ((l2.length : Int) > 30)))))) else (if (l2.length : Int) > 5 then (if (l2.length : Int) ≤ 16 then (z7.j0 k a0 l1 l2 true) else (if (l1.length : Int) > 30 then (z7.j0 k a0 l1 l2 true) else (z7.j0 k a0 l1 l2 (decide ((l2.length : Int) > 30))))) else (if (l1.length : Int) > 30 then (z7.j0 k a0 l1 l2 true) else (z7.j0 k a0 l1 l2 (decide ((l2.length : Int) > 30))))))) = some r:=h
 clear h
 have HC4:=z2.mk H
 clear H
 go_enter Try.func9,Try.ntmps9
 go_upto_region 1 with (fail)
 go_cut [47] (fun v47 wc=>∃ (kq : Nat) (x47_3 : Bool),v47 = .bool x47_3 ∧ z2 (z7.j0 kq a0 l1 l2 x47_3 = some r) ∧ z2 (kq ≤ k) ∧ z2 (Below w.heap.size w wc))
 case first =>
  have H:=HC4.out
  clear HC4
  by_cases c5 : a0 > 4
  rotate_left
  · rw [if_neg c5] at H
    have c5b0 : decide (4 < a0) = false:=decide_eq_false c5
    clear c5
    (first|rw [c5b0]|(simp only [zZ,z14];rw [c5b0])|skip)
    by_cases c17 : (l1.length : Int) > 5
    rotate_left
    · rw [if_neg c17] at H
      have c17b0 : decide (5 < (l1.length : Int)) = false:=decide_eq_false c17
      have c17b1 : decide (5 < l1.length) = false:=decide_eq_false (by omega)
      clear c17
      by_cases c23 : (l2.length : Int) > 5
      rotate_left
      · rw [if_neg c23] at H
        have c23b0 : decide (5 < (l2.length : Int)) = false:=decide_eq_false c23
        have c23b1 : decide (5 < l2.length) = false:=decide_eq_false (by omega)
        clear c23
        by_cases c26 : (l1.length : Int) > 30
        rotate_left
        · rw [if_neg c26] at H
          have c26b0 : decide (30 < (l1.length : Int)) = false:=decide_eq_false c26
          have c26b1 : decide (30 < l1.length) = false:=decide_eq_false (by omega)
          clear c26
          have H':=z2.mk H
          clear H
          go_wp2
          go_meet
          case rel=>exact ⟨_,(decide ((l2.length : Int) > 30)),(by first|rfl|(simp;done)|(simp [*];done)),H',⟨by first|omega|exact Nat.le_refl _⟩,⟨by repeat (first|(with_reducible first|exact HB.out|apply z4|apply z1|apply z3)|exact HB.out)⟩⟩
        rw [if_pos c26] at H
        have c26b0 : decide (30 < (l1.length : Int)) = true:=decide_eq_true c26
        have c26b1 : decide (30 < l1.length) = true:=decide_eq_true (by omega)
        clear c26
        have H':=z2.mk H
        clear H
        go_wp2
        go_meet
        case rel=>exact ⟨_,(true),(by first|rfl|(simp;done)|(simp [*];done)),H',⟨by first|omega|exact Nat.le_refl _⟩,⟨by repeat (first|(with_reducible first|exact HB.out|apply z4|apply z1|apply z3)|exact HB.out)⟩⟩
      rw [if_pos c23] at H
      have c23b0 : decide (5 < (l2.length : Int)) = true:=decide_eq_true c23
      have c23b1 : decide (5 < l2.length) = true:=decide_eq_true (by omega)
      clear c23
      by_cases c24 : (l2.length : Int) ≤ 16
      · rw [if_pos c24] at H
        have c24b0 : decide ((l2.length : Int) ≤ 16) = true:=decide_eq_true c24
        have c24b1 : decide (l2.length ≤ 16) = true:=decide_eq_true (by omega)
        clear c24
        have H':=z2.mk H
        clear H
        go_wp2
        go_meet
        case rel=>exact ⟨_,(true),(by first|rfl|(simp;done)|(simp [*];done)),H',⟨by first|omega|exact Nat.le_refl _⟩,⟨by repeat (first|(with_reducible first|exact HB.out|apply z4|apply z1|apply z3)|exact HB.out)⟩⟩
      rw [if_neg c24] at H
      have c24b0 : decide ((l2.length : Int) ≤ 16) = false:=decide_eq_false c24
      have c24b1 : decide (l2.length ≤ 16) = false:=decide_eq_false (by omega)
      clear c24
      by_cases c25 : (l1.length : Int) > 30
      rotate_left
      · rw [if_neg c25] at H
        have c25b0 : decide (30 < (l1.length : Int)) = false:=decide_eq_false c25
        have c25b1 : decide (30 < l1.length) = false:=decide_eq_false (by omega)
        clear c25
        have H':=z2.mk H
        clear H
        go_wp2
        go_meet
        case rel=>exact ⟨_,(decide ((l2.length : Int) > 30)),(by first|rfl|(simp;done)|(simp [*];done)),H',⟨by first|omega|exact Nat.le_refl _⟩,⟨by repeat (first|(with_reducible first|exact HB.out|apply z4|apply z1|apply z3)|exact HB.out)⟩⟩
      rw [if_pos c25] at H
      have c25b0 : decide (30 < (l1.length : Int)) = true:=decide_eq_true c25
      have c25b1 : decide (30 < l1.length) = true:=decide_eq_true (by omega)
      clear c25
      have H':=z2.mk H
      clear H
      go_wp2
      go_meet
      case rel=>exact ⟨_,(true),(by first|rfl|(simp;done)|(simp [*];done)),H',⟨by first|omega|exact Nat.le_refl _⟩,⟨by repeat (first|(with_reducible first|exact HB.out|apply z4|apply z1|apply z3)|exact HB.out)⟩⟩
    rw [if_pos c17] at H
    have c17b0 : decide (5 < (l1.length : Int)) = true:=decide_eq_true c17
    have c17b1 : decide (5 < l1.length) = true:=decide_eq_true (by omega)
    clear c17
    by_cases c18 : (l1.length : Int) ≤ 16
    · rw [if_pos c18] at H
      have c18b0 : decide ((l1.length : Int) ≤ 16) = true:=decide_eq_true c18
      have c18b1 : decide (l1.length ≤ 16) = true:=decide_eq_true (by omega)
      clear c18
      have H':=z2.mk H
      clear H
      go_wp2
      go_meet
      case rel=>exact ⟨_,(true),(by first|rfl|(simp;done)|(simp [*];done)),H',⟨by first|omega|exact Nat.le_refl _⟩,⟨by repeat (first|(with_reducible first|exact HB.out|apply z4|apply z1|apply z3)|exact HB.out)⟩⟩
    rw [if_neg c18] at H
    have c18b0 : decide ((l1.length : Int) ≤ 16) = false:=decide_eq_false c18
    have c18b1 : decide (l1.length ≤ 16) = false:=decide_eq_false (by omega)
    clear c18
    by_cases c19 : (l2.length : Int) > 5
    rotate_left
    · rw [if_neg c19] at H
      have c19b0 : decide (5 < (l2.length : Int)) = false:=decide_eq_false c19
      have c19b1 : decide (5 < l2.length) = false:=decide_eq_false (by omega)
      clear c19
      by_cases c22 : (l1.length : Int) > 30
      rotate_left
      · rw [if_neg c22] at H
        have c22b0 : decide (30 < (l1.length : Int)) = false:=decide_eq_false c22
        have c22b1 : decide (30 < l1.length) = false:=decide_eq_false (by omega)
        clear c22
        have H':=z2.mk H
        clear H
        go_wp2
        go_meet
        case rel=>exact ⟨_,(decide ((l2.length : Int) > 30)),(by first|rfl|(simp;done)|(simp [*];done)),H',⟨by first|omega|exact Nat.le_refl _⟩,⟨by repeat (first|(with_reducible first|exact HB.out|apply z4|apply z1|apply z3)|exact HB.out)⟩⟩
      rw [if_pos c22] at H
      have c22b0 : decide (30 < (l1.length : Int)) = true:=decide_eq_true c22
      have c22b1 : decide (30 < l1.length) = true:=decide_eq_true (by omega)
      clear c22
      have H':=z2.mk H
      clear H
      go_wp2
      go_meet
      case rel=>exact ⟨_,(true),(by first|rfl|(simp;done)|(simp [*];done)),H',⟨by first|omega|exact Nat.le_refl _⟩,⟨by repeat (first|(with_reducible first|exact HB.out|apply z4|apply z1|apply z3)|exact HB.out)⟩⟩
    rw [if_pos c19] at H
    have c19b0 : decide (5 < (l2.length : Int)) = true:=decide_eq_true c19
    have c19b1 : decide (5 < l2.length) = true:=decide_eq_true (by omega)
    clear c19
    by_cases c20 : (l2.length : Int) ≤ 16
    · rw [if_pos c20] at H
      have c20b0 : decide ((l2.length : Int) ≤ 16) = true:=decide_eq_true c20
      have c20b1 : decide (l2.length ≤ 16) = true:=decide_eq_true (by omega)
      clear c20
      have H':=z2.mk H
      clear H
      go_wp2
      go_meet
      case rel=>exact ⟨_,(true),(by first|rfl|(simp;done)|(simp [*];done)),H',⟨by first|omega|exact Nat.le_refl _⟩,⟨by repeat (first|(with_reducible first|exact HB.out|apply z4|apply z1|apply z3)|exact HB.out)⟩⟩
    rw [if_neg c20] at H
    have c20b0 : decide ((l2.length : Int) ≤ 16) = false:=decide_eq_false c20
    have c20b1 : decide (l2.length ≤ 16) = false:=decide_eq_false (by omega)
    clear c20
    by_cases c21 : (l1.length : Int) > 30
    rotate_left
    · rw [if_neg c21] at H
      have c21b0 : decide (30 < (l1.length : Int)) = false:=decide_eq_false c21
      have c21b1 : decide (30 < l1.length) = false:=decide_eq_false (by omega)
      clear c21
      have H':=z2.mk H
      clear H
      go_wp2
      go_meet
      case rel=>exact ⟨_,(decide ((l2.length : Int) > 30)),(by first|rfl|(simp;done)|(simp [*];done)),H',⟨by first|omega|exact Nat.le_refl _⟩,⟨by repeat (first|(with_reducible first|exact HB.out|apply z4|apply z1|apply z3)|exact HB.out)⟩⟩
    rw [if_pos c21] at H
    have c21b0 : decide (30 < (l1.length : Int)) = true:=decide_eq_true c21
    have c21b1 : decide (30 < l1.length) = true:=decide_eq_true (by omega)
    clear c21
    have H':=z2.mk H
    clear H
    go_wp2
    go_meet
    case rel=>exact ⟨_,(true),(by first|rfl|(simp;done)|(simp [*];done)),H',⟨by first|omega|exact Nat.le_refl _⟩,⟨by repeat (first|(with_reducible first|exact HB.out|apply z4|apply z1|apply z3)|exact HB.out)⟩⟩
  rw [if_pos c5] at H
  have c5b0 : decide (4 < a0) = true:=decide_eq_true c5
  clear c5
  (first|rw [c5b0]|(simp only [zZ,z14];rw [c5b0])|skip)
  by_cases c6 : a0 ≤ 7
  · rw [if_pos c6] at H
    have c6b0 : decide (a0 ≤ 7) = true:=decide_eq_true c6
    clear c6
    have H':=z2.mk H
    clear H
    go_wp2
    go_meet
    case rel=>exact ⟨_,(true),(by first|rfl|(simp;done)|(simp [*];done)),H',⟨by first|omega|exact Nat.le_refl _⟩,⟨by repeat (first|(with_reducible first|exact HB.out|apply z4|apply z1|apply z3)|exact HB.out)⟩⟩
  rw [if_neg c6] at H
  have c6b0 : decide (a0 ≤ 7) = false:=decide_eq_false c6
  clear c6
  by_cases c7 : (l1.length : Int) > 5
  rotate_left
  · rw [if_neg c7] at H
    have c7b0 : decide (5 < (l1.length : Int)) = false:=decide_eq_false c7
    have c7b1 : decide (5 < l1.length) = false:=decide_eq_false (by omega)
    clear c7
    by_cases c13 : (l2.length : Int) > 5
    rotate_left
    · rw [if_neg c13] at H
      have c13b0 : decide (5 < (l2.length : Int)) = false:=decide_eq_false c13
      have c13b1 : decide (5 < l2.length) = false:=decide_eq_false (by omega)
      clear c13
      by_cases c16 : (l1.length : Int) > 30
      rotate_left
      · rw [if_neg c16] at H
        have c16b0 : decide (30 < (l1.length : Int)) = false:=decide_eq_false c16
        have c16b1 : decide (30 < l1.length) = false:=decide_eq_false (by omega)
        clear c16
        have H':=z2.mk H
        clear H
        go_wp2
        go_meet
        case rel=>exact ⟨_,(decide ((l2.length : Int) > 30)),(by first|rfl|(simp;done)|(simp [*];done)),H',⟨by first|omega|exact Nat.le_refl _⟩,⟨by repeat (first|(with_reducible first|exact HB.out|apply z4|apply z1|apply z3)|exact HB.out)⟩⟩
      rw [if_pos c16] at H
      have c16b0 : decide (30 < (l1.length : Int)) = true:=decide_eq_true c16
      have c16b1 : decide (30 < l1.length) = true:=decide_eq_true (by omega)
      clear c16
      have H':=z2.mk H
      clear H
      go_wp2
      go_meet
      case rel=>exact ⟨_,(true),(by first|rfl|(simp;done)|(simp [*];done)),H',⟨by first|omega|exact Nat.le_refl _⟩,⟨by repeat (first|(with_reducible first|exact HB.out|apply z4|apply z1|apply z3)|exact HB.out)⟩⟩
    rw [if_pos c13] at H
    have c13b0 : decide (5 < (l2.length : Int)) = true:=decide_eq_true c13
    have c13b1 : decide (5 < l2.length) = true:=decide_eq_true (by omega)
    clear c13
    by_cases c14 : (l2.length : Int) ≤ 16
    · rw [if_pos c14] at H
      have c14b0 : decide ((l2.length : Int) ≤ 16) = true:=decide_eq_true c14
      have c14b1 : decide (l2.length ≤ 16) = true:=decide_eq_true (by omega)
      clear c14
      have H':=z2.mk H
      clear H
      go_wp2
      go_meet
      case rel=>exact ⟨_,(true),(by first|rfl|(simp;done)|(simp [*];done)),H',⟨by first|omega|exact Nat.le_refl _⟩,⟨by repeat (first|(with_reducible first|exact HB.out|apply z4|apply z1|apply z3)|exact HB.out)⟩⟩
    rw [if_neg c14] at H
    have c14b0 : decide ((l2.length : Int) ≤ 16) = false:=decide_eq_false c14
    have c14b1 : decide (l2.length ≤ 16) = false:=decide_eq_false (by omega)
    clear c14
    by_cases c15 : (l1.length : Int) > 30
    rotate_left
    · rw [if_neg c15] at H
      have c15b0 : decide (30 < (l1.length : Int)) = false:=decide_eq_false c15
      have c15b1 : decide (30 < l1.length) = false:=decide_eq_false (by omega)
      clear c15
      have H':=z2.mk H
      clear H
      go_wp2
      go_meet
      case rel=>exact ⟨_,(decide ((l2.length : Int) > 30)),(by first|rfl|(simp;done)|(simp [*];done)),H',⟨by first|omega|exact Nat.le_refl _⟩,⟨by repeat (first|(with_reducible first|exact HB.out|apply z4|apply z1|apply z3)|exact HB.out)⟩⟩
    rw [if_pos c15] at H
    have c15b0 : decide (30 < (l1.length : Int)) = true:=decide_eq_true c15
    have c15b1 : decide (30 < l1.length) = true:=decide_eq_true (by omega)
    clear c15
    have H':=z2.mk H
    clear H
    go_wp2
    go_meet
    case rel=>exact ⟨_,(true),(by first|rfl|(simp;done)|(simp [*];done)),H',⟨by first|omega|exact Nat.le_refl _⟩,⟨by repeat (first|(with_reducible first|exact HB.out|apply z4|apply z1|apply z3)|exact HB.out)⟩⟩
  rw [if_pos c7] at H
  have c7b0 : decide (5 < (l1.length : Int)) = true:=decide_eq_true c7
  have c7b1 : decide (5 < l1.length) = true:=decide_eq_true (by omega)
  clear c7
  by_cases c8 : (l1.length : Int) ≤ 16
  · rw [if_pos c8] at H
    have c8b0 : decide ((l1.length : Int) ≤ 16) = true:=decide_eq_true c8
    have c8b1 : decide (l1.length ≤ 16) = true:=decide_eq_true (by omega)
    clear c8
    have H':=z2.mk H
    clear H
    go_wp2
    go_meet
    case rel=>exact ⟨_,(true),(by first|rfl|(simp;done)|(simp [*];done)),H',⟨by first|omega|exact Nat.le_refl _⟩,⟨by repeat (first|(with_reducible first|exact HB.out|apply z4|apply z1|apply z3)|exact HB.out)⟩⟩
  rw [if_neg c8] at H
  have c8b0 : decide ((l1.length : Int) ≤ 16) = false:=decide_eq_false c8
  have c8b1 : decide (l1.length ≤ 16) = false:=decide_eq_false (by omega)
  clear c8
  by_cases c9 : (l2.length : Int) > 5
  rotate_left
  · rw [if_neg c9] at H
    have c9b0 : decide (5 < (l2.length : Int)) = false:=decide_eq_false c9
    have c9b1 : decide (5 < l2.length) = false:=decide_eq_false (by omega)
    clear c9
    by_cases c12 : (l1.length : Int) > 30
    rotate_left
    · rw [if_neg c12] at H
      have c12b0 : decide (30 < (l1.length : Int)) = false:=decide_eq_false c12
      have c12b1 : decide (30 < l1.length) = false:=decide_eq_false (by omega)
      clear c12
      have H':=z2.mk H
      clear H
      go_wp2
      go_meet
      case rel=>exact ⟨_,(decide ((l2.length : Int) > 30)),(by first|rfl|(simp;done)|(simp [*];done)),H',⟨by first|omega|exact Nat.le_refl _⟩,⟨by repeat (first|(with_reducible first|exact HB.out|apply z4|apply z1|apply z3)|exact HB.out)⟩⟩
    rw [if_pos c12] at H
    have c12b0 : decide (30 < (l1.length : Int)) = true:=decide_eq_true c12
    have c12b1 : decide (30 < l1.length) = true:=decide_eq_true (by omega)
    clear c12
    have H':=z2.mk H
    clear H
    go_wp2
    go_meet
    case rel=>exact ⟨_,(true),(by first|rfl|(simp;done)|(simp [*];done)),H',⟨by first|omega|exact Nat.le_refl _⟩,⟨by repeat (first|(with_reducible first|exact HB.out|apply z4|apply z1|apply z3)|exact HB.out)⟩⟩
  rw [if_pos c9] at H
  have c9b0 : decide (5 < (l2.length : Int)) = true:=decide_eq_true c9
  have c9b1 : decide (5 < l2.length) = true:=decide_eq_true (by omega)
  clear c9
  by_cases c10 : (l2.length : Int) ≤ 16
  · rw [if_pos c10] at H
    have c10b0 : decide ((l2.length : Int) ≤ 16) = true:=decide_eq_true c10
    have c10b1 : decide (l2.length ≤ 16) = true:=decide_eq_true (by omega)
    clear c10
    have H':=z2.mk H
    clear H
    go_wp2
    go_meet
    case rel=>exact ⟨_,(true),(by first|rfl|(simp;done)|(simp [*];done)),H',⟨by first|omega|exact Nat.le_refl _⟩,⟨by repeat (first|(with_reducible first|exact HB.out|apply z4|apply z1|apply z3)|exact HB.out)⟩⟩
  rw [if_neg c10] at H
  have c10b0 : decide ((l2.length : Int) ≤ 16) = false:=decide_eq_false c10
  have c10b1 : decide (l2.length ≤ 16) = false:=decide_eq_false (by omega)
  clear c10
  by_cases c11 : (l1.length : Int) > 30
  rotate_left
  · rw [if_neg c11] at H
    have c11b0 : decide (30 < (l1.length : Int)) = false:=decide_eq_false c11
    have c11b1 : decide (30 < l1.length) = false:=decide_eq_false (by omega)
    clear c11
    have H':=z2.mk H
    clear H
    go_wp2
    go_meet
    case rel=>exact ⟨_,(decide ((l2.length : Int) > 30)),(by first|rfl|(simp;done)|(simp [*];done)),H',⟨by first|omega|exact Nat.le_refl _⟩,⟨by repeat (first|(with_reducible first|exact HB.out|apply z4|apply z1|apply z3)|exact HB.out)⟩⟩
  rw [if_pos c11] at H
  have c11b0 : decide (30 < (l1.length : Int)) = true:=decide_eq_true c11
  have c11b1 : decide (30 < l1.length) = true:=decide_eq_true (by omega)
  clear c11
  have H':=z2.mk H
  clear H
  go_wp2
  go_meet
  case rel=>exact ⟨_,(true),(by first|rfl|(simp;done)|(simp [*];done)),H',⟨by first|omega|exact Nat.le_refl _⟩,⟨by repeat (first|(with_reducible first|exact HB.out|apply z4|apply z1|apply z3)|exact HB.out)⟩⟩
 case rest =>
  clear HC4
  (try clear c1);(try clear c2);(try clear p2);(try clear c5);(try clear c5b0);(try clear c6);(try clear c6b0);(try clear c7);(try clear c7b0);(try clear c7b1);(try clear c8);(try clear c8b0);(try clear c8b1);(try clear c9);(try clear c9b0);(try clear c9b1);(try clear c10);(try clear c10b0);(try clear c10b1);(try clear c11);(try clear c11b0);(try clear c11b1);(try clear c12);(try clear c12b0);(try clear c12b1);(try clear c13);(try clear c13b0);(try clear c13b1);(try clear c14);(try clear c14b0);(try clear c14b1);(try clear c15);(try clear c15b0);(try clear c15b1);(try clear c16);(try clear c16b0);(try clear c16b1);(try clear c17);(try clear c17b0);(try clear c17b1);(try clear c18);(try clear c18b0);(try clear c18b1);(try clear c19);(try clear c19b0);(try clear c19b1);(try clear c20);(try clear c20b0);(try clear c20b1);(try clear c21);(try clear c21b0);(try clear c21b1);(try clear c22);(try clear c22b0);(try clear c22b1);(try clear c23);(try clear c23b0);(try clear c23b1);(try clear c24);(try clear c24b0);(try clear c24b1);(try clear c25);(try clear c25b0);(try clear c25b1);(try clear c26);(try clear c26b0);(try clear c26b1)
  obtain ⟨kq,x47_3,rfl,HA,HJ3,HB⟩:=hcut
  cases kq with
  | zero=>exact absurd HA.out (by simp [z7.j0])
  | succ kj3 =>
   have H:=HA.out
   clear HA
   simp only [z7.j0] at H
   by_cases c27 : x47_3 = true
   · subst c27
     have H1 : ((zC.f kj3).bind fun t101=>(some t101)) = some r:=by rw [if_pos rfl] at H;exact H
     clear H
     have H:=H1
     clear H1
     replace H:=Option.bind_eq_some_iff.mp H
     obtain ⟨t101,A280,H⟩:=H
     replace H : (some t101) = some r:=H
     have A28:=z2.mk A280
     clear A280
     obtain rfl:=Option.some.inj H
     go_wp2_with (first|((with_reducible refine zj (f:=39) rfl ?_);refine goesL_ (some 48) rfl rfl Try.func39 (by kernel_rfl) rfl #[] rfl (by (try simp only [List.map_toArray,List.map_cons,List.map_nil]);first|done|rfl|(simp only [List.length_drop,List.length_take];rfl)) ?_;(with_reducible refine (zC.calls kj3  t101 _ A28.out).mono ?_);rintro e w29 ⟨rfl,hb⟩;refine ⟨_,rfl,?_⟩;have n0_:=z2.mk (za (by repeat (first|(with_reducible first|exact HB.out|apply z4|apply z1|apply z3)|exact HB.out)) hb);clear HB;have HB:=n0_;clear n0_;(try clear hb);(try clear hb2);(try clear hk);(try clear hi)))
     go_ret
     exact ⟨by first|rfl|(simp [zk,zl] <;> rfl)|(simp [*,zk,zl] <;> rfl),by repeat (first|(with_reducible first|exact HB.out|apply z4|apply z1|apply z3)|exact HB.out)⟩
   replace c27:=Bool.eq_false_iff.mpr c27
   subst c27
   have H1 : ((zv.f kj3 a0 l1 l2).bind fun bt102=>((zu.f kj3 l1).bind fun t106=>((zu.f kj3 l2).bind fun t109=>(if a0 < 0 then (z7.j1 kj3 a0 l1 l2 bt102.1 bt102.2 t106 t109 0 true) else (z7.j1 kj3 a0 l1 l2 bt102.1 bt102.2 t106 t109 0 (decide (a0 > 7))))))) = some r:=by rw [if_neg (show ¬ (false = true) by decide)] at H;exact H
   clear H
   have H:=H1
   clear H1
   replace H:=Option.bind_eq_some_iff.mp H
   obtain ⟨⟨t102,t105⟩,A300,H⟩:=H
   replace H : ((zu.f kj3 l1).bind fun t106=>((zu.f kj3 l2).bind fun t109=>(if a0 < 0 then (z7.j1 kj3 a0 l1 l2 t102 t105 t106 t109 0 true) else (z7.j1 kj3 a0 l1 l2 t102 t105 t106 t109 0 (decide (a0 > 7)))))) = some r:=H
   have A30:=z2.mk A300
   clear A300
   replace H:=Option.bind_eq_some_iff.mp H
   obtain ⟨t106,A310,H⟩:=H
   replace H : ((zu.f kj3 l2).bind fun t109=>(if a0 < 0 then (z7.j1 kj3 a0 l1 l2 t102 t105 t106 t109 0 true) else (z7.j1 kj3 a0 l1 l2 t102 t105 t106 t109 0 (decide (a0 > 7))))) = some r:=H
   have A31:=z2.mk A310
   clear A310
   replace H:=Option.bind_eq_some_iff.mp H
   obtain ⟨t109,A320,H⟩:=H
   replace H : (if a0 < 0 then (z7.j1 kj3 a0 l1 l2 t102 t105 t106 t109 0 true) else (z7.j1 kj3 a0 l1 l2 t102 t105 t106 t109 0 (decide (a0 > 7)))) = some r:=H
   have A32:=z2.mk A320
   clear A320
   have HC33:=z2.mk H
   clear H
   go_upto_region 6 with (first|((with_reducible refine zj (f:=49) rfl ?_);refine goesL_ (some 53) rfl rfl Try.func49 (by kernel_rfl) rfl #[.int .i64 a0,.slice A1 l1.length c1,.slice A2 l2.length c2] rfl (by (try simp only [List.map_toArray,List.map_cons,List.map_nil]);first|done|rfl|(simp only [List.length_drop,List.length_take];rfl)) ?_;(with_reducible refine (zv.calls kj3 a0 (fun k_=>k_ < w.heap.size) _ _ l1 (fun k_=>k_ < w.heap.size) _ _ l2 t102 t105 _ ?side1 ?side2 A30.out).mono ?_);(case side1=>exact Kd.V_mk HC1.out (Kd.z3B (Kd.C_F z2v HR1.out) (by repeat (first|(with_reducible first|exact HB.out|apply z4|apply z1|apply z3)|exact HB.out))));(case side2=>exact Kd.V_mk HC2.out (Kd.z3B (Kd.C_F z2v HR2.out) (by repeat (first|(with_reducible first|exact HB.out|apply z4|apply z1|apply z3)|exact HB.out))));rintro e w34 ⟨v103,rfl,ho0,hb⟩;refine ⟨_,rfl,?_⟩;have n0_:=z2.mk (Kd.z1l (Kd.zY (ok':=fun k_=>True) ho0 (fun _ hk_=>trivial)) (zb (by repeat (first|(with_reducible first|exact HB.out|apply z4|apply z1|apply z3)|exact HB.out))));have n1_:=z2.mk (za (by repeat (first|(with_reducible first|exact HB.out|apply z4|apply z1|apply z3)|exact HB.out)) hb);clear HB;have HO104:=n0_;have HB:=n1_;clear n0_ n1_;(try clear hb);(try clear hb2);(try clear hk);(try clear hi);(try clear ho0))|((with_reducible refine zj (f:=14) rfl ?_);refine goesL_ (some 57) rfl rfl Try.func14 (by kernel_rfl) rfl #[.slice A1 l1.length c1] rfl (by (try simp only [List.map_toArray,List.map_cons,List.map_nil]);first|done|rfl|(simp only [List.length_drop,List.length_take];rfl)) ?_;(with_reducible refine (zu.calls kj3 _ _ l1 t106 _ ?side1 ?side2 A31.out).mono ?_);(case side1=>repeat (first|exact (Kd.z1W HR1.out HB.out)|(with_reducible refine Kd.z1o ?_ _)|(with_reducible refine Kd.z1p ?_ _)|(with_reducible refine Kd.z1C ?_)));(case side2=>exact HC1.out);rintro e w35 ⟨v107,rfl,ho0,hb⟩;refine ⟨_,rfl,?_⟩;have n0_:=z2.mk (Kd.zO (by (with_reducible repeat (first|apply Kd.ze|apply Kd.zf|apply Kd.zo));exact HO104.out) hb);have n1_:=z2.mk (Kd.z1l ho0 (zb (by repeat (first|(with_reducible first|exact HB.out|apply z4|apply z1|apply z3)|exact HB.out))));have n2_:=z2.mk (za (by repeat (first|(with_reducible first|exact HB.out|apply z4|apply z1|apply z3)|exact HB.out)) hb);clear HO104;clear HB;have HO104:=n0_;have HO108:=n1_;have HB:=n2_;clear n0_ n1_ n2_;(try clear hb);(try clear hb2);(try clear hk);(try clear hi);(try clear ho0))|((with_reducible refine zj (f:=14) rfl ?_);refine goesL_ (some 59) rfl rfl Try.func14 (by kernel_rfl) rfl #[.slice A2 l2.length c2] rfl (by (try simp only [List.map_toArray,List.map_cons,List.map_nil]);first|done|rfl|(simp only [List.length_drop,List.length_take];rfl)) ?_;(with_reducible refine (zu.calls kj3 _ _ l2 t109 _ ?side1 ?side2 A32.out).mono ?_);(case side1=>repeat (first|exact (Kd.z1W HR2.out HB.out)|(with_reducible refine Kd.z1o ?_ _)|(with_reducible refine Kd.z1p ?_ _)|(with_reducible refine Kd.z1C ?_)));(case side2=>exact HC2.out);rintro e w36 ⟨v110,rfl,ho0,hb⟩;refine ⟨_,rfl,?_⟩;have n0_:=z2.mk (Kd.zO (by (with_reducible repeat (first|apply Kd.ze|apply Kd.zf|apply Kd.zo));exact HO104.out) hb);have n1_:=z2.mk (Kd.z1r (by (with_reducible repeat (first|apply Kd.ze|apply Kd.zf|apply Kd.zo));exact HO108.out) (Kd.z1v ho0) hb);have n2_:=z2.mk (Kd.z1l (Kd.z1Q ho0 (Kd.R_lt (by (with_reducible repeat (first|apply Kd.ze|apply Kd.zf|apply Kd.zo));exact HO108.out))) (zb (by repeat (first|(with_reducible first|exact HB.out|apply z4|apply z1|apply z3)|exact HB.out))));have n3_:=z2.mk (za (by repeat (first|(with_reducible first|exact HB.out|apply z4|apply z1|apply z3)|exact HB.out)) hb);clear HO104;clear HO108;clear HB;have HO104:=n0_;have HO108:=n1_;have HO111:=n2_;have HB:=n3_;clear n0_ n1_ n2_ n3_;(try clear hb);(try clear hb2);(try clear hk);(try clear hi);(try clear ho0)))
   (try simp only [Act.put,List.setIfInBounds_toArray,List.set_cons_zero,List.set_cons_succ])
   go_cut [65] (fun v65 wc=>∃ (kq : Nat) (x65_32 : Bool),v65 = .bool x65_32 ∧ z2 (z7.j1 kq a0 l1 l2 t102 t105 t106 t109 0 x65_32 = some r) ∧ z2 (kq ≤ kj3) ∧ z2 (Kd.R k30 30 wc w.heap.size (fun _=>True) v103 t102) ∧ z2 (Kd.R k40 40 wc w.heap.size (fun k_=>some k_ ≠ (v110 : Value).ownBlock) v107 t106) ∧ z2 (Kd.R k40 40 wc w.heap.size (fun k_=>some k_ ≠ (v107 : Value).ownBlock) v110 t109) ∧ z2 (Below w.heap.size w wc))
   case first =>
    have H:=HC33.out
    clear HC33
    by_cases c37 : a0 < 0
    rotate_left
    · rw [if_neg c37] at H
      have c37b0 : decide (a0 < 0) = false:=decide_eq_false c37
      clear c37
      (first|rw [c37b0]|(simp only [zZ,z14];rw [c37b0])|skip)
      have H':=z2.mk H
      clear H
      go_wp2
      go_meet
      case rel=>exact ⟨_,(decide (a0 > 7)),(by first|rfl|(simp;done)|(simp [*];done)),H',⟨by have:=HJ3.out;first|omega|exact Nat.le_refl _⟩,⟨by (with_reducible repeat (first|apply Kd.ze|apply Kd.zf|apply Kd.zo));exact HO104.out⟩,⟨by (with_reducible repeat (first|apply Kd.ze|apply Kd.zf|apply Kd.zo));exact Kd.zY HO108.out (fun _ hk=>hk.2)⟩,⟨by (with_reducible repeat (first|apply Kd.ze|apply Kd.zf|apply Kd.zo));exact Kd.zY HO111.out (fun _ hk=>hk.2)⟩,⟨by repeat (first|(with_reducible first|exact HB.out|apply z4|apply z1|apply z3)|exact HB.out)⟩⟩
    rw [if_pos c37] at H
    have c37b0 : decide (a0 < 0) = true:=decide_eq_true c37
    clear c37
    (first|rw [c37b0]|(simp only [zZ,z14];rw [c37b0])|skip)
    have H':=z2.mk H
    clear H
    go_wp2
    go_meet
    case rel=>exact ⟨_,(true),(by first|rfl|(simp;done)|(simp [*];done)),H',⟨by have:=HJ3.out;first|omega|exact Nat.le_refl _⟩,⟨by (with_reducible repeat (first|apply Kd.ze|apply Kd.zf|apply Kd.zo));exact HO104.out⟩,⟨by (with_reducible repeat (first|apply Kd.ze|apply Kd.zf|apply Kd.zo));exact Kd.zY HO108.out (fun _ hk=>hk.2)⟩,⟨by (with_reducible repeat (first|apply Kd.ze|apply Kd.zf|apply Kd.zo));exact Kd.zY HO111.out (fun _ hk=>hk.2)⟩,⟨by repeat (first|(with_reducible first|exact HB.out|apply z4|apply z1|apply z3)|exact HB.out)⟩⟩
   case rest =>
    clear HC33
    (try clear c1);(try clear c2);(try clear p2);(try clear c3);(try clear c4);(try clear c5);(try clear c5b0);(try clear c6);(try clear c6b0);(try clear c7);(try clear c7b0);(try clear c7b1);(try clear c8);(try clear c8b0);(try clear c8b1);(try clear c9);(try clear c9b0);(try clear c9b1);(try clear c10);(try clear c10b0);(try clear c10b1);(try clear c11);(try clear c11b0);(try clear c11b1);(try clear c12);(try clear c12b0);(try clear c12b1);(try clear c13);(try clear c13b0);(try clear c13b1);(try clear c14);(try clear c14b0);(try clear c14b1);(try clear c15);(try clear c15b0);(try clear c15b1);(try clear c16);(try clear c16b0);(try clear c16b1);(try clear c17);(try clear c17b0);(try clear c17b1);(try clear c18);(try clear c18b0);(try clear c18b1);(try clear c19);(try clear c19b0);(try clear c19b1);(try clear c20);(try clear c20b0);(try clear c20b1);(try clear c21);(try clear c21b0);(try clear c21b1);(try clear c22);(try clear c22b0);(try clear c22b1);(try clear c23);(try clear c23b0);(try clear c23b1);(try clear c24);(try clear c24b0);(try clear c24b1);(try clear c25);(try clear c25b0);(try clear c25b1);(try clear c26);(try clear c26b0);(try clear c26b1);(try clear c27);(try clear c37);(try clear c37b0);(try clear p2)
    obtain ⟨kq,x65_32,rfl,HA,HJ32,HO_7,HO_9,HO_10,HB⟩:=hcut
    cases kq with
    | zero=>exact absurd HA.out (by simp [z7.j1])
    | succ kj32 =>
     have H:=HA.out
     clear HA
     simp only [z7.j1] at H
     have HC38:=z2.mk H
     clear H
     go_upto_if 65 with (fail)
     go_cut [11] (fun v11 wc=>∃ (kq : Nat) (x11_37 : Int),v11 = .int .i64 x11_37 ∧ z2 (z7.j3 kq a0 l1 l2 t102 t105 t106 t109 x11_37 = some r) ∧ z2 (kq ≤ kj32) ∧ z2 (Kd.R k30 30 wc w.heap.size (fun _=>True) v103 t102) ∧ z2 (Kd.R k40 40 wc w.heap.size (fun k_=>some k_ ≠ (v110 : Value).ownBlock) v107 t106) ∧ z2 (Kd.R k40 40 wc w.heap.size (fun k_=>some k_ ≠ (v107 : Value).ownBlock) v110 t109) ∧ z2 (Below w.heap.size w wc))
     case first =>
      have H:=HC38.out
      clear HC38
      by_cases c39 : x65_32 = true
      · subst c39
        have H1 : (z7.j3 kj32 a0 l1 l2 t102 t105 t106 t109 1) = some r:=by rw [if_pos rfl] at H;exact H
        clear H
        have H:=H1
        clear H1
        have H':=z2.mk H
        clear H
        go_wp2
        go_meet
        case rel=>exact ⟨_,(1),(by first|rfl|(simp;done)|(simp [*];done)),H',⟨by have:=HJ3.out;have:=HJ32.out;first|omega|exact Nat.le_refl _⟩,⟨by (with_reducible repeat (first|apply Kd.ze|apply Kd.zf|apply Kd.zo));exact HO_7.out⟩,⟨by (with_reducible repeat (first|apply Kd.ze|apply Kd.zf|apply Kd.zo));exact HO_9.out⟩,⟨by (with_reducible repeat (first|apply Kd.ze|apply Kd.zf|apply Kd.zo));exact HO_10.out⟩,⟨by repeat (first|(with_reducible first|exact HB.out|apply z4|apply z1|apply z3)|exact HB.out)⟩⟩
      replace c39:=Bool.eq_false_iff.mpr c39
      subst c39
      have H1 : (if (l1.length : Int) = (l2.length : Int) then (z7.j2 kj32 a0 l1 l2 t102 t105 t106 t109 0 (decide ((l1.length : Int) > 16))) else (z7.j2 kj32 a0 l1 l2 t102 t105 t106 t109 0 true)) = some r:=by rw [if_neg (show ¬ (false = true) by decide)] at H;exact H
      clear H
      have H:=H1
      clear H1
      have HC40:=z2.mk H
      clear H
      go_upto_region 8 with (fail)
      go_cut [75] (fun v75 wc=>∃ (kq : Nat) (x75_39 : Bool),v75 = .bool x75_39 ∧ z2 (z7.j2 kq a0 l1 l2 t102 t105 t106 t109 0 x75_39 = some r) ∧ z2 (kq ≤ kj32) ∧ z2 (Kd.R k30 30 wc w.heap.size (fun _=>True) v103 t102) ∧ z2 (Kd.R k40 40 wc w.heap.size (fun k_=>some k_ ≠ (v110 : Value).ownBlock) v107 t106) ∧ z2 (Kd.R k40 40 wc w.heap.size (fun k_=>some k_ ≠ (v107 : Value).ownBlock) v110 t109) ∧ z2 (Below w.heap.size w wc))
      case first =>
       have H:=HC40.out
       clear HC40
       by_cases c41 : (l1.length : Int) = (l2.length : Int)
       rotate_left
       · rw [if_neg c41] at H
         have c41b0 : ((l1.length : Int) == (l2.length : Int)) = false:=beq_eq_false_iff_ne.mpr c41
         have c41b1 : ((l1.length : Int) != (l2.length : Int)) = true:=bne_iff_ne.mpr c41
         have c41b2 : (l1.length == l2.length) = false:=by first|simpa using c41|(simp at c41 ⊢;omega)
         (first|rw [c41b0]|(simp only [zZ,z14];rw [c41b0])|skip)
         have H':=z2.mk H
         clear H
         go_wp2
         go_meet
         case rel=>exact ⟨_,(true),(by first|rfl|(simp;done)|(simp [*];done)),H',⟨by have:=HJ3.out;have:=HJ32.out;first|omega|exact Nat.le_refl _⟩,⟨by (with_reducible repeat (first|apply Kd.ze|apply Kd.zf|apply Kd.zo));exact HO_7.out⟩,⟨by (with_reducible repeat (first|apply Kd.ze|apply Kd.zf|apply Kd.zo));exact HO_9.out⟩,⟨by (with_reducible repeat (first|apply Kd.ze|apply Kd.zf|apply Kd.zo));exact HO_10.out⟩,⟨by repeat (first|(with_reducible first|exact HB.out|apply z4|apply z1|apply z3)|exact HB.out)⟩⟩
       rw [if_pos c41] at H
       have c41b0 : ((l1.length : Int) == (l2.length : Int)) = true:=beq_iff_eq.mpr c41
       have c41b1 : ((l1.length : Int) != (l2.length : Int)) = false:=bne_eq_false_iff_eq.mpr c41
       have c41b2 : (l1.length == l2.length) = true:=by first|simpa using c41|(simp at c41 ⊢;omega)
       clear c41
       (first|rw [c41b0]|(simp only [zZ,z14];rw [c41b0])|skip)
       have H':=z2.mk H
       clear H
       go_wp2
       go_meet
       case rel=>exact ⟨_,(decide ((l1.length : Int) > 16)),(by first|rfl|(simp;done)|(simp [*];done)),H',⟨by have:=HJ3.out;have:=HJ32.out;first|omega|exact Nat.le_refl _⟩,⟨by (with_reducible repeat (first|apply Kd.ze|apply Kd.zf|apply Kd.zo));exact HO_7.out⟩,⟨by (with_reducible repeat (first|apply Kd.ze|apply Kd.zf|apply Kd.zo));exact HO_9.out⟩,⟨by (with_reducible repeat (first|apply Kd.ze|apply Kd.zf|apply Kd.zo));exact HO_10.out⟩,⟨by repeat (first|(with_reducible first|exact HB.out|apply z4|apply z1|apply z3)|exact HB.out)⟩⟩
      case rest =>
       clear HC40
       (try clear c1);(try clear c2);(try clear p2);(try clear c3);(try clear c4);(try clear c5);(try clear c5b0);(try clear c6);(try clear c6b0);(try clear c7);(try clear c7b0);(try clear c7b1);(try clear c8);(try clear c8b0);(try clear c8b1);(try clear c9);(try clear c9b0);(try clear c9b1);(try clear c10);(try clear c10b0);(try clear c10b1);(try clear c11);(try clear c11b0);(try clear c11b1);(try clear c12);(try clear c12b0);(try clear c12b1);(try clear c13);(try clear c13b0);(try clear c13b1);(try clear c14);(try clear c14b0);(try clear c14b1);(try clear c15);(try clear c15b0);(try clear c15b1);(try clear c16);(try clear c16b0);(try clear c16b1);(try clear c17);(try clear c17b0);(try clear c17b1);(try clear c18);(try clear c18b0);(try clear c18b1);(try clear c19);(try clear c19b0);(try clear c19b1);(try clear c20);(try clear c20b0);(try clear c20b1);(try clear c21);(try clear c21b0);(try clear c21b1);(try clear c22);(try clear c22b0);(try clear c22b1);(try clear c23);(try clear c23b0);(try clear c23b1);(try clear c24);(try clear c24b0);(try clear c24b1);(try clear c25);(try clear c25b0);(try clear c25b1);(try clear c26);(try clear c26b0);(try clear c26b1);(try clear c27);(try clear c37);(try clear c37b0);(try clear c39);(try clear c41);(try clear c41b0);(try clear c41b1);(try clear c41b2);(try clear p2)
       obtain ⟨kq,x75_39,rfl,HA,HJ39,HO_7,HO_9,HO_10,HB⟩:=hcut
       cases kq with
       | zero=>exact absurd HA.out (by simp [z7.j2])
       | succ kj39 =>
        have H:=HA.out
        clear HA
        simp only [z7.j2] at H
        by_cases c42 : x75_39 = true
        · subst c42
          have H1 : (z7.j3 kj39 a0 l1 l2 t102 t105 t106 t109 6) = some r:=by rw [if_pos rfl] at H;exact H
          clear H
          have H:=H1
          clear H1
          have H':=z2.mk H
          clear H
          go_wp2
          go_meet
          case rel=>exact ⟨_,(6),(by first|rfl|(simp;done)|(simp [*];done)),H',⟨by have:=HJ3.out;have:=HJ32.out;have:=HJ39.out;first|omega|exact Nat.le_refl _⟩,⟨by (with_reducible repeat (first|apply Kd.ze|apply Kd.zf|apply Kd.zo));exact HO_7.out⟩,⟨by (with_reducible repeat (first|apply Kd.ze|apply Kd.zf|apply Kd.zo));exact HO_9.out⟩,⟨by (with_reducible repeat (first|apply Kd.ze|apply Kd.zf|apply Kd.zo));exact HO_10.out⟩,⟨by repeat (first|(with_reducible first|exact HB.out|apply z4|apply z1|apply z3)|exact HB.out)⟩⟩
        replace c42:=Bool.eq_false_iff.mpr c42
        subst c42
        have H1 : ((zx.f kj39 a0 t106).bind fun t112=>(if t112 = true then ((zx.f kj39 a0 t109).bind fun t113=>(if t113 = true then (z7.j3 kj39 a0 l1 l2 t102 t105 t106 t109 0) else (z7.j3 kj39 a0 l1 l2 t102 t105 t106 t109 5))) else (z7.j3 kj39 a0 l1 l2 t102 t105 t106 t109 5))) = some r:=by rw [if_neg (show ¬ (false = true) by decide)] at H;exact H
        clear H
        have H:=H1
        clear H1
        replace H:=Option.bind_eq_some_iff.mp H
        obtain ⟨t112,A430,H⟩:=H
        replace H : (if t112 = true then ((zx.f kj39 a0 t109).bind fun t113=>(if t113 = true then (z7.j3 kj39 a0 l1 l2 t102 t105 t106 t109 0) else (z7.j3 kj39 a0 l1 l2 t102 t105 t106 t109 5))) else (z7.j3 kj39 a0 l1 l2 t102 t105 t106 t109 5)) = some r:=H
        have A43:=z2.mk A430
        clear A430
        by_cases c44 : t112 = true
        rotate_left
        · replace c44:=Bool.eq_false_iff.mpr c44
          subst c44
          have H1 : (z7.j3 kj39 a0 l1 l2 t102 t105 t106 t109 5) = some r:=by rw [if_neg (show ¬ (false = true) by decide)] at H;exact H
          clear H
          have H:=H1
          clear H1
          have H':=z2.mk H
          clear H
          obtain ⟨Ao55,co55,eo55⟩:=Kd.z1d HO_9.out
          subst eo55
          go_wp2_with (first|((with_reducible refine zj (f:=50) rfl ?_);refine goesL_ (some 78) rfl rfl Try.func50 (by kernel_rfl) rfl #[.int .i64 a0,.slice Ao55 t106.length co55] rfl (by (try simp only [List.map_toArray,List.map_cons,List.map_nil]);first|done|rfl|(simp only [List.length_drop,List.length_take];rfl)) ?_;(with_reducible refine (zx.calls kj39 a0 _ _ t106 false _ ?side1 ?side2 A43.out).mono ?_);(case side1=>repeat (first|exact (Kd.zI HO_9.out).2.2|(with_reducible refine Kd.z1o ?_ _)|(with_reducible refine Kd.z1p ?_ _)|(with_reducible refine Kd.z1C ?_)));(case side2=>exact (Kd.zI HO_9.out).2.1);rintro e w56 ⟨rfl,hb⟩;refine ⟨_,rfl,?_⟩;have n0_:=z2.mk (Kd.zO (by (with_reducible repeat (first|apply Kd.ze|apply Kd.zf|apply Kd.zo));exact HO_7.out) hb);have n1_:=z2.mk (Kd.zO (by (with_reducible repeat (first|apply Kd.ze|apply Kd.zf|apply Kd.zo));exact HO_9.out) hb);have n2_:=z2.mk (Kd.zO (by (with_reducible repeat (first|apply Kd.ze|apply Kd.zf|apply Kd.zo));exact HO_10.out) hb);have n3_:=z2.mk (za (by repeat (first|(with_reducible first|exact HB.out|apply z4|apply z1|apply z3)|exact HB.out)) hb);clear HO_7;clear HO_9;clear HO_10;clear HB;have HO_7:=n0_;have HO_9:=n1_;have HO_10:=n2_;have HB:=n3_;clear n0_ n1_ n2_ n3_;(try clear hb);(try clear hb2);(try clear hk);(try clear hi)))
          go_meet
          case rel=>exact ⟨_,(5),(by first|rfl|(simp;done)|(simp [*];done)),H',⟨by have:=HJ3.out;have:=HJ32.out;have:=HJ39.out;first|omega|exact Nat.le_refl _⟩,⟨by (with_reducible repeat (first|apply Kd.ze|apply Kd.zf|apply Kd.zo));exact HO_7.out⟩,⟨by (with_reducible repeat (first|apply Kd.ze|apply Kd.zf|apply Kd.zo));exact HO_9.out⟩,⟨by (with_reducible repeat (first|apply Kd.ze|apply Kd.zf|apply Kd.zo));exact HO_10.out⟩,⟨by repeat (first|(with_reducible first|exact HB.out|apply z4|apply z1|apply z3)|exact HB.out)⟩⟩
        subst c44
        have H1 : ((zx.f kj39 a0 t109).bind fun t113=>(if t113 = true then (z7.j3 kj39 a0 l1 l2 t102 t105 t106 t109 0) else (z7.j3 kj39 a0 l1 l2 t102 t105 t106 t109 5))) = some r:=by rw [if_pos rfl] at H;exact H
        clear H
        have H:=H1
        clear H1
        replace H:=Option.bind_eq_some_iff.mp H
        obtain ⟨t113,A450,H⟩:=H
        replace H : (if t113 = true then (z7.j3 kj39 a0 l1 l2 t102 t105 t106 t109 0) else (z7.j3 kj39 a0 l1 l2 t102 t105 t106 t109 5)) = some r:=H
        have A45:=z2.mk A450
        clear A450
        by_cases c46 : t113 = true
        · subst c46
          have H1 : (z7.j3 kj39 a0 l1 l2 t102 t105 t106 t109 0) = some r:=by rw [if_pos rfl] at H;exact H
          clear H
          have H:=H1
          clear H1
          have H':=z2.mk H
          clear H
          obtain ⟨Ao47,co47,eo47⟩:=Kd.z1d HO_9.out
          subst eo47
          go_wp2_with (first|((with_reducible refine zj (f:=50) rfl ?_);refine goesL_ (some 78) rfl rfl Try.func50 (by kernel_rfl) rfl #[.int .i64 a0,.slice Ao47 t106.length co47] rfl (by (try simp only [List.map_toArray,List.map_cons,List.map_nil]);first|done|rfl|(simp only [List.length_drop,List.length_take];rfl)) ?_;(with_reducible refine (zx.calls kj39 a0 _ _ t106 true _ ?side1 ?side2 A43.out).mono ?_);(case side1=>repeat (first|exact (Kd.zI HO_9.out).2.2|(with_reducible refine Kd.z1o ?_ _)|(with_reducible refine Kd.z1p ?_ _)|(with_reducible refine Kd.z1C ?_)));(case side2=>exact (Kd.zI HO_9.out).2.1);rintro e w48 ⟨rfl,hb⟩;refine ⟨_,rfl,?_⟩;have n0_:=z2.mk (Kd.zO (by (with_reducible repeat (first|apply Kd.ze|apply Kd.zf|apply Kd.zo));exact HO_7.out) hb);have n1_:=z2.mk (Kd.zO (by (with_reducible repeat (first|apply Kd.ze|apply Kd.zf|apply Kd.zo));exact HO_9.out) hb);have n2_:=z2.mk (Kd.zO (by (with_reducible repeat (first|apply Kd.ze|apply Kd.zf|apply Kd.zo));exact HO_10.out) hb);have n3_:=z2.mk (za (by repeat (first|(with_reducible first|exact HB.out|apply z4|apply z1|apply z3)|exact HB.out)) hb);clear HO_7;clear HO_9;clear HO_10;clear HB;have HO_7:=n0_;have HO_9:=n1_;have HO_10:=n2_;have HB:=n3_;clear n0_ n1_ n2_ n3_;(try clear hb);(try clear hb2);(try clear hk);(try clear hi);obtain ⟨Ao49,co49,eo49⟩:=Kd.z1d HO_10.out;subst eo49)|(go_at_call 50;(with_reducible refine (zx.calls kj39 a0 _ _ t109 true _ ?side1 ?side2 A45.out).mono ?_);(case side1=>repeat (first|exact (Kd.zI HO_10.out).2.2|(with_reducible refine Kd.z1o ?_ _)|(with_reducible refine Kd.z1p ?_ _)|(with_reducible refine Kd.z1C ?_)));(case side2=>exact (Kd.zI HO_10.out).2.1);rintro e w50 ⟨rfl,hb⟩;have n0_:=z2.mk (Kd.zO (by (with_reducible repeat (first|apply Kd.ze|apply Kd.zf|apply Kd.zo));exact HO_7.out) hb);have n1_:=z2.mk (Kd.zO (by (with_reducible repeat (first|apply Kd.ze|apply Kd.zf|apply Kd.zo));exact HO_9.out) hb);have n2_:=z2.mk (Kd.zO (by (with_reducible repeat (first|apply Kd.ze|apply Kd.zf|apply Kd.zo));exact HO_10.out) hb);have n3_:=z2.mk (za (by repeat (first|(with_reducible first|exact HB.out|apply z4|apply z1|apply z3)|exact HB.out)) hb);clear HO_7;clear HO_9;clear HO_10;clear HB;have HO_7:=n0_;have HO_9:=n1_;have HO_10:=n2_;have HB:=n3_;clear n0_ n1_ n2_ n3_;(try clear hb);(try clear hb2);(try clear hk);(try clear hi)))
          go_meet
          case rel=>exact ⟨_,(0),(by first|rfl|(simp;done)|(simp [*];done)),H',⟨by have:=HJ3.out;have:=HJ32.out;have:=HJ39.out;first|omega|exact Nat.le_refl _⟩,⟨by (with_reducible repeat (first|apply Kd.ze|apply Kd.zf|apply Kd.zo));exact HO_7.out⟩,⟨by (with_reducible repeat (first|apply Kd.ze|apply Kd.zf|apply Kd.zo));exact HO_9.out⟩,⟨by (with_reducible repeat (first|apply Kd.ze|apply Kd.zf|apply Kd.zo));exact HO_10.out⟩,⟨by repeat (first|(with_reducible first|exact HB.out|apply z4|apply z1|apply z3)|exact HB.out)⟩⟩
        replace c46:=Bool.eq_false_iff.mpr c46
        subst c46
        have H1 : (z7.j3 kj39 a0 l1 l2 t102 t105 t106 t109 5) = some r:=by rw [if_neg (show ¬ (false = true) by decide)] at H;exact H
        clear H
        have H:=H1
        clear H1
        have H':=z2.mk H
        clear H
        obtain ⟨Ao51,co51,eo51⟩:=Kd.z1d HO_9.out
        subst eo51
        go_wp2_with (first|((with_reducible refine zj (f:=50) rfl ?_);refine goesL_ (some 78) rfl rfl Try.func50 (by kernel_rfl) rfl #[.int .i64 a0,.slice Ao51 t106.length co51] rfl (by (try simp only [List.map_toArray,List.map_cons,List.map_nil]);first|done|rfl|(simp only [List.length_drop,List.length_take];rfl)) ?_;(with_reducible refine (zx.calls kj39 a0 _ _ t106 true _ ?side1 ?side2 A43.out).mono ?_);(case side1=>repeat (first|exact (Kd.zI HO_9.out).2.2|(with_reducible refine Kd.z1o ?_ _)|(with_reducible refine Kd.z1p ?_ _)|(with_reducible refine Kd.z1C ?_)));(case side2=>exact (Kd.zI HO_9.out).2.1);rintro e w52 ⟨rfl,hb⟩;refine ⟨_,rfl,?_⟩;have n0_:=z2.mk (Kd.zO (by (with_reducible repeat (first|apply Kd.ze|apply Kd.zf|apply Kd.zo));exact HO_7.out) hb);have n1_:=z2.mk (Kd.zO (by (with_reducible repeat (first|apply Kd.ze|apply Kd.zf|apply Kd.zo));exact HO_9.out) hb);have n2_:=z2.mk (Kd.zO (by (with_reducible repeat (first|apply Kd.ze|apply Kd.zf|apply Kd.zo));exact HO_10.out) hb);have n3_:=z2.mk (za (by repeat (first|(with_reducible first|exact HB.out|apply z4|apply z1|apply z3)|exact HB.out)) hb);clear HO_7;clear HO_9;clear HO_10;clear HB;have HO_7:=n0_;have HO_9:=n1_;have HO_10:=n2_;have HB:=n3_;clear n0_ n1_ n2_ n3_;(try clear hb);(try clear hb2);(try clear hk);(try clear hi);obtain ⟨Ao53,co53,eo53⟩:=Kd.z1d HO_10.out;subst eo53)|(go_at_call 50;(with_reducible refine (zx.calls kj39 a0 _ _ t109 false _ ?side1 ?side2 A45.out).mono ?_);(case side1=>repeat (first|exact (Kd.zI HO_10.out).2.2|(with_reducible refine Kd.z1o ?_ _)|(with_reducible refine Kd.z1p ?_ _)|(with_reducible refine Kd.z1C ?_)));(case side2=>exact (Kd.zI HO_10.out).2.1);rintro e w54 ⟨rfl,hb⟩;have n0_:=z2.mk (Kd.zO (by (with_reducible repeat (first|apply Kd.ze|apply Kd.zf|apply Kd.zo));exact HO_7.out) hb);have n1_:=z2.mk (Kd.zO (by (with_reducible repeat (first|apply Kd.ze|apply Kd.zf|apply Kd.zo));exact HO_9.out) hb);have n2_:=z2.mk (Kd.zO (by (with_reducible repeat (first|apply Kd.ze|apply Kd.zf|apply Kd.zo));exact HO_10.out) hb);have n3_:=z2.mk (za (by repeat (first|(with_reducible first|exact HB.out|apply z4|apply z1|apply z3)|exact HB.out)) hb);clear HO_7;clear HO_9;clear HO_10;clear HB;have HO_7:=n0_;have HO_9:=n1_;have HO_10:=n2_;have HB:=n3_;clear n0_ n1_ n2_ n3_;(try clear hb);(try clear hb2);(try clear hk);(try clear hi)))
        go_meet
        case rel=>exact ⟨_,(5),(by first|rfl|(simp;done)|(simp [*];done)),H',⟨by have:=HJ3.out;have:=HJ32.out;have:=HJ39.out;first|omega|exact Nat.le_refl _⟩,⟨by (with_reducible repeat (first|apply Kd.ze|apply Kd.zf|apply Kd.zo));exact HO_7.out⟩,⟨by (with_reducible repeat (first|apply Kd.ze|apply Kd.zf|apply Kd.zo));exact HO_9.out⟩,⟨by (with_reducible repeat (first|apply Kd.ze|apply Kd.zf|apply Kd.zo));exact HO_10.out⟩,⟨by repeat (first|(with_reducible first|exact HB.out|apply z4|apply z1|apply z3)|exact HB.out)⟩⟩
     case rest =>
      clear HC38
      (try clear c1);(try clear c2);(try clear p2);(try clear c3);(try clear c4);(try clear c5);(try clear c5b0);(try clear c6);(try clear c6b0);(try clear c7);(try clear c7b0);(try clear c7b1);(try clear c8);(try clear c8b0);(try clear c8b1);(try clear c9);(try clear c9b0);(try clear c9b1);(try clear c10);(try clear c10b0);(try clear c10b1);(try clear c11);(try clear c11b0);(try clear c11b1);(try clear c12);(try clear c12b0);(try clear c12b1);(try clear c13);(try clear c13b0);(try clear c13b1);(try clear c14);(try clear c14b0);(try clear c14b1);(try clear c15);(try clear c15b0);(try clear c15b1);(try clear c16);(try clear c16b0);(try clear c16b1);(try clear c17);(try clear c17b0);(try clear c17b1);(try clear c18);(try clear c18b0);(try clear c18b1);(try clear c19);(try clear c19b0);(try clear c19b1);(try clear c20);(try clear c20b0);(try clear c20b1);(try clear c21);(try clear c21b0);(try clear c21b1);(try clear c22);(try clear c22b0);(try clear c22b1);(try clear c23);(try clear c23b0);(try clear c23b1);(try clear c24);(try clear c24b0);(try clear c24b1);(try clear c25);(try clear c25b0);(try clear c25b1);(try clear c26);(try clear c26b0);(try clear c26b1);(try clear c27);(try clear c37);(try clear c37b0);(try clear c39);(try clear c41);(try clear c41b0);(try clear c41b1);(try clear c41b2);(try clear c42);(try clear c44);(try clear c46);(try clear c49);(try clear c50);(try clear p2)
      obtain ⟨kq,x11_37,rfl,HA,HJ37,HO_7,HO_9,HO_10,HB⟩:=hcut
      cases kq with
      | zero=>exact absurd HA.out (by simp [z7.j3])
      | succ kj37 =>
       have H:=HA.out
       clear HA
       simp only [z7.j3] at H
       have HC57:=z2.mk H
       clear H
       go_upto_region 12 with (fail)
       go_cut [92] (fun v92 wc=>∃ (kq : Nat) (x92_56 : Bool),v92 = .bool x92_56 ∧ z2 (z7.j4 kq a0 l1 l2 t102 t105 t106 t109 x11_37 x92_56 = some r) ∧ z2 (kq ≤ kj37) ∧ z2 (Kd.R k30 30 wc w.heap.size (fun _=>True) v103 t102) ∧ z2 (Kd.R k40 40 wc w.heap.size (fun k_=>some k_ ≠ (v110 : Value).ownBlock) v107 t106) ∧ z2 (Kd.R k40 40 wc w.heap.size (fun k_=>some k_ ≠ (v107 : Value).ownBlock) v110 t109) ∧ z2 (Below w.heap.size w wc))
       case first =>
        have H:=HC57.out
        clear HC57
        by_cases c58 : t105 = x11_37
        rotate_left
        · rw [if_neg c58] at H
          have c58b0 : (t105 == x11_37) = false:=beq_eq_false_iff_ne.mpr c58
          have c58b1 : (t105 != x11_37) = true:=bne_iff_ne.mpr c58
          (first|rw [c58b0]|(simp only [zZ,z14];rw [c58b0])|skip)
          have H':=z2.mk H
          clear H
          go_wp2
          go_meet
          case rel=>exact ⟨_,(true),(by first|rfl|(simp;done)|(simp [*];done)),H',⟨by have:=HJ3.out;have:=HJ32.out;have:=HJ37.out;first|omega|exact Nat.le_refl _⟩,⟨by (with_reducible repeat (first|apply Kd.ze|apply Kd.zf|apply Kd.zo));exact HO_7.out⟩,⟨by (with_reducible repeat (first|apply Kd.ze|apply Kd.zf|apply Kd.zo));exact HO_9.out⟩,⟨by (with_reducible repeat (first|apply Kd.ze|apply Kd.zf|apply Kd.zo));exact HO_10.out⟩,⟨by repeat (first|(with_reducible first|exact HB.out|apply z4|apply z1|apply z3)|exact HB.out)⟩⟩
        rw [if_pos c58] at H
        have c58b0 : (t105 == x11_37) = true:=beq_iff_eq.mpr c58
        have c58b1 : (t105 != x11_37) = false:=bne_eq_false_iff_eq.mpr c58
        clear c58
        (first|rw [c58b0]|(simp only [zZ,z14];rw [c58b0])|skip)
        have H':=z2.mk H
        clear H
        go_wp2
        go_meet
        case rel=>exact ⟨_,((t105 != 0)),(by first|rfl|(simp;done)|(simp [*];done)),H',⟨by have:=HJ3.out;have:=HJ32.out;have:=HJ37.out;first|omega|exact Nat.le_refl _⟩,⟨by (with_reducible repeat (first|apply Kd.ze|apply Kd.zf|apply Kd.zo));exact HO_7.out⟩,⟨by (with_reducible repeat (first|apply Kd.ze|apply Kd.zf|apply Kd.zo));exact HO_9.out⟩,⟨by (with_reducible repeat (first|apply Kd.ze|apply Kd.zf|apply Kd.zo));exact HO_10.out⟩,⟨by repeat (first|(with_reducible first|exact HB.out|apply z4|apply z1|apply z3)|exact HB.out)⟩⟩
       case rest =>
        clear HC57
        (try clear c1);(try clear c2);(try clear p2);(try clear c3);(try clear c4);(try clear c5);(try clear c5b0);(try clear c6);(try clear c6b0);(try clear c7);(try clear c7b0);(try clear c7b1);(try clear c8);(try clear c8b0);(try clear c8b1);(try clear c9);(try clear c9b0);(try clear c9b1);(try clear c10);(try clear c10b0);(try clear c10b1);(try clear c11);(try clear c11b0);(try clear c11b1);(try clear c12);(try clear c12b0);(try clear c12b1);(try clear c13);(try clear c13b0);(try clear c13b1);(try clear c14);(try clear c14b0);(try clear c14b1);(try clear c15);(try clear c15b0);(try clear c15b1);(try clear c16);(try clear c16b0);(try clear c16b1);(try clear c17);(try clear c17b0);(try clear c17b1);(try clear c18);(try clear c18b0);(try clear c18b1);(try clear c19);(try clear c19b0);(try clear c19b1);(try clear c20);(try clear c20b0);(try clear c20b1);(try clear c21);(try clear c21b0);(try clear c21b1);(try clear c22);(try clear c22b0);(try clear c22b1);(try clear c23);(try clear c23b0);(try clear c23b1);(try clear c24);(try clear c24b0);(try clear c24b1);(try clear c25);(try clear c25b0);(try clear c25b1);(try clear c26);(try clear c26b0);(try clear c26b1);(try clear c27);(try clear c37);(try clear c37b0);(try clear c39);(try clear c41);(try clear c41b0);(try clear c41b1);(try clear c41b2);(try clear c42);(try clear c44);(try clear c46);(try clear c49);(try clear c50);(try clear c58);(try clear c58b0);(try clear c58b1);(try clear p2)
        obtain ⟨kq,x92_56,rfl,HA,HJ56,HO_7,HO_9,HO_10,HB⟩:=hcut
        cases kq with
        | zero=>exact absurd HA.out (by simp [z7.j4])
        | succ kj56 =>
         have H:=HA.out
         clear HA
         simp only [z7.j4] at H
         by_cases c59 : x92_56 = true
         · subst c59
           have H1 : ((zC.f kj56).bind fun t114=>(if t114 = true then (if t105 = x11_37 then (some ((t102.length : Int) == 0)) else (some false)) else (some false))) = some r:=by rw [if_pos rfl] at H;exact H
           clear H
           have H:=H1
           clear H1
           replace H:=Option.bind_eq_some_iff.mp H
           obtain ⟨t114,A600,H⟩:=H
           replace H : (if t114 = true then (if t105 = x11_37 then (some ((t102.length : Int) == 0)) else (some false)) else (some false)) = some r:=H
           have A60:=z2.mk A600
           clear A600
           by_cases c61 : t114 = true
           rotate_left
           · replace c61:=Bool.eq_false_iff.mpr c61
             subst c61
             have H1 : (some false) = some r:=by rw [if_neg (show ¬ (false = true) by decide)] at H;exact H
             clear H
             have H:=H1
             clear H1
             obtain rfl:=Option.some.inj H
             go_wp2_with (first|((with_reducible refine zj (f:=39) rfl ?_);refine goesL_ (some 93) rfl rfl Try.func39 (by kernel_rfl) rfl #[] rfl (by (try simp only [List.map_toArray,List.map_cons,List.map_nil]);first|done|rfl|(simp only [List.length_drop,List.length_take];rfl)) ?_;(with_reducible refine (zC.calls kj56  false _ A60.out).mono ?_);rintro e w66 ⟨rfl,hb⟩;refine ⟨_,rfl,?_⟩;have n0_:=z2.mk (Kd.zO (by (with_reducible repeat (first|apply Kd.ze|apply Kd.zf|apply Kd.zo));exact HO_7.out) hb);have n1_:=z2.mk (Kd.zO (by (with_reducible repeat (first|apply Kd.ze|apply Kd.zf|apply Kd.zo));exact HO_9.out) hb);have n2_:=z2.mk (Kd.zO (by (with_reducible repeat (first|apply Kd.ze|apply Kd.zf|apply Kd.zo));exact HO_10.out) hb);have n3_:=z2.mk (za (by repeat (first|(with_reducible first|exact HB.out|apply z4|apply z1|apply z3)|exact HB.out)) hb);clear HO_7;clear HO_9;clear HO_10;clear HB;have HO_7:=n0_;have HO_9:=n1_;have HO_10:=n2_;have HB:=n3_;clear n0_ n1_ n2_ n3_;(try clear hb);(try clear hb2);(try clear hk);(try clear hi)))
             go_ret
             exact ⟨by first|rfl|(simp [zk,zl] <;> rfl)|(simp [*,zk,zl] <;> rfl),by repeat (first|(with_reducible first|exact HB.out|apply z4|apply z1|apply z3)|exact HB.out)⟩
           subst c61
           have H1 : (if t105 = x11_37 then (some ((t102.length : Int) == 0)) else (some false)) = some r:=by rw [if_pos rfl] at H;exact H
           clear H
           have H:=H1
           clear H1
           by_cases c62 : t105 = x11_37
           rotate_left
           · rw [if_neg c62] at H
             have c62b0 : (t105 == x11_37) = false:=beq_eq_false_iff_ne.mpr c62
             have c62b1 : (t105 != x11_37) = true:=bne_iff_ne.mpr c62
             obtain rfl:=Option.some.inj H
             go_wp2_with (first|((with_reducible refine zj (f:=39) rfl ?_);refine goesL_ (some 93) rfl rfl Try.func39 (by kernel_rfl) rfl #[] rfl (by (try simp only [List.map_toArray,List.map_cons,List.map_nil]);first|done|rfl|(simp only [List.length_drop,List.length_take];rfl)) ?_;(with_reducible refine (zC.calls kj56  true _ A60.out).mono ?_);rintro e w65 ⟨rfl,hb⟩;refine ⟨_,rfl,?_⟩;have n0_:=z2.mk (Kd.zO (by (with_reducible repeat (first|apply Kd.ze|apply Kd.zf|apply Kd.zo));exact HO_7.out) hb);have n1_:=z2.mk (Kd.zO (by (with_reducible repeat (first|apply Kd.ze|apply Kd.zf|apply Kd.zo));exact HO_9.out) hb);have n2_:=z2.mk (Kd.zO (by (with_reducible repeat (first|apply Kd.ze|apply Kd.zf|apply Kd.zo));exact HO_10.out) hb);have n3_:=z2.mk (za (by repeat (first|(with_reducible first|exact HB.out|apply z4|apply z1|apply z3)|exact HB.out)) hb);clear HO_7;clear HO_9;clear HO_10;clear HB;have HO_7:=n0_;have HO_9:=n1_;have HO_10:=n2_;have HB:=n3_;clear n0_ n1_ n2_ n3_;(try clear hb);(try clear hb2);(try clear hk);(try clear hi)))
             go_ret
             exact ⟨by first|rfl|(simp [zk,zl] <;> rfl)|(simp [*,zk,zl] <;> rfl),by repeat (first|(with_reducible first|exact HB.out|apply z4|apply z1|apply z3)|exact HB.out)⟩
           rw [if_pos c62] at H
           have c62b0 : (t105 == x11_37) = true:=beq_iff_eq.mpr c62
           have c62b1 : (t105 != x11_37) = false:=bne_eq_false_iff_eq.mpr c62
           clear c62
           obtain rfl:=Option.some.inj H
           go_wp2_with (first|((with_reducible refine zj (f:=39) rfl ?_);refine goesL_ (some 93) rfl rfl Try.func39 (by kernel_rfl) rfl #[] rfl (by (try simp only [List.map_toArray,List.map_cons,List.map_nil]);first|done|rfl|(simp only [List.length_drop,List.length_take];rfl)) ?_;(with_reducible refine (zC.calls kj56  true _ A60.out).mono ?_);rintro e w63 ⟨rfl,hb⟩;refine ⟨_,rfl,?_⟩;have n0_:=z2.mk (Kd.zO (by (with_reducible repeat (first|apply Kd.ze|apply Kd.zf|apply Kd.zo));exact HO_7.out) hb);have n1_:=z2.mk (Kd.zO (by (with_reducible repeat (first|apply Kd.ze|apply Kd.zf|apply Kd.zo));exact HO_9.out) hb);have n2_:=z2.mk (Kd.zO (by (with_reducible repeat (first|apply Kd.ze|apply Kd.zf|apply Kd.zo));exact HO_10.out) hb);have n3_:=z2.mk (za (by repeat (first|(with_reducible first|exact HB.out|apply z4|apply z1|apply z3)|exact HB.out)) hb);clear HO_7;clear HO_9;clear HO_10;clear HB;have HO_7:=n0_;have HO_9:=n1_;have HO_10:=n2_;have HB:=n3_;clear n0_ n1_ n2_ n3_;(try clear hb);(try clear hb2);(try clear hk);(try clear hi);obtain ⟨Ao64,co64,eo64⟩:=Kd.z1d HO_7.out;subst eo64))
           go_ret
           exact ⟨by first|rfl|(simp [zk,zl] <;> rfl)|(simp [*,zk,zl] <;> rfl),by repeat (first|(with_reducible first|exact HB.out|apply z4|apply z1|apply z3)|exact HB.out)⟩
         replace c59:=Bool.eq_false_iff.mpr c59
         subst c59
         have H1 : ((zC.f kj56).bind fun t115=>(if t115 = true then ((zr.f kj56 a0 t106 t109).bind fun t116=>((zs.f kj56 t102 t116).bind fun t119=>(if t119 = true then ((zF.f kj56 a0 l1 l2).bind fun t120=>((zG.f kj56 t120 t102).bind fun t123=>(some t123))) else (some false)))) else (some false))) = some r:=by rw [if_neg (show ¬ (false = true) by decide)] at H;exact H
         clear H
         have H:=H1
         clear H1
         replace H:=Option.bind_eq_some_iff.mp H
         obtain ⟨t115,A670,H⟩:=H
         replace H : (if t115 = true then ((zr.f kj56 a0 t106 t109).bind fun t116=>((zs.f kj56 t102 t116).bind fun t119=>(if t119 = true then ((zF.f kj56 a0 l1 l2).bind fun t120=>((zG.f kj56 t120 t102).bind fun t123=>(some t123))) else (some false)))) else (some false)) = some r:=H
         have A67:=z2.mk A670
         clear A670
         by_cases c68 : t115 = true
         rotate_left
         · replace c68:=Bool.eq_false_iff.mpr c68
           subst c68
           have H1 : (some false) = some r:=by rw [if_neg (show ¬ (false = true) by decide)] at H;exact H
           clear H
           have H:=H1
           clear H1
           obtain rfl:=Option.some.inj H
           go_wp2_with (first|((with_reducible refine zj (f:=39) rfl ?_);refine goesL_ (some 104) rfl rfl Try.func39 (by kernel_rfl) rfl #[] rfl (by (try simp only [List.map_toArray,List.map_cons,List.map_nil]);first|done|rfl|(simp only [List.length_drop,List.length_take];rfl)) ?_;(with_reducible refine (zC.calls kj56  false _ A67.out).mono ?_);rintro e w89 ⟨rfl,hb⟩;refine ⟨_,rfl,?_⟩;have n0_:=z2.mk (Kd.zO (by (with_reducible repeat (first|apply Kd.ze|apply Kd.zf|apply Kd.zo));exact HO_7.out) hb);have n1_:=z2.mk (Kd.zO (by (with_reducible repeat (first|apply Kd.ze|apply Kd.zf|apply Kd.zo));exact HO_9.out) hb);have n2_:=z2.mk (Kd.zO (by (with_reducible repeat (first|apply Kd.ze|apply Kd.zf|apply Kd.zo));exact HO_10.out) hb);have n3_:=z2.mk (za (by repeat (first|(with_reducible first|exact HB.out|apply z4|apply z1|apply z3)|exact HB.out)) hb);clear HO_7;clear HO_9;clear HO_10;clear HB;have HO_7:=n0_;have HO_9:=n1_;have HO_10:=n2_;have HB:=n3_;clear n0_ n1_ n2_ n3_;(try clear hb);(try clear hb2);(try clear hk);(try clear hi)))
           go_ret
           exact ⟨by first|rfl|(simp [zk,zl] <;> rfl)|(simp [*,zk,zl] <;> rfl),by repeat (first|(with_reducible first|exact HB.out|apply z4|apply z1|apply z3)|exact HB.out)⟩
         subst c68
         have H1 : ((zr.f kj56 a0 t106 t109).bind fun t116=>((zs.f kj56 t102 t116).bind fun t119=>(if t119 = true then ((zF.f kj56 a0 l1 l2).bind fun t120=>((zG.f kj56 t120 t102).bind fun t123=>(some t123))) else (some false)))) = some r:=by rw [if_pos rfl] at H;exact H
         clear H
         have H:=H1
         clear H1
         replace H:=Option.bind_eq_some_iff.mp H
         obtain ⟨t116,A690,H⟩:=H
         replace H : ((zs.f kj56 t102 t116).bind fun t119=>(if t119 = true then ((zF.f kj56 a0 l1 l2).bind fun t120=>((zG.f kj56 t120 t102).bind fun t123=>(some t123))) else (some false))) = some r:=H
         have A69:=z2.mk A690
         clear A690
         replace H:=Option.bind_eq_some_iff.mp H
         obtain ⟨t119,A700,H⟩:=H
         replace H : (if t119 = true then ((zF.f kj56 a0 l1 l2).bind fun t120=>((zG.f kj56 t120 t102).bind fun t123=>(some t123))) else (some false)) = some r:=H
         have A70:=z2.mk A700
         clear A700
         by_cases c71 : t119 = true
         rotate_left
         · replace c71:=Bool.eq_false_iff.mpr c71
           subst c71
           have H1 : (some false) = some r:=by rw [if_neg (show ¬ (false = true) by decide)] at H;exact H
           clear H
           have H:=H1
           clear H1
           obtain rfl:=Option.some.inj H
           go_wp2_with (first|((with_reducible refine zj (f:=39) rfl ?_);refine goesL_ (some 104) rfl rfl Try.func39 (by kernel_rfl) rfl #[] rfl (by (try simp only [List.map_toArray,List.map_cons,List.map_nil]);first|done|rfl|(simp only [List.length_drop,List.length_take];rfl)) ?_;(with_reducible refine (zC.calls kj56  true _ A67.out).mono ?_);rintro e w83 ⟨rfl,hb⟩;refine ⟨_,rfl,?_⟩;have n0_:=z2.mk (Kd.zO (by (with_reducible repeat (first|apply Kd.ze|apply Kd.zf|apply Kd.zo));exact HO_7.out) hb);have n1_:=z2.mk (Kd.zO (by (with_reducible repeat (first|apply Kd.ze|apply Kd.zf|apply Kd.zo));exact HO_9.out) hb);have n2_:=z2.mk (Kd.zO (by (with_reducible repeat (first|apply Kd.ze|apply Kd.zf|apply Kd.zo));exact HO_10.out) hb);have n3_:=z2.mk (za (by repeat (first|(with_reducible first|exact HB.out|apply z4|apply z1|apply z3)|exact HB.out)) hb);clear HO_7;clear HO_9;clear HO_10;clear HB;have HO_7:=n0_;have HO_9:=n1_;have HO_10:=n2_;have HB:=n3_;clear n0_ n1_ n2_ n3_;(try clear hb);(try clear hb2);(try clear hk);(try clear hi);obtain ⟨Ao84,co84,eo84⟩:=Kd.z1d HO_9.out;subst eo84;obtain ⟨Ao85,co85,eo85⟩:=Kd.z1d HO_10.out;subst eo85)|(go_at_call 51;(with_reducible refine (zr.calls kj56 a0 _ _ t106 _ _ t109 t116 _ ?side1 ?side2 ?side3 ?side4 A69.out).mono ?_);(case side1=>repeat (first|exact (Kd.zI HO_9.out).2.2|(with_reducible refine Kd.z1o ?_ _)|(with_reducible refine Kd.z1p ?_ _)|(with_reducible refine Kd.z1C ?_)));(case side2=>exact (Kd.zI HO_9.out).2.1);(case side3=>repeat (first|exact (Kd.zI HO_10.out).2.2|(with_reducible refine Kd.z1o ?_ _)|(with_reducible refine Kd.z1p ?_ _)|(with_reducible refine Kd.z1C ?_)));(case side4=>exact (Kd.zI HO_10.out).2.1);rintro e w86 ⟨v117,rfl,ho0,hb⟩;have n0_:=z2.mk (Kd.zO (by (with_reducible repeat (first|apply Kd.ze|apply Kd.zf|apply Kd.zo));exact HO_7.out) hb);have n1_:=z2.mk (Kd.z1r (by (with_reducible repeat (first|apply Kd.ze|apply Kd.zf|apply Kd.zo));exact HO_9.out) (Kd.z1v ho0) hb);have n2_:=z2.mk (Kd.z1r (by (with_reducible repeat (first|apply Kd.ze|apply Kd.zf|apply Kd.zo));exact HO_10.out) (Kd.z1v ho0) hb);have n3_:=z2.mk (Kd.z1l (Kd.z1Q (Kd.z1Q ho0 (Kd.R_lt (by (with_reducible repeat (first|apply Kd.ze|apply Kd.zf|apply Kd.zo));exact HO_9.out))) (Kd.R_lt (by (with_reducible repeat (first|apply Kd.ze|apply Kd.zf|apply Kd.zo));exact HO_10.out))) (zb (by repeat (first|(with_reducible first|exact HB.out|apply z4|apply z1|apply z3)|exact HB.out))));have n4_:=z2.mk (za (by repeat (first|(with_reducible first|exact HB.out|apply z4|apply z1|apply z3)|exact HB.out)) hb);clear HO_7;clear HO_9;clear HO_10;clear HB;have HO_7:=n0_;have HO_9:=n1_;have HO_10:=n2_;have HO118:=n3_;have HB:=n4_;clear n0_ n1_ n2_ n3_ n4_;(try clear hb);(try clear hb2);(try clear hk);(try clear hi);(try clear ho0);obtain ⟨Ao87,co87,eo87⟩:=Kd.z1d HO_7.out;subst eo87;obtain ⟨Ao88,co88,eo88⟩:=Kd.z1d HO118.out;subst eo88)|(go_at_call 25;(with_reducible refine (zs.calls kj56 _ _ t102 _ _ t116 false _ ?side1 ?side2 ?side3 ?side4 A70.out).mono ?_);(case side1=>repeat (first|exact (Kd.zI HO_7.out).2.2|(with_reducible refine Kd.z1o ?_ _)|(with_reducible refine Kd.z1p ?_ _)|(with_reducible refine Kd.z1C ?_)));(case side2=>exact (Kd.zI HO_7.out).2.1);(case side3=>repeat (first|exact (Kd.zI HO118.out).2.2|(with_reducible refine Kd.z1o ?_ _)|(with_reducible refine Kd.z1p ?_ _)|(with_reducible refine Kd.z1C ?_)));(case side4=>exact (Kd.zI HO118.out).2.1);rintro e w' ⟨rfl,⟨nd,rfl⟩⟩))
           go_ret
           exact ⟨by first|rfl|(simp [zk,zl] <;> rfl)|(simp [*,zk,zl] <;> rfl),by repeat (first|(with_reducible first|exact HB.out|apply z4|apply z1|apply z3)|exact HB.out)⟩
         subst c71
         have H1 : ((zF.f kj56 a0 l1 l2).bind fun t120=>((zG.f kj56 t120 t102).bind fun t123=>(some t123))) = some r:=by rw [if_pos rfl] at H;exact H
         clear H
         have H:=H1
         clear H1
         replace H:=Option.bind_eq_some_iff.mp H
         obtain ⟨t120,A720,H⟩:=H
         replace H : ((zG.f kj56 t120 t102).bind fun t123=>(some t123)) = some r:=H
         have A72:=z2.mk A720
         clear A720
         replace H:=Option.bind_eq_some_iff.mp H
         obtain ⟨t123,A730,H⟩:=H
         replace H : (some t123) = some r:=H
         have A73:=z2.mk A730
         clear A730
         obtain rfl:=Option.some.inj H
         go_wp2_with (first|((with_reducible refine zj (f:=39) rfl ?_);refine goesL_ (some 104) rfl rfl Try.func39 (by kernel_rfl) rfl #[] rfl (by (try simp only [List.map_toArray,List.map_cons,List.map_nil]);first|done|rfl|(simp only [List.length_drop,List.length_take];rfl)) ?_;(with_reducible refine (zC.calls kj56  true _ A67.out).mono ?_);rintro e w74 ⟨rfl,hb⟩;refine ⟨_,rfl,?_⟩;have n0_:=z2.mk (Kd.zO (by (with_reducible repeat (first|apply Kd.ze|apply Kd.zf|apply Kd.zo));exact HO_7.out) hb);have n1_:=z2.mk (Kd.zO (by (with_reducible repeat (first|apply Kd.ze|apply Kd.zf|apply Kd.zo));exact HO_9.out) hb);have n2_:=z2.mk (Kd.zO (by (with_reducible repeat (first|apply Kd.ze|apply Kd.zf|apply Kd.zo));exact HO_10.out) hb);have n3_:=z2.mk (za (by repeat (first|(with_reducible first|exact HB.out|apply z4|apply z1|apply z3)|exact HB.out)) hb);clear HO_7;clear HO_9;clear HO_10;clear HB;have HO_7:=n0_;have HO_9:=n1_;have HO_10:=n2_;have HB:=n3_;clear n0_ n1_ n2_ n3_;(try clear hb);(try clear hb2);(try clear hk);(try clear hi);obtain ⟨Ao75,co75,eo75⟩:=Kd.z1d HO_9.out;subst eo75;obtain ⟨Ao76,co76,eo76⟩:=Kd.z1d HO_10.out;subst eo76)|(go_at_call 51;(with_reducible refine (zr.calls kj56 a0 _ _ t106 _ _ t109 t116 _ ?side1 ?side2 ?side3 ?side4 A69.out).mono ?_);(case side1=>repeat (first|exact (Kd.zI HO_9.out).2.2|(with_reducible refine Kd.z1o ?_ _)|(with_reducible refine Kd.z1p ?_ _)|(with_reducible refine Kd.z1C ?_)));(case side2=>exact (Kd.zI HO_9.out).2.1);(case side3=>repeat (first|exact (Kd.zI HO_10.out).2.2|(with_reducible refine Kd.z1o ?_ _)|(with_reducible refine Kd.z1p ?_ _)|(with_reducible refine Kd.z1C ?_)));(case side4=>exact (Kd.zI HO_10.out).2.1);rintro e w77 ⟨v117,rfl,ho0,hb⟩;have n0_:=z2.mk (Kd.zO (by (with_reducible repeat (first|apply Kd.ze|apply Kd.zf|apply Kd.zo));exact HO_7.out) hb);have n1_:=z2.mk (Kd.z1r (by (with_reducible repeat (first|apply Kd.ze|apply Kd.zf|apply Kd.zo));exact HO_9.out) (Kd.z1v ho0) hb);have n2_:=z2.mk (Kd.z1r (by (with_reducible repeat (first|apply Kd.ze|apply Kd.zf|apply Kd.zo));exact HO_10.out) (Kd.z1v ho0) hb);have n3_:=z2.mk (Kd.z1l (Kd.z1Q (Kd.z1Q ho0 (Kd.R_lt (by (with_reducible repeat (first|apply Kd.ze|apply Kd.zf|apply Kd.zo));exact HO_9.out))) (Kd.R_lt (by (with_reducible repeat (first|apply Kd.ze|apply Kd.zf|apply Kd.zo));exact HO_10.out))) (zb (by repeat (first|(with_reducible first|exact HB.out|apply z4|apply z1|apply z3)|exact HB.out))));have n4_:=z2.mk (za (by repeat (first|(with_reducible first|exact HB.out|apply z4|apply z1|apply z3)|exact HB.out)) hb);clear HO_7;clear HO_9;clear HO_10;clear HB;have HO_7:=n0_;have HO_9:=n1_;have HO_10:=n2_;have HO118:=n3_;have HB:=n4_;clear n0_ n1_ n2_ n3_ n4_;(try clear hb);(try clear hb2);(try clear hk);(try clear hi);(try clear ho0);obtain ⟨Ao78,co78,eo78⟩:=Kd.z1d HO_7.out;subst eo78;obtain ⟨Ao79,co79,eo79⟩:=Kd.z1d HO118.out;subst eo79)|(go_at_call 25;(with_reducible refine (zs.calls kj56 _ _ t102 _ _ t116 true _ ?side1 ?side2 ?side3 ?side4 A70.out).mono ?_);(case side1=>repeat (first|exact (Kd.zI HO_7.out).2.2|(with_reducible refine Kd.z1o ?_ _)|(with_reducible refine Kd.z1p ?_ _)|(with_reducible refine Kd.z1C ?_)));(case side2=>exact (Kd.zI HO_7.out).2.1);(case side3=>repeat (first|exact (Kd.zI HO118.out).2.2|(with_reducible refine Kd.z1o ?_ _)|(with_reducible refine Kd.z1p ?_ _)|(with_reducible refine Kd.z1C ?_)));(case side4=>exact (Kd.zI HO118.out).2.1);rintro e w' ⟨rfl,⟨nd,rfl⟩⟩)|(go_at_call 52;(with_reducible refine (zF.calls kj56 a0 _ _ l1 _ _ l2 t120 _ ?side1 ?side2 ?side3 ?side4 A72.out).mono ?_);(case side1=>repeat (first|exact (Kd.z1W HR1.out (by repeat (first|(with_reducible first|exact HB.out|apply z4|apply z1|apply z3)|exact HB.out)))|(with_reducible refine Kd.z1o ?_ _)|(with_reducible refine Kd.z1p ?_ _)|(with_reducible refine Kd.z1C ?_)));(case side2=>exact HC1.out);(case side3=>repeat (first|exact (Kd.z1W HR2.out (by repeat (first|(with_reducible first|exact HB.out|apply z4|apply z1|apply z3)|exact HB.out)))|(with_reducible refine Kd.z1o ?_ _)|(with_reducible refine Kd.z1p ?_ _)|(with_reducible refine Kd.z1C ?_)));(case side4=>exact HC2.out);rintro e w80 ⟨v121,rfl,ho0,hb⟩;have n0_:=z2.mk (Kd.z1r (by (with_reducible repeat (first|apply Kd.ze|apply Kd.zf|apply Kd.zo));exact HO_7.out) (Kd.z1v ho0) hb);have n1_:=z2.mk (Kd.zO (by (with_reducible repeat (first|apply Kd.ze|apply Kd.zf|apply Kd.zo));exact HO_9.out) hb);have n2_:=z2.mk (Kd.zO (by (with_reducible repeat (first|apply Kd.ze|apply Kd.zf|apply Kd.zo));exact HO_10.out) hb);have n3_:=z2.mk (Kd.zO (by (with_reducible repeat (first|apply Kd.ze|apply Kd.zf|apply Kd.zo));exact HO118.out) hb);have n4_:=z2.mk (Kd.z1l (Kd.z1Q ho0 (Kd.R_lt (by (with_reducible repeat (first|apply Kd.ze|apply Kd.zf|apply Kd.zo));exact HO_7.out))) (zb (by repeat (first|(with_reducible first|exact HB.out|apply z4|apply z1|apply z3)|exact HB.out))));have n5_:=z2.mk (za (by repeat (first|(with_reducible first|exact HB.out|apply z4|apply z1|apply z3)|exact HB.out)) hb);clear HO_7;clear HO_9;clear HO_10;clear HO118;clear HB;have HO_7:=n0_;have HO_9:=n1_;have HO_10:=n2_;have HO118:=n3_;have HO122:=n4_;have HB:=n5_;clear n0_ n1_ n2_ n3_ n4_ n5_;(try clear hb);(try clear hb2);(try clear hk);(try clear hi);(try clear ho0);obtain ⟨Ao81,co81,eo81⟩:=Kd.z1d HO122.out;subst eo81)|(go_at_call 48;(with_reducible refine (zG.calls kj56 _ _ t120 _ _ t102 t123 _ ?side1 ?side2 ?side3 ?side4 A73.out).mono ?_);(case side1=>repeat (first|exact (Kd.zI HO122.out).2.2|(with_reducible refine Kd.z1o ?_ _)|(with_reducible refine Kd.z1p ?_ _)|(with_reducible refine Kd.z1C ?_)));(case side2=>exact (Kd.zI HO122.out).2.1);(case side3=>repeat (first|exact (Kd.zI HO_7.out).2.2|(with_reducible refine Kd.z1o ?_ _)|(with_reducible refine Kd.z1p ?_ _)|(with_reducible refine Kd.z1C ?_)));(case side4=>exact (Kd.zI HO_7.out).2.1);rintro e w82 ⟨rfl,hb⟩;have n0_:=z2.mk (Kd.zO (by (with_reducible repeat (first|apply Kd.ze|apply Kd.zf|apply Kd.zo));exact HO_7.out) hb);have n1_:=z2.mk (Kd.zO (by (with_reducible repeat (first|apply Kd.ze|apply Kd.zf|apply Kd.zo));exact HO_9.out) hb);have n2_:=z2.mk (Kd.zO (by (with_reducible repeat (first|apply Kd.ze|apply Kd.zf|apply Kd.zo));exact HO_10.out) hb);have n3_:=z2.mk (Kd.zO (by (with_reducible repeat (first|apply Kd.ze|apply Kd.zf|apply Kd.zo));exact HO118.out) hb);have n4_:=z2.mk (Kd.zO (by (with_reducible repeat (first|apply Kd.ze|apply Kd.zf|apply Kd.zo));exact HO122.out) hb);have n5_:=z2.mk (za (by repeat (first|(with_reducible first|exact HB.out|apply z4|apply z1|apply z3)|exact HB.out)) hb);clear HO_7;clear HO_9;clear HO_10;clear HO118;clear HO122;clear HB;have HO_7:=n0_;have HO_9:=n1_;have HO_10:=n2_;have HO118:=n3_;have HO122:=n4_;have HB:=n5_;clear n0_ n1_ n2_ n3_ n4_ n5_;(try clear hb);(try clear hb2);(try clear hk);(try clear hi)))
         go_ret
         exact ⟨by first|rfl|(simp [zk,zl] <;> rfl)|(simp [*,zk,zl] <;> rfl),by repeat (first|(with_reducible first|exact HB.out|apply z4|apply z1|apply z3)|exact HB.out)⟩
end Go.Proofs.Ytkhmpaooinpfoaa.P
/- What the arguments of a law read as: for each type that can be told, any reading of it is one of a value of its kind, with its numbers in their ranges. Own text. -/
namespace Go.Proofs.Ytkhmpaooinpfoaa.Reads
open Go.ChangeShapes Go.WideShapes Go.ChangeAt Go.RowKit Go.Deep Go.Proofs.YtkhmpaooinpfoaaW.PrintWords
set_option linter.unusedVariables false

/-- Whatever is read at type t is of kind d, and good. -/
def ReadsAs {α : Type} (P : Program) (t : TypeId) (d : Kd α) (good : α → Prop) : Prop :=
  ∀ {H : Type} (enc : TypeId × Value → H) (w : World) (base : Nat) (spare : Nat → Bool) (held : Bool) (fuel : Nat) (cs : List Value) (x : DataW H × List MemPlace), DataW.trod enc P w base spare held fuel t cs = some x → ∃ a, d.K w a cs ∧ good a

theorem z7J {P : Program} {t : TypeId} {k : IntKind} (ht : P.underlying t = some (.int k)) : ReadsAs P t (Kd.int k) (fun n => (Lit.int k n).wf = true) := by
  intro H enc w base spare held fuel cs x h
  obtain ⟨n, rfl, _, hw⟩ := DataW.trod_int ht h
  exact ⟨n, rfl, hw⟩
theorem op_bool {P : Program} {t : TypeId} (ht : P.underlying t = some .bool) : ReadsAs P t Kd.bool (fun _ => True) := by
  intro H enc w base spare held fuel cs x h
  obtain ⟨n, rfl, _⟩ := DataW.trod_bool ht h
  exact ⟨n, rfl, trivial⟩
theorem z66 (a : Addr) (i j : Nat) : (a.add i).add j = a.add (i + j) := Go.Deep.add_add a i j
theorem op_slice {α : Type} {P : Program} {t e : TypeId} {d : Kd α} {good : α → Prop} (ht : P.underlying t = some (.slice e)) (hc : P.cellsOf e = d.sz) (he : ReadsAs P e d good) : ReadsAs P t (Kd.slice e d) (fun l => (∀ x ∈ l, good x) ∧ l.length ≤ maxLen) := by
  intro H enc w base spare held fuel cs x h
  rcases open_slice ht h with ⟨rfl, _⟩ | ⟨a, len, cap, m, n, D, Pl, rfl, hb, hl, hm, hmm, rfl, hx⟩
  · exact ⟨[], ⟨none, 0, rfl, Nat.le_refl _, Kd.z6J d w⟩, ⟨by simp, Nat.zero_le _⟩⟩
  · have hlm : len ≤ m := by rw [hmm]; split <;> omega
    have hex : ∀ i, i < len → ∃ y : α, ∃ c, c.length = d.sz ∧ d.K w y c ∧ good y ∧ ∀ j u, c[j]? = some u → w.cell? (a.add (i * d.sz + j)) = some u := by
      intro i hi
      obtain ⟨cs', h1, h2⟩ := hx i (by omega)
      obtain ⟨_, hlen, hcell⟩ := World.cells?_some h1
      obtain ⟨y, hK, hg⟩ := he enc w base spare held n cs' _ h2
      refine ⟨y, cs', by rw [hlen, hc], hK, hg, fun j u hu => ?_⟩
      have hj : j < P.cellsOf e := by rw [← hlen]; exact (List.getElem?_eq_some_iff.1 hu).1
      have := hcell j hj
      rw [z66] at this
      rw [← hc, this]; exact hu
    have hmax : len ≤ 9223372036854775807 := by
      have h9 : len ≤ maxLen := by omega
      simpa [maxLen] using h9
    have hlen : (List.ofFn (fun i : Fin len => Classical.choose (hex i.1 i.2))).length = len := List.length_ofFn
    refine ⟨List.ofFn (fun i : Fin len => Classical.choose (hex i.1 i.2)), ⟨some a, cap, by rw [hlen], by rw [hlen]; exact hl, rfl, by rw [hlen]; exact hmax, fun _ => ⟨a, rfl, ?_⟩⟩, ?_, by rw [hlen]; omega⟩
    · intro j p hp
      obtain ⟨hj, hpj⟩ := List.getElem?_eq_some_iff.1 hp
      rw [List.length_ofFn] at hj
      rw [List.getElem_ofFn] at hpj
      obtain ⟨c, h1, h2, _, h4⟩ := Classical.choose_spec (hex j hj)
      exact ⟨c, h1, by rw [← hpj]; exact h2, h4⟩
    · intro y hy
      obtain ⟨i, rfl⟩ := List.mem_ofFn.1 hy
      obtain ⟨c, _, _, h3, _⟩ := Classical.choose_spec (hex i.1 i.2)
      exact h3

/-- Fields that lie one behind the other. -/
def ReadsFs {α : Type} (P : Program) (fs : List Field) (off : Nat) (d : Kd α) (good : α → Prop) : Prop :=
  ∀ {H : Type} (enc : TypeId × Value → H) (w : World) (base : Nat) (spare : Nat → Bool) (held : Bool) (n : Nat) (cs : List Value), cs.length = d.sz →
    (∀ f ∈ fs, off ≤ f.offset ∧ ∃ x, DataW.trod enc P w base spare held n f.type ((cs.drop (f.offset - off)).take (P.cellsOf f.type)) = some x) → ∃ a, d.K w a cs ∧ good a
theorem z7M {α : Type} {P : Program} {f : Field} {off : Nat} {d : Kd α} {good : α → Prop} (hs : P.cellsOf f.type = d.sz) (ho : f.offset = off) (he : ReadsAs P f.type d good) : ReadsFs P [f] off d good := by
  intro H enc w base spare held n cs hl h
  obtain ⟨_, x, hx⟩ := h f (by simp)
  rw [ho, Nat.sub_self, List.drop_zero, hs, ← hl, List.take_length] at hx
  exact he enc w base spare held n cs x hx
theorem z7L {α β : Type} {P : Program} {f : Field} {fs : List Field} {off : Nat} {d : Kd α} {d' : Kd β} {good : α → Prop} {good' : β → Prop} (hs : P.cellsOf f.type = d.sz) (ho : f.offset = off) (he : ReadsAs P f.type d good)
    (hr : ReadsFs P fs (off + d.sz) d' good') (hoff : ∀ g ∈ fs, off + d.sz ≤ g.offset) : ReadsFs P (f :: fs) off (Kd.pair d d') (fun x => good x.1 ∧ good' x.2) := by
  intro H enc w base spare held n cs hl h
  have hl' : cs.length = d.sz + d'.sz := hl
  obtain ⟨_, x, hx⟩ := h f (by simp)
  rw [ho, Nat.sub_self, List.drop_zero, hs] at hx
  obtain ⟨a, hK, hg⟩ := he enc w base spare held n _ x hx
  obtain ⟨b, hK', hg'⟩ := hr enc w base spare held n (cs.drop d.sz) (by rw [List.length_drop]; omega) (fun g hgm => by
    obtain ⟨_, y, hy⟩ := h g (by simp [hgm])
    have ho' := hoff g hgm
    refine ⟨ho', y, ?_⟩
    rw [List.drop_drop, show d.sz + (g.offset - (off + d.sz)) = g.offset - off by omega]
    exact hy)
  exact ⟨(a, b), ⟨cs.take d.sz, cs.drop d.sz, (List.take_append_drop _ _).symm, hK, hK'⟩, hg, hg'⟩
theorem z7K {α β : Type} {P : Program} {t : TypeId} {fs : Array Field} {l : List Field} {d : Kd α} {good : α → Prop} (f : β → α) (hsurj : ∀ a, ∃ b, f b = a) (ht : P.underlying t = some (.struct fs)) (hfl : fs.toList = l) (hs : P.cellsOf t = d.sz) (h : ReadsFs P l 0 d good) :
    ReadsAs P t (Kd.iso d f) (fun b => good (f b)) := by
  intro H enc w base spare held fuel cs x hx
  obtain ⟨xs, n, rfl, _, hlen, hxs, hall⟩ := DataW.trod_struct ht hx
  obtain ⟨a, hK, hg⟩ := h enc w base spare held n cs (by rw [hlen, hs]) (fun g hgm => by
    rw [← hfl] at hgm
    obtain ⟨i, hi, rfl⟩ := List.mem_iff_getElem.1 hgm
    have h1 := hall i fs.toList[i] (by simp at hi ⊢)
    have hi' : i < xs.length := by rw [hxs]; simpa using hi
    refine ⟨Nat.zero_le _, xs[i], ?_⟩
    rw [Nat.sub_zero, h1, List.getElem?_eq_getElem hi'])
  obtain ⟨b, rfl⟩ := hsurj a
  exact ⟨b, hK, hg⟩

/-- Elements of an array, one behind the other. -/
def ReadsAr {α : Type} (P : Program) (e : TypeId) (m : Nat) (d : Kd α) (good : α → Prop) : Prop :=
  ∀ {H : Type} (enc : TypeId × Value → H) (w : World) (base : Nat) (spare : Nat → Bool) (held : Bool) (n : Nat) (cs : List Value), cs.length = d.sz →
    (∀ i, i < m → ∃ x, DataW.trod enc P w base spare held n e ((cs.drop (i * P.cellsOf e)).take (P.cellsOf e)) = some x) → ∃ a, d.K w a cs ∧ good a
theorem opas_last {α : Type} {P : Program} {e : TypeId} {d : Kd α} {good : α → Prop} (hs : P.cellsOf e = d.sz) (he : ReadsAs P e d good) : ReadsAr P e 1 d good := by
  intro H enc w base spare held n cs hl h
  obtain ⟨x, hx⟩ := h 0 (by omega)
  rw [Nat.zero_mul, List.drop_zero, hs, ← hl, List.take_length] at hx
  exact he enc w base spare held n cs x hx
theorem opas_cons {α β : Type} {P : Program} {e : TypeId} {m : Nat} {d : Kd α} {d' : Kd β} {good : α → Prop} {good' : β → Prop} (hs : P.cellsOf e = d.sz) (he : ReadsAs P e d good) (hr : ReadsAr P e m d' good') :
    ReadsAr P e (m + 1) (Kd.pair d d') (fun x => good x.1 ∧ good' x.2) := by
  intro H enc w base spare held n cs hl h
  have hl' : cs.length = d.sz + d'.sz := hl
  obtain ⟨x, hx⟩ := h 0 (by omega)
  rw [Nat.zero_mul, List.drop_zero, hs] at hx
  obtain ⟨a, hK, hg⟩ := he enc w base spare held n _ x hx
  obtain ⟨b, hK', hg'⟩ := hr enc w base spare held n (cs.drop d.sz) (by rw [List.length_drop]; omega) (fun i hi => by
    obtain ⟨y, hy⟩ := h (i + 1) (by omega)
    refine ⟨y, ?_⟩
    rw [List.drop_drop, show d.sz + i * P.cellsOf e = (i + 1) * P.cellsOf e by rw [hs, Nat.add_mul]; omega]
    exact hy)
  exact ⟨(a, b), ⟨cs.take d.sz, cs.drop d.sz, (List.take_append_drop _ _).symm, hK, hK'⟩, hg, hg'⟩
theorem op_array {α β : Type} {P : Program} {t e : TypeId} {m : Nat} {d : Kd α} {good : α → Prop} (f : β → α) (hsurj : ∀ a, ∃ b, f b = a) (ht : P.underlying t = some (.array m e)) (hs : P.cellsOf t = d.sz) (h : ReadsAr P e m d good) :
    ReadsAs P t (Kd.iso d f) (fun b => good (f b)) := by
  intro H enc w base spare held fuel cs x hx
  obtain ⟨xs, n, rfl, _, hlen, hxs, hall⟩ := DataW.trod_array ht hx
  obtain ⟨a, hK, hg⟩ := h enc w base spare held n cs (by rw [hlen, hs]) (fun i hi => by
    have hi' : i < xs.length := by omega
    exact ⟨xs[i], by rw [hall i hi, List.getElem?_eq_getElem hi']⟩)
  obtain ⟨b, rfl⟩ := hsurj a
  exact ⟨b, hK, hg⟩
theorem z5Q {P : Program} {w : World} {r : Reach} {base : Nat} {t e : TypeId} {m : Nat} {v : Value} (ht : P.underlying t = some (.array m e)) (h : Value.okWide P w r base t v) : ∃ cs, v = .agg cs ∧ cs.size = P.cellsOf t := by
  simp only [Value.okWide, ht] at h
  cases v <;> simp_all

/-- An argument that is a slice. -/
theorem z5G {α : Type} {P : Program} {H : Type} {enc : TypeId × Value → H} {W : World} {base : Nat} {spare : Nat → Bool} {held : Bool} {t e : TypeId} {d : Kd α} {good : List α → Prop} {v : Value} {dd : DataW H} {ps : List MemPlace}
    (hop : ReadsAs P t (Kd.slice e d) good) {e' : TypeId} (ht : P.underlying t = some (.slice e')) {r : Reach} {b : Nat} (hv : Value.okWide P W r b t v) (h : DataW.Trod enc P W base spare held t v dd ps) :
    ∃ (l : List α) (A : Option Addr) (c : Nat), v = .slice A l.length c ∧ l.length ≤ c ∧ Kd.C d W A l.length l ∧ good l := by
  obtain ⟨A, len, cap, rfl⟩ := okWide_slice ht hv
  obtain ⟨fuel, hf⟩ := h
  obtain ⟨l, ⟨A', c, hcs, hl, hC⟩, hg⟩ := hop enc W base spare held fuel _ _ hf
  simp [Value.cells] at hcs
  obtain ⟨rfl, rfl, rfl⟩ := hcs
  exact ⟨l, A, cap, rfl, hl, hC, hg⟩
theorem arg_int {P : Program} {H : Type} {enc : TypeId × Value → H} {W : World} {base : Nat} {spare : Nat → Bool} {held : Bool} {t : TypeId} {k : IntKind} {v : Value} {dd : DataW H} {ps : List MemPlace}
    (ht : P.underlying t = some (.int k)) {r : Reach} {b : Nat} (hv : Value.okWide P W r b t v) (h : DataW.Trod enc P W base spare held t v dd ps) :
    ∃ n, v = .int k n ∧ (Lit.int k n).wf = true := by
  obtain ⟨n, rfl⟩ := okWide_int ht hv
  obtain ⟨fuel, hf⟩ := h
  obtain ⟨l, hcs, hg⟩ := z7J ht enc W base spare held fuel _ _ hf
  have : n = l := by
    have h1 : ([Value.int k n] : List Value) = [.int k l] := hcs
    simpa using h1
  subst this
  exact ⟨n, rfl, hg⟩
theorem arg_bool {P : Program} {W : World} {t : TypeId} {v : Value} (ht : P.underlying t = some .bool) {r : Reach} {b : Nat} (hv : Value.okWide P W r b t v) : ∃ n, v = .bool n := okWide_bool ht hv
/-- An argument that is a struct: its cells. -/
theorem arg_struct {α : Type} {P : Program} {H : Type} {enc : TypeId × Value → H} {W : World} {base : Nat} {spare : Nat → Bool} {held : Bool} {t : TypeId} {fs : Array Field} {d : Kd α} {good : α → Prop} {v : Value} {dd : DataW H} {ps : List MemPlace}
    (hop : ReadsAs P t d good) (ht : P.underlying t = some (.struct fs)) {r : Reach} {b : Nat} (hv : Value.okWide P W r b t v) (h : DataW.Trod enc P W base spare held t v dd ps) :
    ∃ (a : α) (cs : List Value), v = .agg cs.toArray ∧ d.K W a cs ∧ good a := by
  obtain ⟨cs, rfl, _⟩ := okWide_struct ht hv
  obtain ⟨fuel, hf⟩ := h
  obtain ⟨a, hK, hg⟩ := hop enc W base spare held fuel _ _ hf
  exact ⟨a, cs.toList, by simp, hK, hg⟩
/-- An argument that is an array: its cells. -/
theorem arg_array {α : Type} {P : Program} {H : Type} {enc : TypeId × Value → H} {W : World} {base : Nat} {spare : Nat → Bool} {held : Bool} {t e : TypeId} {m : Nat} {d : Kd α} {good : α → Prop} {v : Value} {dd : DataW H} {ps : List MemPlace}
    (hop : ReadsAs P t d good) (ht : P.underlying t = some (.array m e)) {r : Reach} {b : Nat} (hv : Value.okWide P W r b t v) (h : DataW.Trod enc P W base spare held t v dd ps) :
    ∃ (a : α) (cs : List Value), v = .agg cs.toArray ∧ d.K W a cs ∧ good a := by
  obtain ⟨cs, rfl, _⟩ := z5Q ht hv
  obtain ⟨fuel, hf⟩ := h
  obtain ⟨a, hK, hg⟩ := hop enc W base spare held fuel _ _ hf
  exact ⟨a, cs.toList, by simp, hK, hg⟩
end Go.Proofs.Ytkhmpaooinpfoaa.Reads
-- Own text: the statement that is left of the law PackvAlike, and what a reading of its arguments is.
namespace Go.Proofs.Ytkhmpaooinpfoaa.Stated.packvAlike
open Go.RowKit Go.Proofs.YtkhmpaooinpfoaaW.PrintWords Go.Proofs.Ytkhmpaooinpfoaa.P Go.Proofs.Ytkhmpaooinpfoaa.Reads
def Pure : Prop := ∀ (x0 : Int) (x1 : List (S30)) (x2 : List (S30)), ((Lit.int .i64 x0).wf = true) → (((∀ x_ ∈ x1, ((Lit.int .u64 x_.f0).wf = true) ∧ ((Lit.int .u64 x_.f1).wf = true)) ∧ x1.length ≤ maxLen)) → (((∀ x_ ∈ x2, ((Lit.int .u64 x_.f0).wf = true) ∧ ((Lit.int .u64 x_.f1).wf = true)) ∧ x2.length ≤ maxLen)) → ∃ k, z7.f k x0 x1 x2 = some true
end Go.Proofs.Ytkhmpaooinpfoaa.Stated.packvAlike
/- Rounds: what is told by enough of them; and the arithmetic of whole numbers as the printed functions spell it. Own text. -/
namespace Go.Proofs.YtkhmpaooinpfoaaW.PrintWords
set_option linter.unusedVariables false
set_option linter.unusedSimpArgs false
namespace Ev
variable {α β : Type}
theorem ret (r : α) : Ev (fun _ => some r) r := ⟨0, fun _ _ => rfl⟩
theorem ret' {a r : α} (h : a = r) : Ev (fun _ => some a) r := h ▸ Ev.ret a
theorem const {o : Option α} {r : α} (h : o = some r) : Ev (fun _ => o) r := ⟨0, fun _ _ => h⟩
theorem pos {c : Prop} [Decidable c] {f g : Nat → Option α} {r : α} (h : c) (k : Ev f r) : Ev (fun n => if c then f n else g n) r := by
  simp only [if_pos h]; exact k
theorem neg {c : Prop} [Decidable c] {f g : Nat → Option α} {r : α} (h : ¬ c) (k : Ev g r) : Ev (fun n => if c then f n else g n) r := by
  simp only [if_neg h]; exact k
theorem bnd {g : Nat → Option α} {f : Nat → α → Option β} {a : α} {r : β} (h : Ev g a) (k : Ev (fun n => f n a) r) : Ev (fun n => (g n).bind (f n)) r := Ev.bind h k
theorem bnd0 {o : Option α} {f : Nat → α → Option β} {a : α} {r : β} (h : o = some a) (k : Ev (fun n => f n a) r) : Ev (fun n => o.bind (f n)) r := Ev.bind (Ev.const h) k
theorem uniq {g : Nat → Option α} {a b : α} (h : Ev g a) (k : Ev g b) : a = b := by
  obtain ⟨K, hK⟩ := h; obtain ⟨L, hL⟩ := k
  have := hK (max K L) (Nat.le_max_left _ _); rw [hL _ (Nat.le_max_right _ _)] at this
  exact (Option.some.inj this).symm
theorem eqn {g : Nat → Option α} {a b : α} (h : Ev g a) (e : a = b) : Ev g b := e ▸ h
end Ev
end Go.Proofs.YtkhmpaooinpfoaaW.PrintWords
namespace Go.Proofs.Ytkhmpaooinpfoaa.Ar
open Go.RowKit Go.Proofs.YtkhmpaooinpfoaaW.PrintWords Go.Proofs.YtkhmpaooinpfoaaW.PrintMore
set_option linter.unusedVariables false
set_option linter.unusedSimpArgs false
theorem i64_id {x : Int} (h0 : -9223372036854775808 ≤ x) (h1 : x ≤ 9223372036854775807) : IntKind.i64.wrap x = x := by rw [IntKind.wrap_i64]; omega
theorem z2n {x : Int} (h0 : -9223372036854775808 ≤ x) (h1 : x ≤ 9223372036854775807) : wrap64 x = x := by unfold wrap64; omega
theorem z1H {i L : Nat} (h : i < L) (hL : L ≤ 4611686018427387904) : wrap64 ((i : Int) + 1) = ((i + 1 : Nat) : Int) := by rw [z2n (by omega) (by omega)]; omega
theorem w64_add {i j : Nat} (h : i ≤ 2305843009213693952) (h' : j ≤ 2305843009213693952) : wrap64 ((i : Int) + (j : Int)) = ((i + j : Nat) : Int) := by rw [z2n (by omega) (by omega)]; omega
theorem w64_sub {i j : Nat} (h : j ≤ i) (h' : i ≤ 4611686018427387904) : wrap64 ((i : Int) - (j : Int)) = ((i - j : Nat) : Int) := by rw [z2n (by omega) (by omega)]; omega
theorem z2Q {x : Int} (h0 : 0 ≤ x) (h1 : x < 18446744073709551616) : IntKind.u64.wrap x = x := by
  simp [IntKind.wrap, IntKind.bits, IntKind.signed]; omega
theorem z5t (w : Nat) (h : w ≤ 62) : shl .i64 1 (w : Int) = ((2 ^ w : Nat) : Int) := by
  unfold shl
  have h64 : IntKind.i64.bits = 64 := rfl
  rw [h64, Int.toNat_natCast, Nat.min_eq_left (by omega), Int.one_mul]
  have hp : (2 : Nat) ^ w ≤ 2 ^ 62 := Nat.pow_le_pow_right (by decide) h
  have hc : ((2 : Int) ^ w) = ((2 ^ w : Nat) : Int) := by simp
  rw [hc]
  have h62 : (2 : Nat) ^ 62 = 4611686018427387904 := by decide
  generalize 2 ^ w = p at hp ⊢
  exact i64_id (by omega) (by omega)
theorem z34 (w : Nat) (h : w ≤ 63) : shl .u64 1 (w : Int) = ((2 ^ w : Nat) : Int) := by
  unfold shl
  have h64 : IntKind.u64.bits = 64 := rfl
  rw [h64, Int.toNat_natCast, Nat.min_eq_left (by omega), Int.one_mul]
  have hp : (2 : Nat) ^ w ≤ 2 ^ 63 := Nat.pow_le_pow_right (by decide) h
  have hc : ((2 : Int) ^ w) = ((2 ^ w : Nat) : Int) := by simp
  rw [hc]
  have h63 : (2 : Nat) ^ 63 = 9223372036854775808 := by decide
  generalize 2 ^ w = p at hp ⊢
  exact z2Q (by omega) (by omega)
theorem z5u (a w : Nat) (h : w ≤ 64) : shr .u64 (a : Int) (w : Int) = ((a / 2 ^ w : Nat) : Int) := by
  unfold shr
  have h64 : IntKind.u64.bits = 64 := rfl
  rw [h64, Int.toNat_natCast, Nat.min_eq_left h]; simp
theorem shr_i64 (a w : Nat) (h : w ≤ 64) : shr .i64 (a : Int) (w : Int) = ((a / 2 ^ w : Nat) : Int) := by
  unfold shr
  have h64 : IntKind.i64.bits = 64 := rfl
  rw [h64, Int.toNat_natCast, Nat.min_eq_left h]; simp
theorem z5e (op : BinOp) (a b : Nat) (ha : a < 2 ^ 64) (hb : b < 2 ^ 64) :
    (op = .and → Go.bits op .u64 a b = ((a &&& b : Nat) : Int)) ∧ (op = .or → Go.bits op .u64 a b = ((a ||| b : Nat) : Int)) ∧ (op = .xor → Go.bits op .u64 a b = ((a ^^^ b : Nat) : Int)) := by
  have ha' : a % 2 ^ IntKind.u64.bits = a := Nat.mod_eq_of_lt ha
  have hb' : b % 2 ^ IntKind.u64.bits = b := Nat.mod_eq_of_lt hb
  refine ⟨?_, ?_, ?_⟩ <;> rintro rfl <;> simp only [Go.bits, BitVec.ofInt_natCast, BitVec.toNat_and, BitVec.toNat_or, BitVec.toNat_xor, BitVec.toNat_ofNat, ha', hb']
  · exact z2Q (Int.natCast_nonneg _) (by have := Nat.and_lt_two_pow a hb; omega)
  · exact z2Q (Int.natCast_nonneg _) (by have := Nat.or_lt_two_pow ha hb; omega)
  · exact z2Q (Int.natCast_nonneg _) (by have := Nat.xor_lt_two_pow ha hb; omega)
theorem z2z (a b : Nat) (ha : a < 2 ^ 64) (hb : b < 2 ^ 64) : Go.bits .and .u64 a b = ((a &&& b : Nat) : Int) := (z5e .and a b ha hb).1 rfl
theorem z6t (a b : Nat) (ha : a < 2 ^ 64) (hb : b < 2 ^ 64) : Go.bits .or .u64 a b = ((a ||| b : Nat) : Int) := (z5e .or a b ha hb).2.1 rfl
theorem z2b (a b : Nat) (ha : a < 2 ^ 64) (hb : b < 2 ^ 64) : Go.bits .xor .u64 a b = ((a ^^^ b : Nat) : Int) := (z5e .xor a b ha hb).2.2 rfl
theorem z5F (x w : Nat) (hx : x < 2 ^ 63) (hw : w ≤ 62) : Go.bits .and .i64 (x : Int) (((2 ^ w : Nat) : Int) - 1) = ((x % 2 ^ w : Nat) : Int) := by
  have := Go.bits_mask .i64 63 (by decide) (fun n h0 h1 => i64_id (by omega) (by omega)) w (by omega) (x : Int) (by omega) (by exact_mod_cast hx)
  have hc : (((2 ^ w : Nat) : Int) - 1) = 2 ^ w - 1 := by simp
  rw [hc, this]; simp
theorem two_pow_le {w : Nat} (h : w ≤ 6) : 2 ^ w ≤ 64 := Nat.pow_le_pow_right (n := 2) (by decide) h
theorem wf_i64 {x : Int} (h : (Lit.int .i64 x).wf = true) : -9223372036854775808 ≤ x ∧ x ≤ 9223372036854775807 := by
  simp only [Lit.wf, IntKind.min, IntKind.max, IntKind.signed, IntKind.bits, Bool.and_eq_true, decide_eq_true_eq] at h; simp at h; omega
theorem wf_u64 {x : Int} (h : (Lit.int .u64 x).wf = true) : 0 ≤ x ∧ x < 18446744073709551616 := by
  simp only [Lit.wf, IntKind.min, IntKind.max, IntKind.signed, IntKind.bits, Bool.and_eq_true, decide_eq_true_eq] at h; simp at h; omega
theorem z7U {α : Type} (d : α) (l : List α) (i : Nat) : rdOf d l (i : Int) = l.getD i d := by unfold rdOf; rw [Int.toNat_natCast]
end Go.Proofs.Ytkhmpaooinpfoaa.Ar
/- The tower of fields of characteristic two, as pairs of pairs of bits: its laws. Own text; nothing of the program in it. -/
namespace Go.Proofs.Ytkhmpaooinpfoaa.Tw
set_option linter.unusedVariables false
set_option linter.unusedSimpArgs false

/-- Level n: a bit, or two halves: the higher one and the lower one. -/
def T : Nat → Type
  | 0 => Bool
  | n + 1 => T n × T n
def zero : (n : Nat) → T n
  | 0 => false
  | n + 1 => (zero n, zero n)
def one : (n : Nat) → T n
  | 0 => true
  | n + 1 => (zero n, one n)
/-- The generator. -/
def gen : (n : Nat) → T n
  | 0 => true
  | n + 1 => (one n, zero n)
def add : {n : Nat} → T n → T n → T n
  | 0, a, b => Bool.xor a b
  | _ + 1, a, b => (add a.1 b.1, add a.2 b.2)
def mul : {n : Nat} → T n → T n → T n
  | 0, a, b => Bool.and a b
  | n + 1, a, b => (add (add (mul a.1 b.2) (mul a.2 b.1)) (mul (gen n) (mul a.1 b.1)), add (mul a.2 b.2) (mul a.1 b.1))
instance {n : Nat} : Add (T n) := ⟨add⟩
instance {n : Nat} : Mul (T n) := ⟨mul⟩
instance {n : Nat} : Zero (T n) := ⟨zero n⟩
instance {n : Nat} : One (T n) := ⟨one n⟩
instance : {n : Nat} → DecidableEq (T n)
  | 0 => inferInstanceAs (DecidableEq Bool)
  | n + 1 => let _ : DecidableEq (T n) := instDecidableEqT; inferInstanceAs (DecidableEq (T n × T n))
theorem z4c {n : Nat} (a b : T (n + 1)) : (a + b).1 = a.1 + b.1 := rfl
theorem z5c {n : Nat} (a b : T (n + 1)) : (a + b).2 = a.2 + b.2 := rfl
theorem z2j {n : Nat} (a b : T (n + 1)) : (a * b).1 = (a.1 * b.2 + a.2 * b.1) + gen n * (a.1 * b.1) := rfl
theorem z2k {n : Nat} (a b : T (n + 1)) : (a * b).2 = a.2 * b.2 + a.1 * b.1 := rfl
theorem z47 {n : Nat} : (0 : T (n + 1)).1 = 0 := rfl
theorem z48 {n : Nat} : (0 : T (n + 1)).2 = 0 := rfl
theorem z5m {n : Nat} : (1 : T (n + 1)).1 = 0 := rfl
theorem z5n {n : Nat} : (1 : T (n + 1)).2 = 1 := rfl
theorem z2W {n : Nat} : (gen (n + 1)).1 = 1 := rfl
theorem z2X {n : Nat} : (gen (n + 1)).2 = 0 := rfl
theorem z6n : gen 0 = 1 := rfl
/-- The element of two halves. -/
def mk {n : Nat} (a b : T n) : T (n + 1) := (a, b)
theorem z2w {n : Nat} (a b : T n) : (mk a b).1 = a := rfl
theorem z2E {n : Nat} (a b : T n) : (mk a b).2 = b := rfl
theorem ext {n : Nat} {a b : T (n + 1)} (h1 : a.1 = b.1) (h2 : a.2 = b.2) : a = b := Prod.ext h1 h2

theorem add_comm : {n : Nat} → (a b : T n) → a + b = b + a
  | 0, a, b => Bool.xor_comm a b
  | n + 1, a, b => ext (add_comm a.1 b.1) (add_comm a.2 b.2)
theorem add_assoc : {n : Nat} → (a b c : T n) → a + b + c = a + (b + c)
  | 0, a, b, c => Bool.xor_assoc a b c
  | n + 1, a, b, c => ext (add_assoc a.1 b.1 c.1) (add_assoc a.2 b.2 c.2)
theorem zero_add : {n : Nat} → (a : T n) → 0 + a = a
  | 0, a => Bool.false_xor a
  | n + 1, a => ext (zero_add a.1) (zero_add a.2)
theorem z2m : {n : Nat} → (a : T n) → a + a = 0
  | 0, a => Bool.xor_self a
  | n + 1, a => ext (z2m a.1) (z2m a.2)
theorem add_zero {n : Nat} (a : T n) : a + 0 = a := by rw [add_comm, zero_add]
theorem z2c {n : Nat} (a b c : T n) : a + (b + c) = b + (a + c) := by rw [← add_assoc, add_comm a b, add_assoc]
theorem z5D {n : Nat} (a b : T n) : a + (a + b) = b := by rw [← add_assoc, z2m, zero_add]
theorem z7h {n : Nat} {a b c : T n} (h : a + b = a + c) : b = c := by
  have := congrArg (a + ·) h
  simpa only [z5D] using this
theorem add_eq_zero {n : Nat} {a b : T n} (h : a + b = 0) : a = b := by
  have := congrArg (· + b) h
  simp only [add_assoc, z2m, add_zero, zero_add] at this
  exact this
theorem eq_add_of {n : Nat} {a b c : T n} (h : a + b = c) : a = c + b := by rw [← h, add_assoc, z2m, add_zero]

/-- The laws of products, all at once. -/
structure Laws (n : Nat) : Prop where
  comm : ∀ a b : T n, a * b = b * a
  zero_mul : ∀ a : T n, 0 * a = 0
  one_mul : ∀ a : T n, 1 * a = a
  mul_add : ∀ a b c : T n, a * (b + c) = a * b + a * c
  assoc : ∀ a b c : T n, a * b * c = a * (b * c)
theorem laws : (n : Nat) → Laws n
  | 0 => ⟨Bool.and_comm, Bool.false_and, Bool.true_and, by intro a b c; cases a <;> cases b <;> cases c <;> rfl, Bool.and_assoc⟩
  | n + 1 => by
    obtain ⟨comm, zmul, omul, madd, massoc⟩ := laws n
    have addm : ∀ a b c : T n, (a + b) * c = a * c + b * c := fun a b c => by rw [comm, madd, comm c a, comm c b]
    have mulz : ∀ a : T n, a * 0 = 0 := fun a => by rw [comm, zmul]
    have mulo : ∀ a : T n, a * 1 = a := fun a => by rw [comm, omul]
    have lcomm : ∀ a b c : T n, a * (b * c) = b * (a * c) := fun a b c => by rw [← massoc, comm a b, massoc]
    refine ⟨fun a b => ext ?_ ?_, fun a => ext ?_ ?_, fun a => ext ?_ ?_, fun a b c => ext ?_ ?_, fun a b c => ext ?_ ?_⟩
    · simp only [z2j]; rw [comm a.1 b.2, comm a.2 b.1, comm a.1 b.1, add_comm (b.2 * a.1)]
    · simp only [z2k]; rw [comm a.2 b.2, comm a.1 b.1]
    · simp only [z2j, z47, z48, zmul, mulz, add_zero]
    · simp only [z2k, z47, z48, zmul, mulz, add_zero]
    · simp only [z2j, z5m, z5n, zmul, mulz, omul, add_zero, zero_add]
    · simp only [z2k, z5m, z5n, zmul, mulz, omul, add_zero, zero_add]
    · simp only [z2j, z4c, z5c, madd, addm, add_assoc, z2c, add_comm]
    · simp only [z2k, z4c, z5c, madd, addm, add_assoc, z2c, add_comm]
    · simp only [z2j, z2k, madd, addm, massoc, lcomm, comm, add_assoc, z2c, add_comm]
    · simp only [z2j, z2k, madd, addm, massoc, lcomm, comm, add_assoc, z2c, add_comm]
section
variable {n : Nat} (a b c d : T n)
theorem mul_comm : a * b = b * a := (laws n).comm a b
theorem mul_assoc : a * b * c = a * (b * c) := (laws n).assoc a b c
theorem mul_left_comm : a * (b * c) = b * (a * c) := by rw [← mul_assoc, mul_comm a b, mul_assoc]
theorem zero_mul : 0 * a = 0 := (laws n).zero_mul a
theorem z2x : a * 0 = 0 := by rw [mul_comm, zero_mul]
theorem one_mul : 1 * a = a := (laws n).one_mul a
theorem mul_one : a * 1 = a := by rw [mul_comm, one_mul]
theorem mul_add : a * (b + c) = a * b + a * c := (laws n).mul_add a b c
theorem add_mul : (a + b) * c = a * c + b * c := by rw [mul_comm, mul_add, mul_comm c a, mul_comm c b]
theorem add_sq : (a + b) * (a + b) = a * a + b * b := by
  rw [mul_add, add_mul, add_mul, mul_comm b a, add_assoc, ← add_assoc (a * b), z2m, zero_add]
end
end Go.Proofs.Ytkhmpaooinpfoaa.Tw
/- Elements of the tower as numbers: bits of the lower half first. Own text; nothing of the program in it. -/
namespace Go.Proofs.Ytkhmpaooinpfoaa.Tw
set_option linter.unusedVariables false
set_option linter.unusedSimpArgs false
/-- How many words of bits an element of a level is: 2 to the power 2^n. -/
def Q (n : Nat) : Nat := 2 ^ 2 ^ n
theorem z2B (n : Nat) : 0 < Q n := Nat.two_pow_pos _
theorem z2U (n : Nat) : Q (n + 1) = Q n * Q n := by unfold Q; rw [← Nat.pow_add, Nat.pow_succ 2 n, Nat.mul_two]
theorem z7b (n : Nat) : Q n ≤ Q (n + 1) := by rw [z2U]; exact Nat.le_mul_of_pos_left _ (z2B n)
theorem z3l {m n : Nat} (h : m ≤ n) : Q m ≤ Q n := Nat.pow_le_pow_right (by decide) (Nat.pow_le_pow_right (by decide) h)
theorem z6L : Q 6 = 2 ^ 64 := rfl
theorem z63 : Q 7 = 2 ^ 128 := rfl
def val : {n : Nat} → T n → Nat
  | 0, a => Bool.toNat a
  | n + 1, a => val a.1 * Q n + val a.2
def of : (n : Nat) → Nat → T n
  | 0, x => x % 2 == 1
  | n + 1, x => mk (of n (x / Q n)) (of n (x % Q n))
theorem val_zero_lvl (a : T 0) : val a = Bool.toNat a := rfl
theorem z1P {n : Nat} (a : T (n + 1)) : val a = val a.1 * Q n + val a.2 := rfl
theorem z2l (n x : Nat) : of (n + 1) x = mk (of n (x / Q n)) (of n (x % Q n)) := rfl
theorem z1s : {n : Nat} → (a : T n) → val a < Q n
  | 0, a => by cases a <;> decide
  | n + 1, a => by
    rw [z1P, z2U]
    have h1 := z1s a.1
    have h2 := z1s a.2
    have h3 : val a.1 * Q n + Q n ≤ Q n * Q n := by
      have := Nat.mul_le_mul_right (Q n) h1
      rw [Nat.succ_mul] at this; exact this
    omega
theorem val_div {n : Nat} (a : T (n + 1)) : val a / Q n = val a.1 := by
  rw [z1P, Nat.mul_comm, Nat.mul_add_div (z2B n), Nat.div_eq_of_lt (z1s a.2), Nat.add_zero]
theorem val_mod {n : Nat} (a : T (n + 1)) : val a % Q n = val a.2 := by
  rw [z1P, Nat.mul_comm, Nat.mul_add_mod, Nat.mod_eq_of_lt (z1s a.2)]
theorem z2a : {n : Nat} → (a : T n) → of n (val a) = a
  | 0, a => by cases a <;> rfl
  | n + 1, a => by rw [z2l, val_div, val_mod, z2a a.1, z2a a.2]; rfl
theorem z2h : (n : Nat) → (x : Nat) → x < Q n → val (of n x) = x
  | 0, x, h => by
    have h' : x < 2 := h
    have : x = 0 ∨ x = 1 := by omega
    rcases this with rfl | rfl <;> rfl
  | n + 1, x, h => by
    rw [z2l, z1P, z2w, z2E]
    rw [z2U] at h
    rw [z2h n _ (Nat.div_lt_of_lt_mul h), z2h n _ (Nat.mod_lt _ (z2B n)), Nat.mul_comm]
    exact Nat.div_add_mod x (Q n)
theorem z2M {n : Nat} {a b : T n} (h : val a = val b) : a = b := by rw [← z2a a, h, z2a]
theorem z1G : (n : Nat) → val (0 : T n) = 0
  | 0 => rfl
  | n + 1 => by rw [z1P, z47, z48, z1G n, Nat.zero_mul]
theorem z2N : (n : Nat) → val (1 : T n) = 1
  | 0 => rfl
  | n + 1 => by rw [z1P, z5m, z5n, z1G n, z2N n, Nat.zero_mul]
theorem z31 (n : Nat) : of n 0 = 0 := by rw [← z1G n, z2a]
theorem of_one (n : Nat) : of n 1 = 1 := by rw [← z2N n, z2a]
theorem val_eq_zero {n : Nat} {a : T n} : val a = 0 ↔ a = 0 := ⟨fun h => z2M (h.trans (z1G n).symm), fun h => by rw [h, z1G]⟩
theorem z6I {n a b c d : Nat} (hb : b < Q n) (hd : d < Q n) : (a * Q n + b) ^^^ (c * Q n + d) = (a ^^^ c) * Q n + (b ^^^ d) := by
  have h1 : ((a * Q n + b) ^^^ (c * Q n + d)) / Q n = a ^^^ c := by
    unfold Q at *
    rw [Nat.xor_div_two_pow, Nat.mul_comm a, Nat.mul_comm c, Nat.mul_add_div (Nat.two_pow_pos _), Nat.mul_add_div (Nat.two_pow_pos _), Nat.div_eq_of_lt hb, Nat.div_eq_of_lt hd]; rfl
  have h2 : ((a * Q n + b) ^^^ (c * Q n + d)) % Q n = b ^^^ d := by
    unfold Q at *
    rw [Nat.xor_mod_two_pow, Nat.mul_comm a, Nat.mul_comm c, Nat.mul_add_mod, Nat.mul_add_mod, Nat.mod_eq_of_lt hb, Nat.mod_eq_of_lt hd]
  have := Nat.div_add_mod ((a * Q n + b) ^^^ (c * Q n + d)) (Q n)
  rw [h1, h2, Nat.mul_comm] at this
  exact this.symm
theorem z1N : {n : Nat} → (a b : T n) → val (a + b) = val a ^^^ val b
  | 0, a, b => by cases a <;> cases b <;> rfl
  | n + 1, a, b => by
    rw [z1P, z1P, z1P, z4c, z5c, z1N a.1 b.1, z1N a.2 b.2, z6I (z1s _) (z1s _)]
theorem z2r {n x y : Nat} (hx : x < Q n) (hy : y < Q n) : x ^^^ y < Q n := Nat.xor_lt_two_pow hx hy
theorem z7I {n x y : Nat} (hx : x < Q n) (hy : y < Q n) : of n (x ^^^ y) = of n x + of n y :=
  z2M (by rw [z2h _ _ (z2r hx hy), z1N, z2h _ _ hx, z2h _ _ hy])
/-- A number of a lower level: the higher half is 0. -/
theorem z5P {n x : Nat} (h : x < Q n) : of (n + 1) x = mk 0 (of n x) := by
  rw [z2l, Nat.div_eq_of_lt h, Nat.mod_eq_of_lt h, z31]
/-- One level up. -/
def up {n : Nat} (a : T n) : T (n + 1) := mk 0 a
theorem z3f {n : Nat} (a : T n) : (up a).1 = 0 := rfl
theorem z54 {n : Nat} (a : T n) : (up a).2 = a := rfl
theorem val_up {n : Nat} (a : T n) : val (up a) = val a := by rw [z1P, z3f, z54, z1G, Nat.zero_mul, Nat.zero_add]
theorem up_add {n : Nat} (a b : T n) : up (a + b) = up a + up b := ext (by rw [z4c, z3f, z3f, z3f, add_zero]) rfl
theorem up_mul {n : Nat} (a b : T n) : up (a * b) = up a * up b :=
  ext (by simp only [z2j, z3f, z54, zero_mul, z2x, add_zero]) (by simp only [z2k, z3f, z54, zero_mul, add_zero])
theorem z3J {n : Nat} (a : T n) (b : T (n + 1)) : up a * b = mk (a * b.1) (a * b.2) :=
  ext (by simp only [z2j, z3f, z54, zero_mul, z2x, add_zero, zero_add, z2w]) (by simp only [z2k, z3f, z54, zero_mul, add_zero, z2E])
theorem up_zero (n : Nat) : up (0 : T n) = 0 := rfl
theorem up_one (n : Nat) : up (1 : T n) = 1 := rfl
theorem up_inj {n : Nat} {a b : T n} (h : up a = up b) : a = b := congrArg (fun x : T (n + 1) => x.2) h
/-- Many levels up. -/
def ups {n : Nat} : (d : Nat) → T n → T (n + d)
  | 0, a => a
  | d + 1, a => up (ups d a)
theorem ups_add {n : Nat} (a b : T n) : (d : Nat) → ups d (a + b) = ups d a + ups d b
  | 0 => rfl
  | d + 1 => by show up (ups d (a + b)) = _; rw [ups_add a b d, up_add]; rfl
theorem z82 {n : Nat} (a b : T n) : (d : Nat) → ups d (a * b) = ups d a * ups d b
  | 0 => rfl
  | d + 1 => by show up (ups d (a * b)) = _; rw [z82 a b d, up_mul]; rfl
theorem z4D {n : Nat} (a : T n) : (d : Nat) → val (ups d a) = val a
  | 0 => rfl
  | d + 1 => by show val (up (ups d a)) = _; rw [val_up, z4D a d]
theorem ups_zero {n : Nat} (d : Nat) : ups d (0 : T n) = 0 := z2M (by rw [z4D, z1G, z1G])
theorem ups_one {n : Nat} (d : Nat) : ups d (1 : T n) = 1 := z2M (by rw [z4D, z2N, z2N])
theorem ups_of {n d x : Nat} (h : x < Q n) : ups d (of n x) = of (n + d) x := z2M (by rw [z4D, z2h _ _ h, z2h _ _ (Nat.lt_of_lt_of_le h (z3l (Nat.le_add_right _ _)))])
/-- Products of numbers of a lower level are of it. -/
theorem z4C {n d x y : Nat} (hx : x < Q n) (hy : y < Q n) : val (of (n + d) x * of (n + d) y) = val (of n x * of n y) := by
  rw [← ups_of hx, ← ups_of hy, ← z82, z4D]
theorem z3z {l m x y : Nat} (h : l ≤ m) (hx : x < Q l) (hy : y < Q l) : val (of m x * of m y) = val (of l x * of l y) := by
  obtain ⟨d, rfl⟩ := Nat.le.dest h
  exact z4C hx hy
theorem z6Z {l m x y : Nat} (h : l ≤ m) (hx : x < Q l) (hy : y < Q l) : val (of m x * of m y) < Q l := by
  rw [z3z h hx hy]; exact z1s _
end Go.Proofs.Ytkhmpaooinpfoaa.Tw
/- What the functions of layers 1 and 2 on elements tell. Own text. -/
namespace Go.Proofs.Ytkhmpaooinpfoaa.Sp
open Go.RowKit Go.Proofs.YtkhmpaooinpfoaaW.PrintWords Go.Proofs.YtkhmpaooinpfoaaW.PrintMore Go.Proofs.Ytkhmpaooinpfoaa.P Go.Proofs.Ytkhmpaooinpfoaa.Ar Go.Proofs.Ytkhmpaooinpfoaa.Tw
set_option linter.unusedVariables false
set_option linter.unusedSimpArgs false
theorem z49 {n : Nat} (h : n ≤ 6) : Q n ≤ 2 ^ 64 := z3l h
theorem Q_dvd {n : Nat} : Q n = 2 ^ 2 ^ n := rfl
theorem z2g {n : Nat} (h : n ≤ 5) : 2 ^ n ≤ 32 := Nat.pow_le_pow_right (n := 2) (by decide) h
theorem z45 {l : Nat} (h : l + 1 ≤ 1000) : wrap64 (((l + 1 : Nat) : Int) - 1) = (l : Int) := by rw [z2n (by omega) (by omega)]; omega
theorem z59 {n : Nat} (h : n ≤ 5) : Q n < 2 ^ 64 := Nat.pow_lt_pow_right (by decide) (by have := z2g h; omega)
theorem z4i {l : Nat} (hl : l ≤ 5) (x : Nat) (hx : x < 2 ^ 64) : z1w.f ((l + 1 : Nat) : Int) (x : Int) = some (((x / Q l : Nat) : Int), ((x % Q l : Nat) : Int)) := by
  unfold z1w.f
  have h32 := z2g hl
  have hQ := z59 hl
  have hm : IntKind.u64.wrap (((2 ^ 2 ^ l : Nat) : Int) - 1) = ((2 ^ 2 ^ l - 1 : Nat) : Int) := by
    have := Nat.two_pow_pos (2 ^ l)
    unfold Q at hQ
    generalize 2 ^ 2 ^ l = q at *
    rw [z2Q (by omega) (by omega)]; omega
  rw [z45 (by omega), if_pos (Int.natCast_nonneg _), z5t l (by omega), if_pos (Int.natCast_nonneg _), z5u x (2 ^ l) (by omega), z34 (2 ^ l) (by omega), hm]
  rw [z2z x _ hx (by have := Nat.two_pow_pos (2 ^ l); unfold Q at hQ; omega), Nat.and_two_pow_sub_one_eq_mod]
  rfl
theorem z7x {l : Nat} (hl : l ≤ 5) (h x : Nat) (hh : h < Q l) (hx : x < Q l) : z1x.f ((l + 1 : Nat) : Int) (h : Int) (x : Int) = some ((h * Q l + x : Nat) : Int) := by
  unfold z1x.f
  have h32 := z2g hl
  have hQ := z59 hl
  have h6 : Q (l + 1) ≤ 2 ^ 64 := z49 (by omega)
  have hhx : h * Q l + Q l ≤ Q (l + 1) := by
    rw [z2U]
    have := Nat.mul_le_mul_right (Q l) hh
    rw [Nat.succ_mul] at this; exact this
  have hs : shl .u64 (h : Int) (((2 ^ l : Nat) : Int)) = ((h * Q l : Nat) : Int) := by
    unfold shl
    have h64 : IntKind.u64.bits = 64 := rfl
    rw [h64, Int.toNat_natCast, Nat.min_eq_left (by omega)]
    have hc : ((h : Int) * 2 ^ 2 ^ l) = ((h * Q l : Nat) : Int) := by unfold Q; simp
    rw [hc]
    have : h * Q l < 2 ^ 64 := by omega
    generalize h * Q l = z at *
    exact z2Q (by omega) (by omega)
  rw [z45 (by omega), if_pos (by omega), z34 l (by omega), hs, z6t _ _ (by omega) (by omega)]
  congr 2
  unfold Q at *
  rw [Nat.mul_comm, ← Nat.two_pow_add_eq_or_of_lt hx]
theorem z7F : ∀ (l : Nat), l ≤ 6 → ∀ (x : Nat), x < Q l → Ev (fun k => zT.f k (l : Int) (x : Int)) ((val (gen l * of l x) : Nat) : Int) := by
  intro l
  induction l with
  | zero =>
    intro _ x hx
    refine Ev.step (fun k => by rw [zT.f]) (Ev.pos (by rfl) (Ev.ret' ?_))
    rw [z6n, one_mul, z2h 0 x hx]
  | succ l ih =>
    intro hl x hx
    have hx64 : x < 2 ^ 64 := Nat.lt_of_lt_of_le hx (z49 hl)
    have hd : x / Q l < Q l := Nat.div_lt_of_lt_mul (by rw [← z2U]; exact hx)
    have hm : x % Q l < Q l := Nat.mod_lt _ (z2B l)
    have hQ := z59 (n := l) (by omega)
    refine Ev.step (fun k => by rw [zT.f]) (Ev.neg (by omega) (Ev.bnd0 (z4i (by omega) x hx64) ?_))
    simp only [z45 (show l + 1 ≤ 1000 by omega)]
    refine Ev.bnd (ih (by omega) _ hd) ?_
    have hv := z1s (gen l * of l (x / Q l))
    simp only [z2b _ _ (Nat.lt_trans hm hQ) (Nat.lt_trans hv hQ)]
    refine Ev.bnd0 (z7x (by omega) _ _ (z2r hm hv) hd) (Ev.ret' ?_)
    congr 1
    rw [z1P (gen (l + 1) * of (l + 1) x)]
    congr 1
    · congr 1
      have e : (gen (l + 1) * of (l + 1) x).1 = of l (x % Q l) + gen l * of l (x / Q l) := by
        rw [z2j, z2W, z2X, one_mul, zero_mul, one_mul, add_zero]; rfl
      rw [e, z1N, z2h _ _ hm]
    · have e : (gen (l + 1) * of (l + 1) x).2 = of l (x / Q l) := by
        rw [z2k, z2W, z2X, one_mul, zero_mul, zero_add]; rfl
      rw [e, z2h _ _ hd]
theorem karatsuba {n : Nat} (a1 a0 b1 b0 z : T n) : (a1 + a0) * (b1 + b0) + a1 * b1 + a0 * b0 + z = (a1 * b0 + a0 * b1) + z := by
  have : (a1 + a0) * (b1 + b0) + a1 * b1 + a0 * b0 = a1 * b0 + a0 * b1 := by
    simp only [mul_add, add_mul]
    have : ∀ p q r s : T n, p + q + (r + s) + p + s = q + r := fun p q r s => by
      rw [add_comm p q, add_assoc, add_assoc, add_assoc]
      rw [show p + (r + s + (p + s)) = (p + p) + (r + (s + s)) by simp only [add_assoc, z2c, add_comm]]
      rw [z2m, z2m, zero_add, add_zero]
    rw [show a1 * b1 + a0 * b1 + (a1 * b0 + a0 * b0) = a1 * b1 + a0 * b1 + (a1 * b0 + a0 * b0) from rfl, this, add_comm]
  rw [this]
theorem z6r : ∀ (l : Nat), l ≤ 6 → ∀ (x y : Nat), x < Q l → y < Q l → Ev (fun k => zE.f k (l : Int) (x : Int) (y : Int)) ((val (of l x * of l y) : Nat) : Int) := by
  intro l
  have hz : ∀ (l : Nat), l ≤ 6 → ∀ (x y : Nat), x < Q l → y < Q l → (l = 0 ∨ x = 0 ∨ y = 0) → Ev (fun k => zE.j0 k (l : Int) (x : Int) (y : Int) true) ((val (of l x * of l y) : Nat) : Int) := by
    intro l hl x y hx hy h
    have hQ := z49 hl
    refine Ev.step (fun k => by rw [zE.j0]) (Ev.pos rfl (Ev.ret' ?_))
    rw [z2z x y (by omega) (by omega)]
    have hxy : x &&& y < 2 ^ 64 := Nat.and_lt_two_pow _ (by omega)
    rw [show (1 : Int) = ((1 : Nat) : Int) from rfl, z2z _ 1 hxy (by decide)]
    congr 1
    rcases h with rfl | rfl | rfl
    · have h1 : x < 2 := hx
      have h2 : y < 2 := hy
      rcases (by omega : x = 0 ∨ x = 1) with rfl | rfl <;> rcases (by omega : y = 0 ∨ y = 1) with rfl | rfl <;> rfl
    · rw [z31, zero_mul, z1G]; simp
    · rw [z31, z2x, z1G]; simp
  induction l with
  | zero =>
    intro hl x y hx hy
    exact Ev.step (fun k => by rw [zE.f]) (Ev.pos (by rfl) (hz 0 hl x y hx hy (Or.inl rfl)))
  | succ l ih =>
    intro hl x y hx hy
    refine Ev.step (fun k => by rw [zE.f]) (Ev.neg (by omega) ?_)
    by_cases hx0 : x = 0
    · exact Ev.pos (by omega) (hz (l + 1) hl x y hx hy (Or.inr (Or.inl hx0)))
    refine Ev.neg (by omega) ?_
    by_cases hy0 : y = 0
    · rw [show ((y : Int) == 0) = true by simp [hy0]]
      exact hz (l + 1) hl x y hx hy (Or.inr (Or.inr hy0))
    rw [show ((y : Int) == 0) = false by simp [hy0]]
    have hQ := z59 (n := l) (by omega)
    have hx64 : x < 2 ^ 64 := Nat.lt_of_lt_of_le hx (z49 hl)
    have hy64 : y < 2 ^ 64 := Nat.lt_of_lt_of_le hy (z49 hl)
    have hxd : x / Q l < Q l := Nat.div_lt_of_lt_mul (by rw [← z2U]; exact hx)
    have hxm : x % Q l < Q l := Nat.mod_lt _ (z2B l)
    have hyd : y / Q l < Q l := Nat.div_lt_of_lt_mul (by rw [← z2U]; exact hy)
    have hym : y % Q l < Q l := Nat.mod_lt _ (z2B l)
    have hl5 : l ≤ 5 := by omega
    refine Ev.step (fun k => by rw [zE.j0]) (Ev.neg (by decide) (Ev.bnd0 (z4i hl5 x hx64) (Ev.bnd0 (z4i hl5 y hy64) ?_)))
    simp only [z45 (show l + 1 ≤ 1000 by omega)]
    refine Ev.bnd (ih (by omega) _ _ hxd hyd) (Ev.bnd (ih (by omega) _ _ hxm hym) ?_)
    simp only [z2b _ _ (Nat.lt_trans hxd hQ) (Nat.lt_trans hxm hQ), z2b _ _ (Nat.lt_trans hyd hQ) (Nat.lt_trans hym hQ)]
    refine Ev.bnd (ih (by omega) _ _ (z2r hxd hxm) (z2r hyd hym)) ?_
    have v1 := z1s (of l (x / Q l) * of l (y / Q l))
    have v2 := z1s (of l (x % Q l) * of l (y % Q l))
    have v3 := z1s (of l (x / Q l ^^^ x % Q l) * of l (y / Q l ^^^ y % Q l))
    refine Ev.bnd (z7F l (by omega) _ v1) ?_
    have v4 := z1s (gen l * of l (val (of l (x / Q l) * of l (y / Q l))))
    simp only [z2b _ _ (Nat.lt_trans v3 hQ) (Nat.lt_trans v1 hQ), z2b _ _ (Nat.lt_trans (z2r v3 v1) hQ) (Nat.lt_trans v2 hQ), z2b _ _ (Nat.lt_trans (z2r (z2r v3 v1) v2) hQ) (Nat.lt_trans v4 hQ), z2b _ _ (Nat.lt_trans v2 hQ) (Nat.lt_trans v1 hQ)]
    refine Ev.bnd0 (z7x (by omega) _ _ (z2r (z2r (z2r v3 v1) v2) v4) (z2r v2 v1)) (Ev.ret' ?_)
    congr 1
    rw [z1P (of (l + 1) x * of (l + 1) y)]
    congr 1
    · congr 1
      rw [z2j, z2l, z2l, z2w, z2E, z2w, z2E, ← karatsuba, z1N, z1N, z1N, z7I hxd hxm, z7I hyd hym, z2a]
    · rw [z2k, z2l, z2l, z2w, z2E, z2w, z2E, z1N]
end Go.Proofs.Ytkhmpaooinpfoaa.Sp
/- Elements of the greatest level, as the program and the document hold them: two words. Own text. -/
namespace Go.Proofs.Ytkhmpaooinpfoaa.Sp
open Go.RowKit Go.Proofs.YtkhmpaooinpfoaaW.PrintWords Go.Proofs.YtkhmpaooinpfoaaW.PrintMore Go.Proofs.Ytkhmpaooinpfoaa.P Go.Proofs.Ytkhmpaooinpfoaa.Ar Go.Proofs.Ytkhmpaooinpfoaa.Tw
set_option linter.unusedVariables false
set_option linter.unusedSimpArgs false
abbrev E := T 7
/-- The higher and the lower word. -/
def hi (x : E) : Int := ((val x.1 : Nat) : Int)
def lo (x : E) : Int := ((val x.2 : Nat) : Int)
def el (h l : Int) : E := mk (of 6 h.toNat) (of 6 l.toNat)
theorem hi_el {h l : Int} (h0 : 0 ≤ h) (h1 : h < 18446744073709551616) : hi (el h l) = h := by
  unfold hi el; rw [z2w, z2h 6 _ (by rw [z6L]; omega)]; omega
theorem lo_el {h l : Int} (h0 : 0 ≤ l) (h1 : l < 18446744073709551616) : lo (el h l) = l := by
  unfold lo el; rw [z2E, z2h 6 _ (by rw [z6L]; omega)]; omega
theorem z6o {x y : E} (h : hi x = hi y) (l : lo x = lo y) : x = y := by
  unfold hi lo at *; exact ext (z2M (by omega)) (z2M (by omega))
theorem z2Y : hi 0 = 0 := by unfold hi; rw [z47, z1G]; rfl
theorem z2Z : lo 0 = 0 := by unfold lo; rw [z48, z1G]; rfl
theorem hi_one : hi 1 = 0 := by unfold hi; rw [z5m, z1G]; rfl
theorem lo_one : lo 1 = 1 := by unfold lo; rw [z5n, z2N]; rfl
theorem hi_bd (x : E) : 0 ≤ hi x ∧ hi x < 18446744073709551616 := by
  unfold hi; have := z1s x.1; rw [z6L] at this; omega
theorem z7D (x : E) : 0 ≤ lo x ∧ lo x < 18446744073709551616 := by
  unfold lo; have := z1s x.2; rw [z6L] at this; omega
theorem z56 (x : E) : val x = (hi x).toNat * 18446744073709551616 + (lo x).toNat := by
  unfold hi lo; rw [z1P, z6L]; simp
theorem eq_zero_iff (x : E) : x = 0 ↔ hi x = 0 ∧ lo x = 0 := ⟨fun h => by rw [h]; exact ⟨z2Y, z2Z⟩, fun h => z6o (h.1.trans z2Y.symm) (h.2.trans z2Z.symm)⟩
theorem xor_hi (x y : E) : Go.bits .xor .u64 (hi x) (hi y) = hi (x + y) := by
  unfold hi; rw [z2b _ _ (z1s x.1) (z1s y.1), z4c, z1N]
theorem xor_lo (x y : E) : Go.bits .xor .u64 (lo x) (lo y) = lo (x + y) := by
  unfold lo; rw [z2b _ _ (z1s x.2) (z1s y.2), z5c, z1N]
/-- Of a level. -/
def InL (l : Nat) (x : E) : Prop := val x < Q l
instance (l : Nat) (x : E) : Decidable (InL l x) := by unfold InL; infer_instance
def OfS (L : Int) (x : E) : Prop := 0 ≤ L ∧ L ≤ 7 ∧ InL L.toNat x
instance (L : Int) (x : E) : Decidable (OfS L x) := by unfold OfS; infer_instance
theorem z7v (x : E) : InL 7 x := z1s x
theorem z5i (l : Nat) : InL l 0 := by unfold InL; rw [z1G]; exact z2B l
theorem z3h (l : Nat) : InL l 1 := by unfold InL; rw [z2N]; exact Nat.lt_of_lt_of_le (by decide : 1 < Q 0) (z3l (Nat.zero_le _))
theorem inL_mono {l m : Nat} (h : l ≤ m) {x : E} (hx : InL l x) : InL m x := Nat.lt_of_lt_of_le hx (z3l h)
theorem z5g {l : Nat} {x y : E} (hx : InL l x) (hy : InL l y) : InL l (x + y) := by
  unfold InL at *; rw [z1N]; exact z2r hx hy
theorem z4k {l : Nat} (hl : l ≤ 7) {x y : E} (hx : InL l x) (hy : InL l y) : InL l (x * y) := by
  unfold InL at *; have := z6Z hl hx hy; rwa [z2a, z2a] at this
theorem z7w {x : E} : InL 6 x ↔ hi x = 0 := by
  unfold InL; have h := z56 x; have h1 := hi_bd x; have h2 := z7D x
  rw [z6L, h]; constructor <;> intro g <;> omega
theorem z5h {l : Nat} (hl : l ≤ 6) {x : E} : InL l x ↔ hi x = 0 ∧ (lo x).toNat < Q l := by
  constructor
  · intro h
    have h6 := z7w.1 (inL_mono hl h)
    refine ⟨h6, ?_⟩
    unfold InL at h; rw [z56, h6] at h; simpa using h
  · rintro ⟨h1, h2⟩
    unfold InL; rw [z56, h1]; simpa using h2
theorem z5l (L : Int) (x : E) : Ev (fun k => zL.f k L (hi x) (lo x)) (decide (OfS L x)) := by
  unfold zL.f
  by_cases h0 : L < 0
  · refine Ev.pos h0 (Ev.step (fun k => by rw [zL.j0]) (Ev.pos rfl (Ev.ret' ?_)))
    symm; rw [decide_eq_false_iff_not]; rintro ⟨h, _⟩; omega
  refine Ev.neg h0 ?_
  by_cases h7 : L > 7
  · rw [decide_eq_true h7]
    refine Ev.step (fun k => by rw [zL.j0]) (Ev.pos rfl (Ev.ret' ?_))
    symm; rw [decide_eq_false_iff_not]; rintro ⟨_, h, _⟩; omega
  rw [decide_eq_false h7]
  refine Ev.step (fun k => by rw [zL.j0]) (Ev.neg (by decide) ?_)
  obtain ⟨l, rfl⟩ := Int.eq_ofNat_of_zero_le (show 0 ≤ L by omega)
  have hS : OfS (l : Int) x ↔ InL l x := by
    unfold OfS; rw [Int.toNat_natCast]; exact ⟨fun h => h.2.2, fun h => ⟨by omega, by omega, h⟩⟩
  by_cases c7 : (l : Int) = 7
  · refine Ev.pos c7 (Ev.ret' ?_)
    have : l = 7 := by omega
    subst this
    symm; rw [decide_eq_true_eq, hS]; exact z7v x
  refine Ev.neg c7 ?_
  by_cases c6 : (l : Int) = 6
  · refine Ev.pos c6 (Ev.ret' ?_)
    have : l = 6 := by omega
    subst this
    rw [Bool.eq_iff_iff, beq_iff_eq, decide_eq_true_eq, hS]; exact z7w.symm
  refine Ev.neg c6 ?_
  have hl5 : l ≤ 5 := by omega
  have hl := z5h (l := l) (by omega) (x := x)
  by_cases c0 : hi x = 0
  · refine Ev.pos c0 (Ev.pos (Int.natCast_nonneg _) (Ev.ret' ?_))
    have h32 := z2g hl5
    have hlo : lo x = (((lo x).toNat : Nat) : Int) := by have := z7D x; omega
    rw [z34 l (by omega), hlo, z5u _ (2 ^ l) (by omega)]
    rw [Bool.eq_iff_iff, beq_iff_eq, decide_eq_true_eq, hS, hl]
    have hq : (lo x).toNat / 2 ^ 2 ^ l = 0 ↔ (lo x).toNat < Q l := by
      rw [Nat.div_eq_zero_iff]; unfold Q
      have := Nat.two_pow_pos (2 ^ l)
      omega
    constructor
    · intro h; exact ⟨c0, hq.1 (by exact_mod_cast h)⟩
    · rintro ⟨_, h⟩; exact_mod_cast hq.2 h
  · refine Ev.neg c0 (Ev.ret' ?_)
    symm; rw [decide_eq_false_iff_not, hS, hl]; exact fun h => c0 h.1
theorem z73 (x y : E) : z1M.f (hi x) (lo x) (hi y) (lo y) = some (hi (x + y), lo (x + y)) := by
  unfold z1M.f; rw [xor_hi, xor_lo]
theorem z4u (x y : E) : z1q.f (hi x) (lo x) (hi y) (lo y) = some (hi (x + y), lo (x + y)) := by
  unfold z1q.f; rw [xor_hi, xor_lo]
theorem z6i : z1D.f = some (hi 1, lo 1) := by unfold z1D.f; rw [hi_one, lo_one]
theorem Mul_out {L : Int} {x y : E} (h : ¬ (OfS L x ∧ OfS L y)) : Ev (fun k => zN.f k L (hi x) (lo x) (hi y) (lo y)) (0, 0) := by
  unfold zN.f
  refine Ev.bnd (z5l L x) ?_
  by_cases c : OfS L x
  · refine Ev.pos (decide_eq_true c) (Ev.bnd (z5l L y) ?_)
    rw [decide_eq_false (fun g => h ⟨c, g⟩)]
    exact Ev.step (fun k => by rw [zN.j0]) (Ev.pos (by rfl) (Ev.ret _))
  · exact Ev.neg (by simpa using c) (Ev.step (fun k => by rw [zN.j0]) (Ev.pos rfl (Ev.ret _)))
theorem z6h {l : Nat} (hl : l ≤ 7) {x y : E} (hx : InL l x) (hy : InL l y) : Ev (fun k => zN.f k (l : Int) (hi x) (lo x) (hi y) (lo y)) (hi (x * y), lo (x * y)) := by
  unfold zN.f
  have hS : ∀ z, InL l z → OfS (l : Int) z := fun z hz => ⟨by omega, by omega, by rw [Int.toNat_natCast]; exact hz⟩
  refine Ev.bnd (z5l (l : Int) x) (Ev.pos (decide_eq_true (hS x hx)) (Ev.bnd (z5l (l : Int) y) ?_))
  rw [decide_eq_true (hS y hy)]
  refine Ev.step (fun k => by rw [zN.j0]) (Ev.neg (by decide) ?_)
  by_cases c : l ≤ 6
  · refine Ev.pos (by omega) ?_
    have ex := (z5h c).1 hx
    have ey := (z5h c).1 hy
    have e1 : lo x = (((lo x).toNat : Nat) : Int) := by have := z7D x; omega
    have e2 : lo y = (((lo y).toNat : Nat) : Int) := by have := z7D y; omega
    have ev := z6r l c (lo x).toNat (lo y).toNat ex.2 ey.2
    rw [← e1, ← e2] at ev
    refine Ev.bnd ev (Ev.ret' ?_)
    have hz := (z5h c).1 (z4k hl hx hy)
    have e3 : lo (x * y) = (((lo (x * y)).toNat : Nat) : Int) := by have := z7D (x * y); omega
    rw [hz.1, e3]
    congr 2
    have vx : val x = (lo x).toNat := by rw [z56, ex.1]; simp
    have vy : val y = (lo y).toNat := by rw [z56, ey.1]; simp
    have vz : val (x * y) = (lo (x * y)).toNat := by rw [z56, hz.1]; simp
    rw [← vz, ← vx, ← vy, ← z3z hl hx hy, z2a, z2a]
  · have : l = 7 := by omega
    subst this
    refine Ev.neg (by decide) ?_
    have v1 := z1s x.1
    have v2 := z1s x.2
    have v3 := z1s y.1
    have v4 := z1s y.2
    have m1 := z6r 6 (by decide) _ _ v1 v3
    have m2 := z6r 6 (by decide) _ _ v2 v4
    have m3 := z6r 6 (by decide) _ _ (z2r v1 v2) (z2r v3 v4)
    rw [z2a, z2a] at m1 m2
    rw [← z1N, ← z1N, z2a, z2a] at m3
    have m4 := z7F 6 (by decide) _ (z1s (x.1 * y.1))
    rw [z2a] at m4
    refine Ev.bnd m1 (Ev.bnd m2 ?_)
    have e1 : Go.bits .xor .u64 (hi x) (lo x) = ((val (x.1 + x.2) : Nat) : Int) := by unfold hi lo; rw [z2b _ _ v1 v2, z1N]
    have e2 : Go.bits .xor .u64 (hi y) (lo y) = ((val (y.1 + y.2) : Nat) : Int) := by unfold hi lo; rw [z2b _ _ v3 v4, z1N]
    simp only [e1, e2]
    refine Ev.bnd m3 (Ev.bnd m4 (Ev.ret' ?_))
    rw [z2b _ _ (z1s _) (z1s _), ← z1N, z2b _ _ (z1s _) (z1s _), ← z1N, z2b _ _ (z1s _) (z1s _), ← z1N, z2b _ _ (z1s _) (z1s _), ← z1N, karatsuba]
    rfl
/-- The program's element, the document's. -/
def toS (x : E) : S30 := ⟨hi x, lo x⟩
def toR (x : E) : S40 := ⟨hi x, lo x⟩
def WfS (e : S30) : Prop := (0 ≤ e.f0 ∧ e.f0 < 18446744073709551616) ∧ (0 ≤ e.f1 ∧ e.f1 < 18446744073709551616)
theorem z3d (x : E) : (toS x).f0 = hi x := rfl
theorem z3e (x : E) : (toS x).f1 = lo x := rfl
theorem z6D (x : E) : (toR x).f0 = hi x := rfl
theorem z6E (x : E) : (toR x).f1 = lo x := rfl
theorem z6G : toS 0 = z30 := by unfold toS; rw [z2Y, z2Z]; rfl
theorem toR_zero : toR 0 = z40 := by unfold toR; rw [z2Y, z2Z]; rfl
theorem toS_el (e : S30) (h : WfS e) : toS (el e.f0 e.f1) = e := by unfold toS; rw [hi_el h.1.1 h.1.2, lo_el h.2.1 h.2.2]
theorem toS_inj {x y : E} (h : toS x = toS y) : x = y := by
  unfold toS at h; injection h with h1 h2; exact z6o h1 h2
theorem wf_of {e : S30} (h : (Lit.int .u64 e.f0).wf = true ∧ (Lit.int .u64 e.f1).wf = true) : WfS e := ⟨wf_u64 h.1, wf_u64 h.2⟩
/-- A list that came in is a list of elements. -/
theorem z7C (l : List S30) (h : ∀ e ∈ l, ((Lit.int .u64 e.f0).wf = true) ∧ ((Lit.int .u64 e.f1).wf = true)) : ∃ X : List E, l = X.map toS := by
  refine ⟨l.map fun e => el e.f0 e.f1, ?_⟩
  rw [List.map_map]
  conv => lhs; rw [← List.map_id l]
  apply List.map_congr_left
  intro e he
  exact (toS_el e (wf_of (h e he))).symm
theorem elem_of (e : S30) (h : ((Lit.int .u64 e.f0).wf = true) ∧ ((Lit.int .u64 e.f1).wf = true)) : ∃ x : E, e = toS x := ⟨_, (toS_el e (wf_of h)).symm⟩
theorem rdS (X : List E) (i : Nat) : zi (X.map toS) (i : Int) = toS (X.getD i 0) := by
  unfold zi; rw [Int.toNat_natCast, ← z6G, List.getD_eq_getElem?_getD, List.getD_eq_getElem?_getD, List.getElem?_map]
  cases X[i]? <;> rfl
theorem rdR (X : List E) (i : Nat) : z1m (X.map toR) (i : Int) = toR (X.getD i 0) := by
  unfold z1m; rw [Int.toNat_natCast, ← toR_zero, List.getD_eq_getElem?_getD, List.getD_eq_getElem?_getD, List.getElem?_map]
  cases X[i]? <;> rfl
end Go.Proofs.Ytkhmpaooinpfoaa.Sp
/- The document's product by shifts and masks is the tower's. Own text; nothing of the program in it. -/
namespace Go.Proofs.Ytkhmpaooinpfoaa.Tw
set_option linter.unusedVariables false
set_option linter.unusedSimpArgs false
theorem z39 {n a b : Nat} (hb : b < Q n) : (a * Q n + b) / Q n = a := by rw [Nat.mul_comm, Nat.mul_add_div (z2B n), Nat.div_eq_of_lt hb, Nat.add_zero]
theorem z3a {n a b : Nat} (hb : b < Q n) : (a * Q n + b) % Q n = b := by rw [Nat.mul_comm, Nat.mul_add_mod, Nat.mod_eq_of_lt hb]
theorem z6j {n a b c d : Nat} (hb : b < Q n) (hd : d < Q n) : (a * Q n + b) &&& (c * Q n + d) = (a &&& c) * Q n + (b &&& d) := by
  have h1 : ((a * Q n + b) &&& (c * Q n + d)) / Q n = a &&& c := by
    have e1 := z39 (n := n) (a := a) hb
    have e2 := z39 (n := n) (a := c) hd
    unfold Q at *
    rw [Nat.and_div_two_pow, e1, e2]
  have h2 : ((a * Q n + b) &&& (c * Q n + d)) % Q n = b &&& d := by
    have e1 := z3a (n := n) (a := a) hb
    have e2 := z3a (n := n) (a := c) hd
    unfold Q at *
    rw [Nat.and_mod_two_pow, e1, e2]
  have := Nat.div_add_mod ((a * Q n + b) &&& (c * Q n + d)) (Q n)
  rw [h1, h2, Nat.mul_comm] at this
  exact this.symm
theorem z7N {n a b c d : Nat} (hb : b < Q n) (hd : d < Q n) : (a * Q n + b) ||| (c * Q n + d) = (a ||| c) * Q n + (b ||| d) := by
  have h1 : ((a * Q n + b) ||| (c * Q n + d)) / Q n = a ||| c := by
    have e1 := z39 (n := n) (a := a) hb
    have e2 := z39 (n := n) (a := c) hd
    unfold Q at *
    rw [Nat.or_div_two_pow, e1, e2]
  have h2 : ((a * Q n + b) ||| (c * Q n + d)) % Q n = b ||| d := by
    have e1 := z3a (n := n) (a := a) hb
    have e2 := z3a (n := n) (a := c) hd
    unfold Q at *
    rw [Nat.or_mod_two_pow, e1, e2]
  have := Nat.div_add_mod ((a * Q n + b) ||| (c * Q n + d)) (Q n)
  rw [h1, h2, Nat.mul_comm] at this
  exact this.symm
theorem or_lt {n x y : Nat} (hx : x < Q n) (hy : y < Q n) : x ||| y < Q n := Nat.or_lt_two_pow hx hy
/-- The lower halves of all blocks of 2^(j+1) bits in a word of 2^n. -/
def M (j : Nat) : Nat → Nat
  | 0 => 0
  | n + 1 => if n = j then Q j - 1 else if n < j then 0 else M j n * Q n + M j n
theorem M_base (j : Nat) : M j (j + 1) = Q j - 1 := by simp [M]
theorem z79 {j n : Nat} (h : j + 1 ≤ n) : M j (n + 1) = M j n * Q n + M j n := by
  rw [M, if_neg (by omega), if_neg (by omega)]
/-- What is left of a word without its highest block of 2^j bits. -/
def H (j n : Nat) : Nat := 2 ^ (2 ^ n - 2 ^ j)
theorem z6K {j n : Nat} (h : j ≤ n) : H j n * Q j = Q n := by
  have := Nat.pow_le_pow_right (show 2 > 0 by decide) h
  unfold H Q; rw [← Nat.pow_add, Nat.sub_add_cancel this]
theorem H_pos (j n : Nat) : 0 < H j n := Nat.two_pow_pos _
theorem z78 {j n : Nat} (h : j ≤ n) : H j (n + 1) = H j n * Q n := by
  have := Nat.pow_le_pow_right (show 2 > 0 by decide) h
  unfold H Q; rw [← Nat.pow_add]; congr 1; rw [Nat.pow_succ]; omega
theorem H_self (j : Nat) : H j j = 1 := by unfold H; rw [Nat.sub_self, Nat.pow_zero]
theorem H_base (j : Nat) : H j (j + 1) = Q j := by rw [z78 (Nat.le_refl _), H_self, Nat.one_mul]
theorem H_le {j n : Nat} (h : j ≤ n) : H j n ≤ Q n := by rw [← z6K h]; exact Nat.le_mul_of_pos_right _ (z2B j)
theorem lt_H_mul {j n x : Nat} (h : j ≤ n) (hx : x < H j n) : x * Q j < Q n := by
  rw [← z6K h]; exact Nat.mul_lt_mul_of_pos_right hx (z2B j)
theorem M_lt {j : Nat} : ∀ d, M j (j + 1 + d) < H j (j + 1 + d)
  | 0 => by rw [Nat.add_zero, M_base, H_base]; have := z2B j; omega
  | d + 1 => by
    have ih := M_lt (j := j) d
    rw [← Nat.add_assoc, z79 (by omega), z78 (by omega)]
    have h2 : M j (j + 1 + d) < Q (j + 1 + d) := Nat.lt_of_lt_of_le ih (H_le (by omega))
    have h3 : M j (j + 1 + d) * Q (j + 1 + d) + Q (j + 1 + d) ≤ H j (j + 1 + d) * Q (j + 1 + d) := by
      have := Nat.mul_le_mul_right (Q (j + 1 + d)) ih
      rw [Nat.succ_mul] at this; exact this
    omega
theorem M_lt' {j n : Nat} (h : j + 1 ≤ n) : M j n < H j n := by
  obtain ⟨d, rfl⟩ := Nat.le.dest h; exact M_lt d
theorem M_lt_Q {j n : Nat} (h : j + 1 ≤ n) : M j n < Q n := Nat.lt_of_lt_of_le (M_lt' h) (H_le (by omega))
theorem z2D {x m b : Nat} (h : m < b) : x &&& m < b := Nat.lt_of_le_of_lt Nat.and_le_right h
/-- A word times the generator of the level j, block by block. -/
def tw (n : Nat) : Nat → Nat → Nat
  | 0, v => v
  | j + 1, v => (((v &&& M j n) ^^^ tw n j ((v / Q j) &&& M j n)) * Q j) % Q n ||| ((v / Q j) &&& M j n)
theorem z5M (j : Nat) : val (gen j) < Q j := z1s _
theorem z6z {j g : Nat} (hg : g < Q j) : ∀ d u, u < H j (j + d) → val (of (j + d) g * of (j + d) u) < H j (j + d)
  | 0, u, hu => by
    rw [Nat.add_zero, H_self] at hu ⊢
    have : u = 0 := by omega
    rw [this, z31, z2x, z1G]; decide
  | d + 1, u, hu => by
    rw [← Nat.add_assoc] at hu ⊢
    rw [z78 (Nat.le_add_right _ _)] at hu ⊢
    have hg' : g < Q (j + d) := Nat.lt_of_lt_of_le hg (z3l (Nat.le_add_right _ _))
    have e1 : of (j + d + 1) g = up (of (j + d) g) := z5P hg'
    rw [e1, z3J, z1P, z2w, z2E, z2l, z2w, z2E]
    have h1 := z6z hg d (u / Q (j + d)) (Nat.div_lt_of_lt_mul (by rw [Nat.mul_comm]; exact hu))
    have h2 := z1s (of (j + d) g * of (j + d) (u % Q (j + d)))
    have h3 : val (of (j + d) g * of (j + d) (u / Q (j + d))) * Q (j + d) + Q (j + d) ≤ H j (j + d) * Q (j + d) := by
      have := Nat.mul_le_mul_right (Q (j + d)) h1
      rw [Nat.succ_mul] at this; exact this
    omega
theorem tw_split {j : Nat} (C : ∀ n, j ≤ n → ∀ v, v < Q n → tw n j v = val (of n (val (gen j)) * of n v)) (D : ∀ n, j ≤ n → ∀ h l, h < Q n → l < Q n → tw (n + 1) j (h * Q n + l) = tw n j h * Q n + tw n j l) :
    ∀ n, j + 1 ≤ n → ∀ h l, h < Q n → l < Q n → tw (n + 1) (j + 1) (h * Q n + l) = tw n (j + 1) h * Q n + tw n (j + 1) l ∧ tw n (j + 1) l < Q n := by
  intro n hn h l hh hl
  have hM := M_lt' hn
  have hMQ := M_lt_Q hn
  have hjn : j ≤ n := by omega
  have hQj := z2B j
  -- the higher parts
  have hdiv : (h * Q n + l) / Q j = (h / Q j) * Q n + ((h % Q j) * H j n + l / Q j) := by
    have e1 : h * Q n = (h * H j n) * Q j := by rw [← z6K hjn, Nat.mul_assoc]
    rw [e1, Nat.mul_comm (h * H j n), Nat.mul_add_div hQj]
    have e2 := Nat.div_add_mod h (Q j)
    have e3 : h * H j n = (h / Q j) * Q n + (h % Q j) * H j n := by
      conv => lhs; rw [← e2]
      rw [Nat.add_mul, ← z6K hjn]
      congr 1
      rw [Nat.mul_comm (Q j), Nat.mul_assoc, Nat.mul_comm (Q j)]
    rw [e3, Nat.add_assoc]
  have hlq : l / Q j < H j n := Nat.div_lt_of_lt_mul (by rw [Nat.mul_comm, z6K hjn]; exact hl)
  have hl' : (h % Q j) * H j n + l / Q j < Q n := by
    have h1 : (h % Q j) * H j n + H j n ≤ Q j * H j n := by
      have := Nat.mul_le_mul_right (H j n) (Nat.mod_lt h hQj)
      rw [Nat.succ_mul] at this; exact this
    rw [Nat.mul_comm (Q j), z6K hjn] at h1
    omega
  have hand : ((h % Q j) * H j n + l / Q j) &&& M j n = (l / Q j) &&& M j n := by
    have e1 : ∀ x, x &&& M j n = (x % H j n) &&& M j n := fun x => by
      have h3 : x &&& M j n < H j n := z2D hM
      have h4 : (x &&& M j n) % H j n = x &&& M j n := Nat.mod_eq_of_lt h3
      rw [← h4]; unfold H; rw [Nat.and_mod_two_pow]
      rw [show M j n % 2 ^ (2 ^ n - 2 ^ j) = M j n from Nat.mod_eq_of_lt hM]
    rw [e1, Nat.mul_comm, Nat.mul_add_mod, ← e1]
  have hhi : ((h * Q n + l) / Q j) &&& M j (n + 1) = ((h / Q j) &&& M j n) * Q n + ((l / Q j) &&& M j n) := by
    rw [z79 hn, hdiv, z6j hl' hMQ, hand]
  have hlo : (h * Q n + l) &&& M j (n + 1) = (h &&& M j n) * Q n + (l &&& M j n) := by rw [z79 hn, z6j hl hMQ]
  have b1 : (h / Q j) &&& M j n < Q n := z2D hMQ
  have b2 : (l / Q j) &&& M j n < Q n := z2D hMQ
  have b3 : l &&& M j n < H j n := z2D hM
  have b4 : (l / Q j) &&& M j n < H j n := z2D hM
  have b5 : tw n j ((l / Q j) &&& M j n) < H j n := by
    rw [C n hjn _ b2]
    obtain ⟨d, rfl⟩ := Nat.le.dest hjn
    exact z6z (z5M j) d _ b4
  have b6 : (l &&& M j n) ^^^ tw n j ((l / Q j) &&& M j n) < H j n := Nat.xor_lt_two_pow b3 b5
  have b7 := lt_H_mul hjn b6
  have b8 : tw n j ((l / Q j) &&& M j n) < Q n := Nat.lt_of_lt_of_le b5 (H_le hjn)
  have b9 : l &&& M j n < Q n := z2D hMQ
  constructor
  · simp only [tw]
    rw [hhi, hlo, D n hjn _ _ b1 b2, z6I b9 b8, Nat.add_mul]
    have e5 : ∀ X Y : Nat, Y < Q n → (X * Q n * Q j + Y) % Q (n + 1) = ((X * Q j) % Q n) * Q n + Y := by
      intro X Y hY
      rw [show X * Q n * Q j = X * Q j * Q n by rw [Nat.mul_assoc, Nat.mul_comm (Q n), ← Nat.mul_assoc], z2U]
      rw [Nat.mul_comm (X * Q j), Nat.mod_mul, Nat.mul_add_mod, Nat.mod_eq_of_lt hY, Nat.mul_add_div (z2B n), Nat.div_eq_of_lt hY, Nat.add_zero, Nat.mul_comm (Q n), Nat.add_comm]
    rw [e5 _ _ b7, z7N b7 b2, Nat.mod_eq_of_lt b7]
  · simp only [tw]
    exact or_lt (Nat.mod_lt _ (z2B n)) b2
theorem z80 : ∀ j, (∀ n, j ≤ n → ∀ v, v < Q n → tw n j v = val (of n (val (gen j)) * of n v)) ∧ (∀ n, j ≤ n → ∀ h l, h < Q n → l < Q n → tw (n + 1) j (h * Q n + l) = tw n j h * Q n + tw n j l)
  | 0 => ⟨fun n _ v hv => by rw [z6n, z2N, of_one, one_mul, z2h _ _ hv]; rfl, fun n _ h l _ _ => rfl⟩
  | j + 1 => by
    obtain ⟨C, D⟩ := z80 j
    have D' := tw_split C D
    refine ⟨?_, fun n hn h l hh hl => (D' n hn h l hh hl).1⟩
    intro n hn
    obtain ⟨d, rfl⟩ := Nat.le.dest hn
    clear hn
    induction d with
    | zero =>
      intro v hv
      rw [Nat.add_zero] at hv ⊢
      have hQj := z2B j
      have hd : v / Q j < Q j := Nat.div_lt_of_lt_mul (by rw [← z2U]; exact hv)
      have hm : v % Q j < Q j := Nat.mod_lt _ hQj
      have hmask : ∀ x, x &&& M j (j + 1) = x % Q j := fun x => by rw [M_base]; unfold Q; rw [Nat.and_two_pow_sub_one_eq_mod]
      have e1 : tw (j + 1) j (v / Q j) = val (gen j * of j (v / Q j)) := by
        rw [C (j + 1) (by omega) _ (Nat.lt_of_lt_of_le hd (z7b j)), z4C (d := 1) (z5M j) hd, z2a]
      simp only [tw]
      rw [hmask, hmask, Nat.mod_eq_of_lt hd, e1]
      have hv2 := z1s (gen j * of j (v / Q j))
      have hX := z2r hm hv2
      rw [Nat.mod_eq_of_lt (show _ * Q j < Q (j + 1) by rw [z2U]; exact Nat.mul_lt_mul_of_pos_right hX hQj)]
      have hor : ∀ X, X * Q j ||| (v / Q j) = X * Q j + v / Q j := fun X => by
        have := z7N (n := j) (a := X) (b := 0) (c := 0) (d := v / Q j) hQj hd
        simpa using this
      rw [hor, z2a, z1P]
      congr 1
      · congr 1
        rw [z2j, z2W, z2X, one_mul, zero_mul, one_mul, add_zero, z2l, z2w, z2E, z1N, z2h _ _ hm]
      · rw [z2k, z2W, z2X, one_mul, zero_mul, zero_add, z2l, z2w, z2h _ _ hd]
    | succ d ih =>
      intro v hv
      rw [← Nat.add_assoc] at hv ⊢
      have hvd := Nat.div_add_mod v (Q (j + 1 + d))
      rw [Nat.mul_comm] at hvd
      have h1 : v / Q (j + 1 + d) < Q (j + 1 + d) := Nat.div_lt_of_lt_mul (by rw [← z2U]; exact hv)
      have h2 : v % Q (j + 1 + d) < Q (j + 1 + d) := Nat.mod_lt _ (z2B _)
      have hg : val (gen (j + 1)) < Q (j + 1 + d) := Nat.lt_of_lt_of_le (z5M (j + 1)) (z3l (Nat.le_add_right _ _))
      have e1 : of (j + 1 + d + 1) (val (gen (j + 1))) = up (of (j + 1 + d) (val (gen (j + 1)))) := z5P hg
      rw [e1, z3J, z1P, z2w, z2E, z2l, z2w, z2E, ← ih _ h1, ← ih _ h2]
      conv => lhs; rw [← hvd]
      exact (D' (j + 1 + d) (by omega) _ _ h1 h2).1
theorem tw_eq {j n v : Nat} (h : j ≤ n) (hv : v < Q n) : tw n j v = val (of n (val (gen j)) * of n v) := (z80 j).1 n h v hv
/-- A bit of a level is a product of generators. -/
def gp (n : Nat) : Nat → Nat → T n
  | 0, _ => 1
  | m + 1, i => (if i.testBit m then of n (val (gen (m + 1))) else 1) * gp n m i
theorem gp_up {n : Nat} : ∀ m i, m ≤ n → gp (n + 1) m i = up (gp n m i)
  | 0, i, _ => rfl
  | m + 1, i, h => by
    show (if i.testBit m then of (n + 1) (val (gen (m + 1))) else 1) * gp (n + 1) m i = up ((if i.testBit m then of n (val (gen (m + 1))) else 1) * gp n m i)
    rw [up_mul, gp_up m i (by omega)]
    congr 1
    split
    · exact z5P (Nat.lt_of_lt_of_le (z5M (m + 1)) (z3l h))
    · rfl
theorem gp_mod {n : Nat} : ∀ m i k, m ≤ k → gp n m (i % 2 ^ k) = gp n m i
  | 0, i, k, _ => rfl
  | m + 1, i, k, h => by
    show (if (i % 2 ^ k).testBit m then _ else _) * gp n m (i % 2 ^ k) = (if i.testBit m then _ else _) * gp n m i
    rw [gp_mod m i k (by omega), Nat.testBit_mod_two_pow, decide_eq_true (by omega), Bool.true_and]
theorem gp_bit : ∀ n i, i < 2 ^ n → gp n n i = of n (2 ^ i)
  | 0, i, h => by
    have : i = 0 := by simpa using h
    rw [this]; rfl
  | n + 1, i, h => by
    show (if i.testBit n then of (n + 1) (val (gen (n + 1))) else 1) * gp (n + 1) n i = of (n + 1) (2 ^ i)
    rw [gp_up n i (Nat.le_refl _), ← gp_mod n i n (Nat.le_refl _), gp_bit n _ (Nat.mod_lt _ (Nat.two_pow_pos n))]
    rw [Nat.pow_succ] at h
    by_cases c : i < 2 ^ n
    · rw [Nat.testBit_lt_two_pow c, Nat.mod_eq_of_lt c]
      rw [z5P (show 2 ^ i < Q n from Nat.pow_lt_pow_right (by decide) c)]
      simp only [Bool.false_eq_true, if_false, one_mul]; rfl
    · have hi : i % 2 ^ n = i - 2 ^ n := by rw [Nat.mod_eq_sub_mod (by omega), Nat.mod_eq_of_lt (by omega)]
      have hb : i.testBit n = true := by
        have := Nat.testBit_two_pow_add_eq (i - 2 ^ n) n
        rw [show 2 ^ n + (i - 2 ^ n) = i by omega, Nat.testBit_lt_two_pow (show i - 2 ^ n < 2 ^ n by omega)] at this
        simpa using this
      rw [hb, if_pos rfl, hi, z2a]
      have e : 2 ^ i = 2 ^ (i - 2 ^ n) * Q n + 0 := by
        unfold Q; rw [← Nat.pow_add, Nat.add_zero]; congr 1; omega
      rw [e, z2l, z39 (z2B n), z3a (z2B n), z31]
      apply ext
      · rw [z2j, z2W, z2X, z3f, z54, one_mul, zero_mul, z2x, z2x, add_zero, add_zero]; rfl
      · rw [z2k, z2W, z2X, z3f, zero_mul, z2x, add_zero]; rfl
/-- An element is the sum of its bits. -/
theorem bits_sum {n : Nat} (b k : Nat) (hb : b < Q n) (hk : k < 2 ^ n) : of n (b % 2 ^ (k + 1)) = of n (b % 2 ^ k) + (if b.testBit k then of n (2 ^ k) else 0) := by
  have h2 : 2 ^ k < Q n := Nat.pow_lt_pow_right (by decide) hk
  have h1 : b % 2 ^ k < Q n := Nat.lt_trans (Nat.mod_lt _ (Nat.two_pow_pos k)) h2
  have e : b % 2 ^ (k + 1) = b % 2 ^ k ^^^ (if b.testBit k then 2 ^ k else 0) := by
    apply Nat.eq_of_testBit_eq
    intro i
    rw [Nat.testBit_xor, Nat.testBit_mod_two_pow, Nat.testBit_mod_two_pow]
    by_cases hi : i = k
    · subst hi
      cases hbi : b.testBit i <;> simp
    · by_cases hlt : i < k
      · have : decide (i < k + 1) = true := decide_eq_true (by omega)
        rw [this, decide_eq_true hlt]
        split
        · rw [Nat.testBit_two_pow_of_ne (by omega)]; simp
        · simp
      · rw [decide_eq_false (by omega), decide_eq_false hlt]
        split
        · rw [Nat.testBit_two_pow_of_ne (by omega)]; simp
        · simp
  rw [e]
  split
  · rw [z7I h1 h2]
  · rw [Nat.xor_zero, add_zero]
end Go.Proofs.Ytkhmpaooinpfoaa.Tw
/- The document's product of elements is the tower's. Own text. -/
namespace Go.Proofs.Ytkhmpaooinpfoaa.Sp
open Go.RowKit Go.Proofs.YtkhmpaooinpfoaaW.PrintWords Go.Proofs.YtkhmpaooinpfoaaW.PrintMore Go.Proofs.Ytkhmpaooinpfoaa.P Go.Proofs.Ytkhmpaooinpfoaa.Ar Go.Proofs.Ytkhmpaooinpfoaa.Tw
set_option linter.unusedVariables false
set_option linter.unusedSimpArgs false
theorem z7E : ∀ j : Nat, j < 6 → z1c.f (j : Int) = some ((M j 6 : Nat) : Int) := by decide +kernel
theorem tw_lt {j v : Nat} (hj : j ≤ 6) (hv : v < Q 6) : tw 6 j v < Q 6 := by rw [tw_eq hj hv]; exact z1s _
theorem shlw (a w : Nat) (hw : w ≤ 64) : shl .u64 (a : Int) (w : Int) = (((a * 2 ^ w) % 2 ^ 64 : Nat) : Int) := by
  unfold shl
  have h64 : IntKind.u64.bits = 64 := rfl
  rw [h64, Int.toNat_natCast, Nat.min_eq_left hw]
  have hc : ((a : Int) * 2 ^ w) = ((a * 2 ^ w : Nat) : Int) := by simp
  rw [hc]
  simp [IntKind.wrap, IntKind.bits, IntKind.signed]
theorem z35 : ∀ (j : Nat), j ≤ 6 → ∀ (v : Nat), v < Q 6 → Ev (fun k => zt.f k ((j : Int) - 1) (v : Int)) ((tw 6 j v : Nat) : Int) := by
  intro j
  induction j with
  | zero =>
    intro _ v hv
    have h0 : (((0 : Nat) : Int) - 1) < 0 := by decide
    refine Ev.step (fun k => by rw [zt.f]) (Ev.pos h0 ?_)
    exact Ev.ret' rfl
  | succ j ih =>
    intro hj v hv
    have h32 := z2g (n := j) (by omega)
    have hw : IntKind.u64.wrap (((j + 1 : Nat) : Int) - 1) = (j : Int) := by rw [z2Q (by omega) (by omega)]; omega
    have hw2 : wrap64 (((j + 1 : Nat) : Int) - 1 - 1) = (j : Int) - 1 := by rw [z2n (by omega) (by omega)]; omega
    have hj1 : (((j + 1 : Nat) : Int) - 1) = (j : Int) := by omega
    have hQ6 : Q 6 = 2 ^ 64 := rfl
    have hM : M j 6 < 2 ^ 64 := by rw [← hQ6]; exact M_lt_Q (by omega)
    have hd : v / 2 ^ 2 ^ j < 2 ^ 64 := Nat.lt_of_le_of_lt (Nat.div_le_self _ _) hv
    have hhi : (v / 2 ^ 2 ^ j) &&& M j 6 < 2 ^ 64 := Nat.and_lt_two_pow _ hM
    have hlo : v &&& M j 6 < 2 ^ 64 := Nat.and_lt_two_pow _ hM
    have hrec := ih (by omega) _ hhi
    have htw : tw 6 j ((v / 2 ^ 2 ^ j) &&& M j 6) < 2 ^ 64 := tw_lt (by omega) hhi
    rw [hj1] at hw hw2 ⊢
    refine Ev.step (fun k => by rw [zt.f]) (Ev.neg (by omega) ?_)
    simp only [hw]
    refine Ev.pos (Int.natCast_nonneg _) (Ev.bnd0 (z7E j (by omega)) (Ev.bnd0 (z7E j (by omega)) ?_))
    simp only [z34 j (by omega), z5u v (2 ^ j) (by omega), z2z _ _ hd hM, z2z _ _ hv hM, hw2]
    refine Ev.bnd hrec (Ev.ret' ?_)
    rw [z2b _ _ hlo htw, shlw _ _ (by omega), z6t _ _ (Nat.mod_lt _ (by decide)) hhi]
    rfl
/-- The generator of a level, as an element of the greatest one. -/
def gE (m : Nat) : E := of 7 (val (gen m))
theorem tw_hi {j : Nat} (hj : j ≤ 6) (x : T 6) : tw 6 j (val x) = val (of 6 (val (gen j)) * x) := by rw [tw_eq hj (z1s x), z2a]
theorem Times_ev (j : Nat) (hj : j ≤ 6) (x : E) : Ev (fun k => zB.f k (j : Int) (hi x) (lo x)) (hi (gE (j + 1) * x), lo (gE (j + 1) * x)) := by
  unfold zB.f
  by_cases c : j < 6
  · refine Ev.pos (by omega) ?_
    have h1 := z35 (j + 1) (by omega) (val x.1) (z1s x.1)
    have h2 := z35 (j + 1) (by omega) (val x.2) (z1s x.2)
    rw [show (((j + 1 : Nat) : Int) - 1) = (j : Int) by omega] at h1 h2
    refine Ev.bnd h1 (Ev.bnd h2 (Ev.ret' ?_))
    have e : gE (j + 1) = up (of 6 (val (gen (j + 1)))) := z5P (Nat.lt_of_lt_of_le (z5M (j + 1)) (z3l (by omega)))
    rw [e, z3J, tw_hi (by omega), tw_hi (by omega)]; rfl
  · have : j = 6 := by omega
    subst this
    refine Ev.neg (by decide) ?_
    have h1 := z35 6 (by omega) (val x.1) (z1s x.1)
    refine Ev.bnd h1 (Ev.ret' ?_)
    have e : gE 7 = gen 7 := z2a _
    have ev : of 6 (val (gen 6)) = gen 6 := z2a _
    rw [tw_hi (by omega), e, ev]
    unfold hi lo
    rw [z2b _ _ (z1s _) (z1s _), ← z1N]
    have m1 : (gen 7 * x).1 = x.2 + gen 6 * x.1 := by rw [z2j, z2W, z2X, one_mul, zero_mul, one_mul, add_zero]
    have m2 : (gen 7 * x).2 = x.1 := by rw [z2k, z2W, z2X, one_mul, zero_mul, zero_add]
    rw [m1, m2]
/-- The element with one bit. -/
def bitE (n : Nat) : E := of 7 (2 ^ n)
theorem z69 {n : Nat} (hn : n < 128) : hi (bitE n) = (if n < 64 then 0 else ((2 ^ (n - 64) : Nat) : Int)) ∧ lo (bitE n) = (if n < 64 then ((2 ^ n : Nat) : Int) else 0) := by
  unfold bitE hi lo
  rw [z2l, z2w, z2E]
  have hQ : Q 6 = 2 ^ 64 := rfl
  by_cases c : n < 64
  · have h1 : 2 ^ n < Q 6 := by rw [hQ]; exact Nat.pow_lt_pow_right (by decide) c
    rw [if_pos c, if_pos c, Nat.div_eq_of_lt h1, Nat.mod_eq_of_lt h1, z2h _ _ h1, z31, z1G]; exact ⟨rfl, rfl⟩
  · have e : 2 ^ n = 2 ^ (n - 64) * Q 6 + 0 := by rw [hQ, ← Nat.pow_add, Nat.add_zero]; congr 1; omega
    have h2 : 2 ^ (n - 64) < Q 6 := by rw [hQ]; exact Nat.pow_lt_pow_right (by decide) (by omega)
    rw [if_neg c, if_neg c, e, z39 (z2B 6), z3a (z2B 6), z2h _ _ h2, z31, z1G]; exact ⟨rfl, rfl⟩
theorem z7W (n : Nat) (hn : n < 128) : Ev (fun k => zM.f k (n : Int)) (hi (bitE n), lo (bitE n)) := by
  obtain ⟨h1, h2⟩ := z69 hn
  unfold zM.f
  refine Ev.neg (by omega) ?_
  rw [decide_eq_false (show ¬ ((n : Int) > 127) by omega), h1, h2]
  refine Ev.step (fun k => by rw [zM.j0]) (Ev.neg (by decide) ?_)
  by_cases c : n < 64
  · rw [if_pos c, if_pos c]
    refine Ev.neg (by omega) ?_
    rw [z2Q (by omega) (by omega)]
    exact Ev.pos (Int.natCast_nonneg _) (Ev.ret' (by rw [z34 n (by omega)]))
  · rw [if_neg c, if_neg c]
    refine Ev.pos (by omega) ?_
    have e : IntKind.u64.wrap (wrap64 ((n : Int) - 64)) = ((n - 64 : Nat) : Int) := by
      rw [z2n (by omega) (by omega), z2Q (by omega) (by omega)]; omega
    rw [e]
    exact Ev.pos (Int.natCast_nonneg _) (Ev.ret' (by rw [z34 (n - 64) (by omega)]))
theorem z4X (x n : Nat) : (x &&& 2 ^ n ≠ 0) ↔ x.testBit n = true := by
  constructor
  · intro h
    cases hb : x.testBit n with
    | true => rfl
    | false =>
      exfalso; apply h
      apply Nat.eq_of_testBit_eq
      intro i
      rw [Nat.testBit_and, Nat.zero_testBit]
      by_cases e : i = n
      · subst e; rw [hb, Bool.false_and]
      · rw [Nat.testBit_two_pow_of_ne (by omega), Bool.and_false]
  · intro h e
    have := congrArg (fun z => z.testBit n) e
    simp only [Nat.testBit_and, Nat.testBit_two_pow_self, Bool.and_true, Nat.zero_testBit] at this
    rw [h] at this; cases this
theorem hasBits (x : E) (n : Nat) (hn : n < 128) : ((Go.bits .or .u64 (Go.bits .and .u64 (lo x) (lo (bitE n))) (Go.bits .and .u64 (hi x) (hi (bitE n)))) != 0) = (val x).testBit n := by
  obtain ⟨h1, h2⟩ := z69 hn
  have hx1 := z1s x.1
  have hx2 := z1s x.2
  have hQ : Q 6 = 2 ^ 64 := rfl
  rw [hQ] at hx1 hx2
  have hv : val x = 2 ^ 64 * val x.1 + val x.2 := by rw [z1P, hQ, Nat.mul_comm]
  rw [h1, h2, hv]
  unfold hi lo
  by_cases c : n < 64
  · rw [if_pos c, if_pos c]
    have hp : 2 ^ n < 2 ^ 64 := Nat.pow_lt_pow_right (by decide) c
    have z : (0 : Int) = ((0 : Nat) : Int) := rfl
    rw [z, z2z _ _ hx2 hp, z2z _ _ hx1 (by decide), z6t _ _ (Nat.and_lt_two_pow _ hp) (Nat.and_lt_two_pow _ (by decide)), Nat.and_zero, Nat.or_zero]
    rw [Nat.testBit_two_pow_mul_add _ hx2, if_pos c, Bool.eq_iff_iff, ← z4X, bne_iff_ne]
    exact ⟨fun h e => h (by rw [e]), fun h e => h (by exact_mod_cast e)⟩
  · rw [if_neg c, if_neg c]
    have hp : 2 ^ (n - 64) < 2 ^ 64 := Nat.pow_lt_pow_right (by decide) (by omega)
    have z : (0 : Int) = ((0 : Nat) : Int) := rfl
    rw [z, z2z _ _ hx1 hp, z2z _ _ hx2 (by decide), z6t _ _ (Nat.and_lt_two_pow _ (by decide)) (Nat.and_lt_two_pow _ hp), Nat.and_zero, Nat.zero_or]
    rw [Nat.testBit_two_pow_mul_add _ hx2, if_neg c, Bool.eq_iff_iff, ← z4X, bne_iff_ne]
    exact ⟨fun h e => h (by rw [e]), fun h e => h (by exact_mod_cast e)⟩
theorem Has_ev (x : E) (n : Nat) (hn : n < 128) : Ev (fun k => zS.f k (hi x) (lo x) (n : Int)) ((val x).testBit n) := by
  unfold zS.f
  exact Ev.bnd (z7W n hn) (Ev.ret' (hasBits x n hn))
theorem and_one (n j : Nat) (hn : n < 2 ^ 63) (hj : j ≤ 64) : Go.bits .and .i64 (shr .i64 (n : Int) (j : Int)) 1 = (((n / 2 ^ j) % 2 : Nat) : Int) := by
  rw [shr_i64 n j hj]
  have := z5F (n / 2 ^ j) 1 (Nat.lt_of_le_of_lt (Nat.div_le_self _ _) hn) (by decide)
  simpa using this
theorem prod_l1 (a b acc : E) (n : Nat) (hn : n < 128) {R : Int × Int} (hk : Ev (fun k => zh.l0 k ((n + 1 : Nat) : Int) (hi a) (lo a) (hi b) (lo b) (hi (acc + gp 7 7 n * a)) (lo (acc + gp 7 7 n * a))) R) :
    ∀ (d j : Nat), j + d = 7 → Ev (fun k => zh.l1 k (n : Int) (j : Int) (hi a) (lo a) (hi b) (lo b) (hi acc) (lo acc) (hi (gp 7 j n * a)) (lo (gp 7 j n * a))) R := by
  intro d
  induction d with
  | zero =>
    intro j hj
    have : j = 7 := by omega
    subst this
    refine Ev.step (fun k => by rw [zh.l1]) (Ev.neg (by decide) (Ev.bnd0 (z4u acc _) ?_))
    simp only [z1H hn (by decide)]
    exact hk
  | succ d ih =>
    intro j hj
    have hu : IntKind.u64.wrap (j : Int) = (j : Int) := z2Q (by omega) (by omega)
    have hih := ih (j + 1) (by omega)
    refine Ev.step (fun k => by rw [zh.l1]) (Ev.pos (by omega) ?_)
    simp only [hu, and_one n j (Nat.lt_trans hn (by decide)) (by omega), z1H (show j < 7 by omega) (by decide)]
    refine Ev.pos (Int.natCast_nonneg _) ?_
    have hgp : gp 7 (j + 1) n = (if n.testBit j then of 7 (val (gen (j + 1))) else 1) * gp 7 j n := rfl
    have htb : n.testBit j = decide ((n / 2 ^ j) % 2 = 1) := by rw [Nat.testBit_eq_decide_div_mod_eq]
    by_cases c : (n / 2 ^ j) % 2 = 1
    · refine Ev.pos (by omega) (Ev.bnd (Times_ev j (by omega) _) ?_)
      rw [hgp, htb, decide_eq_true c, if_pos rfl, mul_assoc] at hih
      exact hih
    · refine Ev.neg (by omega) ?_
      rw [hgp, htb, decide_eq_false c, if_neg (by decide), one_mul] at hih
      exact hih
theorem prod_l0 (a b : E) : ∀ (d n : Nat), n + d = 128 → Ev (fun k => zh.l0 k (n : Int) (hi a) (lo a) (hi b) (lo b) (hi (of 7 (val b % 2 ^ n) * a)) (lo (of 7 (val b % 2 ^ n) * a))) (hi (b * a), lo (b * a)) := by
  intro d
  induction d with
  | zero =>
    intro n hn
    have : n = 128 := by omega
    subst this
    have hb : val b % 2 ^ 128 = val b := Nat.mod_eq_of_lt (by have := z1s b; rw [z63] at this; exact this)
    rw [hb, z2a]
    exact Ev.step (fun k => by rw [zh.l0]) (Ev.neg (by decide) (Ev.ret _))
  | succ d ih =>
    intro n hn
    have hn' : n < 128 := by omega
    have hih := ih (n + 1) (by omega)
    rw [bits_sum (val b) n (z1s b) (by simpa using hn')] at hih
    refine Ev.step (fun k => by rw [zh.l0]) (Ev.pos (by omega) (Ev.bnd (Has_ev b n hn') ?_))
    cases c : (val b).testBit n with
    | true =>
      refine Ev.pos rfl ?_
      rw [c, if_pos rfl, add_mul, ← gp_bit 7 n (by simpa using hn')] at hih
      have := prod_l1 a b _ n hn' hih 7 0 (by omega)
      have e0 : gp 7 0 n * a = a := one_mul a
      rw [e0] at this
      exact this
    | false =>
      refine Ev.neg (by decide) ?_
      rw [c, if_neg (by decide), add_zero] at hih
      simp only [z1H hn' (by decide)]
      exact hih
theorem z4R (x y : E) : Ev (fun k => zh.f k (hi x) (lo x) (hi y) (lo y)) (hi (x * y), lo (x * y)) := by
  unfold zh.f
  have := prod_l0 x y 128 0 (by decide)
  rw [Nat.pow_zero, Nat.mod_one, z31, zero_mul, z2Y, z2Z, mul_comm y x] at this
  exact this
end Go.Proofs.Ytkhmpaooinpfoaa.Sp
/- Lists of elements: which are of a level, the same ones, the document's. Own text. -/
namespace Go.Proofs.Ytkhmpaooinpfoaa.Sp
open Go.RowKit Go.Proofs.YtkhmpaooinpfoaaW.PrintWords Go.Proofs.YtkhmpaooinpfoaaW.PrintMore Go.Proofs.Ytkhmpaooinpfoaa.P Go.Proofs.Ytkhmpaooinpfoaa.Ar Go.Proofs.Ytkhmpaooinpfoaa.Tw
set_option linter.unusedVariables false
set_option linter.unusedSimpArgs false
/-- Is there such a level? -/
def LvS (L : Int) : Prop := 0 ≤ L ∧ L ≤ 7
instance (L : Int) : Decidable (LvS L) := by unfold LvS; infer_instance
theorem z6H {L : Int} (h : ¬ LvS L) : Ev (fun k => zR.f k L) 0 := by
  unfold zR.f
  by_cases h0 : L < 0
  · exact Ev.pos h0 (Ev.step (fun k => by rw [zR.j0]) (Ev.pos rfl (Ev.ret _)))
  · rw [decide_eq_true (show L > 7 by unfold LvS at h; omega)]
    exact Ev.neg h0 (Ev.step (fun k => by rw [zR.j0]) (Ev.pos rfl (Ev.ret _)))
theorem z85 {L : Int} (h : LvS L) : ∃ v, v ≠ 0 ∧ Ev (fun k => zR.f k L) v := by
  obtain ⟨h0, h7⟩ := h
  obtain ⟨l, rfl⟩ := Int.eq_ofNat_of_zero_le h0
  have hstep : ∀ v, Ev (fun k => zR.j0 k (l : Int) false) v → Ev (fun k => zR.f k (l : Int)) v := by
    intro v hv
    unfold zR.f
    rw [decide_eq_false (show ¬ ((l : Int) > 7) by omega)]
    exact Ev.neg (by omega) hv
  by_cases c : (l : Int) ≤ 3
  · exact ⟨1, by decide, hstep 1 (Ev.step (fun k => by rw [zR.j0]) (Ev.neg (by decide) (Ev.pos c (Ev.ret _))))⟩
  · have e : wrap64 ((l : Int) - 3) = ((l - 3 : Nat) : Int) := by rw [z2n (by omega) (by omega)]; omega
    refine ⟨((2 ^ (l - 3) : Nat) : Int), by have := Nat.two_pow_pos (l - 3); omega, hstep _ (Ev.step (fun k => by rw [zR.j0]) (Ev.neg (by decide) (Ev.neg c ?_)))⟩
    rw [e]
    exact Ev.pos (Int.natCast_nonneg _) (Ev.ret' (z5t (l - 3) (by omega)))
theorem rdL (l : Nat) (h : l ≤ 7) : rd ([1, 2, 4, 8, 16, 32, 64, 128] : List Int) (l : Int) = ((2 ^ l : Nat) : Int) := by
  have : ∀ m, m ≤ 7 → rd ([1, 2, 4, 8, 16, 32, 64, 128] : List Int) ((m : Nat) : Int) = ((2 ^ m : Nat) : Int) := by decide
  exact this l h
theorem z4g (a n : Nat) (ha : a < 2 ^ 64) (hn : n ≤ 64) : Go.bits .and .u64 (shr .u64 (a : Int) (n : Int)) 1 = if a.testBit n then 1 else 0 := by
  rw [z5u a n hn]
  have hd : a / 2 ^ n < 2 ^ 64 := Nat.lt_of_le_of_lt (Nat.div_le_self _ _) ha
  rw [show (1 : Int) = ((1 : Nat) : Int) from rfl, z2z _ 1 hd (by decide), Nat.and_one_is_mod, Nat.testBit_eq_decide_div_mod_eq]
  by_cases c : a / 2 ^ n % 2 = 1
  · rw [c]; simp
  · rw [show a / 2 ^ n % 2 = 0 by omega]; simp
theorem z7X (x : E) (n : Nat) (hn : n < 128) : z1I.f (hi x) (lo x) (n : Int) = some (if (val x).testBit n then 1 else 0) := by
  have hx1 := z1s x.1
  have hx2 := z1s x.2
  have hQ : Q 6 = 2 ^ 64 := rfl
  rw [hQ] at hx1 hx2
  have hv : val x = 2 ^ 64 * val x.1 + val x.2 := by rw [z1P, hQ, Nat.mul_comm]
  unfold z1I.f
  rw [hv, Nat.testBit_two_pow_mul_add _ hx2]
  unfold hi lo
  by_cases c : n < 64
  · have e : IntKind.u64.wrap (n : Int) = (n : Int) := z2Q (by omega) (by omega)
    rw [if_neg (by omega), e, if_pos (Int.natCast_nonneg _), z4g _ _ hx2 (by omega), if_pos c]
  · have e : IntKind.u64.wrap (wrap64 ((n : Int) - 64)) = ((n - 64 : Nat) : Int) := by
      rw [z2n (by omega) (by omega), z2Q (by omega) (by omega)]; omega
    rw [if_pos (by omega), e, if_pos (Int.natCast_nonneg _), z4g _ _ hx1 (by omega), if_neg c]
theorem refOf_l0 (x : E) : ∀ (d n : Nat), n + d = 128 → Ev (fun k => zy.l0 k (n : Int) (hi x) (lo x)) (decide (val x < 2 ^ n)) := by
  intro d
  induction d with
  | zero =>
    intro n hn
    have : n = 128 := by omega
    subst this
    have := z1s x; rw [z63] at this
    rw [decide_eq_true this]
    exact Ev.step (fun k => by rw [zy.l0]) (Ev.neg (by decide) (Ev.ret _))
  | succ d ih =>
    intro n hn
    have hn' : n < 128 := by omega
    refine Ev.step (fun k => by rw [zy.l0]) (Ev.pos (by omega) (Ev.bnd0 (z7X x n hn') ?_))
    simp only [z1H hn' (show 128 ≤ 4611686018427387904 by decide)]
    cases c : (val x).testBit n with
    | true =>
      refine Ev.pos (by simp) (Ev.ret' ?_)
      symm; rw [decide_eq_false_iff_not]
      intro h; rw [Nat.testBit_lt_two_pow h] at c; cases c
    | false =>
      refine Ev.neg (by simp) ?_
      have hih := ih (n + 1) (by omega)
      have e : decide (val x < 2 ^ (n + 1)) = decide (val x < 2 ^ n) := by
        rw [decide_eq_decide]
        constructor
        · intro h
          apply Nat.lt_pow_two_of_testBit
          intro i hi
          by_cases e : i = n
          · rw [e]; exact c
          · exact Nat.testBit_lt_two_pow (Nat.lt_of_lt_of_le h (Nat.pow_le_pow_right (by decide) (by omega)))
        · intro h; exact Nat.lt_of_lt_of_le h (Nat.pow_le_pow_right (by decide) (by omega))
      rw [← e]; exact hih
theorem refOf_ev (L : Int) (x : E) : Ev (fun k => zy.f k L (hi x) (lo x)) (decide (OfS L x)) := by
  unfold zy.f
  refine Ev.bnd0 (a := ([1, 2, 4, 8, 16, 32, 64, 128] : List Int)) rfl ?_
  by_cases h0 : L < 0
  · refine Ev.pos h0 (Ev.step (fun k => by rw [zy.j0]) (Ev.pos rfl (Ev.ret' ?_)))
    symm; rw [decide_eq_false_iff_not]; rintro ⟨h, _⟩; omega
  refine Ev.neg h0 ?_
  by_cases h7 : L > 7
  · rw [decide_eq_true h7]
    refine Ev.step (fun k => by rw [zy.j0]) (Ev.pos rfl (Ev.ret' ?_))
    symm; rw [decide_eq_false_iff_not]; rintro ⟨_, h, _⟩; omega
  rw [decide_eq_false h7]
  obtain ⟨l, rfl⟩ := Int.eq_ofNat_of_zero_le (show 0 ≤ L by omega)
  refine Ev.step (fun k => by rw [zy.j0]) (Ev.neg (by decide) (Ev.pos (Int.natCast_nonneg _) (Ev.pos (by simp; omega) ?_)))
  rw [rdL l (by omega)]
  have hp : 2 ^ l ≤ 128 := Nat.pow_le_pow_right (n := 2) (by decide) (show l ≤ 7 by omega)
  have := refOf_l0 x (128 - 2 ^ l) (2 ^ l) (by omega)
  have e : decide (val x < 2 ^ 2 ^ l) = decide (OfS (l : Int) x) := by
    rw [decide_eq_decide]; unfold OfS InL Q; rw [Int.toNat_natCast]
    exact ⟨fun h => ⟨by omega, by omega, h⟩, fun h => h.2.2⟩
  rw [← e]; exact this
/-- All of a level. -/
def AllS (L : Int) (X : List E) : Prop := ∀ x ∈ X, OfS L x
instance (L : Int) (X : List E) : Decidable (AllS L X) := by unfold AllS; infer_instance
theorem z7j {L : Int} {X : List E} {i : Nat} (h : i < X.length) : AllS L (X.drop i) ↔ OfS L (X.getD i 0) ∧ AllS L (X.drop (i + 1)) := by
  rw [List.drop_eq_getElem_cons h]
  have : X.getD i 0 = X[i] := by rw [List.getD_eq_getElem?_getD, List.getElem?_eq_getElem h]; rfl
  rw [this]
  exact List.forall_mem_cons
theorem All_l0 (L : Int) (X : List E) (hX : X.length ≤ 1000000) : ∀ (d i : Nat), i + d = X.length → Ev (fun k => zx.l0 k L (X.map toR) (i : Int)) (decide (AllS L (X.drop i))) := by
  intro d
  induction d with
  | zero =>
    intro i hi
    refine Ev.step (fun k => by rw [zx.l0]) (Ev.neg (by rw [List.length_map]; omega) (Ev.ret' ?_))
    symm; rw [decide_eq_true_eq, List.drop_eq_nil_of_le (by omega)]
    intro x hx; cases hx
  | succ d ih =>
    intro i hi
    have hi' : i < X.length := by omega
    refine Ev.step (fun k => by rw [zx.l0]) (Ev.pos (by rw [List.length_map]; omega) (Ev.pos (Int.natCast_nonneg _) ?_))
    simp only [rdR, z6D, z6E, z1H hi' (show X.length ≤ 4611686018427387904 by omega)]
    refine Ev.bnd (refOf_ev L _) ?_
    have hd := z7j (L := L) hi'
    by_cases c : OfS L (X.getD i 0)
    · refine Ev.pos (decide_eq_true c) ((ih (i + 1) (by omega)).eqn ?_)
      rw [decide_eq_decide, hd]; exact ⟨fun h => ⟨c, h⟩, fun h => h.2⟩
    · refine Ev.neg (by simpa using c) (Ev.ret' ?_)
      symm; rw [decide_eq_false_iff_not, hd]; exact fun h => c h.1
theorem All_ev (L : Int) (X : List E) (hX : X.length ≤ 1000000) : Ev (fun k => zx.f k L (X.map toR)) (decide (AllS L X)) := All_l0 L X hX X.length 0 (by omega)
theorem z5k {α β : Type} (f : α → β) (X : List α) (d : α) (i : Nat) (h : i < X.length) : (X.take (i + 1)).map f = (X.take i).map f ++ [f (X.getD i d)] := by
  rw [List.take_succ_eq_append_getElem h, List.map_append]
  have : X.getD i d = X[i] := by rw [List.getD_eq_getElem?_getD, List.getElem?_eq_getElem h]; rfl
  rw [this]; rfl
theorem Ref_l0 (X : List E) (hX : X.length ≤ 1000000) : ∀ (d i : Nat), i + d = X.length → Ev (fun k => zu.l0 k (X.map toS) ((X.take i).map toR) (i : Int)) (X.map toR) := by
  intro d
  induction d with
  | zero =>
    intro i hi
    refine Ev.step (fun k => by rw [zu.l0]) (Ev.neg (by rw [List.length_map]; omega) (Ev.ret' ?_))
    rw [List.take_of_length_le (by omega)]
  | succ d ih =>
    intro i hi
    have hi' : i < X.length := by omega
    refine Ev.step (fun k => by rw [zu.l0]) (Ev.pos (by rw [List.length_map]; omega) (Ev.pos (Int.natCast_nonneg _) (Ev.pos (by rw [List.length_map, List.length_take]; omega) ?_)))
    simp only [rdS, z3d, z3e, z1H hi' (show X.length ≤ 4611686018427387904 by omega)]
    have hih := ih (i + 1) (by omega)
    rw [z5k toR X 0 i hi'] at hih
    exact hih
theorem z7f (X : List E) (hX : X.length ≤ 1000000) : Ev (fun k => zu.f k (X.map toS)) (X.map toR) := Ref_l0 X hX X.length 0 (by omega)
theorem Same_l0 (X Y : List E) (hl : X.length = Y.length) (hX : X.length ≤ 1000000) : ∀ (d i : Nat), i + d = X.length → (∀ j, j < i → X.getD j 0 = Y.getD j 0) → Ev (fun k => zs.l0 k (X.map toS) (Y.map toR) (i : Int)) (decide (X = Y)) := by
  intro d
  induction d with
  | zero =>
    intro i hi h
    refine Ev.step (fun k => by rw [zs.l0]) (Ev.neg (by rw [List.length_map]; omega) (Ev.ret' ?_))
    symm; rw [decide_eq_true_eq]
    apply List.ext_getElem hl
    intro j h1 h2
    have := h j (by omega)
    simpa [List.getD_eq_getElem?_getD, h1, h2] using this
  | succ d ih =>
    intro i hid h
    have hi' : i < X.length := by omega
    refine Ev.step (fun k => by rw [zs.l0]) (Ev.pos (by rw [List.length_map]; omega) (Ev.pos (Int.natCast_nonneg _) (Ev.pos (by rw [List.length_map]; omega) ?_)))
    simp only [rdS, rdR, z3d, z3e, z6D, z6E, z1H hi' (show X.length ≤ 4611686018427387904 by omega)]
    by_cases c : X.getD i 0 = Y.getD i 0
    · refine Ev.neg (by rw [c]; simp) (ih (i + 1) (by omega) (fun j hj => ?_))
      by_cases e : j = i
      · rw [e]; exact c
      · exact h j (by omega)
    · refine Ev.pos ?_ (Ev.ret' ?_)
      · simp only [Bool.or_eq_true, Bool.not_eq_true', beq_eq_false_iff_ne]
        by_cases e : hi (X.getD i 0) = hi (Y.getD i 0)
        · right; intro e2; exact c (z6o e e2)
        · left; exact e
      · symm; rw [decide_eq_false_iff_not]
        rintro rfl; exact c rfl
theorem z7g (X Y : List E) (hX : X.length ≤ 1000000) : Ev (fun k => zs.f k (X.map toS) (Y.map toR)) (decide (X = Y)) := by
  unfold zs.f
  by_cases h : X.length = Y.length
  · exact Ev.pos (by rw [List.length_map, List.length_map]; omega) (Same_l0 X Y h hX X.length 0 (by omega) (fun j hj => by omega))
  · refine Ev.neg (by rw [List.length_map, List.length_map]; omega) (Ev.ret' ?_)
    symm; rw [decide_eq_false_iff_not]
    rintro rfl; exact h rfl
/-- The same element? as the program asks. -/
theorem eq_pair (x y : E) : (hi x == hi y && (lo x == lo y)) = decide (x = y) := by
  rw [Bool.eq_iff_iff, Bool.and_eq_true, beq_iff_eq, beq_iff_eq, decide_eq_true_eq]
  exact ⟨fun h => z6o h.1 h.2, fun h => by rw [h]; exact ⟨rfl, rfl⟩⟩
theorem eq_none (x : E) : (hi x == 0 && (lo x == 0)) = decide (x = 0) := by
  rw [← eq_pair, z2Y, z2Z]
end Go.Proofs.Ytkhmpaooinpfoaa.Sp
/- The bits of an element as the program tells them. Own text. -/
namespace Go.Proofs.Ytkhmpaooinpfoaa.Sp
open Go.RowKit Go.Proofs.YtkhmpaooinpfoaaW.PrintWords Go.Proofs.YtkhmpaooinpfoaaW.PrintMore Go.Proofs.Ytkhmpaooinpfoaa.P Go.Proofs.Ytkhmpaooinpfoaa.Ar Go.Proofs.Ytkhmpaooinpfoaa.Tw
set_option linter.unusedVariables false
theorem z4B (n : Nat) (hn : n < 128) : Ev (fun k => z12.f k (n : Int)) (hi (bitE n), lo (bitE n)) := by
  obtain ⟨h1, h2⟩ := z69 hn
  unfold z12.f
  refine Ev.pos (by omega) ?_
  by_cases c : n < 64
  · rw [if_pos c] at h1 h2
    rw [h1, h2, decide_eq_true (show (n : Int) < 64 by omega)]
    refine Ev.step (fun k => by rw [z12.j0]) (Ev.pos rfl (Ev.pos (Int.natCast_nonneg _) (Ev.ret' ?_)))
    rw [z34 n (by omega)]
  · rw [if_neg c] at h1 h2
    rw [h1, h2, decide_eq_false (show ¬ (n : Int) < 64 by omega)]
    have e : wrap64 ((n : Int) - 64) = ((n - 64 : Nat) : Int) := by rw [z2n (by omega) (by omega)]; omega
    refine Ev.step (fun k => by rw [z12.j0]) (Ev.neg (by decide) (Ev.pos (by omega) (Ev.pos (by omega) ?_)))
    rw [e]
    exact Ev.pos (Int.natCast_nonneg _) (Ev.ret' (by rw [z34 (n - 64) (by omega)]))
def bitsL (x : E) (n : Nat) : List Bool := (List.range n).map fun i => (val x).testBit i
theorem z5Z (x : E) (N : Nat) (hN : N ≤ 128) : ∀ (d n : Nat), n + d = N → Ev (fun k => zP.l0 k (bitsL x n) (N : Int) (n : Int) (hi x) (lo x)) (bitsL x N) := by
  intro d
  induction d with
  | zero =>
    intro n hn
    have : n = N := by omega
    subst this
    exact Ev.step (fun k => by rw [zP.l0]) (Ev.neg (by omega) (Ev.ret _))
  | succ d ih =>
    intro n hn
    have hn' : n < N := by omega
    have hih := ih (n + 1) (by omega)
    have hs : bitsL x (n + 1) = bitsL x n ++ [(val x).testBit n] := by unfold bitsL; rw [List.range_succ, List.map_append]; rfl
    have hl : (bitsL x n).length < 140737488355328 := by unfold bitsL; rw [List.length_map, List.length_range]; omega
    rw [hs] at hih
    refine Ev.step (fun k => by rw [zP.l0]) (Ev.pos (by omega) (Ev.bnd (z4B n (by omega)) ?_))
    refine Ev.pos hl ?_
    simp only [hasBits x n (show n < 128 by omega), z1H hn' (show N ≤ 4611686018427387904 by omega)]
    exact hih
theorem z3Q {l : Nat} (hl : l ≤ 7) (x : E) (hx : OfS (l : Int) x) : Ev (fun k => zP.f k (l : Int) (hi x) (lo x)) (bitsL x (2 ^ l)) := by
  unfold zP.f
  refine Ev.bnd (z5l (l : Int) x) (Ev.pos (decide_eq_true hx) (Ev.pos (Int.natCast_nonneg _) ?_))
  rw [z5t l (by omega)]
  exact z5Z x (2 ^ l) (Nat.pow_le_pow_right (n := 2) (by decide) hl) (2 ^ l) 0 (Nat.zero_add _)
end Go.Proofs.Ytkhmpaooinpfoaa.Sp
/- Powers of two as the document's Two tells them. Own text. -/
namespace Go.Proofs.Ytkhmpaooinpfoaa.Sp
open Go.RowKit Go.Proofs.YtkhmpaooinpfoaaW.PrintWords Go.Proofs.YtkhmpaooinpfoaaW.PrintMore Go.Proofs.Ytkhmpaooinpfoaa.P Go.Proofs.Ytkhmpaooinpfoaa.Ar
set_option linter.unusedVariables false
set_option linter.unusedSimpArgs false
theorem z7S {n : Nat} (h : n ≤ 61) : 2 ^ n ≤ 2305843009213693952 := by
  have : (2 : Nat) ^ n ≤ 2 ^ 61 := Nat.pow_le_pow_right (by decide) h
  simpa using this
theorem two_l0 (n : Nat) (h : n ≤ 61) : ∀ d i, i + d = n → Ev (fun k => zD.l0 k (n : Int) ((2 ^ i : Nat) : Int) (i : Int)) ((2 ^ n : Nat) : Int) := by
  intro d
  induction d with
  | zero =>
    intro i hi
    have hi : i = n := by omega
    subst hi
    exact Ev.step (fun k => by rw [zD.l0]) (Ev.neg (by omega) (Ev.ret _))
  | succ d ih =>
    intro i hi
    refine Ev.step (fun k => by rw [zD.l0]) (Ev.pos (by omega) ?_)
    have h1 := z7S (n := i) (by omega)
    have e1 : wrap64 (2 * ((2 ^ i : Nat) : Int)) = ((2 ^ (i + 1) : Nat) : Int) := by
      rw [Nat.pow_succ]
      generalize 2 ^ i = p at h1 ⊢
      rw [z2n (by omega) (by omega)]; omega
    have e2 : wrap64 ((i : Int) + 1) = ((i + 1 : Nat) : Int) := by rw [z2n (by omega) (by omega)]; omega
    rw [e1, e2]
    exact ih (i + 1) (by omega)
theorem two_ev (n : Nat) (h : n ≤ 61) : Ev (fun k => zD.f k (n : Int)) ((2 ^ n : Nat) : Int) := two_l0 n h n 0 (by omega)
end Go.Proofs.Ytkhmpaooinpfoaa.Sp
/- Pairs of elements: what is on the left, on the right, and the document's pairs. Own text. -/
namespace Go.Proofs.Ytkhmpaooinpfoaa.Sp
open Go.RowKit Go.Proofs.YtkhmpaooinpfoaaW.PrintWords Go.Proofs.YtkhmpaooinpfoaaW.PrintMore Go.Proofs.Ytkhmpaooinpfoaa.P Go.Proofs.Ytkhmpaooinpfoaa.Ar Go.Proofs.Ytkhmpaooinpfoaa.Tw
set_option linter.unusedVariables false
/-- The pair of x and y: y beside each bit that x has. -/
def pick (b : Bool) (y : E) : E := if b then y else 0
theorem z1A (y : E) : pick true y = y := if_pos rfl
theorem z1j (y : E) : pick false y = 0 := if_neg Bool.false_ne_true
def pairX (n : Nat) (x y : E) : List E := (List.range n).map fun i => pick ((val x).testBit i) y
theorem z1L (n : Nat) (x y : E) : (pairX n x y).length = n := by simp [pairX]
theorem z2I {α : Type} (f : Nat → α) (d : α) (n i : Nat) (h : i < n) : ((List.range n).map f).getD i d = f i := by
  rw [List.getD_eq_getElem?_getD, List.getElem?_map, List.getElem?_range h]; rfl
theorem z4p {α : Type} (f : Nat → α) (n : Nat) : (List.range (n + 1)).map f = (List.range n).map f ++ [f n] := by
  rw [List.range_succ, List.map_append]; rfl
theorem z3E (n : Nat) (x y : E) (i : Nat) (h : i < n) : (pairX n x y).getD i 0 = pick ((val x).testBit i) y := z2I (fun i => pick ((val x).testBit i) y) 0 n i h
theorem z51 (n : Nat) (x y : E) : pairX (n + 1) x y = pairX n x y ++ [pick ((val x).testBit n) y] := z4p _ n
theorem w128 {l : Nat} (hl : l ≤ 7) : 2 ^ l ≤ 128 := Nat.pow_le_pow_right (n := 2) (by decide) hl
theorem z4x {l : Nat} (hl : l ≤ 7) : Ev (fun k => zH.f k (l : Int)) ((2 ^ l : Nat) : Int) := by
  obtain ⟨v, hv, ev⟩ := z85 (L := (l : Int)) ⟨by omega, by omega⟩
  unfold zH.f
  refine Ev.bnd ev (Ev.neg hv (Ev.pos (Int.natCast_nonneg _) (Ev.ret' ?_)))
  exact z5t l (by omega)
theorem z6A {L : Int} (h : ¬ LvS L) : Ev (fun k => zH.f k L) 0 := by
  unfold zH.f
  exact Ev.bnd (z6H h) (Ev.pos rfl (Ev.ret _))
theorem lv_of {L : Int} {x : E} (h : OfS L x) : LvS L := ⟨h.1, h.2.1⟩
theorem left_l0 (x : E) (n : Nat) (hn : n ≤ 128) : ∀ (d i : Nat), i + d = n → Ev (fun k => zQ.l0 k ((pairX i x 1 ++ List.replicate (n - i) 0).map toS) (bitsL x n) (n : Int) (i : Int)) ((pairX n x 1).map toS) := by
  intro d
  induction d with
  | zero =>
    intro i hid
    have : i = n := by omega
    subst this
    rw [Nat.sub_self, List.replicate_zero, List.append_nil]
    exact Ev.step (fun k => by rw [zQ.l0]) (Ev.neg (by omega) (Ev.ret _))
  | succ d ih =>
    intro i hid
    have hi' : i < n := by omega
    have hih := ih (i + 1) (by omega)
    have hlb : (bitsL x n).length = n := by unfold bitsL; simp
    have hb : (bitsL x n).getD i false = (val x).testBit i := z2I _ false n i hi'
    have hp := z51 i x 1
    have hr : List.replicate (n - i) (0 : E) = 0 :: List.replicate (n - (i + 1)) 0 := by rw [show n - i = (n - (i + 1)) + 1 by omega, List.replicate_succ]
    have c3 : (i : Int) < (((pairX i x 1 ++ List.replicate (n - i) (0 : E)).map toS).length : Int) := by
      rw [List.length_map, List.length_append, z1L, List.length_replicate]; omega
    refine Ev.step (fun k => by rw [zQ.l0]) (Ev.pos (by omega) (Ev.pos (Int.natCast_nonneg _) (Ev.pos (by rw [hlb]; omega) ?_)))
    simp only [z7U, hb, z1H hi' (show n ≤ 4611686018427387904 by omega)]
    cases c : (val x).testBit i with
    | true =>
      refine Ev.pos rfl (Ev.bnd0 z6i (Ev.pos c3 ?_))
      have e : ((pairX i x 1 ++ List.replicate (n - i) (0 : E)).map toS).set (i : Int).toNat (⟨hi 1, lo 1⟩ : S30) = (pairX (i + 1) x 1 ++ List.replicate (n - (i + 1)) 0).map toS := by
        have : (⟨hi 1, lo 1⟩ : S30) = toS 1 := rfl
        rw [Int.toNat_natCast, this, ← List.map_set, hr, hp, c, z1A, List.append_assoc]
        congr 1
        rw [List.set_append_right _ _ (by rw [z1L]; exact Nat.le_refl _), z1L, Nat.sub_self, List.set_cons_zero]; rfl
      rw [e]; exact hih
    | false =>
      refine Ev.neg (by decide) ?_
      rw [hp, c, z1j, List.append_assoc] at hih
      rw [hr]; exact hih
theorem z43 (n : Nat) : List.replicate n z30 = (List.replicate n (0 : E)).map toS := by rw [List.map_replicate, z6G]
/-- What stands on the left: x beside 1. -/
def leftO (L : Int) (x : E) : List E := if OfS L x then pairX (2 ^ L.toNat) x 1 else []
def rightO (L : Int) (x : E) : List E := if OfS L x then pairX (2 ^ L.toNat) 1 x else []
theorem Left_ev (L : Int) (x : E) : Ev (fun k => zQ.f k L (hi x) (lo x)) ((leftO L x).map toS) := by
  unfold zQ.f
  refine Ev.bnd (z5l L x) ?_
  by_cases c : OfS L x
  · obtain ⟨l, rfl⟩ := Int.eq_ofNat_of_zero_le c.1
    have hl : l ≤ 7 := by have := c.2.1; omega
    have h128 := w128 hl
    have e : leftO (l : Int) x = pairX (2 ^ l) x 1 := by unfold leftO; rw [if_pos c, Int.toNat_natCast]
    rw [e]
    have c128 : (((2 ^ l : Nat) : Int)).toNat ≤ 17592186044416 := by rw [Int.toNat_natCast]; exact Nat.le_trans h128 (by decide)
    refine Ev.pos (decide_eq_true c) ?_
    refine Ev.bnd (z4x hl) ?_
    refine Ev.pos (Int.natCast_nonneg _) ?_
    refine Ev.pos c128 ?_
    refine Ev.bnd (z3Q hl x c) ?_
    have hlb : (bitsL x (2 ^ l)).length = 2 ^ l := by unfold bitsL; simp
    rw [hlb, z43, Int.toNat_natCast]
    exact left_l0 x (2 ^ l) h128 (2 ^ l) 0 (Nat.zero_add _)
  · have e : leftO L x = [] := if_neg c
    rw [e]
    exact Ev.neg (by simpa using c) (Ev.ret _)
theorem One_ev (L : Int) : Ev (fun k => z1k.f k L) ((leftO L 1).map toS) := by
  unfold z1k.f
  exact Ev.bnd0 z6i (Ev.bnd (Left_ev L 1) (Ev.ret _))
theorem one_bit (i : Nat) : (val (1 : E)).testBit i = decide (i = 0) := by
  rw [z2N, show (1 : Nat) = 2 ^ 0 from rfl, Nat.testBit_two_pow]
  simp [eq_comm]
theorem z7P (n : Nat) (x : E) (hn : 0 < n) : pairX n 1 x = (List.replicate n (0 : E)).set 0 x := by
  apply List.ext_getElem
  · rw [z1L]; simp
  · intro i h1 h2
    rw [z1L] at h1
    have e1 : (pairX n 1 x)[i] = (pairX n 1 x).getD i 0 := by rw [List.getD_eq_getElem?_getD, List.getElem?_eq_getElem (by rw [z1L]; exact h1)]; rfl
    rw [e1, z3E n 1 x i h1, one_bit, List.getElem_set]
    by_cases c : i = 0
    · subst c; simp [z1A]
    · rw [decide_eq_false c, z1j, if_neg (fun h => c h.symm), List.getElem_replicate]
theorem Right_ev (L : Int) (x : E) : Ev (fun k => z1u.f k L (hi x) (lo x)) ((rightO L x).map toS) := by
  unfold z1u.f
  refine Ev.bnd (z5l L x) ?_
  by_cases c : OfS L x
  · obtain ⟨l, rfl⟩ := Int.eq_ofNat_of_zero_le c.1
    have hl : l ≤ 7 := by have := c.2.1; omega
    have h128 := w128 hl
    have h0 := Nat.two_pow_pos l
    have e : rightO (l : Int) x = pairX (2 ^ l) 1 x := by unfold rightO; rw [if_pos c, Int.toNat_natCast]
    rw [e, z7P _ _ h0]
    have c128 : (((2 ^ l : Nat) : Int)).toNat ≤ 17592186044416 := by rw [Int.toNat_natCast]; exact Nat.le_trans h128 (by decide)
    refine Ev.pos (decide_eq_true c) ?_
    refine Ev.bnd (z4x hl) ?_
    refine Ev.pos (Int.natCast_nonneg _) ?_
    refine Ev.pos c128 ?_
    refine Ev.bnd0 rfl ?_
    refine Ev.pos ?_ (Ev.ret' ?_)
    · rw [List.length_replicate, Int.toNat_natCast]; omega
    · rw [z43, Int.toNat_natCast]
      have : (⟨hi x, lo x⟩ : S30) = toS x := rfl
      rw [this, ← List.map_set]; rfl
  · have e : rightO L x = [] := if_neg c
    rw [e]
    exact Ev.neg (by simpa using c) (Ev.ret _)
theorem N19_ev (l : Nat) (hl : l ≤ 61) : Ev (fun k => z1h.f k (l : Int)) ((2 ^ l : Nat) : Int) := by
  unfold z1h.f
  exact Ev.bnd (two_ev l hl) (Ev.ret _)
theorem pair_l0 (l : Nat) (hl : l ≤ 7) (x y : E) : ∀ (d i : Nat), i + d = 2 ^ l → Ev (fun k => zw.l0 k (l : Int) ((pairX i x y).map toR) (i : Int) (hi x) (lo x) (hi y) (lo y)) ((pairX (2 ^ l) x y).map toR) := by
  have h128 := w128 hl
  intro d
  induction d with
  | zero =>
    intro i hi
    have : i = 2 ^ l := by omega
    subst this
    exact Ev.step (fun k => by rw [zw.l0]) (Ev.bnd (N19_ev l (by omega)) (Ev.neg (Int.lt_irrefl _) (Ev.ret _)))
  | succ d ih =>
    intro i hi
    have hi' : i < 2 ^ l := by omega
    have hih := ih (i + 1) (by omega)
    have hp := z51 i x y
    have c3 : ((pairX i x y).map toR).length < 8796093022208 := by rw [List.length_map, z1L]; omega
    have hn19 := N19_ev l (by omega)
    refine Ev.step (fun k => by rw [zw.l0]) (Ev.bnd hn19 ?_)
    refine Ev.pos (show (i : Int) < ((2 ^ l : Nat) : Int) by omega) ?_
    refine Ev.bnd (Has_ev x i (by omega)) ?_
    simp only [z1H hi' (show 2 ^ l ≤ 4611686018427387904 by omega)]
    cases c : (val x).testBit i with
    | true =>
      rw [hp, c, z1A, List.map_append] at hih
      exact Ev.pos rfl (Ev.pos c3 hih)
    | false =>
      rw [hp, c, z1j, List.map_append] at hih
      refine Ev.neg (by decide) (Ev.pos c3 ?_)
      have e : [(⟨0, 0⟩ : S40)] = [(0 : E)].map toR := by
        show _ = [toR (0 : E)]
        unfold toR; rw [z2Y, z2Z]
      rw [e]; exact hih
theorem z7a {l : Nat} (hl : l ≤ 7) (x y : E) : Ev (fun k => zw.f k (l : Int) (hi x) (lo x) (hi y) (lo y)) ((pairX (2 ^ l) x y).map toR) := by
  unfold zw.f
  exact pair_l0 l hl x y (2 ^ l) 0 (Nat.zero_add _)
end Go.Proofs.Ytkhmpaooinpfoaa.Sp
/- Sums of elements, weights and values of tables; lists of elements. Own text; nothing of the program in it. -/
namespace Go.Proofs.Ytkhmpaooinpfoaa.Sp
open Go.RowKit Go.Proofs.YtkhmpaooinpfoaaW.PrintWords Go.Proofs.YtkhmpaooinpfoaaW.PrintMore Go.Proofs.Ytkhmpaooinpfoaa.P Go.Proofs.Ytkhmpaooinpfoaa.Ar Go.Proofs.Ytkhmpaooinpfoaa.Tw
set_option linter.unusedVariables false
set_option linter.unusedSimpArgs false
/-- Sums. -/
def sumN (f : Nat → E) : Nat → E
  | 0 => 0
  | n + 1 => sumN f n + f n
theorem z1E {f g : Nat → E} : ∀ n, (∀ i, i < n → f i = g i) → sumN f n = sumN g n
  | 0, _ => rfl
  | n + 1, h => by rw [sumN, sumN, z1E n (fun i hi => h i (by omega)), h n (by omega)]
theorem z3b (f g : Nat → E) : ∀ n, sumN (fun i => f i + g i) n = sumN f n + sumN g n
  | 0 => (add_zero _).symm
  | n + 1 => by
    rw [sumN, sumN, sumN, z3b f g n]
    simp only [add_assoc, z2c]
theorem z6B (c : E) (f : Nat → E) : ∀ n, sumN (fun i => c * f i) n = c * sumN f n
  | 0 => (z2x _).symm
  | n + 1 => by rw [sumN, sumN, z6B c f n, mul_add]
theorem z4A : ∀ n, sumN (fun _ => (0 : E)) n = 0
  | 0 => rfl
  | n + 1 => by rw [sumN, z4A n, add_zero]
theorem z4y (f : Nat → E) : ∀ n, sumN f (2 * n) = sumN (fun i => f (2 * i) + f (2 * i + 1)) n
  | 0 => rfl
  | n + 1 => by
    rw [show 2 * (n + 1) = 2 * n + 1 + 1 by omega, sumN, sumN, sumN, z4y f n, add_assoc]
theorem z53 (f : Nat → E) (m : Nat) : ∀ n, sumN f (m + n) = sumN f m + sumN (fun i => f (m + i)) n
  | 0 => (add_zero _).symm
  | n + 1 => by rw [← Nat.add_assoc, sumN, sumN, z53 f m n, add_assoc]
/-- A corner's weight at a point. -/
def weight : List E → Nat → E
  | [], _ => 1
  | p :: ps, i => (if i % 2 = 1 then p else 1 + p) * weight ps (i / 2)
/-- A table's value at a point. -/
def value (X P : List E) : E := sumN (fun i => X.getD i 0 * weight P i) X.length
/-- A table bound in its first variable. -/
def first (r : E) (X : List E) : List E := (List.range (X.length / 2)).map fun i => X.getD (2 * i) 0 + r * (X.getD (2 * i) 0 + X.getD (2 * i + 1) 0)
def firsts : List E → List E → List E
  | [], X => X
  | r :: rs, X => firsts rs (first r X)
theorem z2V (r : E) (X : List E) : (first r X).length = X.length / 2 := by simp [first]
theorem z6T (r : E) (X : List E) (i : Nat) (h : i < X.length / 2) : (first r X).getD i 0 = X.getD (2 * i) 0 + r * (X.getD (2 * i) 0 + X.getD (2 * i + 1) 0) := by
  rw [List.getD_eq_getElem?_getD]; simp [first, h]
theorem z6R (a b r : E) : a + r * (a + b) = (1 + r) * a + r * b := by
  rw [add_mul, one_mul, mul_add, add_assoc]
theorem z6f (X : List E) (r : E) (P : List E) (h : X.length = 2 * (X.length / 2)) : value X (r :: P) = value (first r X) P := by
  unfold value
  rw [z2V]
  conv => lhs; rw [h]
  rw [z4y]
  apply z1E
  intro i hi
  rw [z6T r X i hi, weight, weight, if_neg (by omega), if_pos (by omega), show 2 * i / 2 = i by omega, show (2 * i + 1) / 2 = i by omega, z6R]
  rw [← mul_assoc, ← mul_assoc, mul_comm (X.getD (2 * i) 0), mul_comm (X.getD (2 * i + 1) 0), ← add_mul]
theorem pow_len {X : List E} {k : Nat} (h : X.length = 2 ^ (k + 1)) : X.length = 2 * (X.length / 2) := by rw [h, Nat.pow_succ]; omega
theorem z3q : ∀ (R X : List E) (k : Nat), X.length = 2 ^ k → R.length ≤ k → (firsts R X).length = 2 ^ (k - R.length)
  | [], X, k, h, _ => by rw [firsts, h]; rfl
  | r :: rs, X, k, h, hk => by
    rw [List.length_cons] at hk
    obtain ⟨k', rfl⟩ : ∃ k', k = k' + 1 := ⟨k - 1, by omega⟩
    rw [firsts, z3q rs (first r X) k' (by rw [z2V, h, Nat.pow_succ]; omega) (by omega), List.length_cons]
    congr 1; omega
theorem z3R : ∀ (R X P : List E) (k : Nat), X.length = 2 ^ k → R.length ≤ k → value X (R ++ P) = value (firsts R X) P
  | [], X, P, k, _, _ => rfl
  | r :: rs, X, P, k, h, hk => by
    rw [List.length_cons] at hk
    obtain ⟨k', rfl⟩ : ∃ k', k = k' + 1 := ⟨k - 1, by omega⟩
    rw [List.cons_append, z6f X r (rs ++ P) (pow_len h), firsts]
    exact z3R rs (first r X) P k' (by rw [z2V, h, Nat.pow_succ]; omega) (by omega)
theorem z83 {X : List E} (h : X.length = 1) : value X [] = X.getD 0 0 := by
  unfold value; rw [h, sumN, sumN, zero_add, weight, mul_one]
theorem value_eq (X P : List E) (h : X.length = 2 ^ P.length) : value X P = (firsts P X).getD 0 0 := by
  have := z3R P X [] P.length h (Nat.le_refl _)
  rw [List.append_nil] at this
  rw [this, z83 (by rw [z3q P X P.length h (Nat.le_refl _), Nat.sub_self, Nat.pow_zero])]

/-- k of 2^k, as both tell it. -/
theorem map_set {α β : Type} (f : α → β) (X : List α) (i : Nat) (x : α) : (X.map f).set i (f x) = (X.set i x).map f := by rw [List.map_set]
theorem z6F (x : E) : (⟨hi x, lo x⟩ : S30) = toS x := rfl
theorem toR_mk (x : E) : (⟨hi x, lo x⟩ : S40) = toR x := rfl
theorem z5f {X : List E} {i : Nat} (h : i < X.length) (x : E) : (X.set i x).getD i 0 = x := by
  rw [List.getD_eq_getElem?_getD, List.getElem?_set_self h]; rfl
theorem getD_set_ne {X : List E} {i j : Nat} (h : i ≠ j) (x : E) : (X.set i x).getD j 0 = X.getD j 0 := by
  rw [List.getD_eq_getElem?_getD, List.getD_eq_getElem?_getD, List.getElem?_set_ne h]
theorem z3Z {X Y : List E} (hl : X.length = Y.length) (h : ∀ i, i < X.length → X.getD i 0 = Y.getD i 0) : X = Y := by
  apply List.ext_getElem hl
  intro j h1 h2
  have := h j h1
  simpa [List.getD_eq_getElem?_getD, h1, h2] using this
theorem getD_take {X : List E} {i m : Nat} (h : i < m) : (X.take m).getD i 0 = X.getD i 0 := by
  rw [List.getD_eq_getElem?_getD, List.getD_eq_getElem?_getD, List.getElem?_take_of_lt h]
theorem z2q {l : Nat} {X : List E} (h : AllS (l : Int) X) (i : Nat) : InL l (X.getD i 0) := by
  rw [List.getD_eq_getElem?_getD]
  by_cases c : i < X.length
  · rw [List.getElem?_eq_getElem c]
    have := (h _ (List.getElem_mem c)).2.2
    rw [Int.toNat_natCast] at this; exact this
  · rw [List.getElem?_eq_none (by omega)]; exact z5i l
theorem allS_first {l : Nat} (hl : l ≤ 7) {X : List E} {r : E} (hX : AllS (l : Int) X) (hr : InL l r) : AllS (l : Int) (first r X) := by
  intro x hx
  unfold first at hx
  rw [List.mem_map] at hx
  obtain ⟨i, _, rfl⟩ := hx
  refine ⟨by omega, by omega, ?_⟩
  rw [Int.toNat_natCast]
  exact z5g (z2q hX _) (z4k hl hr (z5g (z2q hX _) (z2q hX _)))
theorem half_len (n : Nat) (h : n ≤ 1000000) : wrap64 ((n : Int) / 2) = ((n / 2 : Nat) : Int) := by rw [z2n (by omega) (by omega)]; omega
theorem w64_dbl {i : Nat} (h : i ≤ 1000000) : wrap64 (2 * (i : Int)) = ((2 * i : Nat) : Int) := by rw [z2n (by omega) (by omega)]; omega
end Go.Proofs.Ytkhmpaooinpfoaa.Sp
/- Sums of pairs of elements: bits of elements are sums, and a pair times an element on the left is the pair of the product. Own text; nothing of the program in it. -/
namespace Go.Proofs.Ytkhmpaooinpfoaa.Sp
open Go.RowKit Go.Proofs.YtkhmpaooinpfoaaW.PrintWords Go.Proofs.YtkhmpaooinpfoaaW.PrintMore Go.Proofs.Ytkhmpaooinpfoaa.P Go.Proofs.Ytkhmpaooinpfoaa.Ar Go.Proofs.Ytkhmpaooinpfoaa.Tw
set_option linter.unusedVariables false
theorem z42 (b : Bool) (y z : E) : pick b (y + z) = pick b y + pick b z := by
  cases b
  · rw [z1j, z1j, z1j, add_zero]
  · rw [z1A, z1A, z1A]
theorem z5q (b : Bool) (y z : E) : pick b (y * z) = pick b y * z := by
  cases b
  · rw [z1j, z1j, zero_mul]
  · rw [z1A, z1A]
theorem z4o (b : Bool) : pick b (0 : E) = 0 := by
  cases b
  · exact z1j _
  · exact z1A _
theorem pick_xor (a b : Bool) (y : E) : pick (a ^^ b) y = pick a y + pick b y := by
  cases a <;> cases b
  · show pick false y = _; rw [z1j, add_zero]
  · show pick true y = _; rw [z1j, z1A, zero_add]
  · show pick true y = _; rw [z1j, z1A, add_zero]
  · show pick false y = _; rw [z1j, z1A, z2m]
theorem z7R (a b : Bool) (y : E) : pick a (pick b y) = pick b (pick a y) := by
  cases a <;> cases b <;> simp only [z1A, z1j]
/-- Has an element the bit? -/
def hasB (x : E) (k : Nat) : Bool := (val x).testBit k
theorem hasB_add (x y : E) (k : Nat) : hasB (x + y) k = (hasB x k ^^ hasB y k) := by
  unfold hasB; rw [z1N, Nat.testBit_xor]
theorem z5N (k : Nat) : hasB 0 k = false := by unfold hasB; rw [z1G, Nat.zero_testBit]
/-- What the bit k of z picks of y is a sum in z. -/
theorem z3u (x z y : E) (k : Nat) : pick (hasB (x + z) k) y = pick (hasB x k) y + pick (hasB z k) y := by rw [hasB_add, pick_xor]
theorem z3v (f : Nat → E) (y : E) (k : Nat) : ∀ n, pick (hasB (sumN f n) k) y = sumN (fun u => pick (hasB (f u) k) y) n
  | 0 => by rw [sumN, sumN, z5N, z1j]
  | n + 1 => by rw [sumN, sumN, z3u, z3v f y k n]
theorem z4K (b : Bool) (x y : E) (k : Nat) : pick (hasB (pick b x) k) y = pick b (pick (hasB x k) y) := by
  cases b
  · rw [z1j, z1j, z5N, z1j]
  · rw [z1A, z1A]
theorem z6u (b : Bool) (f : Nat → E) : ∀ n, pick b (sumN f n) = sumN (fun u => pick b (f u)) n
  | 0 => z4o b
  | n + 1 => by rw [sumN, sumN, z42, z6u b f n]
theorem z4z (c : E) (f : Nat → E) (n : Nat) : sumN (fun i => f i * c) n = sumN f n * c := by
  rw [mul_comm, ← z6B]
  exact z1E n (fun i _ => mul_comm _ _)
theorem z5X (f : Nat → Nat → E) (n : Nat) : ∀ m, sumN (fun i => sumN (fun j => f i j) m) n = sumN (fun j => sumN (fun i => f i j) n) m
  | 0 => z4A n
  | m + 1 => by
    rw [sumN, ← z5X f n m, ← z3b]
    exact z1E n (fun i _ => rfl)
theorem sumN_one (f : Nat → E) (n i : Nat) (hi : i < n) (h : ∀ j, j < n → j ≠ i → f j = 0) : sumN f n = f i := by
  induction n with
  | zero => omega
  | succ n ih =>
    rw [sumN]
    by_cases c : i = n
    · subst c
      have : sumN f i = 0 := by
        rw [z1E (g := fun _ => 0) i (fun j hj => h j (by omega) (by omega))]; exact z4A i
      rw [this, zero_add]
    · rw [ih (by omega) (fun j hj hne => h j (by omega) hne), h n (by omega) (fun e => c e.symm), add_zero]
theorem z5v {n : Nat} (hn : n < 128) : val (bitE n) = 2 ^ n := by
  unfold bitE
  exact z2h 7 _ (by rw [z63]; exact Nat.pow_lt_pow_right (by decide) hn)
theorem val_pick (b : Bool) (x : E) : val (pick b x) = if b then val x else 0 := by
  cases b
  · rw [z1j, z1G]; rfl
  · rw [z1A]; rfl
/-- An element is the sum of its bits. -/
theorem z55 (x : E) : ∀ n, n ≤ 128 → val (sumN (fun u => pick (hasB x u) (bitE u)) n) = val x % 2 ^ n
  | 0, _ => by rw [sumN, z1G, Nat.pow_zero, Nat.mod_one]
  | n + 1, h => by
    rw [sumN, z1N, z55 x n (by omega), val_pick, z5v (by omega)]
    apply Nat.eq_of_testBit_eq
    intro j
    rw [Nat.testBit_xor, Nat.testBit_mod_two_pow, Nat.testBit_mod_two_pow]
    show _ = _
    unfold hasB
    generalize val x = v
    by_cases c : j = n
    · subst c
      cases hb : v.testBit j with
      | true => rw [if_pos rfl, Nat.testBit_two_pow_self]; simp
      | false => rw [if_neg Bool.false_ne_true, Nat.zero_testBit]; simp
    · have h2 : (if v.testBit n then 2 ^ n else 0 : Nat).testBit j = false := by
        cases v.testBit n with
        | true => rw [if_pos rfl, Nat.testBit_two_pow]; simp; omega
        | false => rw [if_neg Bool.false_ne_true, Nat.zero_testBit]
      rw [h2, Bool.xor_false]
      have : decide (j < n + 1) = decide (j < n) := by rw [decide_eq_decide]; omega
      rw [this]
theorem expand {l : Nat} (hl : l ≤ 7) {x : E} (hx : InL l x) : sumN (fun u => pick (hasB x u) (bitE u)) (2 ^ l) = x := by
  apply z2M
  rw [z55 x (2 ^ l) (w128 hl)]
  exact Nat.mod_eq_of_lt hx
theorem bitE_in {l u : Nat} (hl : l ≤ 7) (hu : u < 2 ^ l) : InL l (bitE u) := by
  unfold InL Q
  rw [z5v (Nat.lt_of_lt_of_le hu (w128 hl))]
  exact Nat.pow_lt_pow_right (by decide) hu
theorem bitE_zero : bitE 0 = 1 := by
  apply z2M; rw [z5v (by decide), z2N]
/-- The bits of a product are sums of those of the products of bits. -/
theorem has_mul {l : Nat} (hl : l ≤ 7) {x : E} (hx : InL l x) (a y : E) (k : Nat) : sumN (fun u => pick (hasB x u) (pick (hasB (bitE u * a) k) y)) (2 ^ l) = pick (hasB (x * a) k) y := by
  have h1 : x * a = sumN (fun u => pick (hasB x u) (bitE u * a)) (2 ^ l) := by
    conv => lhs; rw [← expand hl hx]
    rw [← z4z]
    exact z1E _ (fun u _ => (z5q _ _ _).symm)
  rw [h1, z3v]
  exact z1E _ (fun u _ => (z4K _ _ _ _).symm)
/-- Part k of a tensor times an element on the left, its parts times another one. -/
def actT (n : Nat) (t : Nat → E) (a p : E) (k : Nat) : E := sumN (fun u => pick (hasB (bitE u * a) k) (t u * p)) n
theorem z5C {l : Nat} (hl : l ≤ 7) {x : E} (hx : InL l x) (y a p : E) (k : Nat) : actT (2 ^ l) (fun u => pick (hasB x u) y) a p k = pick (hasB (x * a) k) (y * p) := by
  unfold actT
  rw [← has_mul hl hx a (y * p) k]
  exact z1E _ (fun u _ => by rw [← z5q, z7R])
theorem z4W (n : Nat) {t s : Nat → E} (a p : E) (k : Nat) (h : ∀ u, u < n → t u = s u) : actT n t a p k = actT n s a p k := by
  unfold actT; exact z1E _ (fun u hu => by rw [h u hu])
theorem actT_sum (n m : Nat) (t : Nat → Nat → E) (a p : E) (k : Nat) : actT n (fun u => sumN (fun i => t i u) m) a p k = sumN (fun i => actT n (t i) a p k) m := by
  unfold actT
  rw [z5X (fun i u => pick (hasB (bitE u * a) k) (t i u * p)) m n]
  exact z1E _ (fun u _ => by rw [← z4z, z6u])
theorem actT_add (n : Nat) (t s : Nat → E) (a p : E) (k : Nat) : actT n (fun u => t u + s u) a p k = actT n t a p k + actT n s a p k := by
  unfold actT
  rw [← z3b]
  exact z1E _ (fun u _ => by rw [add_mul, z42])
theorem z6a {l : Nat} {x : E} (b : Bool) (h : InL l x) : InL l (pick b x) := by
  cases b
  · rw [z1j]; exact z5i l
  · rw [z1A]; exact h
theorem z6d {l : Nat} (f : Nat → E) : ∀ n, (∀ i, i < n → InL l (f i)) → InL l (sumN f n)
  | 0, _ => z5i l
  | n + 1, h => by rw [sumN]; exact z5g (z6d f n (fun i hi => h i (by omega))) (h n (by omega))
theorem actT_in {l : Nat} (hl : l ≤ 7) (n : Nat) (t : Nat → E) (a p : E) (k : Nat) (ht : ∀ u, u < n → InL l (t u)) (hp : InL l p) : InL l (actT n t a p k) :=
  z6d _ n (fun u hu => z6a _ (z4k hl (ht u hu) hp))
/-- Weights, variable by variable from behind. -/
theorem z2G {l : Nat} (hl : l ≤ 7) : ∀ (P : List E) (i : Nat), (∀ p ∈ P, InL l p) → InL l (weight P i)
  | [], i, _ => z3h l
  | p :: ps, i, h => by
    have hp := h p List.mem_cons_self
    rw [weight]
    refine z4k hl ?_ (z2G hl ps (i / 2) (fun q hq => h q (List.mem_cons_of_mem _ hq)))
    split
    · exact hp
    · exact z5g (z3h l) hp
theorem z3j (p : E) : ∀ (P : List E) (i : Nat), weight (P ++ [p]) i = weight P i * (if i / 2 ^ P.length % 2 = 1 then p else 1 + p)
  | [], i => by
    show weight (p :: []) i = weight [] i * _
    rw [weight, weight, weight, mul_one, one_mul]
    simp
  | q :: Q, i => by
    show weight (q :: (Q ++ [p])) i = weight (q :: Q) i * _
    rw [weight, weight, z3j p Q (i / 2), mul_assoc, Nat.div_div_eq_div_mul, List.length_cons, Nat.pow_succ, Nat.mul_comm 2]
theorem z4E (b : Nat) : ∀ (P : List E) (i : Nat), i < 2 ^ P.length → weight P (2 ^ P.length * b + i) = weight P i
  | [], i, _ => rfl
  | q :: Q, i, h => by
    rw [List.length_cons, Nat.pow_succ] at h
    have e1 : (2 ^ (q :: Q).length * b + i) % 2 = i % 2 := by
      rw [List.length_cons, Nat.pow_succ, Nat.mul_comm (2 ^ Q.length) 2, Nat.mul_assoc]; omega
    have e2 : (2 ^ (q :: Q).length * b + i) / 2 = 2 ^ Q.length * b + i / 2 := by
      rw [List.length_cons, Nat.pow_succ, Nat.mul_comm (2 ^ Q.length) 2, Nat.mul_assoc]; omega
    rw [weight, weight, e1, e2, z4E b Q (i / 2) (by omega)]
theorem z3K (p : E) (P : List E) (i : Nat) (h : i < 2 ^ P.length) : weight (P ++ [p]) i = weight P i * (1 + p) := by
  rw [z3j, Nat.div_eq_of_lt h]; rfl
theorem z4F (p : E) (P : List E) (i : Nat) (h : i < 2 ^ P.length) : weight (P ++ [p]) (2 ^ P.length + i) = weight P i * p := by
  have h0 := z4E 1 P i h
  rw [Nat.mul_one] at h0
  have e : (2 ^ P.length + i) / 2 ^ P.length % 2 = 1 := by
    rw [Nat.add_div_left _ (Nat.two_pow_pos _), Nat.div_eq_of_lt h]
  rw [z3j, h0, e]; rfl
/-- How alike two points are, part by part. -/
def alikeX (P R : List E) (k : Nat) : E := sumN (fun i => pick (hasB (weight P i) k) (weight R i)) (2 ^ P.length)
theorem z6P (k : Nat) : alikeX [] [] k = pick (hasB 1 k) 1 := by
  unfold alikeX
  show sumN _ 1 = _
  rw [sumN, sumN, zero_add]; rfl
theorem z67 {l : Nat} (hl : l ≤ 7) (P R : List E) (p r : E) (hP : ∀ x ∈ P, InL l x) (hlen : P.length = R.length) (k : Nat) :
    alikeX (P ++ [p]) (R ++ [r]) k = alikeX P R k + actT (2 ^ l) (alikeX P R) p 1 k + alikeX P R k * r := by
  have e1 : actT (2 ^ l) (alikeX P R) p 1 k = sumN (fun i => pick (hasB (weight P i * p) k) (weight R i)) (2 ^ P.length) := by
    unfold alikeX
    rw [actT_sum]
    exact z1E _ (fun i _ => by rw [z5C hl (z2G hl P i hP), mul_one])
  have e2 : alikeX P R k * r = sumN (fun i => pick (hasB (weight P i) k) (weight R i * r)) (2 ^ P.length) := by
    unfold alikeX
    rw [← z4z]
    exact z1E _ (fun i _ => (z5q _ _ _).symm)
  rw [e1, e2]
  unfold alikeX
  rw [← z3b, ← z3b, List.length_append, List.length_singleton, Nat.pow_succ, Nat.mul_two, z53, ← z3b]
  apply z1E
  intro i hi
  have hi' : i < 2 ^ R.length := by rw [← hlen]; exact hi
  rw [z3K p P i hi, z4F p P i hi, z3K r R i hi', show 2 ^ P.length + i = 2 ^ R.length + i by rw [hlen], z4F r R i hi']
  generalize weight P i = w
  generalize weight R i = v
  rw [mul_add, mul_add, mul_one, mul_one, z3u, z42, z42]
  generalize pick (hasB w k) v = a
  generalize pick (hasB (w * p) k) v = b
  generalize pick (hasB w k) (v * r) = c
  generalize pick (hasB (w * p) k) (v * r) = d
  have : a + c + (b + d) + d = a + b + c := by
    rw [add_assoc (a + c), add_assoc b d d, z2m, add_zero, add_assoc a c b, add_comm c b, ← add_assoc]
  exact this
end Go.Proofs.Ytkhmpaooinpfoaa.Sp
/- The program's sums of pairs: a tensor times an element on the left, parts by another one, added to one. Own text. -/
namespace Go.Proofs.Ytkhmpaooinpfoaa.Sp
open Go.RowKit Go.Proofs.YtkhmpaooinpfoaaW.PrintWords Go.Proofs.YtkhmpaooinpfoaaW.PrintMore Go.Proofs.Ytkhmpaooinpfoaa.P Go.Proofs.Ytkhmpaooinpfoaa.Ar Go.Proofs.Ytkhmpaooinpfoaa.Tw
set_option linter.unusedVariables false
/-- A list of so many elements. -/
def tabL (n : Nat) (f : Nat → E) : List E := (List.range n).map f
theorem zU (n : Nat) (f : Nat → E) : (tabL n f).length = n := by simp [tabL]
theorem z1K (n : Nat) (f : Nat → E) (i : Nat) (h : i < n) : (tabL n f).getD i 0 = f i := z2I f 0 n i h
theorem z1B (n : Nat) {f g : Nat → E} (h : ∀ i, i < n → f i = g i) : tabL n f = tabL n g := by
  unfold tabL
  apply List.map_congr_left
  intro i hi
  exact h i (List.mem_range.1 hi)
theorem tabL_self (X : List E) : tabL X.length (fun i => X.getD i 0) = X := by
  apply z3Z (zU _ _)
  intro i hi
  rw [zU] at hi
  exact z1K _ _ i hi
theorem z44 (n : Nat) (f g : Nat → E) (i : Nat) (hi : i < n) (hg : ∀ k, k < n → k ≠ i → g k = f k) : (tabL n f).set i (g i) = tabL n g := by
  apply z3Z
  · rw [List.length_set, zU, zU]
  · intro k hk
    rw [List.length_set, zU] at hk
    rw [z1K n g k hk]
    by_cases c : i = k
    · subst c
      exact z5f (by rw [zU]; exact hi) _
    · rw [getD_set_ne c, z1K n f k hk, hg k hk (fun e => c e.symm)]
theorem z3c (n : Nat) : List.replicate n (0 : E) = tabL n (fun _ => 0) := by
  apply z3Z
  · rw [List.length_replicate, zU]
  · intro i hi
    rw [List.length_replicate] at hi
    rw [z1K n _ i hi, List.getD_eq_getElem?_getD, List.getElem?_replicate, if_pos hi]; rfl
theorem z6C {l : Nat} (hl : l ≤ 7) (n : Nat) (f : Nat → E) (h : ∀ i, i < n → InL l (f i)) : AllS (l : Int) (tabL n f) := by
  intro x hx
  unfold tabL at hx
  obtain ⟨i, hi, rfl⟩ := List.mem_map.1 hx
  exact ⟨by omega, by omega, by rw [Int.toNat_natCast]; exact h i (List.mem_range.1 hi)⟩
theorem z7H {l : Nat} (hl : l ≤ 7) {x : E} (h : InL l x) : OfS (l : Int) x := ⟨by omega, by omega, by rw [Int.toNat_natCast]; exact h⟩
theorem inL_of {l : Nat} {x : E} (h : OfS (l : Int) x) : InL l x := by have := h.2.2; rwa [Int.toNat_natCast] at this
/-- One product's bits, each with y, added to what there is. -/
def bitAdd (f : Nat → E) (z y : E) (i k : Nat) : E := f k + pick (decide (k < i) && hasB z k) y
theorem z68 (f : Nat → E) (z y : E) (k : Nat) : bitAdd f z y 0 k = f k := by
  unfold bitAdd
  rw [decide_eq_false (Nat.not_lt_zero k), Bool.false_and, z1j, add_zero]
theorem z5H (f : Nat → E) (z y : E) (i : Nat) : bitAdd f z y i i = f i := by
  unfold bitAdd
  rw [decide_eq_false (Nat.lt_irrefl i), Bool.false_and, z1j, add_zero]
theorem z4h (f : Nat → E) (z y : E) (i k : Nat) (h : k ≠ i) : bitAdd f z y (i + 1) k = bitAdd f z y i k := by
  unfold bitAdd
  have : decide (k < i + 1) = decide (k < i) := by rw [decide_eq_decide]; omega
  rw [this]
theorem z4Y (f : Nat → E) (z y : E) (i : Nat) : bitAdd f z y (i + 1) i = f i + pick (hasB z i) y := by
  unfold bitAdd
  rw [decide_eq_true (Nat.lt_succ_self i), Bool.true_and]
theorem z6S (f : Nat → E) (z y : E) (n k : Nat) (h : k < n) : bitAdd f z y n k = f k + pick (hasB z k) y := by
  unfold bitAdd
  rw [decide_eq_true h, Bool.true_and]
theorem z7o {l : Nat} (hl : l ≤ 7) (f : Nat → E) (z y a p : E) (TS : List S30) (m u : Int) {R : List S30}
    (h : Ev (fun q => zm.l0 q (l : Int) ((tabL (2 ^ l) (fun k => f k + pick (hasB z k) y)).map toS) TS m (wrap64 (u + 1)) (hi a) (lo a) (hi p) (lo p)) R) :
    ∀ (d i : Nat), i + d = 2 ^ l → Ev (fun q => zm.l1 q (l : Int) ((tabL (2 ^ l) (bitAdd f z y i)).map toS) TS m u (bitsL z (2 ^ l)) ((2 ^ l : Nat) : Int) (i : Int) (hi a) (lo a) (hi p) (lo p) (hi y) (lo y)) R := by
  have h128 := w128 hl
  have hlb : (bitsL z (2 ^ l)).length = 2 ^ l := by unfold bitsL; simp
  intro d
  induction d with
  | zero =>
    intro i hid
    have : i = 2 ^ l := by omega
    subst this
    refine Ev.step (fun q => by rw [zm.l1]) (Ev.neg (Int.lt_irrefl _) ?_)
    rw [z1B _ (fun k hk => z6S f z y (2 ^ l) k hk)]
    exact h
  | succ d ih =>
    intro i hid
    have hi' : i < 2 ^ l := by omega
    have hih := ih (i + 1) (by omega)
    have hb : rdOf false (bitsL z (2 ^ l)) (i : Int) = hasB z i := by rw [z7U]; exact z2I _ false _ i hi'
    have hg : (tabL (2 ^ l) (bitAdd f z y i)).getD i 0 = f i := by rw [z1K _ _ i hi', z5H]
    have c3 : (i : Int) < (((tabL (2 ^ l) (bitAdd f z y i)).map toS).length : Int) := by rw [List.length_map, zU]; omega
    refine Ev.step (fun q => by rw [zm.l1]) (Ev.pos (by omega) (Ev.pos (Int.natCast_nonneg _) (Ev.pos (by rw [hlb]; omega) ?_)))
    simp only [hb, z1H hi' (show 2 ^ l ≤ 4611686018427387904 by omega)]
    cases c : hasB z i with
    | true =>
      refine Ev.pos rfl (Ev.pos c3 ?_)
      simp only [rdS, hg, z3d, z3e]
      refine Ev.bnd0 (z73 _ _) ?_
      have e : ((tabL (2 ^ l) (bitAdd f z y i)).map toS).set (i : Int).toNat (⟨hi (f i + y), lo (f i + y)⟩ : S30) = (tabL (2 ^ l) (bitAdd f z y (i + 1))).map toS := by
        rw [Int.toNat_natCast, z6F, map_set]
        have hn := z4Y f z y i
        rw [c, z1A] at hn
        rw [← hn, z44 _ _ _ i hi' (fun k _ hne => z4h f z y i k hne)]
      rw [e]; exact hih
    | false =>
      refine Ev.neg Bool.false_ne_true ?_
      have e : tabL (2 ^ l) (bitAdd f z y (i + 1)) = tabL (2 ^ l) (bitAdd f z y i) := by
        apply z1B
        intro k _
        by_cases ck : k = i
        · subst ck; rw [z4Y, c, z1j, add_zero, z5H]
        · exact z4h f z y i k ck
      rw [← e]; exact hih
theorem z7n {l : Nat} (hl : l ≤ 7) (T : List E) (a p : E) (hT : AllS (l : Int) T) (hTl : T.length ≤ 2 ^ l) (ha : InL l a) (hp : InL l p) (f : Nat → E) :
    ∀ (d u : Nat), u + d = T.length → Ev (fun q => zm.l0 q (l : Int) ((tabL (2 ^ l) (fun k => f k + actT u (fun i => T.getD i 0) a p k)).map toS) (T.map toS) (T.length : Int) (u : Int) (hi a) (lo a) (hi p) (lo p))
      ((tabL (2 ^ l) (fun k => f k + actT T.length (fun i => T.getD i 0) a p k)).map toS) := by
  have h128 := w128 hl
  intro d
  induction d with
  | zero =>
    intro u hu
    have : u = T.length := by omega
    subst this
    exact Ev.step (fun q => by rw [zm.l0]) (Ev.neg (Int.lt_irrefl _) (Ev.ret _))
  | succ d ih =>
    intro u hu
    have hu' : u < T.length := by omega
    have hih := ih (u + 1) (by omega)
    have hw := z1H hu' (show T.length ≤ 4611686018427387904 by omega)
    have hs : ∀ k, actT (u + 1) (fun i => T.getD i 0) a p k = actT u (fun i => T.getD i 0) a p k + pick (hasB (bitE u * a) k) (T.getD u 0 * p) := fun k => by
      unfold actT; rw [sumN]
    have hf : (fun k => f k + actT (u + 1) (fun i => T.getD i 0) a p k) = fun k => (f k + actT u (fun i => T.getD i 0) a p k) + pick (hasB (bitE u * a) k) (T.getD u 0 * p) := by
      funext k; rw [hs, add_assoc]
    rw [hf] at hih
    refine Ev.step (fun q => by rw [zm.l0]) (Ev.pos (by omega) (Ev.pos (Int.natCast_nonneg _) (Ev.pos (by rw [List.length_map]; omega) ?_)))
    simp only [rdS, z3d, z3e]
    refine Ev.bnd (z6h hl (z2q hT u) hp) ?_
    simp only [eq_none]
    by_cases c : T.getD u 0 * p = 0
    · refine Ev.pos (decide_eq_true c) ?_
      rw [hw]
      have e : (fun k => (f k + actT u (fun i => T.getD i 0) a p k) + pick (hasB (bitE u * a) k) (T.getD u 0 * p)) = fun k => f k + actT u (fun i => T.getD i 0) a p k := by
        funext k; rw [c, z4o, add_zero]
      rw [e] at hih
      exact hih
    · refine Ev.neg (by rw [decide_eq_false c]; exact Bool.false_ne_true) ?_
      refine Ev.bnd (z4B u (by omega)) ?_
      have hbe := bitE_in hl (show u < 2 ^ l by omega)
      refine Ev.bnd (z6h hl hbe ha) ?_
      refine Ev.bnd (z3Q hl (bitE u * a) (z7H hl (z4k hl hbe ha))) ?_
      have hlb : (bitsL (bitE u * a) (2 ^ l)).length = 2 ^ l := by unfold bitsL; simp
      rw [hlb]
      have e0 : tabL (2 ^ l) (fun k => f k + actT u (fun i => T.getD i 0) a p k) = tabL (2 ^ l) (bitAdd (fun k => f k + actT u (fun i => T.getD i 0) a p k) (bitE u * a) (T.getD u 0 * p) 0) :=
        z1B _ (fun k _ => (z68 (fun k => f k + actT u (fun i => T.getD i 0) a p k) (bitE u * a) (T.getD u 0 * p) k).symm)
      rw [e0]
      refine z7o hl (fun k => f k + actT u (fun i => T.getD i 0) a p k) (bitE u * a) (T.getD u 0 * p) a p _ _ _ ?_ (2 ^ l) 0 (Nat.zero_add _)
      rw [hw]
      exact hih
theorem z5I {l : Nat} (hl : l ≤ 7) (f : Nat → E) (T : List E) (a p : E) (hT : AllS (l : Int) T) (hTl : T.length ≤ 2 ^ l) (ha : InL l a) (hp : InL l p) :
    Ev (fun q => zm.f q (l : Int) ((tabL (2 ^ l) f).map toS) (T.map toS) (hi a) (lo a) (hi p) (lo p)) ((tabL (2 ^ l) (fun k => f k + actT T.length (fun i => T.getD i 0) a p k)).map toS) := by
  unfold zm.f
  rw [List.length_map]
  have := z7n hl T a p hT hTl ha hp f T.length 0 (Nat.zero_add _)
  have e : tabL (2 ^ l) (fun k => f k + actT 0 (fun i => T.getD i 0) a p k) = tabL (2 ^ l) f := z1B _ (fun k _ => by
    show f k + sumN _ 0 = f k
    rw [sumN, add_zero])
  rw [e] at this
  exact this
end Go.Proofs.Ytkhmpaooinpfoaa.Sp
/- What hinders tensors and elements. Own text. -/
namespace Go.Proofs.Ytkhmpaooinpfoaa.Sp
open Go.RowKit Go.Proofs.YtkhmpaooinpfoaaW.PrintWords Go.Proofs.YtkhmpaooinpfoaaW.PrintMore Go.Proofs.Ytkhmpaooinpfoaa.P Go.Proofs.Ytkhmpaooinpfoaa.Ar Go.Proofs.Ytkhmpaooinpfoaa.Tw
set_option linter.unusedVariables false
theorem z5p (L : Int) : ∀ (X : List E), Ev (fun k => zA.all k L (X.map toS)) (decide (AllS L X))
  | [] => by refine Ev.ret' ?_; symm; rw [decide_eq_true_eq]; intro x hx; cases hx
  | x :: xs => by
    show Ev (fun k => (zL.f k L (toS x).f0 (toS x).f1).bind fun b => if b = true then zA.all k L (xs.map toS) else some false) _
    refine Ev.bnd (z5l L x) ?_
    have hd : AllS L (x :: xs) ↔ OfS L x ∧ AllS L xs := List.forall_mem_cons
    by_cases c : OfS L x
    · refine Ev.pos (decide_eq_true c) ((z5p L xs).eqn ?_)
      rw [decide_eq_decide, hd]; exact ⟨fun h => ⟨c, h⟩, fun h => h.2⟩
    · refine Ev.neg (by simpa using c) (Ev.ret' ?_)
      symm; rw [decide_eq_false_iff_not, hd]; exact fun h => c h.1
/-- All of all tensors are of the level. -/
def AllT (L : Int) (Ts : List (List E)) : Prop := ∀ t ∈ Ts, AllS L t
instance (L : Int) (Ts : List (List E)) : Decidable (AllT L Ts) := by unfold AllT; infer_instance
def LenT (s : Int) (Ts : List (List E)) : Prop := ∀ t ∈ Ts, (t.length : Int) = s
instance (s : Int) (Ts : List (List E)) : Decidable (LenT s Ts) := by unfold LenT; infer_instance
def rowsS (Ts : List (List E)) : List (List S30) := Ts.map fun t => t.map toS
theorem z5R (L : Int) : ∀ (Ts : List (List E)), Ev (fun k => zA.alls k L (rowsS Ts)) (decide (AllT L Ts))
  | [] => by refine Ev.ret' ?_; symm; rw [decide_eq_true_eq]; intro x hx; cases hx
  | x :: xs => by
    show Ev (fun k => (zA.all k L (x.map toS)).bind fun b => if b = true then zA.alls k L (rowsS xs) else some false) _
    refine Ev.bnd (z5p L x) ?_
    have hd : AllT L (x :: xs) ↔ AllS L x ∧ AllT L xs := List.forall_mem_cons
    by_cases c : AllS L x
    · refine Ev.pos (decide_eq_true c) ((z5R L xs).eqn ?_)
      rw [decide_eq_decide, hd]; exact ⟨fun h => ⟨c, h⟩, fun h => h.2⟩
    · refine Ev.neg (by simpa using c) (Ev.ret' ?_)
      symm; rw [decide_eq_false_iff_not, hd]; exact fun h => c h.1
theorem z7Q (s : Int) (Ts : List (List E)) : zA.lens s (rowsS Ts) = decide (LenT s Ts) := by
  unfold zA.lens rowsS
  rw [Bool.eq_iff_iff, List.all_eq_true, decide_eq_true_eq]
  constructor
  · intro h t ht
    have := h (t.map toS) (List.mem_map.2 ⟨t, ht, rfl⟩)
    rw [List.length_map, beq_iff_eq] at this
    exact this
  · intro h x hx
    obtain ⟨t, ht, rfl⟩ := List.mem_map.1 hx
    rw [List.length_map, beq_iff_eq]
    exact h t ht
def paskE (L : Int) (Ts : List (List E)) (M : List E) : Int := if LvS L then (if LenT ((2 ^ L.toNat : Nat) : Int) Ts then (if AllT L Ts ∧ AllS L M then 0 else 5) else 6) else 1
theorem pask_ev (L : Int) (Ts : List (List E)) (M : List E) : Ev (fun k => zA.f k L (rowsS Ts) (M.map toS)) (paskE L Ts M) := by
  unfold zA.f
  by_cases hL : LvS L
  rotate_left
  · have e : paskE L Ts M = 1 := if_neg hL
    rw [e]
    exact Ev.bnd (z6A hL) (Ev.pos rfl (Ev.ret _))
  obtain ⟨l, rfl⟩ := Int.eq_ofNat_of_zero_le hL.1
  have hl : l ≤ 7 := by have := hL.2; omega
  have h0 := Nat.two_pow_pos l
  have e : paskE (l : Int) Ts M = if LenT ((2 ^ l : Nat) : Int) Ts then (if AllT (l : Int) Ts ∧ AllS (l : Int) M then 0 else 5) else 6 := by
    unfold paskE; rw [if_pos hL, Int.toNat_natCast]
  rw [e]
  refine Ev.bnd (z4x hl) (Ev.neg (by omega) ?_)
  rw [z7Q]
  by_cases c : LenT ((2 ^ l : Nat) : Int) Ts
  rotate_left
  · rw [if_neg c]
    exact Ev.pos (decide_eq_false c) (Ev.ret _)
  rw [if_pos c]
  refine Ev.neg (by rw [decide_eq_true c]; exact Bool.noConfusion) (Ev.bnd (z5R (l : Int) Ts) ?_)
  by_cases ct : AllT (l : Int) Ts
  rotate_left
  · rw [if_neg (fun h => ct h.1)]
    exact Ev.pos (decide_eq_false ct) (Ev.ret _)
  refine Ev.neg (by rw [decide_eq_true ct]; exact Bool.noConfusion) (Ev.bnd (z5p (l : Int) M) (Ev.ret' ?_))
  by_cases cm : AllS (l : Int) M
  · rw [if_pos (decide_eq_true cm), if_pos ⟨ct, cm⟩]
  · rw [decide_eq_false cm, if_neg Bool.false_ne_true, if_neg (fun h => cm h.2)]
end Go.Proofs.Ytkhmpaooinpfoaa.Sp
/- Are all of a level? as layer 15 asks. Own text. -/
namespace Go.Proofs.Ytkhmpaooinpfoaa.Sp
open Go.RowKit Go.Proofs.YtkhmpaooinpfoaaW.PrintWords Go.Proofs.YtkhmpaooinpfoaaW.PrintMore Go.Proofs.Ytkhmpaooinpfoaa.P Go.Proofs.Ytkhmpaooinpfoaa.Ar Go.Proofs.Ytkhmpaooinpfoaa.Tw
set_option linter.unusedVariables false
set_option linter.unusedSimpArgs false
theorem z4Z (L : Int) : ∀ (X : List E), Ev (fun k => z1n.f k L (X.map toS)) (decide (AllS L X))
  | [] => by refine Ev.ret' ?_; symm; rw [decide_eq_true_eq]; intro x hx; cases hx
  | x :: xs => by
    show Ev (fun k => (zL.f k L (toS x).f0 (toS x).f1).bind fun b => if b = true then z1n.all k L (xs.map toS) else some false) _
    refine Ev.bnd (z5l L x) ?_
    have hd : AllS L (x :: xs) ↔ OfS L x ∧ AllS L xs := List.forall_mem_cons
    by_cases c : OfS L x
    · refine Ev.pos (decide_eq_true c) ((z4Z L xs).eqn ?_)
      rw [decide_eq_decide, hd]; exact ⟨fun h => ⟨c, h⟩, fun h => h.2⟩
    · refine Ev.neg (by simpa using c) (Ev.ret' ?_)
      symm; rw [decide_eq_false_iff_not, hd]; exact fun h => c h.1
end Go.Proofs.Ytkhmpaooinpfoaa.Sp
/- The weights of all corners, as the program doubles them. Own text. -/
namespace Go.Proofs.Ytkhmpaooinpfoaa.Sp
open Go.RowKit Go.Proofs.YtkhmpaooinpfoaaW.PrintWords Go.Proofs.YtkhmpaooinpfoaaW.PrintMore Go.Proofs.Ytkhmpaooinpfoaa.P Go.Proofs.Ytkhmpaooinpfoaa.Ar Go.Proofs.Ytkhmpaooinpfoaa.Tw
set_option linter.unusedVariables false
def weightsL (P : List E) : List E := tabL (2 ^ P.length) (weight P)
theorem z6e (m n : Nat) (f g : Nat → E) : tabL m f ++ tabL n g = tabL (m + n) (fun i => if i < m then f i else g (i - m)) := by
  apply z3Z
  · rw [List.length_append, zU, zU, zU]
  · intro i hi
    rw [List.length_append, zU, zU] at hi
    rw [z1K (m + n) _ i hi, List.getD_eq_getElem?_getD]
    by_cases c : i < m
    · rw [if_pos c, List.getElem?_append_left (by rw [zU]; exact c), ← List.getD_eq_getElem?_getD, z1K m f i c]
    · rw [if_neg c, List.getElem?_append_right (by rw [zU]; omega), zU, ← List.getD_eq_getElem?_getD, z1K n g (i - m) (by omega)]
theorem z5w (P : List E) (p : E) : tabL (2 ^ P.length) (fun i => weight P i + weight P i * p) ++ tabL (2 ^ P.length) (fun i => weight P i * p) = weightsL (P ++ [p]) := by
  unfold weightsL
  rw [z6e, List.length_append, List.length_singleton, Nat.pow_succ, Nat.mul_two]
  apply z1B
  intro i hi
  by_cases c : i < 2 ^ P.length
  · rw [if_pos c, z3K p P i c, mul_add, mul_one]
  · rw [if_neg c]
    have := z4F p P (i - 2 ^ P.length) (by omega)
    rw [show 2 ^ P.length + (i - 2 ^ P.length) = i by omega] at this
    exact this.symm
theorem z6v (i : Nat) (y : E) : pick (decide (i < i)) y = 0 := by rw [decide_eq_false (Nat.lt_irrefl i), z1j]
theorem z3w (i : Nat) (y : E) : pick (decide (i < i + 1)) y = y := by rw [decide_eq_true (Nat.lt_succ_self i), z1A]
theorem z3F (i k : Nat) (y : E) (h : k ≠ i) : pick (decide (k < i + 1)) y = pick (decide (k < i)) y := by
  have : decide (k < i + 1) = decide (k < i) := by rw [decide_eq_decide]; omega
  rw [this]
theorem z5r (n k : Nat) (y : E) (h : k < n) : pick (decide (k < n)) y = y := by rw [decide_eq_true h, z1A]
theorem z3G (k : Nat) (y : E) : pick (decide (k < 0)) y = 0 := by rw [decide_eq_false (Nat.not_lt_zero k), z1j]
theorem z72 {l : Nat} (hl : l ≤ 7) (n : Nat) (hn : n ≤ 1000000) (w : Nat → E) (hw : ∀ i, i < n → InL l (w i)) (x : E) (hx : InL l x) (PS : List S30) (m j : Int) {R : List S30}
    (h : Ev (fun q => zq.l0 q (l : Int) ((tabL n (fun i => w i + w i * x) ++ tabL n (fun i => w i * x)).map toS) PS m (wrap64 (j + 1))) R) :
    ∀ (d i : Nat), i + d = n → Ev (fun q => zq.l1 q (l : Int) ((tabL n (fun k => w k + pick (decide (k < i)) (w k * x))).map toS) ((tabL n (fun k => pick (decide (k < i)) (w k * x))).map toS) PS m j (n : Int) (i : Int) (hi x) (lo x)) R := by
  intro d
  induction d with
  | zero =>
    intro i hid
    have : i = n := by omega
    subst this
    refine Ev.step (fun q => by rw [zq.l1]) (Ev.neg (Int.lt_irrefl _) ?_)
    have e1 : tabL i (fun k => w k + pick (decide (k < i)) (w k * x)) = tabL i (fun k => w k + w k * x) := z1B _ (fun k hk => by rw [z5r i k _ hk])
    have e2 : tabL i (fun k => pick (decide (k < i)) (w k * x)) = tabL i (fun k => w k * x) := z1B _ (fun k hk => z5r i k _ hk)
    rw [e1, e2]
    refine Ev.pos (by rw [List.length_map, List.length_map, zU, zU]; omega) ?_
    rw [← List.map_append]
    exact h
  | succ d ih =>
    intro i hid
    have hi' : i < n := by omega
    have hih := ih (i + 1) (by omega)
    have g1 : (tabL n (fun k => w k + pick (decide (k < i)) (w k * x))).getD i 0 = w i := by rw [z1K _ _ i hi', z6v, add_zero]
    have c3 : (i : Int) < (((tabL n (fun k => w k + pick (decide (k < i)) (w k * x))).map toS).length : Int) := by rw [List.length_map, zU]; omega
    have c4 : (i : Int) < (((tabL n (fun k => pick (decide (k < i)) (w k * x))).map toS).length : Int) := by rw [List.length_map, zU]; omega
    have eu : ((tabL n (fun k => pick (decide (k < i)) (w k * x))).map toS).set (i : Int).toNat (⟨hi (w i * x), lo (w i * x)⟩ : S30) = (tabL n (fun k => pick (decide (k < i + 1)) (w k * x))).map toS := by
      rw [Int.toNat_natCast, z6F, map_set]
      have hn2 := z3w i (w i * x)
      conv => lhs; rw [← hn2]
      rw [z44 n _ (fun k => pick (decide (k < i + 1)) (w k * x)) i hi' (fun k _ hne => z3F i k _ hne)]
    have eo : ((tabL n (fun k => w k + pick (decide (k < i)) (w k * x))).map toS).set (i : Int).toNat (⟨hi (w i + w i * x), lo (w i + w i * x)⟩ : S30) = (tabL n (fun k => w k + pick (decide (k < i + 1)) (w k * x))).map toS := by
      rw [Int.toNat_natCast, z6F, map_set]
      have hn2 := z3w i (w i * x)
      conv => lhs; rw [← hn2]
      rw [z44 n _ (fun k => w k + pick (decide (k < i + 1)) (w k * x)) i hi' (fun k _ hne => by show w k + _ = w k + _; rw [z3F i k _ hne])]
    have g2 : (tabL n (fun k => pick (decide (k < i + 1)) (w k * x))).getD i 0 = w i * x := by rw [z1K _ _ i hi', z3w]
    refine Ev.step (fun q => by rw [zq.l1]) (Ev.pos (by omega) (Ev.pos (Int.natCast_nonneg _) (Ev.pos c3 ?_)))
    simp only [rdS, g1, z3d, z3e]
    refine Ev.bnd (z6h hl (hw i hi') hx) (Ev.pos c4 (Ev.bnd0 rfl ?_))
    simp only [eu, rdS, g2, z3d, z3e]
    refine Ev.bnd0 (z73 _ _) ?_
    simp only [eo, z1H hi' (show n ≤ 4611686018427387904 by omega)]
    exact hih
theorem z4j {l : Nat} {P : List E} (h : AllS (l : Int) P) : ∀ p ∈ P, InL l p := fun p hp => inL_of (h p hp)
theorem z70 {l : Nat} (hl : l ≤ 7) (P : List E) (hP : AllS (l : Int) P) (hPl : P.length ≤ 16) : ∀ (d j : Nat), j + d = P.length →
    Ev (fun q => zq.l0 q (l : Int) ((weightsL (P.take j)).map toS) (P.map toS) (P.length : Int) (j : Int)) ((weightsL P).map toS) := by
  intro d
  induction d with
  | zero =>
    intro j hj
    have : j = P.length := by omega
    subst this
    rw [List.take_length]
    exact Ev.step (fun q => by rw [zq.l0]) (Ev.neg (Int.lt_irrefl _) (Ev.ret _))
  | succ d ih =>
    intro j hj
    have hj' : j < P.length := by omega
    have hih := ih (j + 1) (by omega)
    have htl : (P.take j).length = j := by rw [List.length_take]; omega
    have hp16 : 2 ^ j ≤ 2 ^ 16 := Nat.pow_le_pow_right (by decide) (by omega)
    have hwl : (weightsL (P.take j)).length = 2 ^ j := by unfold weightsL; rw [zU, htl]
    have hg : P.getD j 0 = P[j] := by rw [List.getD_eq_getElem?_getD, List.getElem?_eq_getElem hj']; rfl
    rw [List.take_succ_eq_append_getElem hj', ← hg, ← z5w, htl] at hih
    refine Ev.step (fun q => by rw [zq.l0]) (Ev.pos (by omega) (Ev.pos (Int.natCast_nonneg _) (Ev.pos (by rw [List.length_map]; omega) ?_)))
    rw [List.length_map, hwl]
    refine Ev.pos (Int.natCast_nonneg _) (Ev.pos (by rw [Int.toNat_natCast]; omega) ?_)
    simp only [rdS, z3d, z3e]
    have e0 : weightsL (P.take j) = tabL (2 ^ j) (fun k => weight (P.take j) k + pick (decide (k < 0)) (weight (P.take j) k * P.getD j 0)) := by
      unfold weightsL; rw [htl]
      exact z1B _ (fun k _ => by rw [z3G, add_zero])
    have e1 : List.replicate ((2 ^ j : Nat) : Int).toNat z30 = (tabL (2 ^ j) (fun k => pick (decide (k < 0)) (weight (P.take j) k * P.getD j 0))).map toS := by
      rw [Int.toNat_natCast, z43, z3c]
      exact congrArg (List.map toS) (z1B _ (fun k _ => (z3G _ _).symm))
    rw [e0, e1]
    refine z72 hl (2 ^ j) (by omega) (weight (P.take j)) (fun i _ => z2G hl _ i (fun p hp => z4j hP p (List.mem_of_mem_take hp))) (P.getD j 0) (z2q hP j) _ _ _ ?_ (2 ^ j) 0 (Nat.zero_add _)
    rw [z1H hj' (show P.length ≤ 4611686018427387904 by omega)]
    exact hih
/-- The weights, or nothing. -/
def weightsO (L : Int) (P : List E) : List E := if LvS L ∧ P.length ≤ 16 ∧ AllS L P then weightsL P else []
theorem z4V (L : Int) (P : List E) : Ev (fun q => zq.f q L (P.map toS)) ((weightsO L P).map toS) := by
  have hT : ¬ (LvS L ∧ P.length ≤ 16 ∧ AllS L P) → Ev (fun q => zq.j0 q L (P.map toS) true) ((weightsO L P).map toS) := by
    intro h
    have e : weightsO L P = [] := if_neg h
    rw [e]
    refine Ev.step (fun q => by rw [zq.j0]) ?_
    exact Ev.pos rfl (Ev.ret _)
  unfold zq.f
  rw [List.length_map]
  by_cases hL : LvS L
  rotate_left
  · exact Ev.bnd (z6H hL) (Ev.pos rfl (hT (fun h => hL h.1)))
  obtain ⟨v, hv, hw⟩ := z85 hL
  refine Ev.bnd hw (Ev.neg hv ?_)
  by_cases hl : (P.length : Int) > 16
  · exact Ev.pos hl (hT (fun h => by have := h.2.1; omega))
  refine Ev.neg hl (Ev.bnd (z4Z L P) ?_)
  by_cases hA : AllS L P
  rotate_left
  · rw [decide_eq_false hA]; exact hT (fun h => hA h.2.2)
  rw [decide_eq_true hA]
  have e : weightsO L P = weightsL P := if_pos ⟨hL, by omega, hA⟩
  rw [e]
  obtain ⟨l, rfl⟩ := Int.eq_ofNat_of_zero_le hL.1
  refine Ev.step (fun q => by rw [zq.j0]) (Ev.neg (by decide) (Ev.bnd0 z6i ?_))
  rw [List.length_map]
  have := z70 (by have := hL.2; omega) P hA (by omega) P.length 0 (Nat.zero_add _)
  have e0 : (weightsL (P.take 0)).map toS = [(⟨hi 1, lo 1⟩ : S30)] := rfl
  rw [e0] at this
  exact this
end Go.Proofs.Ytkhmpaooinpfoaa.Sp
/- The document's weights. Own text. -/
namespace Go.Proofs.Ytkhmpaooinpfoaa.Sp
open Go.RowKit Go.Proofs.YtkhmpaooinpfoaaW.PrintWords Go.Proofs.YtkhmpaooinpfoaaW.PrintMore Go.Proofs.Ytkhmpaooinpfoaa.P Go.Proofs.Ytkhmpaooinpfoaa.Ar Go.Proofs.Ytkhmpaooinpfoaa.Tw
set_option linter.unusedVariables false
set_option linter.unusedSimpArgs false
/-- The document's weights and values. -/
theorem z5V : z1y.f = some (hi 1, lo 1) := by unfold z1y.f; rw [hi_one, lo_one]
theorem z84 (P : List E) (hP : P.length ≤ 1000000) : ∀ (d j n : Nat) (acc : E), j + d = P.length → n ≤ 4611686018427387904 →
    Ev (fun q => zp.l0 q (P.map toR) (n : Int) (j : Int) (hi acc) (lo acc)) (hi (acc * weight (P.drop j) n), lo (acc * weight (P.drop j) n)) := by
  intro d
  induction d with
  | zero =>
    intro j n acc hj hn
    refine Ev.step (fun q => by rw [zp.l0]) (Ev.neg (by rw [List.length_map]; omega) (Ev.ret' ?_))
    rw [List.drop_eq_nil_of_le (by omega), weight, mul_one]
  | succ d ih =>
    intro j n acc hj hn
    have hj' : j < P.length := by omega
    have e1 : Int.tmod (n : Int) 2 = ((n % 2 : Nat) : Int) := by rw [Int.tmod_eq_emod_of_nonneg (by omega)]; omega
    have e2 : wrap64 (Int.tdiv (n : Int) 2) = ((n / 2 : Nat) : Int) := by
      rw [Int.tdiv_eq_ediv_of_nonneg (by omega), z2n (by omega) (by omega)]; omega
    have hw : weight (P.drop j) n = (if n % 2 = 1 then P.getD j 0 else 1 + P.getD j 0) * weight (P.drop (j + 1)) (n / 2) := by
      rw [List.drop_eq_getElem_cons hj', weight]
      have : P.getD j 0 = P[j] := by rw [List.getD_eq_getElem?_getD, List.getElem?_eq_getElem hj']; rfl
      rw [this]
    refine Ev.step (fun q => by rw [zp.l0]) (Ev.pos (by rw [List.length_map]; omega) ?_)
    simp only [e1, e2, rdR, z6D, z6E, z1H hj' (show P.length ≤ 4611686018427387904 by omega)]
    by_cases c : n % 2 = 1
    · refine Ev.pos (by omega) (Ev.pos (Int.natCast_nonneg _) (Ev.bnd (z4R _ _) ?_))
      rw [hw, if_pos c, ← mul_assoc]
      exact ih (j + 1) (n / 2) _ (by omega) (by omega)
    · refine Ev.neg (by omega) (Ev.bnd0 z5V (Ev.pos (Int.natCast_nonneg _) (Ev.bnd0 (z4u _ _) (Ev.bnd (z4R _ _) ?_))))
      rw [hw, if_neg c, ← mul_assoc]
      exact ih (j + 1) (n / 2) _ (by omega) (by omega)
theorem z60 (P : List E) (hP : P.length ≤ 1000000) (n : Nat) (hn : n ≤ 4611686018427387904) : Ev (fun q => zp.f q (P.map toR) (n : Int)) (hi (weight P n), lo (weight P n)) := by
  unfold zp.f
  refine Ev.bnd0 z5V ?_
  have := z84 P hP P.length 0 n 1 (by omega) hn
  rw [List.drop_zero, one_mul] at this
  exact this
end Go.Proofs.Ytkhmpaooinpfoaa.Sp
/- How alike two points are, part by part: as the program reckons it, as it sums it, as the document says it. Own text. -/
namespace Go.Proofs.Ytkhmpaooinpfoaa.Sp
open Go.RowKit Go.Proofs.YtkhmpaooinpfoaaW.PrintWords Go.Proofs.YtkhmpaooinpfoaaW.PrintMore Go.Proofs.Ytkhmpaooinpfoaa.P Go.Proofs.Ytkhmpaooinpfoaa.Ar Go.Proofs.Ytkhmpaooinpfoaa.Tw
set_option linter.unusedVariables false
theorem evIte {α : Type} {c : Prop} [Decidable c] {f g : Nat → Option α} {r : α} (h1 : c → Ev f r) (h2 : ¬ c → Ev g r) : Ev (fun n => if c then f n else g n) r := by
  by_cases h : c
  · exact Ev.pos h (h1 h)
  · exact Ev.neg h (h2 h)
theorem concat2 (A B : List S30) (hA : A.length ≤ 1000000) (hB : B.length ≤ 1000000) : Ev (fun k => zn.f k [A, B]) (A ++ B) := by
  have r0 : z2f [A, B] 0 = A := rfl
  have r1 : z2f [A, B] 1 = B := rfl
  have e01 : wrap64 ((0 : Int) + 1) = 1 := z2n (by decide) (by decide)
  have e12 : wrap64 ((1 : Int) + 1) = 2 := z2n (by decide) (by decide)
  have eA : wrap64 ((0 : Int) + (A.length : Int)) = (A.length : Int) := by rw [Int.zero_add]; exact z2n (by omega) (by omega)
  have eB : wrap64 ((A.length : Int) + (B.length : Int)) = ((A.length + B.length : Nat) : Int) := w64_add (by omega) (by omega)
  have h2 : (([A, B] : List (List S30)).length : Int) = 2 := rfl
  unfold zn.f
  simp only [h2]
  have l1 : Ev (fun k => zn.l1 k [] [A, B] 2 0) (A ++ B) := by
    refine Ev.step (fun k => by rw [zn.l1]) (Ev.pos (by decide) (Ev.pos (by decide) ?_))
    simp only [h2, r0, e01, List.nil_append]
    refine Ev.pos (by decide) (Ev.pos (by simp; omega) ?_)
    refine Ev.step (fun k => by rw [zn.l1]) (Ev.pos (by decide) (Ev.pos (by decide) ?_))
    simp only [h2, r1, e12]
    refine Ev.pos (by decide) (Ev.pos (by omega) ?_)
    exact Ev.step (fun k => by rw [zn.l1]) (Ev.neg (by decide) (Ev.ret _))
  refine Ev.step (fun k => by rw [zn.l0]) (Ev.pos (by decide) (Ev.pos (by decide) ?_))
  simp only [h2, r0, e01, eA]
  refine Ev.pos (by decide) (Ev.neg (by omega) ?_)
  refine Ev.step (fun k => by rw [zn.l0]) (Ev.pos (by decide) (Ev.pos (by decide) ?_))
  simp only [h2, r1, e12, eB]
  refine Ev.pos (by decide) (Ev.neg (by omega) ?_)
  refine Ev.step (fun k => by rw [zn.l0]) (Ev.neg (by decide) (Ev.pos (Int.natCast_nonneg _) (Ev.pos (by omega) ?_)))
  simp only [h2]
  exact l1
theorem alike_l1 {l : Nat} (hl : l ≤ 7) (f g : Nat → E) (q : E) (hf : ∀ u, u < 2 ^ l → InL l (f u)) (hq : InL l q) (PS : List S30) (R : List E) (j : Nat) (hj : j < R.length) (hRq : R.getD j 0 = q) (m : Int) {res : List S30 × Int}
    (h : Ev (fun k => zv.l0 k (l : Int) PS (R.map toS) ((tabL (2 ^ l) (fun u => g u + f u * q)).map toS) m (wrap64 ((j : Int) + 1))) res) :
    ∀ (d i : Nat), i + d = 2 ^ l → Ev (fun k => zv.l1 k (l : Int) PS (R.map toS) (j : Int) ((tabL (2 ^ l) (fun u => g u + pick (decide (u < i)) (f u * q))).map toS) m (j : Int) ((tabL (2 ^ l) f).map toS) ((2 ^ l : Nat) : Int) (i : Int)) res := by
  have h128 := w128 hl
  intro d
  induction d with
  | zero =>
    intro i hid
    have : i = 2 ^ l := by omega
    subst this
    refine Ev.step (fun k => by rw [zv.l1]) (Ev.neg (Int.lt_irrefl _) ?_)
    have e1 : tabL (2 ^ l) (fun u => g u + pick (decide (u < 2 ^ l)) (f u * q)) = tabL (2 ^ l) (fun u => g u + f u * q) := z1B _ (fun u hu => by rw [z5r _ u _ hu])
    rw [e1]; exact h
  | succ d ih =>
    intro i hid
    have hi' : i < 2 ^ l := by omega
    have hih := ih (i + 1) (by omega)
    have g1 : (tabL (2 ^ l) (fun u => g u + pick (decide (u < i)) (f u * q))).getD i 0 = g i := by rw [z1K _ _ i hi', z6v, add_zero]
    have g2 : (tabL (2 ^ l) f).getD i 0 = f i := z1K _ _ i hi'
    have c3 : (i : Int) < (((tabL (2 ^ l) f).map toS).length : Int) := by rw [List.length_map, zU]; omega
    have c4 : (i : Int) < (((tabL (2 ^ l) (fun u => g u + pick (decide (u < i)) (f u * q))).map toS).length : Int) := by rw [List.length_map, zU]; omega
    have c5 : (j : Int) < ((R.map toS).length : Int) := by rw [List.length_map]; omega
    have eo : ((tabL (2 ^ l) (fun u => g u + pick (decide (u < i)) (f u * q))).map toS).set (i : Int).toNat (⟨hi (g i + f i * q), lo (g i + f i * q)⟩ : S30) = (tabL (2 ^ l) (fun u => g u + pick (decide (u < i + 1)) (f u * q))).map toS := by
      rw [Int.toNat_natCast, z6F, map_set]
      have hn2 := z3w i (f i * q)
      conv => lhs; rw [← hn2]
      rw [z44 (2 ^ l) _ (fun u => g u + pick (decide (u < i + 1)) (f u * q)) i hi' (fun k _ hne => by show g k + _ = g k + _; rw [z3F i k _ hne])]
    refine Ev.step (fun k => by rw [zv.l1]) (Ev.pos (by omega) (Ev.pos (Int.natCast_nonneg _) (Ev.pos c3 (Ev.pos c4 (Ev.pos (Int.natCast_nonneg _) (Ev.pos c5 ?_))))))
    simp only [rdS, g1, g2, hRq, z3d, z3e]
    refine Ev.bnd (z6h hl (hf i hi') hq) (Ev.bnd0 (z73 _ _) ?_)
    simp only [eo, z1H hi' (show 2 ^ l ≤ 4611686018427387904 by omega)]
    exact hih
theorem z7i {l : Nat} (hl : l ≤ 7) (P R : List E) (hR : ∀ x ∈ R, InL l x) (k : Nat) : InL l (alikeX P R k) :=
  z6d _ _ (fun i _ => z6a _ (z2G hl R i hR))
theorem z5Y (P : List E) (j : Nat) (h : j < P.length) : P.take (j + 1) = P.take j ++ [P.getD j 0] := by
  have hg : P.getD j 0 = P[j] := by rw [List.getD_eq_getElem?_getD, List.getElem?_eq_getElem h]; rfl
  rw [hg]; exact List.take_succ_eq_append_getElem h
theorem alike_l0 {l : Nat} (hl : l ≤ 7) (P R : List E) (hP : AllS (l : Int) P) (hR : AllS (l : Int) R) (hlen : P.length = R.length) (h16 : P.length ≤ 16) : ∀ (d j : Nat), j + d = P.length →
    Ev (fun k => zv.l0 k (l : Int) (P.map toS) (R.map toS) ((tabL (2 ^ l) (alikeX (P.take j) (R.take j))).map toS) (P.length : Int) (j : Int)) ((tabL (2 ^ l) (alikeX P R)).map toS, 0) := by
  have h128 := w128 hl
  intro d
  induction d with
  | zero =>
    intro j hj
    have : j = P.length := by omega
    subst this
    rw [List.take_length]
    have : R.take P.length = R := by rw [hlen, List.take_length]
    rw [this]
    exact Ev.step (fun k => by rw [zv.l0]) (Ev.neg (Int.lt_irrefl _) (Ev.ret _))
  | succ d ih =>
    intro j hj
    have hj' : j < P.length := by omega
    have hih := ih (j + 1) (by omega)
    have hPj : ∀ x ∈ P.take j, InL l x := fun x hx => z4j hP x (List.mem_of_mem_take hx)
    have hRj : ∀ x ∈ R.take j, InL l x := fun x hx => z4j hR x (List.mem_of_mem_take hx)
    have htl : (P.take j).length = (R.take j).length := by rw [List.length_take, List.length_take]; omega
    have hf : ∀ u, InL l (alikeX (P.take j) (R.take j) u) := z7i hl _ _ hRj
    have hcl : z1z.f ((tabL (2 ^ l) (alikeX (P.take j) (R.take j))).map toS) = some ((tabL (2 ^ l) (alikeX (P.take j) (R.take j))).map toS) := by
      unfold z1z.f
      rw [if_pos (by rw [List.length_map, zU]; omega)]
    have hall : AllS (l : Int) (tabL (2 ^ l) (alikeX (P.take j) (R.take j))) := z6C hl _ _ (fun u _ => hf u)
    have hby := z5I hl (alikeX (P.take j) (R.take j)) (tabL (2 ^ l) (alikeX (P.take j) (R.take j))) (P.getD j 0) 1 hall (by rw [zU]; exact Nat.le_refl _) (z2q hP j) (z3h l)
    have hact : tabL (2 ^ l) (fun k => alikeX (P.take j) (R.take j) k + actT (tabL (2 ^ l) (alikeX (P.take j) (R.take j))).length (fun i => (tabL (2 ^ l) (alikeX (P.take j) (R.take j))).getD i 0) (P.getD j 0) 1 k)
        = tabL (2 ^ l) (fun k => alikeX (P.take j) (R.take j) k + actT (2 ^ l) (alikeX (P.take j) (R.take j)) (P.getD j 0) 1 k) := by
      apply z1B
      intro k _
      rw [zU]
      congr 1
      exact z4W _ _ _ _ (fun u hu => z1K _ _ u hu)
    rw [hact] at hby
    have c5 : (j : Int) < ((P.map toS).length : Int) := by rw [List.length_map]; omega
    refine Ev.step (fun k => by rw [zv.l0]) (Ev.pos (by omega) ?_)
    refine Ev.bnd0 hcl ?_
    refine Ev.pos (Int.natCast_nonneg _) ?_
    refine Ev.pos c5 ?_
    refine Ev.bnd0 z6i ?_
    simp only [rdS, z3d, z3e]
    refine Ev.bnd hby ?_
    rw [List.length_map, zU]
    have e0 : tabL (2 ^ l) (fun k => alikeX (P.take j) (R.take j) k + actT (2 ^ l) (alikeX (P.take j) (R.take j)) (P.getD j 0) 1 k)
        = tabL (2 ^ l) (fun u => (alikeX (P.take j) (R.take j) u + actT (2 ^ l) (alikeX (P.take j) (R.take j)) (P.getD j 0) 1 u) + pick (decide (u < 0)) (alikeX (P.take j) (R.take j) u * R.getD j 0)) :=
      z1B _ (fun u _ => by rw [z3G, add_zero])
    rw [e0]
    refine alike_l1 hl (alikeX (P.take j) (R.take j)) _ (R.getD j 0) (fun u _ => hf u) (z2q hR j) _ R j (by omega) rfl _ ?_ (2 ^ l) 0 (Nat.zero_add _)
    rw [z1H hj' (show P.length ≤ 4611686018427387904 by omega)]
    have e1 : tabL (2 ^ l) (fun u => (alikeX (P.take j) (R.take j) u + actT (2 ^ l) (alikeX (P.take j) (R.take j)) (P.getD j 0) 1 u) + alikeX (P.take j) (R.take j) u * R.getD j 0)
        = tabL (2 ^ l) (alikeX (P.take (j + 1)) (R.take (j + 1))) := by
      rw [z5Y P j hj', z5Y R j (by omega)]
      exact z1B _ (fun u _ => (z67 hl _ _ _ _ hPj htl u).symm)
    rw [e1]
    exact hih
/-- What hinders. -/
def alikeErr (L : Int) (P R : List E) : Int := if LvS L then (if P.length = R.length ∧ P.length ≤ 16 then (if AllS L P ∧ AllS L R then 0 else 5) else 6) else 1
def alikeO (L : Int) (P R : List E) : List E := if alikeErr L P R = 0 then tabL (2 ^ L.toNat) (alikeX P R) else []
theorem z4n (n : Nat) (x y : E) : pairX n x y = tabL n (fun k => pick (hasB x k) y) := rfl
theorem z4f {L : Int} {P R : List E} : AllS L (P ++ R) ↔ AllS L P ∧ AllS L R := by
  unfold AllS
  simp only [List.mem_append]
  exact ⟨fun h => ⟨fun x hx => h x (Or.inl hx), fun x hx => h x (Or.inr hx)⟩, fun h x hx => hx.elim (h.1 x) (h.2 x)⟩
theorem Alike_ev (L : Int) (P R : List E) : Ev (fun k => zv.f k L (P.map toS) (R.map toS)) ((alikeO L P R).map toS, alikeErr L P R) := by
  unfold zv.f
  by_cases hL : LvS L
  rotate_left
  · have e : alikeErr L P R = 1 := if_neg hL
    have eo : alikeO L P R = [] := if_neg (by rw [e]; decide)
    rw [e, eo]
    exact Ev.bnd (z6A hL) (Ev.pos rfl (Ev.ret _))
  obtain ⟨l, rfl⟩ := Int.eq_ofNat_of_zero_le hL.1
  have hl : l ≤ 7 := by have := hL.2; omega
  have h0 := Nat.two_pow_pos l
  refine Ev.bnd (z4x hl) (Ev.neg (by omega) ?_)
  rw [List.length_map, List.length_map]
  have h6 : ¬ (P.length = R.length ∧ P.length ≤ 16) → alikeErr (l : Int) P R = 6 ∧ alikeO (l : Int) P R = [] := by
    intro h
    have e : alikeErr (l : Int) P R = 6 := by unfold alikeErr; rw [if_pos hL, if_neg h]
    exact ⟨e, if_neg (by rw [e]; decide)⟩
  by_cases c1 : (P.length : Int) = (R.length : Int)
  rotate_left
  · obtain ⟨e, eo⟩ := h6 (fun h => c1 (by omega))
    rw [e, eo]
    exact Ev.neg c1 (Ev.ret _)
  refine Ev.pos c1 ?_
  by_cases c2 : (P.length : Int) > 16
  · obtain ⟨e, eo⟩ := h6 (fun h => by omega)
    rw [e, eo]
    exact Ev.pos c2 (Ev.ret _)
  refine Ev.neg c2 (Ev.bnd (concat2 (P.map toS) (R.map toS) (by rw [List.length_map]; omega) (by rw [List.length_map]; omega)) ?_)
  rw [← List.map_append]
  refine Ev.bnd (pask_ev (l : Int) [] (P ++ R)) ?_
  have ha : paskE (l : Int) [] (P ++ R) = if AllS (l : Int) P ∧ AllS (l : Int) R then 0 else 5 := by
    have n1 : LenT ((2 ^ (l : Int).toNat : Nat) : Int) ([] : List (List E)) := fun t ht => by cases ht
    have n2 : AllT (l : Int) ([] : List (List E)) := fun t ht => by cases ht
    unfold paskE
    rw [if_pos hL, if_pos n1]
    by_cases c : AllS (l : Int) P ∧ AllS (l : Int) R
    · rw [if_pos c, if_pos ⟨n2, z4f.2 c⟩]
    · rw [if_neg c, if_neg (fun h => c (z4f.1 h.2))]
  have he : alikeErr (l : Int) P R = if AllS (l : Int) P ∧ AllS (l : Int) R then 0 else 5 := by
    unfold alikeErr; rw [if_pos hL, if_pos ⟨by omega, by omega⟩]
  rw [ha, he]
  by_cases c : AllS (l : Int) P ∧ AllS (l : Int) R
  rotate_left
  · rw [if_neg c] at he ⊢
    have eo : alikeO (l : Int) P R = [] := if_neg (by rw [he]; decide)
    rw [eo]
    exact Ev.neg (by decide) (Ev.ret _)
  rw [if_pos c] at he ⊢
  have eo : alikeO (l : Int) P R = tabL (2 ^ l) (alikeX P R) := by unfold alikeO; rw [if_pos he, Int.toNat_natCast]
  rw [eo]
  have hone := One_ev (l : Int)
  have e1 : leftO (l : Int) 1 = tabL (2 ^ l) (alikeX (P.take 0) (R.take 0)) := by
    unfold leftO
    rw [if_pos (z7H hl (z3h l)), Int.toNat_natCast, z4n, List.take_zero, List.take_zero]
    exact z1B _ (fun k _ => (z6P k).symm)
  rw [e1] at hone
  exact Ev.pos rfl (Ev.bnd hone (alike_l0 hl P R c.1 c.2 (by omega) (by omega) P.length 0 (Nat.zero_add _)))
/-- The sum over all corners, as far as one has come. -/
def alikeN (P R : List E) (m k : Nat) : E := sumN (fun i => pick (hasB (weight P i) k) (weight R i)) m
theorem sum_l0 {l : Nat} (hl : l ≤ 7) (P R : List E) (hP : AllS (l : Int) P) (hR : AllS (l : Int) R) (hlen : P.length = R.length) (h16 : P.length ≤ 16) : ∀ (d i : Nat), i + d = 2 ^ P.length →
    Ev (fun k => zF.l0 k (l : Int) ((weightsL R).map toS) ((tabL (2 ^ l) (alikeN P R i)).map toS) ((weightsL P).map toS) ((2 ^ P.length : Nat) : Int) (i : Int)) ((tabL (2 ^ l) (alikeX P R)).map toS) := by
  have h128 := w128 hl
  have hp16 : 2 ^ P.length ≤ 2 ^ 16 := Nat.pow_le_pow_right (by decide) h16
  have hwl : (weightsL P).length = 2 ^ P.length := zU _ _
  have hwr : (weightsL R).length = 2 ^ P.length := by unfold weightsL; rw [zU, hlen]
  have hone := One_ev (l : Int)
  have e1 : leftO (l : Int) 1 = pairX (2 ^ l) 1 1 := by
    unfold leftO
    rw [if_pos (z7H hl (z3h l)), Int.toNat_natCast]
  rw [e1] at hone
  intro d
  induction d with
  | zero =>
    intro i hid
    have : i = 2 ^ P.length := by omega
    subst this
    have ee : alikeN P R (2 ^ P.length) = alikeX P R := rfl
    rw [ee]
    refine Ev.step (fun k => by rw [zF.l0]) ?_
    exact Ev.neg (Int.lt_irrefl _) (Ev.ret _)
  | succ d ih =>
    intro i hid
    have hi' : i < 2 ^ P.length := by omega
    have hih := ih (i + 1) (by omega)
    have gw : (weightsL P).getD i 0 = weight P i := z1K _ _ i hi'
    have gr : (weightsL R).getD i 0 = weight R i := z1K _ _ i (by rw [← hlen]; exact hi')
    have hall : AllS (l : Int) (pairX (2 ^ l) 1 1) := by rw [z4n]; exact z6C hl _ _ (fun u _ => z6a _ (z3h l))
    have hby := z5I hl (alikeN P R i) (pairX (2 ^ l) 1 1) (weight P i) (weight R i) hall (by rw [z1L]; exact Nat.le_refl _) (z2G hl P i (z4j hP)) (z2G hl R i (z4j hR))
    have hact : tabL (2 ^ l) (fun k => alikeN P R i k + actT (pairX (2 ^ l) 1 1).length (fun u => (pairX (2 ^ l) 1 1).getD u 0) (weight P i) (weight R i) k) = tabL (2 ^ l) (alikeN P R (i + 1)) := by
      apply z1B
      intro k _
      have h1 : actT (pairX (2 ^ l) 1 1).length (fun u => (pairX (2 ^ l) 1 1).getD u 0) (weight P i) (weight R i) k = pick (hasB (weight P i) k) (weight R i) := by
        rw [z1L, z4W (2 ^ l) (s := fun u => pick (hasB 1 u) 1) _ _ _ (fun u hu => z3E _ _ _ u hu), z5C hl (z3h l), one_mul, one_mul]
      rw [h1]
      show _ = sumN _ (i + 1)
      rw [sumN]; rfl
    rw [hact] at hby
    have c3 : (i : Int) < (((weightsL P).map toS).length : Int) := by rw [List.length_map, hwl]; omega
    have c4 : (i : Int) < (((weightsL R).map toS).length : Int) := by rw [List.length_map, hwr]; omega
    refine Ev.step (fun k => by rw [zF.l0]) (Ev.pos (by omega) ?_)
    refine Ev.pos (Int.natCast_nonneg _) ?_
    refine Ev.pos c3 ?_
    refine Ev.bnd hone ?_
    refine Ev.pos c4 ?_
    simp only [rdS, gw, gr, z3d, z3e, z1H hi' (show 2 ^ P.length ≤ 4611686018427387904 by omega)]
    exact Ev.bnd hby hih
theorem Sum_ev {l : Nat} (hl : l ≤ 7) (P R : List E) (hP : AllS (l : Int) P) (hR : AllS (l : Int) R) (hlen : P.length = R.length) (h16 : P.length ≤ 16) :
    Ev (fun k => zF.f k (l : Int) (P.map toS) (R.map toS)) ((tabL (2 ^ l) (alikeX P R)).map toS) := by
  have h128 := w128 hl
  have h0 := Nat.two_pow_pos P.length
  have hL : LvS (l : Int) := ⟨by omega, by omega⟩
  have wp := z4V (l : Int) P
  have wr := z4V (l : Int) R
  have e1 : weightsO (l : Int) P = weightsL P := if_pos ⟨hL, h16, hP⟩
  have e2 : weightsO (l : Int) R = weightsL R := if_pos ⟨hL, by omega, hR⟩
  rw [e1] at wp
  rw [e2] at wr
  have hwl : (weightsL P).length = 2 ^ P.length := zU _ _
  have hwr : (weightsL R).length = 2 ^ P.length := by unfold weightsL; rw [zU, hlen]
  unfold zF.f
  refine Ev.bnd wp (Ev.bnd wr ?_)
  rw [List.length_map, List.length_map, hwl, hwr]
  refine Ev.pos rfl ?_
  have : (((2 ^ P.length : Nat) : Int) == 0) = false := by rw [beq_eq_false_iff_ne]; omega
  rw [this]
  refine Ev.step (fun k => by rw [zF.j0]) (Ev.neg (by decide) (Ev.bnd (z4x hl) (Ev.pos (Int.natCast_nonneg _) ?_)))
  refine Ev.pos (show (((2 ^ l : Nat) : Int)).toNat ≤ 17592186044416 by rw [Int.toNat_natCast]; exact Nat.le_trans h128 (by decide)) ?_
  rw [List.length_map, hwl, Int.toNat_natCast, z43, z3c]
  have e0 : tabL (2 ^ l) (fun _ => (0 : E)) = tabL (2 ^ l) (alikeN P R 0) := rfl
  rw [e0]
  exact sum_l0 hl P R hP hR hlen h16 (2 ^ P.length) 0 (Nat.zero_add _)
/-- The document's sums of tensors. -/
theorem z6X (X Y : List E) (hlen : X.length = Y.length) (hX : X.length ≤ 1000000) : ∀ (d i : Nat), i + d = X.length →
    Ev (fun k => zz.l0 k (X.map toR) (Y.map toR) ((tabL i (fun j => X.getD j 0 + Y.getD j 0)).map toR) (i : Int)) ((tabL X.length (fun j => X.getD j 0 + Y.getD j 0)).map toR) := by
  intro d
  induction d with
  | zero =>
    intro i hid
    have : i = X.length := by omega
    subst this
    exact Ev.step (fun k => by rw [zz.l0]) (Ev.neg (by rw [List.length_map]; exact Int.lt_irrefl _) (Ev.ret _))
  | succ d ih =>
    intro i hid
    have hi' : i < X.length := by omega
    have hih := ih (i + 1) (by omega)
    have hs : tabL (i + 1) (fun j => X.getD j 0 + Y.getD j 0) = tabL i (fun j => X.getD j 0 + Y.getD j 0) ++ [X.getD i 0 + Y.getD i 0] := z4p _ i
    rw [hs, List.map_append] at hih
    refine Ev.step (fun k => by rw [zz.l0]) (Ev.pos (by rw [List.length_map]; omega) (Ev.pos (Int.natCast_nonneg _) (Ev.pos (by rw [List.length_map]; omega) ?_)))
    simp only [rdR, z6D, z6E, z1H hi' (show X.length ≤ 4611686018427387904 by omega)]
    exact Ev.bnd0 (z4u _ _) (Ev.pos (by rw [List.length_map, zU]; omega) hih)
theorem z6W (X Y : List E) (hlen : X.length = Y.length) (hX : X.length ≤ 1000000) : Ev (fun k => zz.f k (X.map toR) (Y.map toR)) ((tabL X.length (fun j => X.getD j 0 + Y.getD j 0)).map toR) := by
  unfold zz.f
  exact z6X X Y hlen hX X.length 0 (Nat.zero_add _)
theorem z6c {l : Nat} (hl : l ≤ 7) (P R : List E) (h16 : P.length ≤ 16) (hlen : P.length = R.length) : ∀ (d i : Nat), i + d = 2 ^ P.length →
    Ev (fun k => zr.l0 k (l : Int) (P.map toR) (R.map toR) ((tabL (2 ^ l) (alikeN P R i)).map toR) (i : Int)) ((tabL (2 ^ l) (alikeX P R)).map toR) := by
  have h128 := w128 hl
  have hp16 : 2 ^ P.length ≤ 2 ^ 16 := Nat.pow_le_pow_right (by decide) h16
  have htwo := two_ev P.length (by omega)
  intro d
  induction d with
  | zero =>
    intro i hid
    have : i = 2 ^ P.length := by omega
    subst this
    have ee : alikeN P R (2 ^ P.length) = alikeX P R := rfl
    rw [ee]
    refine Ev.step (fun k => by rw [zr.l0]) ?_
    rw [List.length_map]
    exact Ev.bnd htwo (Ev.neg (Int.lt_irrefl _) (Ev.ret _))
  | succ d ih =>
    intro i hid
    have hi' : i < 2 ^ P.length := by omega
    have hih := ih (i + 1) (by omega)
    have hadd := z6W (tabL (2 ^ l) (alikeN P R i)) (pairX (2 ^ l) (weight P i) (weight R i)) (by rw [zU, z1L]) (by rw [zU]; omega)
    have e : tabL (tabL (2 ^ l) (alikeN P R i)).length (fun j => (tabL (2 ^ l) (alikeN P R i)).getD j 0 + (pairX (2 ^ l) (weight P i) (weight R i)).getD j 0) = tabL (2 ^ l) (alikeN P R (i + 1)) := by
      rw [zU]
      apply z1B
      intro k hk
      rw [z1K _ _ k hk, z3E _ _ _ k hk]
      show _ = sumN _ (i + 1)
      rw [sumN]; rfl
    rw [e] at hadd
    refine Ev.step (fun k => by rw [zr.l0]) ?_
    rw [List.length_map]
    refine Ev.bnd htwo (Ev.pos (by omega) ?_)
    refine Ev.bnd (z60 P (by omega) i (by omega)) ?_
    refine Ev.bnd (z60 R (by omega) i (by omega)) ?_
    refine Ev.bnd (z7a hl (weight P i) (weight R i)) (Ev.bnd hadd ?_)
    simp only [z1H hi' (show 2 ^ P.length ≤ 4611686018427387904 by omega)]
    exact hih
theorem z6b {l : Nat} (hl : l ≤ 7) (P R : List E) (h16 : P.length ≤ 16) (hlen : P.length = R.length) : Ev (fun k => zr.f k (l : Int) (P.map toR) (R.map toR)) ((tabL (2 ^ l) (alikeX P R)).map toR) := by
  unfold zr.f
  have hp := z7a hl (0 : E) (0 : E)
  rw [z2Y, z2Z] at hp
  have e0 : pairX (2 ^ l) 0 0 = tabL (2 ^ l) (alikeN P R 0) := by
    rw [z4n]
    exact z1B _ (fun k _ => z4o _)
  rw [e0] at hp
  exact Ev.bnd hp (z6c hl P R h16 hlen (2 ^ P.length) 0 (Nat.zero_add _))
end Go.Proofs.Ytkhmpaooinpfoaa.Sp

/- Own text: merged by wip/tools/pack.py out of what the law ExprChecks reaches. -/
import Derived.Deep.Slices
import Derived.OpenShut
import Derived.ProofKit
import Derived.Laws.BitsLemmas
import Derived.Test.YtngcaphdkgihmaaMExprChecksa
import Derived.Test.YtngcaphdkgihmaaMExprChecksb
import Derived.Test.YtngcaphdkgihmaaMExprChecksc
import Derived.Test.YtngcaphdkgihmaaMExprChecksd
namespace Go.Proofs.Ytngcaphdkgihmaa.P
open Go.RowKit Go.Proofs.YtngcaphdkgihmaaW.PrintWords Go.Proofs.YtngcaphdkgihmaaW.PrintLast Go.Proofs.YtngcaphdkgihmaaW.PrintMore
attribute [local go_sem] z17 z19 z1e z1f z12 z13 z18 z1a   -- for this text's walks alone
set_option linter.unusedVariables false
set_option linter.unusedSimpArgs false
attribute [local go_sem high] eqA61
mutual
def zc.j0 : Nat → Int → Int → List (S114) → Bool → Int → Int → Option (Int)
 | 0,_,_,_,_,_,_=>none
 | k + 1,x0,x1,x2,x19,x102000,x102001=>if x19 = true then (some 1) else (if (x2.length : Int) = 0 then (some 3) else (if (x2.length : Int) > 200 then (some 2) else (zc.l0 k x0 x1 x2 0 x102000 x102001)))
def zc.l0 : Nat → Int → Int → List (S114) → Int → Int → Int → Option (Int)
 | 0,_,_,_,_,_,_=>none
 | k + 1,x0,x1,x2,x8,x102000,x102001=>if x8 < (x2.length : Int) then (if 0 ≤ x8 then (if ((za x2 x8).f0) < 1 then (zc.j2 k x0 x1 x2 x8 true x102000 x102001 ((za x2 x8).f0) ((za x2 x8).f1) ((za x2 x8).f2) ((za x2 x8).f3.f0) ((za x2 x8).f3.f1)) else (zc.j2 k x0 x1 x2 x8 (decide (((za x2 x8).f0) > 4)) x102000 x102001 ((za x2 x8).f0) ((za x2 x8).f1) ((za x2 x8).f2) ((za x2 x8).f3.f0) ((za x2 x8).f3.f1))) else (none)) else (some 0)
def zc.j2 : Nat → Int → Int → List (S114) → Int → Bool → Int → Int → Int → Int → Int → Int → Int → Option (Int)
 | 0,_,_,_,_,_,_,_,_,_,_,_,_=>none
 | k + 1,x0,x1,x2,x8,x43,x102000,x102001,x104000,x104001,x104002,x104003,x104004=>if x43 = true then (some 3) else (if x104000 = 1 then (if x104001 = 0 then (if x104002 = 0 then (if x104000 = 2 then (if x104000 > 1 then (zc.j3 k x0 x1 x2 x8 (!(x104003 == x102000) || (!(x104004 == x102001))) x102000 x102001 x104000 x104001 x104002 x104003 x104004) else (zc.j3 k x0 x1 x2 x8 false x102000 x102001 x104000 x104001 x104002 x104003 x104004)) else (if x104000 > 1 then (zc.j3 k x0 x1 x2 x8 (!(x104003 == x102000) || (!(x104004 == x102001))) x102000 x102001 x104000 x104001 x104002 x104003 x104004) else (zc.j3 k x0 x1 x2 x8 false x102000 x102001 x104000 x104001 x104002 x104003 x104004))) else (zc.j3 k x0 x1 x2 x8 true x102000 x102001 x104000 x104001 x104002 x104003 x104004)) else (zc.j3 k x0 x1 x2 x8 true x102000 x102001 x104000 x104001 x104002 x104003 x104004)) else (if x104000 = 2 then (if x104002 = 0 then (if x104000 > 1 then (zc.j3 k x0 x1 x2 x8 (!(x104003 == x102000) || (!(x104004 == x102001))) x102000 x102001 x104000 x104001 x104002 x104003 x104004) else (zc.j3 k x0 x1 x2 x8 false x102000 x102001 x104000 x104001 x104002 x104003 x104004)) else (zc.j3 k x0 x1 x2 x8 true x102000 x102001 x104000 x104001 x104002 x104003 x104004)) else (if x104000 > 1 then (zc.j3 k x0 x1 x2 x8 (!(x104003 == x102000) || (!(x104004 == x102001))) x102000 x102001 x104000 x104001 x104002 x104003 x104004) else (zc.j3 k x0 x1 x2 x8 false x102000 x102001 x104000 x104001 x104002 x104003 x104004))))
def zc.j3 : Nat → Int → Int → List (S114) → Int → Bool → Int → Int → Int → Int → Int → Int → Int → Option (Int)
 | 0,_,_,_,_,_,_,_,_,_,_,_,_=>none
 | k + 1,x0,x1,x2,x8,x77,x102000,x102001,x104000,x104001,x104002,x104003,x104004=>if x77 = true then (some 3) else (if x104000 > 2 then (if x104001 < 0 then (zc.j4 k x0 x1 x2 x8 true x102000 x102001 x104000 x104001 x104002 x104003 x104004) else (if x104001 ≥ x8 then (zc.j4 k x0 x1 x2 x8 true x102000 x102001 x104000 x104001 x104002 x104003 x104004) else (if x104002 < 0 then (zc.j4 k x0 x1 x2 x8 true x102000 x102001 x104000 x104001 x104002 x104003 x104004) else (zc.j4 k x0 x1 x2 x8 (decide (x104002 ≥ x8)) x102000 x102001 x104000 x104001 x104002 x104003 x104004)))) else (zc.j4 k x0 x1 x2 x8 false x102000 x102001 x104000 x104001 x104002 x104003 x104004))
def zc.j4 : Nat → Int → Int → List (S114) → Int → Bool → Int → Int → Int → Int → Int → Int → Int → Option (Int)
 | 0,_,_,_,_,_,_,_,_,_,_,_,_=>none
 | k + 1,x0,x1,x2,x8,x102,x102000,x102001,x104000,x104001,x104002,x104003,x104004=>if x102 = true then (some 3) else (if x104000 = 1 then ((zo.f k x0 x104003 x104004).bind fun t104=>(zc.j5 k x0 x1 x2 x8 (!t104) x102000 x102001 x104000 x104001 x104002 x104003 x104004)) else (zc.j5 k x0 x1 x2 x8 false x102000 x102001 x104000 x104001 x104002 x104003 x104004))
def zc.j5 : Nat → Int → Int → List (S114) → Int → Bool → Int → Int → Int → Int → Int → Int → Int → Option (Int)
 | 0,_,_,_,_,_,_,_,_,_,_,_,_=>none
 | k + 1,x0,x1,x2,x8,x112,x102000,x102001,x104000,x104001,x104002,x104003,x104004=>if x112 = true then (some 5) else (if x104000 = 2 then (if x104001 < 0 then (zc.j6 k x0 x1 x2 x8 true x102000 x102001) else (zc.j6 k x0 x1 x2 x8 (decide (x104001 ≥ x1)) x102000 x102001)) else (zc.j6 k x0 x1 x2 x8 false x102000 x102001))
def zc.j6 : Nat → Int → Int → List (S114) → Int → Bool → Int → Int → Option (Int)
 | 0,_,_,_,_,_,_,_=>none
 | k + 1,x0,x1,x2,x8,x126,x102000,x102001=>if x126 = true then (some 4) else ((ze.f k x2 x8).bind fun t105=>(if t105 > 8 then (some 7) else (zc.l0 k x0 x1 x2 (wrap64 (x8 + 1)) x102000 x102001)))
end
def zc.f (k : Nat) (a0 : Int) (a1 : Int) (l2 : List (S114)) : Option (Int):=if a0 < 0 then (zc.j0 k a0 a1 l2 true 0 0) else (if a0 > 7 then (zc.j0 k a0 a1 l2 true 0 0) else (zc.j0 k a0 a1 l2 (decide (a1 < 0)) 0 0))
theorem zc.z1b : ∀ k,(∀ y0 y1 y2 y3 y4 y5,LeO (zc.j0 k y0 y1 y2 y3 y4 y5) (zc.j0 (k + 1) y0 y1 y2 y3 y4 y5)) ∧ (∀ y0 y1 y2 y3 y4 y5,LeO (zc.l0 k y0 y1 y2 y3 y4 y5) (zc.l0 (k + 1) y0 y1 y2 y3 y4 y5)) ∧ (∀ y0 y1 y2 y3 y4 y5 y6 y7 y8 y9 y10 y11,LeO (zc.j2 k y0 y1 y2 y3 y4 y5 y6 y7 y8 y9 y10 y11) (zc.j2 (k + 1) y0 y1 y2 y3 y4 y5 y6 y7 y8 y9 y10 y11)) ∧ (∀ y0 y1 y2 y3 y4 y5 y6 y7 y8 y9 y10 y11,LeO (zc.j3 k y0 y1 y2 y3 y4 y5 y6 y7 y8 y9 y10 y11) (zc.j3 (k + 1) y0 y1 y2 y3 y4 y5 y6 y7 y8 y9 y10 y11)) ∧ (∀ y0 y1 y2 y3 y4 y5 y6 y7 y8 y9 y10 y11,LeO (zc.j4 k y0 y1 y2 y3 y4 y5 y6 y7 y8 y9 y10 y11) (zc.j4 (k + 1) y0 y1 y2 y3 y4 y5 y6 y7 y8 y9 y10 y11)) ∧ (∀ y0 y1 y2 y3 y4 y5 y6 y7 y8 y9 y10 y11,LeO (zc.j5 k y0 y1 y2 y3 y4 y5 y6 y7 y8 y9 y10 y11) (zc.j5 (k + 1) y0 y1 y2 y3 y4 y5 y6 y7 y8 y9 y10 y11)) ∧ (∀ y0 y1 y2 y3 y4 y5 y6,LeO (zc.j6 k y0 y1 y2 y3 y4 y5 y6) (zc.j6 (k + 1) y0 y1 y2 y3 y4 y5 y6))
 | 0=>⟨fun _ _ _ _ _ _ r h=>by simp [zc.j0] at h,fun _ _ _ _ _ _ r h=>by simp [zc.l0] at h,fun _ _ _ _ _ _ _ _ _ _ _ _ r h=>by simp [zc.j2] at h,fun _ _ _ _ _ _ _ _ _ _ _ _ r h=>by simp [zc.j3] at h,fun _ _ _ _ _ _ _ _ _ _ _ _ r h=>by simp [zc.j4] at h,fun _ _ _ _ _ _ _ _ _ _ _ _ r h=>by simp [zc.j5] at h,fun _ _ _ _ _ _ _ r h=>by simp [zc.j6] at h⟩
 | k + 1=>by
  obtain ⟨ih0,ih1,ih2,ih3,ih4,ih5,ih6⟩:=zc.z1b k
  refine ⟨?_,?_,?_,?_,?_,?_,?_⟩
  · intro y0 y1 y2 y3 y4 y5
    unfold zc.j0
    repeat' first
    | (with_reducible exact ih0 _ _ _ _ _ _)
    | (with_reducible exact ih1 _ _ _ _ _ _)
    | (with_reducible exact ih2 _ _ _ _ _ _ _ _ _ _ _ _)
    | (with_reducible exact ih3 _ _ _ _ _ _ _ _ _ _ _ _)
    | (with_reducible exact ih4 _ _ _ _ _ _ _ _ _ _ _ _)
    | (with_reducible exact ih5 _ _ _ _ _ _ _ _ _ _ _ _)
    | (with_reducible exact ih6 _ _ _ _ _ _ _)
    | (with_reducible exact zo.mono _ _ _ _)
    | (with_reducible exact ze.mono _ _ _)
    | (with_reducible exact LeO.refl _)
    | (with_reducible exact LeO.none _)
    | (with_reducible refine LeO.ite ?_ ?_)
    | (with_reducible refine LeO.bind ?_ (fun _=>?_))
    | exact ih0 _ _ _ _ _ _
    | exact ih1 _ _ _ _ _ _
    | exact ih2 _ _ _ _ _ _ _ _ _ _ _ _
    | exact ih3 _ _ _ _ _ _ _ _ _ _ _ _
    | exact ih4 _ _ _ _ _ _ _ _ _ _ _ _
    | exact ih5 _ _ _ _ _ _ _ _ _ _ _ _
    | exact ih6 _ _ _ _ _ _ _
    | exact zo.mono _ _ _ _
    | exact ze.mono _ _ _
    | exact LeO.none _
    | refine LeO.ite ?_ ?_
    | refine LeO.bind ?_ (fun _=>?_)
  · intro y0 y1 y2 y3 y4 y5
    unfold zc.l0
    repeat' first
    | (with_reducible exact ih0 _ _ _ _ _ _)
    | (with_reducible exact ih1 _ _ _ _ _ _)
    | (with_reducible exact ih2 _ _ _ _ _ _ _ _ _ _ _ _)
    | (with_reducible exact ih3 _ _ _ _ _ _ _ _ _ _ _ _)
    | (with_reducible exact ih4 _ _ _ _ _ _ _ _ _ _ _ _)
    | (with_reducible exact ih5 _ _ _ _ _ _ _ _ _ _ _ _)
    | (with_reducible exact ih6 _ _ _ _ _ _ _)
    | (with_reducible exact zo.mono _ _ _ _)
    | (with_reducible exact ze.mono _ _ _)
    | (with_reducible exact LeO.refl _)
    | (with_reducible exact LeO.none _)
    | (with_reducible refine LeO.ite ?_ ?_)
    | (with_reducible refine LeO.bind ?_ (fun _=>?_))
    | exact ih0 _ _ _ _ _ _
    | exact ih1 _ _ _ _ _ _
    | exact ih2 _ _ _ _ _ _ _ _ _ _ _ _
    | exact ih3 _ _ _ _ _ _ _ _ _ _ _ _
    | exact ih4 _ _ _ _ _ _ _ _ _ _ _ _
    | exact ih5 _ _ _ _ _ _ _ _ _ _ _ _
    | exact ih6 _ _ _ _ _ _ _
    | exact zo.mono _ _ _ _
    | exact ze.mono _ _ _
    | exact LeO.none _
    | refine LeO.ite ?_ ?_
    | refine LeO.bind ?_ (fun _=>?_)
  · intro y0 y1 y2 y3 y4 y5 y6 y7 y8 y9 y10 y11
    unfold zc.j2
    repeat' first
    | (with_reducible exact ih0 _ _ _ _ _ _)
    | (with_reducible exact ih1 _ _ _ _ _ _)
    | (with_reducible exact ih2 _ _ _ _ _ _ _ _ _ _ _ _)
    | (with_reducible exact ih3 _ _ _ _ _ _ _ _ _ _ _ _)
    | (with_reducible exact ih4 _ _ _ _ _ _ _ _ _ _ _ _)
    | (with_reducible exact ih5 _ _ _ _ _ _ _ _ _ _ _ _)
    | (with_reducible exact ih6 _ _ _ _ _ _ _)
    | (with_reducible exact zo.mono _ _ _ _)
    | (with_reducible exact ze.mono _ _ _)
    | (with_reducible exact LeO.refl _)
    | (with_reducible exact LeO.none _)
    | (with_reducible refine LeO.ite ?_ ?_)
    | (with_reducible refine LeO.bind ?_ (fun _=>?_))
    | exact ih0 _ _ _ _ _ _
    | exact ih1 _ _ _ _ _ _
    | exact ih2 _ _ _ _ _ _ _ _ _ _ _ _
    | exact ih3 _ _ _ _ _ _ _ _ _ _ _ _
    | exact ih4 _ _ _ _ _ _ _ _ _ _ _ _
    | exact ih5 _ _ _ _ _ _ _ _ _ _ _ _
    | exact ih6 _ _ _ _ _ _ _
    | exact zo.mono _ _ _ _
    | exact ze.mono _ _ _
    | exact LeO.none _
    | refine LeO.ite ?_ ?_
    | refine LeO.bind ?_ (fun _=>?_)
  · intro y0 y1 y2 y3 y4 y5 y6 y7 y8 y9 y10 y11
    unfold zc.j3
    repeat' first
    | (with_reducible exact ih0 _ _ _ _ _ _)
    | (with_reducible exact ih1 _ _ _ _ _ _)
    | (with_reducible exact ih2 _ _ _ _ _ _ _ _ _ _ _ _)
    | (with_reducible exact ih3 _ _ _ _ _ _ _ _ _ _ _ _)
    | (with_reducible exact ih4 _ _ _ _ _ _ _ _ _ _ _ _)
    | (with_reducible exact ih5 _ _ _ _ _ _ _ _ _ _ _ _)
    | (with_reducible exact ih6 _ _ _ _ _ _ _)
    | (with_reducible exact zo.mono _ _ _ _)
    | (with_reducible exact ze.mono _ _ _)
    | (with_reducible exact LeO.refl _)
    | (with_reducible exact LeO.none _)
    | (with_reducible refine LeO.ite ?_ ?_)
    | (with_reducible refine LeO.bind ?_ (fun _=>?_))
    | exact ih0 _ _ _ _ _ _
    | exact ih1 _ _ _ _ _ _
    | exact ih2 _ _ _ _ _ _ _ _ _ _ _ _
    | exact ih3 _ _ _ _ _ _ _ _ _ _ _ _
    | exact ih4 _ _ _ _ _ _ _ _ _ _ _ _
    | exact ih5 _ _ _ _ _ _ _ _ _ _ _ _
    | exact ih6 _ _ _ _ _ _ _
    | exact zo.mono _ _ _ _
    | exact ze.mono _ _ _
    | exact LeO.none _
    | refine LeO.ite ?_ ?_
    | refine LeO.bind ?_ (fun _=>?_)
  · intro y0 y1 y2 y3 y4 y5 y6 y7 y8 y9 y10 y11
    unfold zc.j4
    repeat' first
    | (with_reducible exact ih0 _ _ _ _ _ _)
    | (with_reducible exact ih1 _ _ _ _ _ _)
    | (with_reducible exact ih2 _ _ _ _ _ _ _ _ _ _ _ _)
    | (with_reducible exact ih3 _ _ _ _ _ _ _ _ _ _ _ _)
    | (with_reducible exact ih4 _ _ _ _ _ _ _ _ _ _ _ _)
    | (with_reducible exact ih5 _ _ _ _ _ _ _ _ _ _ _ _)
    | (with_reducible exact ih6 _ _ _ _ _ _ _)
    | (with_reducible exact zo.mono _ _ _ _)
    | (with_reducible exact ze.mono _ _ _)
    | (with_reducible exact LeO.refl _)
    | (with_reducible exact LeO.none _)
    | (with_reducible refine LeO.ite ?_ ?_)
    | (with_reducible refine LeO.bind ?_ (fun _=>?_))
    | exact ih0 _ _ _ _ _ _
    | exact ih1 _ _ _ _ _ _
    | exact ih2 _ _ _ _ _ _ _ _ _ _ _ _
    | exact ih3 _ _ _ _ _ _ _ _ _ _ _ _
    | exact ih4 _ _ _ _ _ _ _ _ _ _ _ _
    | exact ih5 _ _ _ _ _ _ _ _ _ _ _ _
    | exact ih6 _ _ _ _ _ _ _
    | exact zo.mono _ _ _ _
    | exact ze.mono _ _ _
    | exact LeO.none _
    | refine LeO.ite ?_ ?_
    | refine LeO.bind ?_ (fun _=>?_)
  · intro y0 y1 y2 y3 y4 y5 y6 y7 y8 y9 y10 y11
    unfold zc.j5
    repeat' first
    | (with_reducible exact ih0 _ _ _ _ _ _)
    | (with_reducible exact ih1 _ _ _ _ _ _)
    | (with_reducible exact ih2 _ _ _ _ _ _ _ _ _ _ _ _)
    | (with_reducible exact ih3 _ _ _ _ _ _ _ _ _ _ _ _)
    | (with_reducible exact ih4 _ _ _ _ _ _ _ _ _ _ _ _)
    | (with_reducible exact ih5 _ _ _ _ _ _ _ _ _ _ _ _)
    | (with_reducible exact ih6 _ _ _ _ _ _ _)
    | (with_reducible exact zo.mono _ _ _ _)
    | (with_reducible exact ze.mono _ _ _)
    | (with_reducible exact LeO.refl _)
    | (with_reducible exact LeO.none _)
    | (with_reducible refine LeO.ite ?_ ?_)
    | (with_reducible refine LeO.bind ?_ (fun _=>?_))
    | exact ih0 _ _ _ _ _ _
    | exact ih1 _ _ _ _ _ _
    | exact ih2 _ _ _ _ _ _ _ _ _ _ _ _
    | exact ih3 _ _ _ _ _ _ _ _ _ _ _ _
    | exact ih4 _ _ _ _ _ _ _ _ _ _ _ _
    | exact ih5 _ _ _ _ _ _ _ _ _ _ _ _
    | exact ih6 _ _ _ _ _ _ _
    | exact zo.mono _ _ _ _
    | exact ze.mono _ _ _
    | exact LeO.none _
    | refine LeO.ite ?_ ?_
    | refine LeO.bind ?_ (fun _=>?_)
  · intro y0 y1 y2 y3 y4 y5 y6
    unfold zc.j6
    repeat' first
    | (with_reducible exact ih0 _ _ _ _ _ _)
    | (with_reducible exact ih1 _ _ _ _ _ _)
    | (with_reducible exact ih2 _ _ _ _ _ _ _ _ _ _ _ _)
    | (with_reducible exact ih3 _ _ _ _ _ _ _ _ _ _ _ _)
    | (with_reducible exact ih4 _ _ _ _ _ _ _ _ _ _ _ _)
    | (with_reducible exact ih5 _ _ _ _ _ _ _ _ _ _ _ _)
    | (with_reducible exact ih6 _ _ _ _ _ _ _)
    | (with_reducible exact zo.mono _ _ _ _)
    | (with_reducible exact ze.mono _ _ _)
    | (with_reducible exact LeO.refl _)
    | (with_reducible exact LeO.none _)
    | (with_reducible refine LeO.ite ?_ ?_)
    | (with_reducible refine LeO.bind ?_ (fun _=>?_))
    | exact ih0 _ _ _ _ _ _
    | exact ih1 _ _ _ _ _ _
    | exact ih2 _ _ _ _ _ _ _ _ _ _ _ _
    | exact ih3 _ _ _ _ _ _ _ _ _ _ _ _
    | exact ih4 _ _ _ _ _ _ _ _ _ _ _ _
    | exact ih5 _ _ _ _ _ _ _ _ _ _ _ _
    | exact ih6 _ _ _ _ _ _ _
    | exact zo.mono _ _ _ _
    | exact ze.mono _ _ _
    | exact LeO.none _
    | refine LeO.ite ?_ ?_
    | refine LeO.bind ?_ (fun _=>?_)
theorem zc.mono : ∀ a0 a1 a2 k,LeO (zc.f k a0 a1 a2) (zc.f (k + 1) a0 a1 a2):=by
 intro a0 a1 a2 k
 obtain ⟨ih0,ih1,ih2,ih3,ih4,ih5,ih6⟩:=zc.z1b k
 unfold zc.f
 repeat' first
  | (with_reducible exact ih0 _ _ _ _ _ _)
  | (with_reducible exact ih1 _ _ _ _ _ _)
  | (with_reducible exact ih2 _ _ _ _ _ _ _ _ _ _ _ _)
  | (with_reducible exact ih3 _ _ _ _ _ _ _ _ _ _ _ _)
  | (with_reducible exact ih4 _ _ _ _ _ _ _ _ _ _ _ _)
  | (with_reducible exact ih5 _ _ _ _ _ _ _ _ _ _ _ _)
  | (with_reducible exact ih6 _ _ _ _ _ _ _)
  | (with_reducible exact zo.mono _ _ _ _)
  | (with_reducible exact ze.mono _ _ _)
  | (with_reducible exact LeO.refl _)
  | (with_reducible exact LeO.none _)
  | (with_reducible refine LeO.ite ?_ ?_)
  | (with_reducible refine LeO.bind ?_ (fun _=>?_))
  | exact ih0 _ _ _ _ _ _
  | exact ih1 _ _ _ _ _ _
  | exact ih2 _ _ _ _ _ _ _ _ _ _ _ _
  | exact ih3 _ _ _ _ _ _ _ _ _ _ _ _
  | exact ih4 _ _ _ _ _ _ _ _ _ _ _ _
  | exact ih5 _ _ _ _ _ _ _ _ _ _ _ _
  | exact ih6 _ _ _ _ _ _ _
  | exact zo.mono _ _ _ _
  | exact ze.mono _ _ _
  | exact LeO.none _
  | refine LeO.ite ?_ ?_
  | refine LeO.bind ?_ (fun _=>?_)
set_option maxHeartbeats 8000000 in
set_option maxRecDepth 100000 in
theorem zc.calls (k : Nat) (a0 : Int) (a1 : Int) (A2 : Option Addr) (c2 : Nat) (l2 : List (S114)) (r : Int) (w : World) (hr2 : Kd.C k114 w A2 l2.length l2) (hc2 : l2.length ≤ c2) (h : zc.f k a0 a1 l2 = some r) :
 Calls Try.prog 45 #[.int .i64 a0,.int .i64 a1,.slice A2 l2.length c2] w fun e w'=>e = .returned (.int .i64 r) ∧ Below w.heap.size w w':=by
 have hu61:=Try.underlying61
 have hu114:=Try.underlying114
 have HR2:=z7.mk hr2
 have HC2:=z7.mk hc2
 clear hr2 hc2
 have HB:=z7.mk (Below.refl w.heap.size w)
 have H : (if a0 < 0 then (zc.j0 k a0 a1 l2 true 0 0) else (if a0 > 7 then (zc.j0 k a0 a1 l2 true 0 0) else (zc.j0 k a0 a1 l2 (decide (a1 < 0)) 0 0))) = some r:=h
 clear h
 have HC4:=z7.mk H
 clear H
 go_enter Try.func45,Try.ntmps45
 go_upto_region 2 with (first|((with_reducible refine zG (N:=7) rfl ?_);refine zE ?hg (N:=7) ?hd (cs:=#[.int .u64 0,.int .u64 0]) (t:=61) ?hr ?_;(case hd=>rfl);(case hg=>rfl);(case hr=>first|(go_simp;done)|(go_simp;rfl));intro gb101 hg w5 hbox hb;have n0_:=z7.mk (zg (by repeat (first|(with_reducible first|exact HB.out|apply z4|apply z0|apply z3)|exact HB.out)) hb);have n1_:=z7.mk (hbox);have n2_:=z7.mk ((by rw [hg];exact (zf (by repeat (first|(with_reducible first|exact HB.out|apply z4|apply z0|apply z3)|exact HB.out))) : w.heap.size ≤ gb101));have n3_:=z7.mk ((by rw [hg];exact (zf (by repeat (first|(with_reducible first|exact HB.out|apply z4|apply z0|apply z3)|exact HB.out))) : w.heap.size ≤ gb101));clear HB;have HB:=n0_;have BK101:=n1_;have GW101:=n2_;have GE101:=n3_;clear n0_ n1_ n2_ n3_;clear hb hbox hg))
 (try simp only [Act.put,List.setIfInBounds_toArray,List.set_cons_zero,List.set_cons_succ])
 go_cut [19] (fun v19 wc=>∃ (kq : Nat) (x19_3 : Bool),v19 = .bool x19_3 ∧ z7 (zc.j0 kq a0 a1 l2 x19_3 0 0 = some r) ∧ z7 (kq ≤ k) ∧ z7 (wc.heap[gb101]? = some (.cells #[.int .u64 0,.int .u64 0] 61 (0,0))) ∧ z7 (Below w.heap.size w wc))
 case first =>
  have H:=HC4.out
  clear HC4
  by_cases c6 : a0 < 0
  · rw [if_pos c6] at H
    have c6b0 : decide (a0 < 0) = true:=decide_eq_true c6
    clear c6
    (first|rw [c6b0]|(simp only [zH,zL];rw [c6b0])|skip)
    have H':=z7.mk H
    clear H
    go_wp2
    go_meet
    case rel=>exact ⟨_,(true),(by first|rfl|(simp;done)|(simp [*];done)),H',⟨by first|omega|exact Nat.le_refl _⟩,⟨by (with_reducible repeat (first|refine z2 ?_ _|refine z5 ?_|refine z1 ?_ _));exact BK101.out⟩,⟨by repeat (first|(with_reducible first|exact HB.out|apply z4|apply z0|apply z3|refine z9 ?_ GE101.out)|exact HB.out)⟩⟩
  rw [if_neg c6] at H
  have c6b0 : decide (a0 < 0) = false:=decide_eq_false c6
  clear c6
  (first|rw [c6b0]|(simp only [zH,zL];rw [c6b0])|skip)
  by_cases c7 : a0 > 7
  rotate_left
  · rw [if_neg c7] at H
    have c7b0 : decide (7 < a0) = false:=decide_eq_false c7
    clear c7
    have H':=z7.mk H
    clear H
    go_wp2
    go_meet
    case rel=>exact ⟨_,(decide (a1 < 0)),(by first|rfl|(simp;done)|(simp [*];done)),H',⟨by first|omega|exact Nat.le_refl _⟩,⟨by (with_reducible repeat (first|refine z2 ?_ _|refine z5 ?_|refine z1 ?_ _));exact BK101.out⟩,⟨by repeat (first|(with_reducible first|exact HB.out|apply z4|apply z0|apply z3|refine z9 ?_ GE101.out)|exact HB.out)⟩⟩
  rw [if_pos c7] at H
  have c7b0 : decide (7 < a0) = true:=decide_eq_true c7
  clear c7
  have H':=z7.mk H
  clear H
  go_wp2
  go_meet
  case rel=>exact ⟨_,(true),(by first|rfl|(simp;done)|(simp [*];done)),H',⟨by first|omega|exact Nat.le_refl _⟩,⟨by (with_reducible repeat (first|refine z2 ?_ _|refine z5 ?_|refine z1 ?_ _));exact BK101.out⟩,⟨by repeat (first|(with_reducible first|exact HB.out|apply z4|apply z0|apply z3|refine z9 ?_ GE101.out)|exact HB.out)⟩⟩
 case rest =>
  clear HC4
  (try clear c2);(try clear p2);(try clear c4);(try clear c6);(try clear c6b0);(try clear c7);(try clear c7b0)
  obtain ⟨kq,x19_3,rfl,HA,HJ3,BK101,HB⟩:=hcut
  cases kq with
  | zero=>exact absurd HA.out (by simp [zc.j0])
  | succ kj3 =>
   have H:=HA.out
   clear HA
   simp only [zc.j0] at H
   by_cases c8 : x19_3 = true
   · subst c8
     have H1 : (some 1) = some r:=by rw [if_pos rfl] at H;exact H
     clear H
     have H:=H1
     clear H1
     obtain rfl:=Option.some.inj H
     go_wp2
     go_ret
     exact ⟨by first|rfl|(simp [zl,zm] <;> rfl)|(simp [*,zl,zm] <;> rfl),by repeat (first|(with_reducible first|exact HB.out|apply z4|apply z0|apply z3|refine z9 ?_ GE101.out)|exact HB.out)⟩
   replace c8:=Bool.eq_false_iff.mpr c8
   subst c8
   have H1 : (if (l2.length : Int) = 0 then (some 3) else (if (l2.length : Int) > 200 then (some 2) else (zc.l0 kj3 a0 a1 l2 0 0 0))) = some r:=by rw [if_neg (show ¬ (false = true) by decide)] at H;exact H
   clear H
   have H:=H1
   clear H1
   by_cases c9 : (l2.length : Int) = 0
   · rw [if_pos c9] at H
     have c9b0 : ((l2.length : Int) == 0) = true:=beq_iff_eq.mpr c9
     have c9b1 : ((l2.length : Int) != 0) = false:=bne_eq_false_iff_eq.mpr c9
     clear c9
     obtain rfl:=Option.some.inj H
     go_wp2
     go_ret
     exact ⟨by first|rfl|(simp [zl,zm] <;> rfl)|(simp [*,zl,zm] <;> rfl),by repeat (first|(with_reducible first|exact HB.out|apply z4|apply z0|apply z3|refine z9 ?_ GE101.out)|exact HB.out)⟩
   rw [if_neg c9] at H
   have c9b0 : ((l2.length : Int) == 0) = false:=beq_eq_false_iff_ne.mpr c9
   have c9b1 : ((l2.length : Int) != 0) = true:=bne_iff_ne.mpr c9
   have c9b2 : ¬ (l2 = []):=fun h_=>c9 (by rw [h_];rfl)
   by_cases c10 : (l2.length : Int) > 200
   · rw [if_pos c10] at H
     have c10b0 : decide (200 < (l2.length : Int)) = true:=decide_eq_true c10
     have c10b1 : decide (200 < l2.length) = true:=decide_eq_true (by omega)
     clear c10
     obtain rfl:=Option.some.inj H
     go_wp2
     go_ret
     exact ⟨by first|rfl|(simp [zl,zm] <;> rfl)|(simp [*,zl,zm] <;> rfl),by repeat (first|(with_reducible first|exact HB.out|apply z4|apply z0|apply z3|refine z9 ?_ GE101.out)|exact HB.out)⟩
   rw [if_neg c10] at H
   have c10b0 : decide (200 < (l2.length : Int)) = false:=decide_eq_false c10
   have c10b1 : decide (200 < l2.length) = false:=decide_eq_false (by omega)
   clear c10
   have H':=z7.mk H
   clear H
   go_wp2
   go_loopg [8] kj3 (fun kq v8 w'=>∃ (x8_2 : Int),v8 = .int .i64 x8_2 ∧ z7 (zc.l0 kq a0 a1 l2 x8_2 0 0 = some r) ∧ z7 (kq ≤ kj3) ∧ z7 (w'.heap[gb101]? = some (.cells #[.int .u64 0,.int .u64 0] 61 (0,0))) ∧ z7 (Below w.heap.size w w'))
   case atStart=>exact ⟨(0),(by first|rfl|(simp;done)|(simp [*];done)),H',⟨Nat.le_refl _⟩,⟨by (with_reducible repeat (first|refine z2 ?_ _|refine z5 ?_|refine z1 ?_ _));exact BK101.out⟩,⟨by repeat (first|(with_reducible first|exact HB.out|apply z4|apply z0|apply z3|refine z9 ?_ GE101.out)|exact HB.out)⟩⟩
   case round =>
    clear H'
    (try clear c1);(try clear c2);(try clear p2);(try clear c4);(try clear c6);(try clear c6b0);(try clear c7);(try clear c7b0);(try clear c8);(try clear c9);(try clear c9b0);(try clear c9b1);(try clear c9b2);(try clear c10);(try clear c10b0);(try clear c10b1);(try clear p2)
    obtain ⟨x8_2,rfl,HA,HK2,BK101,HB⟩:=hrel
    cases gk with
    | zero=>exact absurd HA.out (by simp [zc.l0])
    | succ k2 =>
     have H:=HA.out
     clear HA
     simp only [zc.l0] at H
     by_cases c11 : x8_2 < (l2.length : Int)
     rotate_left
     · rw [if_neg c11] at H
       have c11b0 : decide (x8_2 < (l2.length : Int)) = false:=decide_eq_false c11
       clear c11
       obtain rfl:=Option.some.inj H
       go_wp2
       go_ret
       exact ⟨by first|rfl|(simp [zl,zm] <;> rfl)|(simp [*,zl,zm] <;> rfl),by repeat (first|(with_reducible first|exact HB.out|apply z4|apply z0|apply z3|refine z9 ?_ GE101.out)|exact HB.out)⟩
     rw [if_pos c11] at H
     have c11b0 : decide (x8_2 < (l2.length : Int)) = true:=decide_eq_true c11
     clear c11
     by_cases c12 : 0 ≤ x8_2
     rotate_left
     · rw [if_neg c12] at H
       exact absurd H (by simp)
     rw [if_pos c12] at H
     have c12b0 : decide (0 ≤ x8_2) = true:=decide_eq_true c12
     clear c12
     have HC13:=z7.mk H
     clear H
     have p102 : 0 ≤ (x8_2 : Int):=of_decide_eq_true (by first|(with_reducible assumption)|assumption)
     have q102 : x8_2 < (l2.length : Int):=of_decide_eq_true (by first|(with_reducible assumption)|assumption)
     obtain ⟨ad102,e102,hx102_0,hx102_1,hx102_2,hx102_3,hx102_4⟩:=z16 HR2.out x8_2 p102 q102
     cases e102
     replace hx102_0:=(HB.out.cell (World.block_lt_of_cell? w _ hx102_0)).trans hx102_0
     replace hx102_1:=(HB.out.cell (World.block_lt_of_cell? w _ hx102_1)).trans hx102_1
     replace hx102_2:=(HB.out.cell (World.block_lt_of_cell? w _ hx102_2)).trans hx102_2
     replace hx102_3:=(HB.out.cell (World.block_lt_of_cell? w _ hx102_3)).trans hx102_3
     replace hx102_4:=(HB.out.cell (World.block_lt_of_cell? w _ hx102_4)).trans hx102_4
     replace p102:=eq_true p102
     replace q102:=eq_true q102
     go_upto_region 12 with (first|((with_reducible refine zG (N:=9) rfl ?_);refine zE ?hg (N:=9) ?hd (cs:=#[.int .i64 0,.int .i64 0,.int .i64 0,.int .u64 0,.int .u64 0]) (t:=114) ?hr ?_;(case hd=>rfl);(case hg=>rfl);(case hr=>first|(go_simp;done)|(go_simp;rfl));intro gb103 hg w14 hbox hb;have n0_:=z7.mk (zk (g:=gb101) (o:=.cells #[.int .u64 0,.int .u64 0] 61 (0,0)) (by (with_reducible repeat (first|refine z2 ?_ _|refine z5 ?_|refine z1 ?_ _));exact BK101.out) hb);have n1_:=z7.mk (zg (by repeat (first|(with_reducible first|exact HB.out|apply z4|apply z0|apply z3|refine z9 ?_ GE101.out)|exact HB.out)) hb);have n2_:=z7.mk (hbox);have n3_:=z7.mk ((by rw [hg];exact (zf (by repeat (first|(with_reducible first|exact HB.out|apply z4|apply z0|apply z3|refine z9 ?_ GE101.out)|exact HB.out))) : w.heap.size ≤ gb103));have n4_:=z7.mk ((by rw [hg];exact (zf (by repeat (first|(with_reducible first|exact HB.out|apply z4|apply z0|apply z3|refine z9 ?_ GE101.out)|exact HB.out))) : w.heap.size ≤ gb103));have n5_:=z7.mk ((by rw [hg];exact Nat.ne_of_lt (zP (g:=gb101) (o:=.cells #[.int .u64 0,.int .u64 0] 61 (0,0)) (by (with_reducible repeat (first|refine z2 ?_ _|refine z5 ?_|refine z1 ?_ _));exact BK101.out)) : gb101 ≠ gb103));have n6_:=z7.mk ((by rw [hg];exact Nat.ne_of_gt (zP (g:=gb101) (o:=.cells #[.int .u64 0,.int .u64 0] 61 (0,0)) (by (with_reducible repeat (first|refine z2 ?_ _|refine z5 ?_|refine z1 ?_ _));exact BK101.out)) : gb103 ≠ gb101));clear BK101;clear HB;have BK101:=n0_;have HB:=n1_;have BK103:=n2_;have GW103:=n3_;have GE103:=n4_;have NB101_103:=n5_;have NB103_101:=n6_;clear n0_ n1_ n2_ n3_ n4_ n5_ n6_;clear hb hbox hg;have hnb15:=NB103_101.out;have hnc15:=NB101_103.out;have hcz16_0 : w14.cell? ⟨gb103,0,none⟩ = some (.int .i64 0):=(zb BK103.out 0).trans rfl;have hcz16_1 : w14.cell? ⟨gb103,1,none⟩ = some (.int .i64 0):=(zb BK103.out 1).trans rfl;have hcz16_2 : w14.cell? ⟨gb103,2,none⟩ = some (.int .i64 0):=(zb BK103.out 2).trans rfl;have hcz16_3 : w14.cell? ⟨gb103,3,none⟩ = some (.int .u64 0):=(zb BK103.out 3).trans rfl;have hcz16_4 : w14.cell? ⟨gb103,4,none⟩ = some (.int .u64 0):=(zb BK103.out 4).trans rfl;have hfz16_0:=z8 BK103.out 0;have hfz16_1:=z8 BK103.out 1;have hfz16_2:=z8 BK103.out 2;have hfz16_3:=z8 BK103.out 3;have hfz16_4:=z8 BK103.out 4))
     (try simp only [Act.put,List.setIfInBounds_toArray,List.set_cons_zero,List.set_cons_succ])
     go_cut [43] (fun v43 wc=>∃ (kq : Nat) (x43_12 : Bool),v43 = .bool x43_12 ∧ z7 (zc.j2 kq a0 a1 l2 x8_2 x43_12 0 0 ((za l2 x8_2).f0) ((za l2 x8_2).f1) ((za l2 x8_2).f2) ((za l2 x8_2).f3.f0) ((za l2 x8_2).f3.f1) = some r) ∧ z7 (kq ≤ k2) ∧ z7 (wc.heap[gb101]? = some (.cells #[.int .u64 0,.int .u64 0] 61 (0,0))) ∧ z7 (wc.heap[gb103]? = some (.cells #[.int .i64 ((za l2 x8_2).f0),.int .i64 ((za l2 x8_2).f1),.int .i64 ((za l2 x8_2).f2),.int .u64 ((za l2 x8_2).f3.f0),.int .u64 ((za l2 x8_2).f3.f1)] 114 (0,0))) ∧ z7 (Below w.heap.size w wc))
     case first =>
      have H:=HC13.out
      clear HC13
      by_cases c17 : ((za l2 x8_2).f0) < 1
      rotate_left
      · rw [if_neg c17] at H
        have c17b0 : decide (((za l2 x8_2).f0) < 1) = false:=decide_eq_false c17
        clear c17
        (first|rw [c17b0]|(simp only [zH,zL];rw [c17b0])|skip)
        have H':=z7.mk H
        clear H
        have hnb20:=NB103_101.out
        have hnc20:=NB101_103.out
        have hcz21_0 : w14.cell? ⟨gb103,0,none⟩ = some (.int .i64 0):=(zb BK103.out 0).trans rfl
        have hcz21_1 : w14.cell? ⟨gb103,1,none⟩ = some (.int .i64 0):=(zb BK103.out 1).trans rfl
        have hcz21_2 : w14.cell? ⟨gb103,2,none⟩ = some (.int .i64 0):=(zb BK103.out 2).trans rfl
        have hcz21_3 : w14.cell? ⟨gb103,3,none⟩ = some (.int .u64 0):=(zb BK103.out 3).trans rfl
        have hcz21_4 : w14.cell? ⟨gb103,4,none⟩ = some (.int .u64 0):=(zb BK103.out 4).trans rfl
        have hfz21_0:=z8 BK103.out 0
        have hfz21_1:=z8 BK103.out 1
        have hfz21_2:=z8 BK103.out 2
        have hfz21_3:=z8 BK103.out 3
        have hfz21_4:=z8 BK103.out 4
        go_wp2
        go_meet
        case rel=>exact ⟨_,(decide (((za l2 x8_2).f0) > 4)),(by first|rfl|(simp;done)|(simp [*];done)),H',⟨by have:=HJ3.out;have:=HK2.out;first|omega|exact Nat.le_refl _⟩,⟨by (with_reducible repeat (first|refine z2 ?_ _|refine z5 ?_|refine z1 ?_ _));refine zs ?_ NB101_103.out _;(with_reducible repeat (first|refine z2 ?_ _|refine z5 ?_|refine z1 ?_ _));refine zs ?_ NB101_103.out _;(with_reducible repeat (first|refine z2 ?_ _|refine z5 ?_|refine z1 ?_ _));refine zs ?_ NB101_103.out _;(with_reducible repeat (first|refine z2 ?_ _|refine z5 ?_|refine z1 ?_ _));refine zs ?_ NB101_103.out _;(with_reducible repeat (first|refine z2 ?_ _|refine z5 ?_|refine z1 ?_ _));refine zs ?_ NB101_103.out _;(with_reducible repeat (first|refine z2 ?_ _|refine z5 ?_|refine z1 ?_ _));exact BK101.out⟩,⟨by (with_reducible repeat (first|refine z2 ?_ _|refine z5 ?_|refine z1 ?_ _));refine zq (cs:=#[.int .i64 ((za l2 x8_2).f0),.int .i64 ((za l2 x8_2).f1),.int .i64 ((za l2 x8_2).f2),.int .u64 ((za l2 x8_2).f3.f0),.int .u64 0]) ?_ 4 _ rfl;(with_reducible repeat (first|refine z2 ?_ _|refine z5 ?_|refine z1 ?_ _));refine zq (cs:=#[.int .i64 ((za l2 x8_2).f0),.int .i64 ((za l2 x8_2).f1),.int .i64 ((za l2 x8_2).f2),.int .u64 0,.int .u64 0]) ?_ 3 _ rfl;(with_reducible repeat (first|refine z2 ?_ _|refine z5 ?_|refine z1 ?_ _));refine zq (cs:=#[.int .i64 ((za l2 x8_2).f0),.int .i64 ((za l2 x8_2).f1),.int .i64 0,.int .u64 0,.int .u64 0]) ?_ 2 _ rfl;(with_reducible repeat (first|refine z2 ?_ _|refine z5 ?_|refine z1 ?_ _));refine zq (cs:=#[.int .i64 ((za l2 x8_2).f0),.int .i64 0,.int .i64 0,.int .u64 0,.int .u64 0]) ?_ 1 _ rfl;(with_reducible repeat (first|refine z2 ?_ _|refine z5 ?_|refine z1 ?_ _));refine zq (cs:=#[.int .i64 0,.int .i64 0,.int .i64 0,.int .u64 0,.int .u64 0]) ?_ 0 _ rfl;(with_reducible repeat (first|refine z2 ?_ _|refine z5 ?_|refine z1 ?_ _));exact BK103.out⟩,⟨by repeat (first|(with_reducible first|exact HB.out|apply z4|apply z0|apply z3|refine z9 ?_ GE101.out|refine z9 ?_ GE103.out)|exact HB.out)⟩⟩
      rw [if_pos c17] at H
      have c17b0 : decide (((za l2 x8_2).f0) < 1) = true:=decide_eq_true c17
      clear c17
      (first|rw [c17b0]|(simp only [zH,zL];rw [c17b0])|skip)
      have H':=z7.mk H
      clear H
      have hnb18:=NB103_101.out
      have hnc18:=NB101_103.out
      have hcz19_0 : w14.cell? ⟨gb103,0,none⟩ = some (.int .i64 0):=(zb BK103.out 0).trans rfl
      have hcz19_1 : w14.cell? ⟨gb103,1,none⟩ = some (.int .i64 0):=(zb BK103.out 1).trans rfl
      have hcz19_2 : w14.cell? ⟨gb103,2,none⟩ = some (.int .i64 0):=(zb BK103.out 2).trans rfl
      have hcz19_3 : w14.cell? ⟨gb103,3,none⟩ = some (.int .u64 0):=(zb BK103.out 3).trans rfl
      have hcz19_4 : w14.cell? ⟨gb103,4,none⟩ = some (.int .u64 0):=(zb BK103.out 4).trans rfl
      have hfz19_0:=z8 BK103.out 0
      have hfz19_1:=z8 BK103.out 1
      have hfz19_2:=z8 BK103.out 2
      have hfz19_3:=z8 BK103.out 3
      have hfz19_4:=z8 BK103.out 4
      go_wp2
      go_meet
      case rel=>exact ⟨_,(true),(by first|rfl|(simp;done)|(simp [*];done)),H',⟨by have:=HJ3.out;have:=HK2.out;first|omega|exact Nat.le_refl _⟩,⟨by (with_reducible repeat (first|refine z2 ?_ _|refine z5 ?_|refine z1 ?_ _));refine zs ?_ NB101_103.out _;(with_reducible repeat (first|refine z2 ?_ _|refine z5 ?_|refine z1 ?_ _));refine zs ?_ NB101_103.out _;(with_reducible repeat (first|refine z2 ?_ _|refine z5 ?_|refine z1 ?_ _));refine zs ?_ NB101_103.out _;(with_reducible repeat (first|refine z2 ?_ _|refine z5 ?_|refine z1 ?_ _));refine zs ?_ NB101_103.out _;(with_reducible repeat (first|refine z2 ?_ _|refine z5 ?_|refine z1 ?_ _));refine zs ?_ NB101_103.out _;(with_reducible repeat (first|refine z2 ?_ _|refine z5 ?_|refine z1 ?_ _));exact BK101.out⟩,⟨by (with_reducible repeat (first|refine z2 ?_ _|refine z5 ?_|refine z1 ?_ _));refine zq (cs:=#[.int .i64 ((za l2 x8_2).f0),.int .i64 ((za l2 x8_2).f1),.int .i64 ((za l2 x8_2).f2),.int .u64 ((za l2 x8_2).f3.f0),.int .u64 0]) ?_ 4 _ rfl;(with_reducible repeat (first|refine z2 ?_ _|refine z5 ?_|refine z1 ?_ _));refine zq (cs:=#[.int .i64 ((za l2 x8_2).f0),.int .i64 ((za l2 x8_2).f1),.int .i64 ((za l2 x8_2).f2),.int .u64 0,.int .u64 0]) ?_ 3 _ rfl;(with_reducible repeat (first|refine z2 ?_ _|refine z5 ?_|refine z1 ?_ _));refine zq (cs:=#[.int .i64 ((za l2 x8_2).f0),.int .i64 ((za l2 x8_2).f1),.int .i64 0,.int .u64 0,.int .u64 0]) ?_ 2 _ rfl;(with_reducible repeat (first|refine z2 ?_ _|refine z5 ?_|refine z1 ?_ _));refine zq (cs:=#[.int .i64 ((za l2 x8_2).f0),.int .i64 0,.int .i64 0,.int .u64 0,.int .u64 0]) ?_ 1 _ rfl;(with_reducible repeat (first|refine z2 ?_ _|refine z5 ?_|refine z1 ?_ _));refine zq (cs:=#[.int .i64 0,.int .i64 0,.int .i64 0,.int .u64 0,.int .u64 0]) ?_ 0 _ rfl;(with_reducible repeat (first|refine z2 ?_ _|refine z5 ?_|refine z1 ?_ _));exact BK103.out⟩,⟨by repeat (first|(with_reducible first|exact HB.out|apply z4|apply z0|apply z3|refine z9 ?_ GE101.out|refine z9 ?_ GE103.out)|exact HB.out)⟩⟩
     case rest =>
      clear HC13
      (try clear c1);(try clear p1);(try clear q1);(try clear hx1);(try clear c2);(try clear p2);(try clear c4);(try clear c6);(try clear c6b0);(try clear c7);(try clear c7b0);(try clear c8);(try clear c9);(try clear c9b0);(try clear c9b1);(try clear c9b2);(try clear c10);(try clear c10b0);(try clear c10b1);(try clear p10);(try clear q10);(try clear hx10);(try clear c11);(try clear c11b0);(try clear c12);(try clear c12b0);(try clear c15);(try clear c17);(try clear c17b0);(try clear c18);(try clear c20);(try clear hcz16_0);(try clear hcz16_1);(try clear hcz16_2);(try clear hcz16_3);(try clear hcz16_4);(try clear hcz19_0);(try clear hcz19_1);(try clear hcz19_2);(try clear hcz19_3);(try clear hcz19_4);(try clear hcz21_0);(try clear hcz21_1);(try clear hcz21_2);(try clear hcz21_3);(try clear hcz21_4);(try clear hfz16_0);(try clear hfz16_1);(try clear hfz16_2);(try clear hfz16_3);(try clear hfz16_4);(try clear hfz19_0);(try clear hfz19_1);(try clear hfz19_2);(try clear hfz19_3);(try clear hfz19_4);(try clear hfz21_0);(try clear hfz21_1);(try clear hfz21_2);(try clear hfz21_3);(try clear hfz21_4);(try clear hx102_0);(try clear hx102_1);(try clear hx102_2);(try clear hx102_3);(try clear hx102_4);(try clear p102);(try clear p2);(try clear q102)
      obtain ⟨kq,x43_12,rfl,HA,HJ12,BK101,BK103,HB⟩:=hcut
      cases kq with
      | zero=>exact absurd HA.out (by simp [zc.j2])
      | succ kj12 =>
       have H:=HA.out
       clear HA
       simp only [zc.j2] at H
       by_cases c22 : x43_12 = true
       · subst c22
         have H1 : (some 3) = some r:=by rw [if_pos rfl] at H;exact H
         clear H
         have H:=H1
         clear H1
         obtain rfl:=Option.some.inj H
         go_wp2
         go_ret
         exact ⟨by first|rfl|(simp [zl,zm] <;> rfl)|(simp [*,zl,zm] <;> rfl),by repeat (first|(with_reducible first|exact HB.out|apply z4|apply z0|apply z3|refine z9 ?_ GE101.out|refine z9 ?_ GE103.out)|exact HB.out)⟩
       replace c22:=Bool.eq_false_iff.mpr c22
       subst c22
       have H1 : (if ((za l2 x8_2).f0) = 1 then (if ((za l2 x8_2).f1) = 0 then (if ((za l2 x8_2).f2) = 0 then (if ((za l2 x8_2).f0) = 2 then (if ((za l2 x8_2).f0) > 1 then (zc.j3 kj12 a0 a1 l2 x8_2 (!(((za l2 x8_2).f3.f0) == 0) || (!(((za l2 x8_2).f3.f1) == 0))) 0 0 ((za l2 x8_2).f0) ((za l2 x8_2).f1) ((za l2 x8_2).f2) ((za l2 x8_2).f3.f0) ((za l2 x8_2).f3.f1)) else (zc.j3 kj12 a0 a1 l2 x8_2 false 0 0 ((za l2 x8_2).f0) ((za l2 x8_2).f1) ((za l2 x8_2).f2) ((za l2 x8_2).f3.f0) ((za l2 x8_2).f3.f1))) else (if ((za l2 x8_2).f0) > 1 then (zc.j3 kj12 a0 a1 l2 x8_2 (!(((za l2 x8_2).f3.f0) == 0) || (!(((za l2 x8_2).f3.f1) == 0))) 0 0 ((za l2 x8_2).f0) ((za l2 x8_2).f1) ((za l2 x8_2).f2) ((za l2 x8_2).f3.f0) ((za l2 x8_2).f3.f1)) else (zc.j3 kj12 a0 a1 l2 x8_2 false 0 0 ((za l2 x8_2).f0) ((za l2 x8_2).f1) ((za l2 x8_2).f2) ((za l2 x8_2).f3.f0) ((za l2 x8_2).f3.f1)))) else (zc.j3 kj12 a0 a1 l2 x8_2 true 0 0 ((za l2 x8_2).f0) ((za l2 x8_2).f1) ((za l2 x8_2).f2) ((za l2 x8_2).f3.f0) ((za l2 x8_2).f3.f1))) else (zc.j3 kj12 a0 a1 l2 x8_2 true 0 0 ((za l2 x8_2).f0) ((za l2 x8_2).f1) ((za l2 x8_2).f2) ((za l2 x8_2).f3.f0) ((za l2 x8_2).f3.f1))) else (if ((za l2 x8_2).f0) = 2 then (if ((za l2 x8_2).f2) = 0 then (if ((za l2 x8_2).f0) > 1 then (zc.j3 kj12 a0 a1 l2 x8_2 (!(((za l2 x8_2).f3.f0) == 0) || (!(((za l2 x8_2).f3.f1) == 0))) 0 0 ((za l2 x8_2).f0) ((za l2 x8_2).f1) ((za l2 x8_2).f2) ((za l2 x8_2).f3.f0) ((za l2 x8_2).f3.f1)) else (zc.j3 kj12 a0 a1 l2 x8_2 false 0 0 ((za l2 x8_2).f0) ((za l2 x8_2).f1) ((za l2 x8_2).f2) ((za l2 x8_2).f3.f0) ((za l2 x8_2).f3.f1))) else (zc.j3 kj12 a0 a1 l2 x8_2 true 0 0 ((za l2 x8_2).f0) ((za l2 x8_2).f1) ((za l2 x8_2).f2) ((za l2 x8_2).f3.f0) ((za l2 x8_2).f3.f1))) else (if ((za l2 x8_2).f0) > 1 then (zc.j3 kj12 a0 a1 l2 x8_2 (!(((za l2 x8_2).f3.f0) == 0) || (!(((za l2 x8_2).f3.f1) == 0))) 0 0 ((za l2 x8_2).f0) ((za l2 x8_2).f1) ((za l2 x8_2).f2) ((za l2 x8_2).f3.f0) ((za l2 x8_2).f3.f1)) else (zc.j3 kj12 a0 a1 l2 x8_2 false 0 0 ((za l2 x8_2).f0) ((za l2 x8_2).f1) ((za l2 x8_2).f2) ((za l2 x8_2).f3.f0) ((za l2 x8_2).f3.f1))))) = some r:=by rw [if_neg (show ¬ (false = true) by decide)] at H;exact H
       clear H
       have H:=H1
       clear H1
       have HC23:=z7.mk H
       clear H
       go_upto_region 14 with (fail)
       go_cut [77] (fun v77 wc=>∃ (kq : Nat) (x77_22 : Bool),v77 = .bool x77_22 ∧ z7 (zc.j3 kq a0 a1 l2 x8_2 x77_22 0 0 ((za l2 x8_2).f0) ((za l2 x8_2).f1) ((za l2 x8_2).f2) ((za l2 x8_2).f3.f0) ((za l2 x8_2).f3.f1) = some r) ∧ z7 (kq ≤ kj12) ∧ z7 (wc.heap[gb101]? = some (.cells #[.int .u64 0,.int .u64 0] 61 (0,0))) ∧ z7 (wc.heap[gb103]? = some (.cells #[.int .i64 ((za l2 x8_2).f0),.int .i64 ((za l2 x8_2).f1),.int .i64 ((za l2 x8_2).f2),.int .u64 ((za l2 x8_2).f3.f0),.int .u64 ((za l2 x8_2).f3.f1)] 114 (0,0))) ∧ z7 (Below w.heap.size w wc))
       case first =>
        have H:=HC23.out
        clear HC23
        by_cases c24 : ((za l2 x8_2).f0) = 1
        rotate_left
        · rw [if_neg c24] at H
          have c24b0 : (((za l2 x8_2).f0) == 1) = false:=beq_eq_false_iff_ne.mpr c24
          have c24b1 : (((za l2 x8_2).f0) != 1) = true:=bne_iff_ne.mpr c24
          (first|rw [c24b0]|(simp only [zH,zL];rw [c24b0])|skip)
          by_cases c44 : ((za l2 x8_2).f0) = 2
          rotate_left
          · rw [if_neg c44] at H
            have c44b0 : (((za l2 x8_2).f0) == 2) = false:=beq_eq_false_iff_ne.mpr c44
            have c44b1 : (((za l2 x8_2).f0) != 2) = true:=bne_iff_ne.mpr c44
            by_cases c54 : ((za l2 x8_2).f0) > 1
            rotate_left
            · rw [if_neg c54] at H
              have c54b0 : decide (1 < ((za l2 x8_2).f0)) = false:=decide_eq_false c54
              clear c54
              have H':=z7.mk H
              clear H
              have hnb58:=NB103_101.out
              have hnc58:=NB101_103.out
              have hcz59_0 : wc.cell? ⟨gb103,0,none⟩ = some (.int .i64 ((za l2 x8_2).f0)):=(zb BK103.out 0).trans rfl
              have hcz59_1 : wc.cell? ⟨gb103,1,none⟩ = some (.int .i64 ((za l2 x8_2).f1)):=(zb BK103.out 1).trans rfl
              have hcz59_2 : wc.cell? ⟨gb103,2,none⟩ = some (.int .i64 ((za l2 x8_2).f2)):=(zb BK103.out 2).trans rfl
              have hcz59_3 : wc.cell? ⟨gb103,3,none⟩ = some (.int .u64 ((za l2 x8_2).f3.f0)):=(zb BK103.out 3).trans rfl
              have hcz59_4 : wc.cell? ⟨gb103,4,none⟩ = some (.int .u64 ((za l2 x8_2).f3.f1)):=(zb BK103.out 4).trans rfl
              have hfz59_0:=z8 BK103.out 0
              have hfz59_1:=z8 BK103.out 1
              have hfz59_2:=z8 BK103.out 2
              have hfz59_3:=z8 BK103.out 3
              have hfz59_4:=z8 BK103.out 4
              go_wp2
              go_meet
              case rel=>exact ⟨_,(false),(by first|rfl|(simp;done)|(simp [*];done)),H',⟨by have:=HJ3.out;have:=HK2.out;have:=HJ12.out;first|omega|exact Nat.le_refl _⟩,⟨by (with_reducible repeat (first|refine z2 ?_ _|refine z5 ?_|refine z1 ?_ _));exact BK101.out⟩,⟨by (with_reducible repeat (first|refine z2 ?_ _|refine z5 ?_|refine z1 ?_ _));exact BK103.out⟩,⟨by repeat (first|(with_reducible first|exact HB.out|apply z4|apply z0|apply z3|refine z9 ?_ GE101.out|refine z9 ?_ GE103.out)|exact HB.out)⟩⟩
            rw [if_pos c54] at H
            have c54b0 : decide (1 < ((za l2 x8_2).f0)) = true:=decide_eq_true c54
            clear c54
            have H':=z7.mk H
            clear H
            have hnb55:=NB103_101.out
            have hnc55:=NB101_103.out
            have hcz56_0 : wc.cell? ⟨gb103,0,none⟩ = some (.int .i64 ((za l2 x8_2).f0)):=(zb BK103.out 0).trans rfl
            have hcz56_1 : wc.cell? ⟨gb103,1,none⟩ = some (.int .i64 ((za l2 x8_2).f1)):=(zb BK103.out 1).trans rfl
            have hcz56_2 : wc.cell? ⟨gb103,2,none⟩ = some (.int .i64 ((za l2 x8_2).f2)):=(zb BK103.out 2).trans rfl
            have hcz56_3 : wc.cell? ⟨gb103,3,none⟩ = some (.int .u64 ((za l2 x8_2).f3.f0)):=(zb BK103.out 3).trans rfl
            have hcz56_4 : wc.cell? ⟨gb103,4,none⟩ = some (.int .u64 ((za l2 x8_2).f3.f1)):=(zb BK103.out 4).trans rfl
            have hfz56_0:=z8 BK103.out 0
            have hfz56_1:=z8 BK103.out 1
            have hfz56_2:=z8 BK103.out 2
            have hfz56_3:=z8 BK103.out 3
            have hfz56_4:=z8 BK103.out 4
            have hcz57_0 : wc.cell? ⟨gb101,0,none⟩ = some (.int .u64 0):=(zb BK101.out 0).trans rfl
            have hcz57_1 : wc.cell? ⟨gb101,1,none⟩ = some (.int .u64 0):=(zb BK101.out 1).trans rfl
            have hfz57_0:=z8 BK101.out 0
            have hfz57_1:=z8 BK101.out 1
            go_wp2
            go_meet
            case rel=>exact ⟨_,((!(((za l2 x8_2).f3.f0) == 0) || (!(((za l2 x8_2).f3.f1) == 0)))),(by first|rfl|(simp;done)|(simp [*];done)),H',⟨by have:=HJ3.out;have:=HK2.out;have:=HJ12.out;first|omega|exact Nat.le_refl _⟩,⟨by (with_reducible repeat (first|refine z2 ?_ _|refine z5 ?_|refine z1 ?_ _));exact BK101.out⟩,⟨by (with_reducible repeat (first|refine z2 ?_ _|refine z5 ?_|refine z1 ?_ _));exact BK103.out⟩,⟨by repeat (first|(with_reducible first|exact HB.out|apply z4|apply z0|apply z3|refine z9 ?_ GE101.out|refine z9 ?_ GE103.out)|exact HB.out)⟩⟩
          rw [if_pos c44] at H
          have c44b0 : (((za l2 x8_2).f0) == 2) = true:=beq_iff_eq.mpr c44
          have c44b1 : (((za l2 x8_2).f0) != 2) = false:=bne_eq_false_iff_eq.mpr c44
          clear c44
          by_cases c45 : ((za l2 x8_2).f2) = 0
          rotate_left
          · rw [if_neg c45] at H
            have c45b0 : (((za l2 x8_2).f2) == 0) = false:=beq_eq_false_iff_ne.mpr c45
            have c45b1 : (((za l2 x8_2).f2) != 0) = true:=bne_iff_ne.mpr c45
            have H':=z7.mk H
            clear H
            have hnb52:=NB103_101.out
            have hnc52:=NB101_103.out
            have hcz53_0 : wc.cell? ⟨gb103,0,none⟩ = some (.int .i64 ((za l2 x8_2).f0)):=(zb BK103.out 0).trans rfl
            have hcz53_1 : wc.cell? ⟨gb103,1,none⟩ = some (.int .i64 ((za l2 x8_2).f1)):=(zb BK103.out 1).trans rfl
            have hcz53_2 : wc.cell? ⟨gb103,2,none⟩ = some (.int .i64 ((za l2 x8_2).f2)):=(zb BK103.out 2).trans rfl
            have hcz53_3 : wc.cell? ⟨gb103,3,none⟩ = some (.int .u64 ((za l2 x8_2).f3.f0)):=(zb BK103.out 3).trans rfl
            have hcz53_4 : wc.cell? ⟨gb103,4,none⟩ = some (.int .u64 ((za l2 x8_2).f3.f1)):=(zb BK103.out 4).trans rfl
            have hfz53_0:=z8 BK103.out 0
            have hfz53_1:=z8 BK103.out 1
            have hfz53_2:=z8 BK103.out 2
            have hfz53_3:=z8 BK103.out 3
            have hfz53_4:=z8 BK103.out 4
            go_wp2
            go_meet
            case rel=>exact ⟨_,(true),(by first|rfl|(simp;done)|(simp [*];done)),H',⟨by have:=HJ3.out;have:=HK2.out;have:=HJ12.out;first|omega|exact Nat.le_refl _⟩,⟨by (with_reducible repeat (first|refine z2 ?_ _|refine z5 ?_|refine z1 ?_ _));exact BK101.out⟩,⟨by (with_reducible repeat (first|refine z2 ?_ _|refine z5 ?_|refine z1 ?_ _));exact BK103.out⟩,⟨by repeat (first|(with_reducible first|exact HB.out|apply z4|apply z0|apply z3|refine z9 ?_ GE101.out|refine z9 ?_ GE103.out)|exact HB.out)⟩⟩
          rw [if_pos c45] at H
          have c45b0 : (((za l2 x8_2).f2) == 0) = true:=beq_iff_eq.mpr c45
          have c45b1 : (((za l2 x8_2).f2) != 0) = false:=bne_eq_false_iff_eq.mpr c45
          clear c45
          by_cases c46 : ((za l2 x8_2).f0) > 1
          rotate_left
          · rw [if_neg c46] at H
            have c46b0 : decide (1 < ((za l2 x8_2).f0)) = false:=decide_eq_false c46
            clear c46
            have H':=z7.mk H
            clear H
            have hnb50:=NB103_101.out
            have hnc50:=NB101_103.out
            have hcz51_0 : wc.cell? ⟨gb103,0,none⟩ = some (.int .i64 ((za l2 x8_2).f0)):=(zb BK103.out 0).trans rfl
            have hcz51_1 : wc.cell? ⟨gb103,1,none⟩ = some (.int .i64 ((za l2 x8_2).f1)):=(zb BK103.out 1).trans rfl
            have hcz51_2 : wc.cell? ⟨gb103,2,none⟩ = some (.int .i64 ((za l2 x8_2).f2)):=(zb BK103.out 2).trans rfl
            have hcz51_3 : wc.cell? ⟨gb103,3,none⟩ = some (.int .u64 ((za l2 x8_2).f3.f0)):=(zb BK103.out 3).trans rfl
            have hcz51_4 : wc.cell? ⟨gb103,4,none⟩ = some (.int .u64 ((za l2 x8_2).f3.f1)):=(zb BK103.out 4).trans rfl
            have hfz51_0:=z8 BK103.out 0
            have hfz51_1:=z8 BK103.out 1
            have hfz51_2:=z8 BK103.out 2
            have hfz51_3:=z8 BK103.out 3
            have hfz51_4:=z8 BK103.out 4
            go_wp2
            go_meet
            case rel=>exact ⟨_,(false),(by first|rfl|(simp;done)|(simp [*];done)),H',⟨by have:=HJ3.out;have:=HK2.out;have:=HJ12.out;first|omega|exact Nat.le_refl _⟩,⟨by (with_reducible repeat (first|refine z2 ?_ _|refine z5 ?_|refine z1 ?_ _));exact BK101.out⟩,⟨by (with_reducible repeat (first|refine z2 ?_ _|refine z5 ?_|refine z1 ?_ _));exact BK103.out⟩,⟨by repeat (first|(with_reducible first|exact HB.out|apply z4|apply z0|apply z3|refine z9 ?_ GE101.out|refine z9 ?_ GE103.out)|exact HB.out)⟩⟩
          rw [if_pos c46] at H
          have c46b0 : decide (1 < ((za l2 x8_2).f0)) = true:=decide_eq_true c46
          clear c46
          have H':=z7.mk H
          clear H
          have hnb47:=NB103_101.out
          have hnc47:=NB101_103.out
          have hcz48_0 : wc.cell? ⟨gb103,0,none⟩ = some (.int .i64 ((za l2 x8_2).f0)):=(zb BK103.out 0).trans rfl
          have hcz48_1 : wc.cell? ⟨gb103,1,none⟩ = some (.int .i64 ((za l2 x8_2).f1)):=(zb BK103.out 1).trans rfl
          have hcz48_2 : wc.cell? ⟨gb103,2,none⟩ = some (.int .i64 ((za l2 x8_2).f2)):=(zb BK103.out 2).trans rfl
          have hcz48_3 : wc.cell? ⟨gb103,3,none⟩ = some (.int .u64 ((za l2 x8_2).f3.f0)):=(zb BK103.out 3).trans rfl
          have hcz48_4 : wc.cell? ⟨gb103,4,none⟩ = some (.int .u64 ((za l2 x8_2).f3.f1)):=(zb BK103.out 4).trans rfl
          have hfz48_0:=z8 BK103.out 0
          have hfz48_1:=z8 BK103.out 1
          have hfz48_2:=z8 BK103.out 2
          have hfz48_3:=z8 BK103.out 3
          have hfz48_4:=z8 BK103.out 4
          have hcz49_0 : wc.cell? ⟨gb101,0,none⟩ = some (.int .u64 0):=(zb BK101.out 0).trans rfl
          have hcz49_1 : wc.cell? ⟨gb101,1,none⟩ = some (.int .u64 0):=(zb BK101.out 1).trans rfl
          have hfz49_0:=z8 BK101.out 0
          have hfz49_1:=z8 BK101.out 1
          go_wp2
          go_meet
          case rel=>exact ⟨_,((!(((za l2 x8_2).f3.f0) == 0) || (!(((za l2 x8_2).f3.f1) == 0)))),(by first|rfl|(simp;done)|(simp [*];done)),H',⟨by have:=HJ3.out;have:=HK2.out;have:=HJ12.out;first|omega|exact Nat.le_refl _⟩,⟨by (with_reducible repeat (first|refine z2 ?_ _|refine z5 ?_|refine z1 ?_ _));exact BK101.out⟩,⟨by (with_reducible repeat (first|refine z2 ?_ _|refine z5 ?_|refine z1 ?_ _));exact BK103.out⟩,⟨by repeat (first|(with_reducible first|exact HB.out|apply z4|apply z0|apply z3|refine z9 ?_ GE101.out|refine z9 ?_ GE103.out)|exact HB.out)⟩⟩
        rw [if_pos c24] at H
        have c24b0 : (((za l2 x8_2).f0) == 1) = true:=beq_iff_eq.mpr c24
        have c24b1 : (((za l2 x8_2).f0) != 1) = false:=bne_eq_false_iff_eq.mpr c24
        clear c24
        (first|rw [c24b0]|(simp only [zH,zL];rw [c24b0])|skip)
        by_cases c25 : ((za l2 x8_2).f1) = 0
        rotate_left
        · rw [if_neg c25] at H
          have c25b0 : (((za l2 x8_2).f1) == 0) = false:=beq_eq_false_iff_ne.mpr c25
          have c25b1 : (((za l2 x8_2).f1) != 0) = true:=bne_iff_ne.mpr c25
          have H':=z7.mk H
          clear H
          have hnb42:=NB103_101.out
          have hnc42:=NB101_103.out
          have hcz43_0 : wc.cell? ⟨gb103,0,none⟩ = some (.int .i64 ((za l2 x8_2).f0)):=(zb BK103.out 0).trans rfl
          have hcz43_1 : wc.cell? ⟨gb103,1,none⟩ = some (.int .i64 ((za l2 x8_2).f1)):=(zb BK103.out 1).trans rfl
          have hcz43_2 : wc.cell? ⟨gb103,2,none⟩ = some (.int .i64 ((za l2 x8_2).f2)):=(zb BK103.out 2).trans rfl
          have hcz43_3 : wc.cell? ⟨gb103,3,none⟩ = some (.int .u64 ((za l2 x8_2).f3.f0)):=(zb BK103.out 3).trans rfl
          have hcz43_4 : wc.cell? ⟨gb103,4,none⟩ = some (.int .u64 ((za l2 x8_2).f3.f1)):=(zb BK103.out 4).trans rfl
          have hfz43_0:=z8 BK103.out 0
          have hfz43_1:=z8 BK103.out 1
          have hfz43_2:=z8 BK103.out 2
          have hfz43_3:=z8 BK103.out 3
          have hfz43_4:=z8 BK103.out 4
          go_wp2
          go_meet
          case rel=>exact ⟨_,(true),(by first|rfl|(simp;done)|(simp [*];done)),H',⟨by have:=HJ3.out;have:=HK2.out;have:=HJ12.out;first|omega|exact Nat.le_refl _⟩,⟨by (with_reducible repeat (first|refine z2 ?_ _|refine z5 ?_|refine z1 ?_ _));exact BK101.out⟩,⟨by (with_reducible repeat (first|refine z2 ?_ _|refine z5 ?_|refine z1 ?_ _));exact BK103.out⟩,⟨by repeat (first|(with_reducible first|exact HB.out|apply z4|apply z0|apply z3|refine z9 ?_ GE101.out|refine z9 ?_ GE103.out)|exact HB.out)⟩⟩
        rw [if_pos c25] at H
        have c25b0 : (((za l2 x8_2).f1) == 0) = true:=beq_iff_eq.mpr c25
        have c25b1 : (((za l2 x8_2).f1) != 0) = false:=bne_eq_false_iff_eq.mpr c25
        clear c25
        by_cases c26 : ((za l2 x8_2).f2) = 0
        rotate_left
        · rw [if_neg c26] at H
          have c26b0 : (((za l2 x8_2).f2) == 0) = false:=beq_eq_false_iff_ne.mpr c26
          have c26b1 : (((za l2 x8_2).f2) != 0) = true:=bne_iff_ne.mpr c26
          have H':=z7.mk H
          clear H
          have hnb40:=NB103_101.out
          have hnc40:=NB101_103.out
          have hcz41_0 : wc.cell? ⟨gb103,0,none⟩ = some (.int .i64 ((za l2 x8_2).f0)):=(zb BK103.out 0).trans rfl
          have hcz41_1 : wc.cell? ⟨gb103,1,none⟩ = some (.int .i64 ((za l2 x8_2).f1)):=(zb BK103.out 1).trans rfl
          have hcz41_2 : wc.cell? ⟨gb103,2,none⟩ = some (.int .i64 ((za l2 x8_2).f2)):=(zb BK103.out 2).trans rfl
          have hcz41_3 : wc.cell? ⟨gb103,3,none⟩ = some (.int .u64 ((za l2 x8_2).f3.f0)):=(zb BK103.out 3).trans rfl
          have hcz41_4 : wc.cell? ⟨gb103,4,none⟩ = some (.int .u64 ((za l2 x8_2).f3.f1)):=(zb BK103.out 4).trans rfl
          have hfz41_0:=z8 BK103.out 0
          have hfz41_1:=z8 BK103.out 1
          have hfz41_2:=z8 BK103.out 2
          have hfz41_3:=z8 BK103.out 3
          have hfz41_4:=z8 BK103.out 4
          go_wp2
          go_meet
          case rel=>exact ⟨_,(true),(by first|rfl|(simp;done)|(simp [*];done)),H',⟨by have:=HJ3.out;have:=HK2.out;have:=HJ12.out;first|omega|exact Nat.le_refl _⟩,⟨by (with_reducible repeat (first|refine z2 ?_ _|refine z5 ?_|refine z1 ?_ _));exact BK101.out⟩,⟨by (with_reducible repeat (first|refine z2 ?_ _|refine z5 ?_|refine z1 ?_ _));exact BK103.out⟩,⟨by repeat (first|(with_reducible first|exact HB.out|apply z4|apply z0|apply z3|refine z9 ?_ GE101.out|refine z9 ?_ GE103.out)|exact HB.out)⟩⟩
        rw [if_pos c26] at H
        have c26b0 : (((za l2 x8_2).f2) == 0) = true:=beq_iff_eq.mpr c26
        have c26b1 : (((za l2 x8_2).f2) != 0) = false:=bne_eq_false_iff_eq.mpr c26
        clear c26
        by_cases c27 : ((za l2 x8_2).f0) = 2
        rotate_left
        · rw [if_neg c27] at H
          have c27b0 : (((za l2 x8_2).f0) == 2) = false:=beq_eq_false_iff_ne.mpr c27
          have c27b1 : (((za l2 x8_2).f0) != 2) = true:=bne_iff_ne.mpr c27
          by_cases c34 : ((za l2 x8_2).f0) > 1
          rotate_left
          · rw [if_neg c34] at H
            have c34b0 : decide (1 < ((za l2 x8_2).f0)) = false:=decide_eq_false c34
            clear c34
            have H':=z7.mk H
            clear H
            have hnb38:=NB103_101.out
            have hnc38:=NB101_103.out
            have hcz39_0 : wc.cell? ⟨gb103,0,none⟩ = some (.int .i64 ((za l2 x8_2).f0)):=(zb BK103.out 0).trans rfl
            have hcz39_1 : wc.cell? ⟨gb103,1,none⟩ = some (.int .i64 ((za l2 x8_2).f1)):=(zb BK103.out 1).trans rfl
            have hcz39_2 : wc.cell? ⟨gb103,2,none⟩ = some (.int .i64 ((za l2 x8_2).f2)):=(zb BK103.out 2).trans rfl
            have hcz39_3 : wc.cell? ⟨gb103,3,none⟩ = some (.int .u64 ((za l2 x8_2).f3.f0)):=(zb BK103.out 3).trans rfl
            have hcz39_4 : wc.cell? ⟨gb103,4,none⟩ = some (.int .u64 ((za l2 x8_2).f3.f1)):=(zb BK103.out 4).trans rfl
            have hfz39_0:=z8 BK103.out 0
            have hfz39_1:=z8 BK103.out 1
            have hfz39_2:=z8 BK103.out 2
            have hfz39_3:=z8 BK103.out 3
            have hfz39_4:=z8 BK103.out 4
            go_wp2
            go_meet
            case rel=>exact ⟨_,(false),(by first|rfl|(simp;done)|(simp [*];done)),H',⟨by have:=HJ3.out;have:=HK2.out;have:=HJ12.out;first|omega|exact Nat.le_refl _⟩,⟨by (with_reducible repeat (first|refine z2 ?_ _|refine z5 ?_|refine z1 ?_ _));exact BK101.out⟩,⟨by (with_reducible repeat (first|refine z2 ?_ _|refine z5 ?_|refine z1 ?_ _));exact BK103.out⟩,⟨by repeat (first|(with_reducible first|exact HB.out|apply z4|apply z0|apply z3|refine z9 ?_ GE101.out|refine z9 ?_ GE103.out)|exact HB.out)⟩⟩
          rw [if_pos c34] at H
          have c34b0 : decide (1 < ((za l2 x8_2).f0)) = true:=decide_eq_true c34
          clear c34
          have H':=z7.mk H
          clear H
          have hnb35:=NB103_101.out
          have hnc35:=NB101_103.out
          have hcz36_0 : wc.cell? ⟨gb103,0,none⟩ = some (.int .i64 ((za l2 x8_2).f0)):=(zb BK103.out 0).trans rfl
          have hcz36_1 : wc.cell? ⟨gb103,1,none⟩ = some (.int .i64 ((za l2 x8_2).f1)):=(zb BK103.out 1).trans rfl
          have hcz36_2 : wc.cell? ⟨gb103,2,none⟩ = some (.int .i64 ((za l2 x8_2).f2)):=(zb BK103.out 2).trans rfl
          have hcz36_3 : wc.cell? ⟨gb103,3,none⟩ = some (.int .u64 ((za l2 x8_2).f3.f0)):=(zb BK103.out 3).trans rfl
          have hcz36_4 : wc.cell? ⟨gb103,4,none⟩ = some (.int .u64 ((za l2 x8_2).f3.f1)):=(zb BK103.out 4).trans rfl
          have hfz36_0:=z8 BK103.out 0
          have hfz36_1:=z8 BK103.out 1
          have hfz36_2:=z8 BK103.out 2
          have hfz36_3:=z8 BK103.out 3
          have hfz36_4:=z8 BK103.out 4
          have hcz37_0 : wc.cell? ⟨gb101,0,none⟩ = some (.int .u64 0):=(zb BK101.out 0).trans rfl
          have hcz37_1 : wc.cell? ⟨gb101,1,none⟩ = some (.int .u64 0):=(zb BK101.out 1).trans rfl
          have hfz37_0:=z8 BK101.out 0
          have hfz37_1:=z8 BK101.out 1
          go_wp2
          go_meet
          case rel=>exact ⟨_,((!(((za l2 x8_2).f3.f0) == 0) || (!(((za l2 x8_2).f3.f1) == 0)))),(by first|rfl|(simp;done)|(simp [*];done)),H',⟨by have:=HJ3.out;have:=HK2.out;have:=HJ12.out;first|omega|exact Nat.le_refl _⟩,⟨by (with_reducible repeat (first|refine z2 ?_ _|refine z5 ?_|refine z1 ?_ _));exact BK101.out⟩,⟨by (with_reducible repeat (first|refine z2 ?_ _|refine z5 ?_|refine z1 ?_ _));exact BK103.out⟩,⟨by repeat (first|(with_reducible first|exact HB.out|apply z4|apply z0|apply z3|refine z9 ?_ GE101.out|refine z9 ?_ GE103.out)|exact HB.out)⟩⟩
        rw [if_pos c27] at H
        have c27b0 : (((za l2 x8_2).f0) == 2) = true:=beq_iff_eq.mpr c27
        have c27b1 : (((za l2 x8_2).f0) != 2) = false:=bne_eq_false_iff_eq.mpr c27
        clear c27
        by_cases c28 : ((za l2 x8_2).f0) > 1
        rotate_left
        · rw [if_neg c28] at H
          have c28b0 : decide (1 < ((za l2 x8_2).f0)) = false:=decide_eq_false c28
          clear c28
          have H':=z7.mk H
          clear H
          have hnb32:=NB103_101.out
          have hnc32:=NB101_103.out
          have hcz33_0 : wc.cell? ⟨gb103,0,none⟩ = some (.int .i64 ((za l2 x8_2).f0)):=(zb BK103.out 0).trans rfl
          have hcz33_1 : wc.cell? ⟨gb103,1,none⟩ = some (.int .i64 ((za l2 x8_2).f1)):=(zb BK103.out 1).trans rfl
          have hcz33_2 : wc.cell? ⟨gb103,2,none⟩ = some (.int .i64 ((za l2 x8_2).f2)):=(zb BK103.out 2).trans rfl
          have hcz33_3 : wc.cell? ⟨gb103,3,none⟩ = some (.int .u64 ((za l2 x8_2).f3.f0)):=(zb BK103.out 3).trans rfl
          have hcz33_4 : wc.cell? ⟨gb103,4,none⟩ = some (.int .u64 ((za l2 x8_2).f3.f1)):=(zb BK103.out 4).trans rfl
          have hfz33_0:=z8 BK103.out 0
          have hfz33_1:=z8 BK103.out 1
          have hfz33_2:=z8 BK103.out 2
          have hfz33_3:=z8 BK103.out 3
          have hfz33_4:=z8 BK103.out 4
          go_wp2
          go_meet
          case rel=>exact ⟨_,(false),(by first|rfl|(simp;done)|(simp [*];done)),H',⟨by have:=HJ3.out;have:=HK2.out;have:=HJ12.out;first|omega|exact Nat.le_refl _⟩,⟨by (with_reducible repeat (first|refine z2 ?_ _|refine z5 ?_|refine z1 ?_ _));exact BK101.out⟩,⟨by (with_reducible repeat (first|refine z2 ?_ _|refine z5 ?_|refine z1 ?_ _));exact BK103.out⟩,⟨by repeat (first|(with_reducible first|exact HB.out|apply z4|apply z0|apply z3|refine z9 ?_ GE101.out|refine z9 ?_ GE103.out)|exact HB.out)⟩⟩
        rw [if_pos c28] at H
        have c28b0 : decide (1 < ((za l2 x8_2).f0)) = true:=decide_eq_true c28
        clear c28
        have H':=z7.mk H
        clear H
        have hnb29:=NB103_101.out
        have hnc29:=NB101_103.out
        have hcz30_0 : wc.cell? ⟨gb103,0,none⟩ = some (.int .i64 ((za l2 x8_2).f0)):=(zb BK103.out 0).trans rfl
        have hcz30_1 : wc.cell? ⟨gb103,1,none⟩ = some (.int .i64 ((za l2 x8_2).f1)):=(zb BK103.out 1).trans rfl
        have hcz30_2 : wc.cell? ⟨gb103,2,none⟩ = some (.int .i64 ((za l2 x8_2).f2)):=(zb BK103.out 2).trans rfl
        have hcz30_3 : wc.cell? ⟨gb103,3,none⟩ = some (.int .u64 ((za l2 x8_2).f3.f0)):=(zb BK103.out 3).trans rfl
        have hcz30_4 : wc.cell? ⟨gb103,4,none⟩ = some (.int .u64 ((za l2 x8_2).f3.f1)):=(zb BK103.out 4).trans rfl
        have hfz30_0:=z8 BK103.out 0
        have hfz30_1:=z8 BK103.out 1
        have hfz30_2:=z8 BK103.out 2
        have hfz30_3:=z8 BK103.out 3
        have hfz30_4:=z8 BK103.out 4
        have hcz31_0 : wc.cell? ⟨gb101,0,none⟩ = some (.int .u64 0):=(zb BK101.out 0).trans rfl
        have hcz31_1 : wc.cell? ⟨gb101,1,none⟩ = some (.int .u64 0):=(zb BK101.out 1).trans rfl
        have hfz31_0:=z8 BK101.out 0
        have hfz31_1:=z8 BK101.out 1
        go_wp2
        go_meet
        case rel=>exact ⟨_,((!(((za l2 x8_2).f3.f0) == 0) || (!(((za l2 x8_2).f3.f1) == 0)))),(by first|rfl|(simp;done)|(simp [*];done)),H',⟨by have:=HJ3.out;have:=HK2.out;have:=HJ12.out;first|omega|exact Nat.le_refl _⟩,⟨by (with_reducible repeat (first|refine z2 ?_ _|refine z5 ?_|refine z1 ?_ _));exact BK101.out⟩,⟨by (with_reducible repeat (first|refine z2 ?_ _|refine z5 ?_|refine z1 ?_ _));exact BK103.out⟩,⟨by repeat (first|(with_reducible first|exact HB.out|apply z4|apply z0|apply z3|refine z9 ?_ GE101.out|refine z9 ?_ GE103.out)|exact HB.out)⟩⟩
       case rest =>
        clear HC23
        (try clear c1);(try clear p1);(try clear q1);(try clear hx1);(try clear c2);(try clear p2);(try clear c3);(try clear c4);(try clear c5);(try clear c6);(try clear c6b0);(try clear c7);(try clear c7b0);(try clear c8);(try clear c9);(try clear c9b0);(try clear c9b1);(try clear c9b2);(try clear c10);(try clear c10b0);(try clear c10b1);(try clear p10);(try clear q10);(try clear hx10);(try clear c11);(try clear c11b0);(try clear c12);(try clear c12b0);(try clear c15);(try clear c17);(try clear c17b0);(try clear c18);(try clear c20);(try clear c22);(try clear c24);(try clear c24b0);(try clear c24b1);(try clear c25);(try clear c25b0);(try clear c25b1);(try clear c26);(try clear c26b0);(try clear c26b1);(try clear c27);(try clear c27b0);(try clear c27b1);(try clear c28);(try clear c28b0);(try clear c29);(try clear c32);(try clear c34);(try clear c34b0);(try clear c35);(try clear c38);(try clear c40);(try clear c42);(try clear c44);(try clear c44b0);(try clear c44b1);(try clear c45);(try clear c45b0);(try clear c45b1);(try clear c46);(try clear c46b0);(try clear c47);(try clear c50);(try clear c52);(try clear c54);(try clear c54b0);(try clear c55);(try clear c58);(try clear hcz16_0);(try clear hcz16_1);(try clear hcz16_2);(try clear hcz16_3);(try clear hcz16_4);(try clear hcz19_0);(try clear hcz19_1);(try clear hcz19_2);(try clear hcz19_3);(try clear hcz19_4);(try clear hcz21_0);(try clear hcz21_1);(try clear hcz21_2);(try clear hcz21_3);(try clear hcz21_4);(try clear hcz30_0);(try clear hcz30_1);(try clear hcz30_2);(try clear hcz30_3);(try clear hcz30_4);(try clear hcz31_0);(try clear hcz31_1);(try clear hcz33_0);(try clear hcz33_1);(try clear hcz33_2);(try clear hcz33_3);(try clear hcz33_4);(try clear hcz36_0);(try clear hcz36_1);(try clear hcz36_2);(try clear hcz36_3);(try clear hcz36_4);(try clear hcz37_0);(try clear hcz37_1);(try clear hcz39_0);(try clear hcz39_1);(try clear hcz39_2);(try clear hcz39_3);(try clear hcz39_4);(try clear hcz41_0);(try clear hcz41_1);(try clear hcz41_2);(try clear hcz41_3);(try clear hcz41_4);(try clear hcz43_0);(try clear hcz43_1);(try clear hcz43_2);(try clear hcz43_3);(try clear hcz43_4);(try clear hcz48_0);(try clear hcz48_1);(try clear hcz48_2);(try clear hcz48_3);(try clear hcz48_4);(try clear hcz49_0);(try clear hcz49_1);(try clear hcz51_0);(try clear hcz51_1);(try clear hcz51_2);(try clear hcz51_3);(try clear hcz51_4);(try clear hcz53_0);(try clear hcz53_1);(try clear hcz53_2);(try clear hcz53_3);(try clear hcz53_4);(try clear hcz56_0);(try clear hcz56_1);(try clear hcz56_2);(try clear hcz56_3);(try clear hcz56_4);(try clear hcz57_0);(try clear hcz57_1);(try clear hcz59_0);(try clear hcz59_1);(try clear hcz59_2);(try clear hcz59_3);(try clear hcz59_4);(try clear hfz16_0);(try clear hfz16_1);(try clear hfz16_2);(try clear hfz16_3);(try clear hfz16_4);(try clear hfz19_0);(try clear hfz19_1);(try clear hfz19_2);(try clear hfz19_3);(try clear hfz19_4);(try clear hfz21_0);(try clear hfz21_1);(try clear hfz21_2);(try clear hfz21_3);(try clear hfz21_4);(try clear hfz30_0);(try clear hfz30_1);(try clear hfz30_2);(try clear hfz30_3);(try clear hfz30_4);(try clear hfz31_0);(try clear hfz31_1);(try clear hfz33_0);(try clear hfz33_1);(try clear hfz33_2);(try clear hfz33_3);(try clear hfz33_4);(try clear hfz36_0);(try clear hfz36_1);(try clear hfz36_2);(try clear hfz36_3);(try clear hfz36_4);(try clear hfz37_0);(try clear hfz37_1);(try clear hfz39_0);(try clear hfz39_1);(try clear hfz39_2);(try clear hfz39_3);(try clear hfz39_4);(try clear hfz41_0);(try clear hfz41_1);(try clear hfz41_2);(try clear hfz41_3);(try clear hfz41_4);(try clear hfz43_0);(try clear hfz43_1);(try clear hfz43_2);(try clear hfz43_3);(try clear hfz43_4);(try clear hfz48_0);(try clear hfz48_1);(try clear hfz48_2);(try clear hfz48_3);(try clear hfz48_4);(try clear hfz49_0);(try clear hfz49_1);(try clear hfz51_0);(try clear hfz51_1);(try clear hfz51_2);(try clear hfz51_3);(try clear hfz51_4);(try clear hfz53_0);(try clear hfz53_1);(try clear hfz53_2);(try clear hfz53_3);(try clear hfz53_4);(try clear hfz56_0);(try clear hfz56_1);(try clear hfz56_2);(try clear hfz56_3);(try clear hfz56_4);(try clear hfz57_0);(try clear hfz57_1);(try clear hfz59_0);(try clear hfz59_1);(try clear hfz59_2);(try clear hfz59_3);(try clear hfz59_4);(try clear hx102_0);(try clear hx102_1);(try clear hx102_2);(try clear hx102_3);(try clear hx102_4);(try clear p1);(try clear p10);(try clear p102);(try clear p2);(try clear q1);(try clear q10);(try clear q102)
        obtain ⟨kq,x77_22,rfl,HA,HJ22,BK101,BK103,HB⟩:=hcut
        cases kq with
        | zero=>exact absurd HA.out (by simp [zc.j3])
        | succ kj22 =>
         have H:=HA.out
         clear HA
         simp only [zc.j3] at H
         by_cases c60 : x77_22 = true
         · subst c60
           have H1 : (some 3) = some r:=by rw [if_pos rfl] at H;exact H
           clear H
           have H:=H1
           clear H1
           obtain rfl:=Option.some.inj H
           go_wp2
           go_ret
           exact ⟨by first|rfl|(simp [zl,zm] <;> rfl)|(simp [*,zl,zm] <;> rfl),by repeat (first|(with_reducible first|exact HB.out|apply z4|apply z0|apply z3|refine z9 ?_ GE101.out|refine z9 ?_ GE103.out)|exact HB.out)⟩
         replace c60:=Bool.eq_false_iff.mpr c60
         subst c60
         have H1 : (if ((za l2 x8_2).f0) > 2 then (if ((za l2 x8_2).f1) < 0 then (zc.j4 kj22 a0 a1 l2 x8_2 true 0 0 ((za l2 x8_2).f0) ((za l2 x8_2).f1) ((za l2 x8_2).f2) ((za l2 x8_2).f3.f0) ((za l2 x8_2).f3.f1)) else (if ((za l2 x8_2).f1) ≥ x8_2 then (zc.j4 kj22 a0 a1 l2 x8_2 true 0 0 ((za l2 x8_2).f0) ((za l2 x8_2).f1) ((za l2 x8_2).f2) ((za l2 x8_2).f3.f0) ((za l2 x8_2).f3.f1)) else (if ((za l2 x8_2).f2) < 0 then (zc.j4 kj22 a0 a1 l2 x8_2 true 0 0 ((za l2 x8_2).f0) ((za l2 x8_2).f1) ((za l2 x8_2).f2) ((za l2 x8_2).f3.f0) ((za l2 x8_2).f3.f1)) else (zc.j4 kj22 a0 a1 l2 x8_2 (decide (((za l2 x8_2).f2) ≥ x8_2)) 0 0 ((za l2 x8_2).f0) ((za l2 x8_2).f1) ((za l2 x8_2).f2) ((za l2 x8_2).f3.f0) ((za l2 x8_2).f3.f1))))) else (zc.j4 kj22 a0 a1 l2 x8_2 false 0 0 ((za l2 x8_2).f0) ((za l2 x8_2).f1) ((za l2 x8_2).f2) ((za l2 x8_2).f3.f0) ((za l2 x8_2).f3.f1))) = some r:=by rw [if_neg (show ¬ (false = true) by decide)] at H;exact H
         clear H
         have H:=H1
         clear H1
         have HC61:=z7.mk H
         clear H
         go_upto_region 16 with (fail)
         go_cut [102] (fun v102 wc=>∃ (kq : Nat) (x102_60 : Bool),v102 = .bool x102_60 ∧ z7 (zc.j4 kq a0 a1 l2 x8_2 x102_60 0 0 ((za l2 x8_2).f0) ((za l2 x8_2).f1) ((za l2 x8_2).f2) ((za l2 x8_2).f3.f0) ((za l2 x8_2).f3.f1) = some r) ∧ z7 (kq ≤ kj22) ∧ z7 (wc.heap[gb101]? = some (.cells #[.int .u64 0,.int .u64 0] 61 (0,0))) ∧ z7 (wc.heap[gb103]? = some (.cells #[.int .i64 ((za l2 x8_2).f0),.int .i64 ((za l2 x8_2).f1),.int .i64 ((za l2 x8_2).f2),.int .u64 ((za l2 x8_2).f3.f0),.int .u64 ((za l2 x8_2).f3.f1)] 114 (0,0))) ∧ z7 (Below w.heap.size w wc))
         case first =>
          have H:=HC61.out
          clear HC61
          by_cases c62 : ((za l2 x8_2).f0) > 2
          rotate_left
          · rw [if_neg c62] at H
            have c62b0 : decide (2 < ((za l2 x8_2).f0)) = false:=decide_eq_false c62
            clear c62
            (first|rw [c62b0]|(simp only [zH,zL];rw [c62b0])|skip)
            have H':=z7.mk H
            clear H
            have hnb74:=NB103_101.out
            have hnc74:=NB101_103.out
            have hcz75_0 : wc.cell? ⟨gb103,0,none⟩ = some (.int .i64 ((za l2 x8_2).f0)):=(zb BK103.out 0).trans rfl
            have hcz75_1 : wc.cell? ⟨gb103,1,none⟩ = some (.int .i64 ((za l2 x8_2).f1)):=(zb BK103.out 1).trans rfl
            have hcz75_2 : wc.cell? ⟨gb103,2,none⟩ = some (.int .i64 ((za l2 x8_2).f2)):=(zb BK103.out 2).trans rfl
            have hcz75_3 : wc.cell? ⟨gb103,3,none⟩ = some (.int .u64 ((za l2 x8_2).f3.f0)):=(zb BK103.out 3).trans rfl
            have hcz75_4 : wc.cell? ⟨gb103,4,none⟩ = some (.int .u64 ((za l2 x8_2).f3.f1)):=(zb BK103.out 4).trans rfl
            have hfz75_0:=z8 BK103.out 0
            have hfz75_1:=z8 BK103.out 1
            have hfz75_2:=z8 BK103.out 2
            have hfz75_3:=z8 BK103.out 3
            have hfz75_4:=z8 BK103.out 4
            go_wp2
            go_meet
            case rel=>exact ⟨_,(false),(by first|rfl|(simp;done)|(simp [*];done)),H',⟨by have:=HJ3.out;have:=HK2.out;have:=HJ12.out;have:=HJ22.out;first|omega|exact Nat.le_refl _⟩,⟨by (with_reducible repeat (first|refine z2 ?_ _|refine z5 ?_|refine z1 ?_ _));exact BK101.out⟩,⟨by (with_reducible repeat (first|refine z2 ?_ _|refine z5 ?_|refine z1 ?_ _));exact BK103.out⟩,⟨by repeat (first|(with_reducible first|exact HB.out|apply z4|apply z0|apply z3|refine z9 ?_ GE101.out|refine z9 ?_ GE103.out)|exact HB.out)⟩⟩
          rw [if_pos c62] at H
          have c62b0 : decide (2 < ((za l2 x8_2).f0)) = true:=decide_eq_true c62
          clear c62
          (first|rw [c62b0]|(simp only [zH,zL];rw [c62b0])|skip)
          by_cases c63 : ((za l2 x8_2).f1) < 0
          · rw [if_pos c63] at H
            have c63b0 : decide (((za l2 x8_2).f1) < 0) = true:=decide_eq_true c63
            clear c63
            have H':=z7.mk H
            clear H
            have hnb64:=NB103_101.out
            have hnc64:=NB101_103.out
            have hcz65_0 : wc.cell? ⟨gb103,0,none⟩ = some (.int .i64 ((za l2 x8_2).f0)):=(zb BK103.out 0).trans rfl
            have hcz65_1 : wc.cell? ⟨gb103,1,none⟩ = some (.int .i64 ((za l2 x8_2).f1)):=(zb BK103.out 1).trans rfl
            have hcz65_2 : wc.cell? ⟨gb103,2,none⟩ = some (.int .i64 ((za l2 x8_2).f2)):=(zb BK103.out 2).trans rfl
            have hcz65_3 : wc.cell? ⟨gb103,3,none⟩ = some (.int .u64 ((za l2 x8_2).f3.f0)):=(zb BK103.out 3).trans rfl
            have hcz65_4 : wc.cell? ⟨gb103,4,none⟩ = some (.int .u64 ((za l2 x8_2).f3.f1)):=(zb BK103.out 4).trans rfl
            have hfz65_0:=z8 BK103.out 0
            have hfz65_1:=z8 BK103.out 1
            have hfz65_2:=z8 BK103.out 2
            have hfz65_3:=z8 BK103.out 3
            have hfz65_4:=z8 BK103.out 4
            go_wp2
            go_meet
            case rel=>exact ⟨_,(true),(by first|rfl|(simp;done)|(simp [*];done)),H',⟨by have:=HJ3.out;have:=HK2.out;have:=HJ12.out;have:=HJ22.out;first|omega|exact Nat.le_refl _⟩,⟨by (with_reducible repeat (first|refine z2 ?_ _|refine z5 ?_|refine z1 ?_ _));exact BK101.out⟩,⟨by (with_reducible repeat (first|refine z2 ?_ _|refine z5 ?_|refine z1 ?_ _));exact BK103.out⟩,⟨by repeat (first|(with_reducible first|exact HB.out|apply z4|apply z0|apply z3|refine z9 ?_ GE101.out|refine z9 ?_ GE103.out)|exact HB.out)⟩⟩
          rw [if_neg c63] at H
          have c63b0 : decide (((za l2 x8_2).f1) < 0) = false:=decide_eq_false c63
          clear c63
          by_cases c66 : ((za l2 x8_2).f1) ≥ x8_2
          · rw [if_pos c66] at H
            have c66b0 : decide (x8_2 ≤ ((za l2 x8_2).f1)) = true:=decide_eq_true c66
            clear c66
            have H':=z7.mk H
            clear H
            have hnb67:=NB103_101.out
            have hnc67:=NB101_103.out
            have hcz68_0 : wc.cell? ⟨gb103,0,none⟩ = some (.int .i64 ((za l2 x8_2).f0)):=(zb BK103.out 0).trans rfl
            have hcz68_1 : wc.cell? ⟨gb103,1,none⟩ = some (.int .i64 ((za l2 x8_2).f1)):=(zb BK103.out 1).trans rfl
            have hcz68_2 : wc.cell? ⟨gb103,2,none⟩ = some (.int .i64 ((za l2 x8_2).f2)):=(zb BK103.out 2).trans rfl
            have hcz68_3 : wc.cell? ⟨gb103,3,none⟩ = some (.int .u64 ((za l2 x8_2).f3.f0)):=(zb BK103.out 3).trans rfl
            have hcz68_4 : wc.cell? ⟨gb103,4,none⟩ = some (.int .u64 ((za l2 x8_2).f3.f1)):=(zb BK103.out 4).trans rfl
            have hfz68_0:=z8 BK103.out 0
            have hfz68_1:=z8 BK103.out 1
            have hfz68_2:=z8 BK103.out 2
            have hfz68_3:=z8 BK103.out 3
            have hfz68_4:=z8 BK103.out 4
            go_wp2
            go_meet
            case rel=>exact ⟨_,(true),(by first|rfl|(simp;done)|(simp [*];done)),H',⟨by have:=HJ3.out;have:=HK2.out;have:=HJ12.out;have:=HJ22.out;first|omega|exact Nat.le_refl _⟩,⟨by (with_reducible repeat (first|refine z2 ?_ _|refine z5 ?_|refine z1 ?_ _));exact BK101.out⟩,⟨by (with_reducible repeat (first|refine z2 ?_ _|refine z5 ?_|refine z1 ?_ _));exact BK103.out⟩,⟨by repeat (first|(with_reducible first|exact HB.out|apply z4|apply z0|apply z3|refine z9 ?_ GE101.out|refine z9 ?_ GE103.out)|exact HB.out)⟩⟩
          rw [if_neg c66] at H
          have c66b0 : decide (x8_2 ≤ ((za l2 x8_2).f1)) = false:=decide_eq_false c66
          clear c66
          by_cases c69 : ((za l2 x8_2).f2) < 0
          rotate_left
          · rw [if_neg c69] at H
            have c69b0 : decide (((za l2 x8_2).f2) < 0) = false:=decide_eq_false c69
            clear c69
            have H':=z7.mk H
            clear H
            have hnb72:=NB103_101.out
            have hnc72:=NB101_103.out
            have hcz73_0 : wc.cell? ⟨gb103,0,none⟩ = some (.int .i64 ((za l2 x8_2).f0)):=(zb BK103.out 0).trans rfl
            have hcz73_1 : wc.cell? ⟨gb103,1,none⟩ = some (.int .i64 ((za l2 x8_2).f1)):=(zb BK103.out 1).trans rfl
            have hcz73_2 : wc.cell? ⟨gb103,2,none⟩ = some (.int .i64 ((za l2 x8_2).f2)):=(zb BK103.out 2).trans rfl
            have hcz73_3 : wc.cell? ⟨gb103,3,none⟩ = some (.int .u64 ((za l2 x8_2).f3.f0)):=(zb BK103.out 3).trans rfl
            have hcz73_4 : wc.cell? ⟨gb103,4,none⟩ = some (.int .u64 ((za l2 x8_2).f3.f1)):=(zb BK103.out 4).trans rfl
            have hfz73_0:=z8 BK103.out 0
            have hfz73_1:=z8 BK103.out 1
            have hfz73_2:=z8 BK103.out 2
            have hfz73_3:=z8 BK103.out 3
            have hfz73_4:=z8 BK103.out 4
            go_wp2
            go_meet
            case rel=>exact ⟨_,(decide (((za l2 x8_2).f2) ≥ x8_2)),(by first|rfl|(simp;done)|(simp [*];done)),H',⟨by have:=HJ3.out;have:=HK2.out;have:=HJ12.out;have:=HJ22.out;first|omega|exact Nat.le_refl _⟩,⟨by (with_reducible repeat (first|refine z2 ?_ _|refine z5 ?_|refine z1 ?_ _));exact BK101.out⟩,⟨by (with_reducible repeat (first|refine z2 ?_ _|refine z5 ?_|refine z1 ?_ _));exact BK103.out⟩,⟨by repeat (first|(with_reducible first|exact HB.out|apply z4|apply z0|apply z3|refine z9 ?_ GE101.out|refine z9 ?_ GE103.out)|exact HB.out)⟩⟩
          rw [if_pos c69] at H
          have c69b0 : decide (((za l2 x8_2).f2) < 0) = true:=decide_eq_true c69
          clear c69
          have H':=z7.mk H
          clear H
          have hnb70:=NB103_101.out
          have hnc70:=NB101_103.out
          have hcz71_0 : wc.cell? ⟨gb103,0,none⟩ = some (.int .i64 ((za l2 x8_2).f0)):=(zb BK103.out 0).trans rfl
          have hcz71_1 : wc.cell? ⟨gb103,1,none⟩ = some (.int .i64 ((za l2 x8_2).f1)):=(zb BK103.out 1).trans rfl
          have hcz71_2 : wc.cell? ⟨gb103,2,none⟩ = some (.int .i64 ((za l2 x8_2).f2)):=(zb BK103.out 2).trans rfl
          have hcz71_3 : wc.cell? ⟨gb103,3,none⟩ = some (.int .u64 ((za l2 x8_2).f3.f0)):=(zb BK103.out 3).trans rfl
          have hcz71_4 : wc.cell? ⟨gb103,4,none⟩ = some (.int .u64 ((za l2 x8_2).f3.f1)):=(zb BK103.out 4).trans rfl
          have hfz71_0:=z8 BK103.out 0
          have hfz71_1:=z8 BK103.out 1
          have hfz71_2:=z8 BK103.out 2
          have hfz71_3:=z8 BK103.out 3
          have hfz71_4:=z8 BK103.out 4
          go_wp2
          go_meet
          case rel=>exact ⟨_,(true),(by first|rfl|(simp;done)|(simp [*];done)),H',⟨by have:=HJ3.out;have:=HK2.out;have:=HJ12.out;have:=HJ22.out;first|omega|exact Nat.le_refl _⟩,⟨by (with_reducible repeat (first|refine z2 ?_ _|refine z5 ?_|refine z1 ?_ _));exact BK101.out⟩,⟨by (with_reducible repeat (first|refine z2 ?_ _|refine z5 ?_|refine z1 ?_ _));exact BK103.out⟩,⟨by repeat (first|(with_reducible first|exact HB.out|apply z4|apply z0|apply z3|refine z9 ?_ GE101.out|refine z9 ?_ GE103.out)|exact HB.out)⟩⟩
         case rest =>
          clear HC61
          (try clear c1);(try clear p1);(try clear q1);(try clear hx1);(try clear c2);(try clear p2);(try clear c3);(try clear c4);(try clear c5);(try clear c6);(try clear c6b0);(try clear c7);(try clear c7b0);(try clear c8);(try clear c9);(try clear c9b0);(try clear c9b1);(try clear c9b2);(try clear c10);(try clear c10b0);(try clear c10b1);(try clear p10);(try clear q10);(try clear hx10);(try clear c11);(try clear c11b0);(try clear c12);(try clear c12b0);(try clear c15);(try clear c17);(try clear c17b0);(try clear c18);(try clear c20);(try clear c22);(try clear c24);(try clear c24b0);(try clear c24b1);(try clear c25);(try clear c25b0);(try clear c25b1);(try clear c26);(try clear c26b0);(try clear c26b1);(try clear c27);(try clear c27b0);(try clear c27b1);(try clear c28);(try clear c28b0);(try clear c29);(try clear c32);(try clear c34);(try clear c34b0);(try clear c35);(try clear c38);(try clear c40);(try clear c42);(try clear c44);(try clear c44b0);(try clear c44b1);(try clear c45);(try clear c45b0);(try clear c45b1);(try clear c46);(try clear c46b0);(try clear c47);(try clear c50);(try clear c52);(try clear c54);(try clear c54b0);(try clear c55);(try clear c58);(try clear c60);(try clear c62);(try clear c62b0);(try clear c63);(try clear c63b0);(try clear c64);(try clear c66);(try clear c66b0);(try clear c67);(try clear c69);(try clear c69b0);(try clear c70);(try clear c72);(try clear c74);(try clear hcz16_0);(try clear hcz16_1);(try clear hcz16_2);(try clear hcz16_3);(try clear hcz16_4);(try clear hcz19_0);(try clear hcz19_1);(try clear hcz19_2);(try clear hcz19_3);(try clear hcz19_4);(try clear hcz21_0);(try clear hcz21_1);(try clear hcz21_2);(try clear hcz21_3);(try clear hcz21_4);(try clear hcz30_0);(try clear hcz30_1);(try clear hcz30_2);(try clear hcz30_3);(try clear hcz30_4);(try clear hcz31_0);(try clear hcz31_1);(try clear hcz33_0);(try clear hcz33_1);(try clear hcz33_2);(try clear hcz33_3);(try clear hcz33_4);(try clear hcz36_0);(try clear hcz36_1);(try clear hcz36_2);(try clear hcz36_3);(try clear hcz36_4);(try clear hcz37_0);(try clear hcz37_1);(try clear hcz39_0);(try clear hcz39_1);(try clear hcz39_2);(try clear hcz39_3);(try clear hcz39_4);(try clear hcz41_0);(try clear hcz41_1);(try clear hcz41_2);(try clear hcz41_3);(try clear hcz41_4);(try clear hcz43_0);(try clear hcz43_1);(try clear hcz43_2);(try clear hcz43_3);(try clear hcz43_4);(try clear hcz48_0);(try clear hcz48_1);(try clear hcz48_2);(try clear hcz48_3);(try clear hcz48_4);(try clear hcz49_0);(try clear hcz49_1);(try clear hcz51_0);(try clear hcz51_1);(try clear hcz51_2);(try clear hcz51_3);(try clear hcz51_4);(try clear hcz53_0);(try clear hcz53_1);(try clear hcz53_2);(try clear hcz53_3);(try clear hcz53_4);(try clear hcz56_0);(try clear hcz56_1);(try clear hcz56_2);(try clear hcz56_3);(try clear hcz56_4);(try clear hcz57_0);(try clear hcz57_1);(try clear hcz59_0);(try clear hcz59_1);(try clear hcz59_2);(try clear hcz59_3);(try clear hcz59_4);(try clear hcz65_0);(try clear hcz65_1);(try clear hcz65_2);(try clear hcz65_3);(try clear hcz65_4);(try clear hcz68_0);(try clear hcz68_1);(try clear hcz68_2);(try clear hcz68_3);(try clear hcz68_4);(try clear hcz71_0);(try clear hcz71_1);(try clear hcz71_2);(try clear hcz71_3);(try clear hcz71_4);(try clear hcz73_0);(try clear hcz73_1);(try clear hcz73_2);(try clear hcz73_3);(try clear hcz73_4);(try clear hcz75_0);(try clear hcz75_1);(try clear hcz75_2);(try clear hcz75_3);(try clear hcz75_4);(try clear hfz16_0);(try clear hfz16_1);(try clear hfz16_2);(try clear hfz16_3);(try clear hfz16_4);(try clear hfz19_0);(try clear hfz19_1);(try clear hfz19_2);(try clear hfz19_3);(try clear hfz19_4);(try clear hfz21_0);(try clear hfz21_1);(try clear hfz21_2);(try clear hfz21_3);(try clear hfz21_4);(try clear hfz30_0);(try clear hfz30_1);(try clear hfz30_2);(try clear hfz30_3);(try clear hfz30_4);(try clear hfz31_0);(try clear hfz31_1);(try clear hfz33_0);(try clear hfz33_1);(try clear hfz33_2);(try clear hfz33_3);(try clear hfz33_4);(try clear hfz36_0);(try clear hfz36_1);(try clear hfz36_2);(try clear hfz36_3);(try clear hfz36_4);(try clear hfz37_0);(try clear hfz37_1);(try clear hfz39_0);(try clear hfz39_1);(try clear hfz39_2);(try clear hfz39_3);(try clear hfz39_4);(try clear hfz41_0);(try clear hfz41_1);(try clear hfz41_2);(try clear hfz41_3);(try clear hfz41_4);(try clear hfz43_0);(try clear hfz43_1);(try clear hfz43_2);(try clear hfz43_3);(try clear hfz43_4);(try clear hfz48_0);(try clear hfz48_1);(try clear hfz48_2);(try clear hfz48_3);(try clear hfz48_4);(try clear hfz49_0);(try clear hfz49_1);(try clear hfz51_0);(try clear hfz51_1);(try clear hfz51_2);(try clear hfz51_3);(try clear hfz51_4);(try clear hfz53_0);(try clear hfz53_1);(try clear hfz53_2);(try clear hfz53_3);(try clear hfz53_4);(try clear hfz56_0);(try clear hfz56_1);(try clear hfz56_2);(try clear hfz56_3);(try clear hfz56_4);(try clear hfz57_0);(try clear hfz57_1);(try clear hfz59_0);(try clear hfz59_1);(try clear hfz59_2);(try clear hfz59_3);(try clear hfz59_4);(try clear hfz65_0);(try clear hfz65_1);(try clear hfz65_2);(try clear hfz65_3);(try clear hfz65_4);(try clear hfz68_0);(try clear hfz68_1);(try clear hfz68_2);(try clear hfz68_3);(try clear hfz68_4);(try clear hfz71_0);(try clear hfz71_1);(try clear hfz71_2);(try clear hfz71_3);(try clear hfz71_4);(try clear hfz73_0);(try clear hfz73_1);(try clear hfz73_2);(try clear hfz73_3);(try clear hfz73_4);(try clear hfz75_0);(try clear hfz75_1);(try clear hfz75_2);(try clear hfz75_3);(try clear hfz75_4);(try clear hx102_0);(try clear hx102_1);(try clear hx102_2);(try clear hx102_3);(try clear hx102_4);(try clear p1);(try clear p10);(try clear p102);(try clear p2);(try clear q1);(try clear q10);(try clear q102)
          obtain ⟨kq,x102_60,rfl,HA,HJ60,BK101,BK103,HB⟩:=hcut
          cases kq with
          | zero=>exact absurd HA.out (by simp [zc.j4])
          | succ kj60 =>
           have H:=HA.out
           clear HA
           simp only [zc.j4] at H
           by_cases c76 : x102_60 = true
           · subst c76
             have H1 : (some 3) = some r:=by rw [if_pos rfl] at H;exact H
             clear H
             have H:=H1
             clear H1
             obtain rfl:=Option.some.inj H
             go_wp2
             go_ret
             exact ⟨by first|rfl|(simp [zl,zm] <;> rfl)|(simp [*,zl,zm] <;> rfl),by repeat (first|(with_reducible first|exact HB.out|apply z4|apply z0|apply z3|refine z9 ?_ GE101.out|refine z9 ?_ GE103.out)|exact HB.out)⟩
           replace c76:=Bool.eq_false_iff.mpr c76
           subst c76
           have H1 : (if ((za l2 x8_2).f0) = 1 then ((zo.f kj60 a0 ((za l2 x8_2).f3.f0) ((za l2 x8_2).f3.f1)).bind fun t104=>(zc.j5 kj60 a0 a1 l2 x8_2 (!t104) 0 0 ((za l2 x8_2).f0) ((za l2 x8_2).f1) ((za l2 x8_2).f2) ((za l2 x8_2).f3.f0) ((za l2 x8_2).f3.f1))) else (zc.j5 kj60 a0 a1 l2 x8_2 false 0 0 ((za l2 x8_2).f0) ((za l2 x8_2).f1) ((za l2 x8_2).f2) ((za l2 x8_2).f3.f0) ((za l2 x8_2).f3.f1))) = some r:=by rw [if_neg (show ¬ (false = true) by decide)] at H;exact H
           clear H
           have H:=H1
           clear H1
           have HC77:=z7.mk H
           clear H
           go_upto_region 18 with (fail)
           go_cut [112] (fun v112 wc=>∃ (kq : Nat) (x112_76 : Bool),v112 = .bool x112_76 ∧ z7 (zc.j5 kq a0 a1 l2 x8_2 x112_76 0 0 ((za l2 x8_2).f0) ((za l2 x8_2).f1) ((za l2 x8_2).f2) ((za l2 x8_2).f3.f0) ((za l2 x8_2).f3.f1) = some r) ∧ z7 (kq ≤ kj60) ∧ z7 (wc.heap[gb101]? = some (.cells #[.int .u64 0,.int .u64 0] 61 (0,0))) ∧ z7 (wc.heap[gb103]? = some (.cells #[.int .i64 ((za l2 x8_2).f0),.int .i64 ((za l2 x8_2).f1),.int .i64 ((za l2 x8_2).f2),.int .u64 ((za l2 x8_2).f3.f0),.int .u64 ((za l2 x8_2).f3.f1)] 114 (0,0))) ∧ z7 (Below w.heap.size w wc))
           case first =>
            have H:=HC77.out
            clear HC77
            by_cases c78 : ((za l2 x8_2).f0) = 1
            rotate_left
            · rw [if_neg c78] at H
              have c78b0 : (((za l2 x8_2).f0) == 1) = false:=beq_eq_false_iff_ne.mpr c78
              have c78b1 : (((za l2 x8_2).f0) != 1) = true:=bne_iff_ne.mpr c78
              (first|rw [c78b0]|(simp only [zH,zL];rw [c78b0])|skip)
              have H':=z7.mk H
              clear H
              have hnb83:=NB103_101.out
              have hnc83:=NB101_103.out
              have hcz84_0 : wc.cell? ⟨gb103,0,none⟩ = some (.int .i64 ((za l2 x8_2).f0)):=(zb BK103.out 0).trans rfl
              have hcz84_1 : wc.cell? ⟨gb103,1,none⟩ = some (.int .i64 ((za l2 x8_2).f1)):=(zb BK103.out 1).trans rfl
              have hcz84_2 : wc.cell? ⟨gb103,2,none⟩ = some (.int .i64 ((za l2 x8_2).f2)):=(zb BK103.out 2).trans rfl
              have hcz84_3 : wc.cell? ⟨gb103,3,none⟩ = some (.int .u64 ((za l2 x8_2).f3.f0)):=(zb BK103.out 3).trans rfl
              have hcz84_4 : wc.cell? ⟨gb103,4,none⟩ = some (.int .u64 ((za l2 x8_2).f3.f1)):=(zb BK103.out 4).trans rfl
              have hfz84_0:=z8 BK103.out 0
              have hfz84_1:=z8 BK103.out 1
              have hfz84_2:=z8 BK103.out 2
              have hfz84_3:=z8 BK103.out 3
              have hfz84_4:=z8 BK103.out 4
              go_wp2
              go_meet
              case rel=>exact ⟨_,(false),(by first|rfl|(simp;done)|(simp [*];done)),H',⟨by have:=HJ3.out;have:=HK2.out;have:=HJ12.out;have:=HJ22.out;have:=HJ60.out;first|omega|exact Nat.le_refl _⟩,⟨by (with_reducible repeat (first|refine z2 ?_ _|refine z5 ?_|refine z1 ?_ _));exact BK101.out⟩,⟨by (with_reducible repeat (first|refine z2 ?_ _|refine z5 ?_|refine z1 ?_ _));exact BK103.out⟩,⟨by repeat (first|(with_reducible first|exact HB.out|apply z4|apply z0|apply z3|refine z9 ?_ GE101.out|refine z9 ?_ GE103.out)|exact HB.out)⟩⟩
            rw [if_pos c78] at H
            have c78b0 : (((za l2 x8_2).f0) == 1) = true:=beq_iff_eq.mpr c78
            have c78b1 : (((za l2 x8_2).f0) != 1) = false:=bne_eq_false_iff_eq.mpr c78
            clear c78
            (first|rw [c78b0]|(simp only [zH,zL];rw [c78b0])|skip)
            replace H:=Option.bind_eq_some_iff.mp H
            obtain ⟨t104,A790,H⟩:=H
            replace H : (zc.j5 kj60 a0 a1 l2 x8_2 (!t104) 0 0 ((za l2 x8_2).f0) ((za l2 x8_2).f1) ((za l2 x8_2).f2) ((za l2 x8_2).f3.f0) ((za l2 x8_2).f3.f1)) = some r:=H
            have A79:=z7.mk A790
            clear A790
            have H':=z7.mk H
            clear H
            have hnb80:=NB103_101.out
            have hnc80:=NB101_103.out
            have hcz81_0 : wc.cell? ⟨gb103,0,none⟩ = some (.int .i64 ((za l2 x8_2).f0)):=(zb BK103.out 0).trans rfl
            have hcz81_1 : wc.cell? ⟨gb103,1,none⟩ = some (.int .i64 ((za l2 x8_2).f1)):=(zb BK103.out 1).trans rfl
            have hcz81_2 : wc.cell? ⟨gb103,2,none⟩ = some (.int .i64 ((za l2 x8_2).f2)):=(zb BK103.out 2).trans rfl
            have hcz81_3 : wc.cell? ⟨gb103,3,none⟩ = some (.int .u64 ((za l2 x8_2).f3.f0)):=(zb BK103.out 3).trans rfl
            have hcz81_4 : wc.cell? ⟨gb103,4,none⟩ = some (.int .u64 ((za l2 x8_2).f3.f1)):=(zb BK103.out 4).trans rfl
            have hfz81_0:=z8 BK103.out 0
            have hfz81_1:=z8 BK103.out 1
            have hfz81_2:=z8 BK103.out 2
            have hfz81_3:=z8 BK103.out 3
            have hfz81_4:=z8 BK103.out 4
            go_wp2_with (first|(go_at_call 39;(with_reducible refine (zo.calls kj60 a0 ((za l2 x8_2).f3.f0) ((za l2 x8_2).f3.f1) t104 _ A79.out).mono ?_);rintro e w82 ⟨rfl,hb⟩;have n0_:=z7.mk (zk (g:=gb101) (o:=.cells #[.int .u64 0,.int .u64 0] 61 (0,0)) (by (with_reducible repeat (first|refine z2 ?_ _|refine z5 ?_|refine z1 ?_ _));exact BK101.out) hb);have n1_:=z7.mk (zk (g:=gb103) (o:=.cells #[.int .i64 ((za l2 x8_2).f0),.int .i64 ((za l2 x8_2).f1),.int .i64 ((za l2 x8_2).f2),.int .u64 ((za l2 x8_2).f3.f0),.int .u64 ((za l2 x8_2).f3.f1)] 114 (0,0)) (by (with_reducible repeat (first|refine z2 ?_ _|refine z5 ?_|refine z1 ?_ _));exact BK103.out) hb);have n2_:=z7.mk (zg (by repeat (first|(with_reducible first|exact HB.out|apply z4|apply z0|apply z3|refine z9 ?_ GE101.out|refine z9 ?_ GE103.out)|exact HB.out)) hb);clear BK101;clear BK103;clear HB;have BK101:=n0_;have BK103:=n1_;have HB:=n2_;clear n0_ n1_ n2_;(try clear hb);(try clear hb2);(try clear hk);(try clear hi)))
            go_meet
            case rel=>exact ⟨_,(!t104),(by first|rfl|(simp;done)|(simp [*];done)),H',⟨by have:=HJ3.out;have:=HK2.out;have:=HJ12.out;have:=HJ22.out;have:=HJ60.out;first|omega|exact Nat.le_refl _⟩,⟨by (with_reducible repeat (first|refine z2 ?_ _|refine z5 ?_|refine z1 ?_ _));exact BK101.out⟩,⟨by (with_reducible repeat (first|refine z2 ?_ _|refine z5 ?_|refine z1 ?_ _));exact BK103.out⟩,⟨by repeat (first|(with_reducible first|exact HB.out|apply z4|apply z0|apply z3|refine z9 ?_ GE101.out|refine z9 ?_ GE103.out)|exact HB.out)⟩⟩
           case rest =>
            clear HC77
            (try clear c1);(try clear p1);(try clear q1);(try clear hx1);(try clear c2);(try clear p2);(try clear c3);(try clear c4);(try clear c5);(try clear c6);(try clear c6b0);(try clear c7);(try clear c7b0);(try clear c8);(try clear c9);(try clear c9b0);(try clear c9b1);(try clear c9b2);(try clear c10);(try clear c10b0);(try clear c10b1);(try clear p10);(try clear q10);(try clear hx10);(try clear c11);(try clear c11b0);(try clear c12);(try clear c12b0);(try clear c15);(try clear c17);(try clear c17b0);(try clear c18);(try clear c20);(try clear c22);(try clear c24);(try clear c24b0);(try clear c24b1);(try clear c25);(try clear c25b0);(try clear c25b1);(try clear c26);(try clear c26b0);(try clear c26b1);(try clear c27);(try clear c27b0);(try clear c27b1);(try clear c28);(try clear c28b0);(try clear c29);(try clear c32);(try clear c34);(try clear c34b0);(try clear c35);(try clear c38);(try clear c40);(try clear c42);(try clear c44);(try clear c44b0);(try clear c44b1);(try clear c45);(try clear c45b0);(try clear c45b1);(try clear c46);(try clear c46b0);(try clear c47);(try clear c50);(try clear c52);(try clear c54);(try clear c54b0);(try clear c55);(try clear c58);(try clear c60);(try clear c62);(try clear c62b0);(try clear c63);(try clear c63b0);(try clear c64);(try clear c66);(try clear c66b0);(try clear c67);(try clear c69);(try clear c69b0);(try clear c70);(try clear c72);(try clear c74);(try clear c76);(try clear c78);(try clear c78b0);(try clear c78b1);(try clear c80);(try clear c83);(try clear hcz16_0);(try clear hcz16_1);(try clear hcz16_2);(try clear hcz16_3);(try clear hcz16_4);(try clear hcz19_0);(try clear hcz19_1);(try clear hcz19_2);(try clear hcz19_3);(try clear hcz19_4);(try clear hcz21_0);(try clear hcz21_1);(try clear hcz21_2);(try clear hcz21_3);(try clear hcz21_4);(try clear hcz30_0);(try clear hcz30_1);(try clear hcz30_2);(try clear hcz30_3);(try clear hcz30_4);(try clear hcz31_0);(try clear hcz31_1);(try clear hcz33_0);(try clear hcz33_1);(try clear hcz33_2);(try clear hcz33_3);(try clear hcz33_4);(try clear hcz36_0);(try clear hcz36_1);(try clear hcz36_2);(try clear hcz36_3);(try clear hcz36_4);(try clear hcz37_0);(try clear hcz37_1);(try clear hcz39_0);(try clear hcz39_1);(try clear hcz39_2);(try clear hcz39_3);(try clear hcz39_4);(try clear hcz41_0);(try clear hcz41_1);(try clear hcz41_2);(try clear hcz41_3);(try clear hcz41_4);(try clear hcz43_0);(try clear hcz43_1);(try clear hcz43_2);(try clear hcz43_3);(try clear hcz43_4);(try clear hcz48_0);(try clear hcz48_1);(try clear hcz48_2);(try clear hcz48_3);(try clear hcz48_4);(try clear hcz49_0);(try clear hcz49_1);(try clear hcz51_0);(try clear hcz51_1);(try clear hcz51_2);(try clear hcz51_3);(try clear hcz51_4);(try clear hcz53_0);(try clear hcz53_1);(try clear hcz53_2);(try clear hcz53_3);(try clear hcz53_4);(try clear hcz56_0);(try clear hcz56_1);(try clear hcz56_2);(try clear hcz56_3);(try clear hcz56_4);(try clear hcz57_0);(try clear hcz57_1);(try clear hcz59_0);(try clear hcz59_1);(try clear hcz59_2);(try clear hcz59_3);(try clear hcz59_4);(try clear hcz65_0);(try clear hcz65_1);(try clear hcz65_2);(try clear hcz65_3);(try clear hcz65_4);(try clear hcz68_0);(try clear hcz68_1);(try clear hcz68_2);(try clear hcz68_3);(try clear hcz68_4);(try clear hcz71_0);(try clear hcz71_1);(try clear hcz71_2);(try clear hcz71_3);(try clear hcz71_4);(try clear hcz73_0);(try clear hcz73_1);(try clear hcz73_2);(try clear hcz73_3);(try clear hcz73_4);(try clear hcz75_0);(try clear hcz75_1);(try clear hcz75_2);(try clear hcz75_3);(try clear hcz75_4);(try clear hcz81_0);(try clear hcz81_1);(try clear hcz81_2);(try clear hcz81_3);(try clear hcz81_4);(try clear hcz84_0);(try clear hcz84_1);(try clear hcz84_2);(try clear hcz84_3);(try clear hcz84_4);(try clear hfz16_0);(try clear hfz16_1);(try clear hfz16_2);(try clear hfz16_3);(try clear hfz16_4);(try clear hfz19_0);(try clear hfz19_1);(try clear hfz19_2);(try clear hfz19_3);(try clear hfz19_4);(try clear hfz21_0);(try clear hfz21_1);(try clear hfz21_2);(try clear hfz21_3);(try clear hfz21_4);(try clear hfz30_0);(try clear hfz30_1);(try clear hfz30_2);(try clear hfz30_3);(try clear hfz30_4);(try clear hfz31_0);(try clear hfz31_1);(try clear hfz33_0);(try clear hfz33_1);(try clear hfz33_2);(try clear hfz33_3);(try clear hfz33_4);(try clear hfz36_0);(try clear hfz36_1);(try clear hfz36_2);(try clear hfz36_3);(try clear hfz36_4);(try clear hfz37_0);(try clear hfz37_1);(try clear hfz39_0);(try clear hfz39_1);(try clear hfz39_2);(try clear hfz39_3);(try clear hfz39_4);(try clear hfz41_0);(try clear hfz41_1);(try clear hfz41_2);(try clear hfz41_3);(try clear hfz41_4);(try clear hfz43_0);(try clear hfz43_1);(try clear hfz43_2);(try clear hfz43_3);(try clear hfz43_4);(try clear hfz48_0);(try clear hfz48_1);(try clear hfz48_2);(try clear hfz48_3);(try clear hfz48_4);(try clear hfz49_0);(try clear hfz49_1);(try clear hfz51_0);(try clear hfz51_1);(try clear hfz51_2);(try clear hfz51_3);(try clear hfz51_4);(try clear hfz53_0);(try clear hfz53_1);(try clear hfz53_2);(try clear hfz53_3);(try clear hfz53_4);(try clear hfz56_0);(try clear hfz56_1);(try clear hfz56_2);(try clear hfz56_3);(try clear hfz56_4);(try clear hfz57_0);(try clear hfz57_1);(try clear hfz59_0);(try clear hfz59_1);(try clear hfz59_2);(try clear hfz59_3);(try clear hfz59_4);(try clear hfz65_0);(try clear hfz65_1);(try clear hfz65_2);(try clear hfz65_3);(try clear hfz65_4);(try clear hfz68_0);(try clear hfz68_1);(try clear hfz68_2);(try clear hfz68_3);(try clear hfz68_4);(try clear hfz71_0);(try clear hfz71_1);(try clear hfz71_2);(try clear hfz71_3);(try clear hfz71_4);(try clear hfz73_0);(try clear hfz73_1);(try clear hfz73_2);(try clear hfz73_3);(try clear hfz73_4);(try clear hfz75_0);(try clear hfz75_1);(try clear hfz75_2);(try clear hfz75_3);(try clear hfz75_4);(try clear hfz81_0);(try clear hfz81_1);(try clear hfz81_2);(try clear hfz81_3);(try clear hfz81_4);(try clear hfz84_0);(try clear hfz84_1);(try clear hfz84_2);(try clear hfz84_3);(try clear hfz84_4);(try clear hx102_0);(try clear hx102_1);(try clear hx102_2);(try clear hx102_3);(try clear hx102_4);(try clear p1);(try clear p10);(try clear p102);(try clear p2);(try clear q1);(try clear q10);(try clear q102)
            obtain ⟨kq,x112_76,rfl,HA,HJ76,BK101,BK103,HB⟩:=hcut
            cases kq with
            | zero=>exact absurd HA.out (by simp [zc.j5])
            | succ kj76 =>
             have H:=HA.out
             clear HA
             simp only [zc.j5] at H
             by_cases c85 : x112_76 = true
             · subst c85
               have H1 : (some 5) = some r:=by rw [if_pos rfl] at H;exact H
               clear H
               have H:=H1
               clear H1
               obtain rfl:=Option.some.inj H
               go_wp2
               go_ret
               exact ⟨by first|rfl|(simp [zl,zm] <;> rfl)|(simp [*,zl,zm] <;> rfl),by repeat (first|(with_reducible first|exact HB.out|apply z4|apply z0|apply z3|refine z9 ?_ GE101.out|refine z9 ?_ GE103.out)|exact HB.out)⟩
             replace c85:=Bool.eq_false_iff.mpr c85
             subst c85
             have H1 : (if ((za l2 x8_2).f0) = 2 then (if ((za l2 x8_2).f1) < 0 then (zc.j6 kj76 a0 a1 l2 x8_2 true 0 0) else (zc.j6 kj76 a0 a1 l2 x8_2 (decide (((za l2 x8_2).f1) ≥ a1)) 0 0)) else (zc.j6 kj76 a0 a1 l2 x8_2 false 0 0)) = some r:=by rw [if_neg (show ¬ (false = true) by decide)] at H;exact H
             clear H
             have H:=H1
             clear H1
             have HC86:=z7.mk H
             clear H
             go_upto_region 20 with (fail)
             go_cut [126] (fun v126 wc=>∃ (kq : Nat) (x126_85 : Bool),v126 = .bool x126_85 ∧ z7 (zc.j6 kq a0 a1 l2 x8_2 x126_85 0 0 = some r) ∧ z7 (kq ≤ kj76) ∧ z7 (wc.heap[gb101]? = some (.cells #[.int .u64 0,.int .u64 0] 61 (0,0))) ∧ z7 (wc.heap[gb103]? = some (.cells #[.int .i64 ((za l2 x8_2).f0),.int .i64 ((za l2 x8_2).f1),.int .i64 ((za l2 x8_2).f2),.int .u64 ((za l2 x8_2).f3.f0),.int .u64 ((za l2 x8_2).f3.f1)] 114 (0,0))) ∧ z7 (Below w.heap.size w wc))
             case first =>
              have H:=HC86.out
              clear HC86
              by_cases c87 : ((za l2 x8_2).f0) = 2
              rotate_left
              · rw [if_neg c87] at H
                have c87b0 : (((za l2 x8_2).f0) == 2) = false:=beq_eq_false_iff_ne.mpr c87
                have c87b1 : (((za l2 x8_2).f0) != 2) = true:=bne_iff_ne.mpr c87
                (first|rw [c87b0]|(simp only [zH,zL];rw [c87b0])|skip)
                have H':=z7.mk H
                clear H
                have hnb93:=NB103_101.out
                have hnc93:=NB101_103.out
                have hcz94_0 : wc.cell? ⟨gb103,0,none⟩ = some (.int .i64 ((za l2 x8_2).f0)):=(zb BK103.out 0).trans rfl
                have hcz94_1 : wc.cell? ⟨gb103,1,none⟩ = some (.int .i64 ((za l2 x8_2).f1)):=(zb BK103.out 1).trans rfl
                have hcz94_2 : wc.cell? ⟨gb103,2,none⟩ = some (.int .i64 ((za l2 x8_2).f2)):=(zb BK103.out 2).trans rfl
                have hcz94_3 : wc.cell? ⟨gb103,3,none⟩ = some (.int .u64 ((za l2 x8_2).f3.f0)):=(zb BK103.out 3).trans rfl
                have hcz94_4 : wc.cell? ⟨gb103,4,none⟩ = some (.int .u64 ((za l2 x8_2).f3.f1)):=(zb BK103.out 4).trans rfl
                have hfz94_0:=z8 BK103.out 0
                have hfz94_1:=z8 BK103.out 1
                have hfz94_2:=z8 BK103.out 2
                have hfz94_3:=z8 BK103.out 3
                have hfz94_4:=z8 BK103.out 4
                go_wp2
                go_meet
                case rel=>exact ⟨_,(false),(by first|rfl|(simp;done)|(simp [*];done)),H',⟨by have:=HJ3.out;have:=HK2.out;have:=HJ12.out;have:=HJ22.out;have:=HJ60.out;have:=HJ76.out;first|omega|exact Nat.le_refl _⟩,⟨by (with_reducible repeat (first|refine z2 ?_ _|refine z5 ?_|refine z1 ?_ _));exact BK101.out⟩,⟨by (with_reducible repeat (first|refine z2 ?_ _|refine z5 ?_|refine z1 ?_ _));exact BK103.out⟩,⟨by repeat (first|(with_reducible first|exact HB.out|apply z4|apply z0|apply z3|refine z9 ?_ GE101.out|refine z9 ?_ GE103.out)|exact HB.out)⟩⟩
              rw [if_pos c87] at H
              have c87b0 : (((za l2 x8_2).f0) == 2) = true:=beq_iff_eq.mpr c87
              have c87b1 : (((za l2 x8_2).f0) != 2) = false:=bne_eq_false_iff_eq.mpr c87
              clear c87
              (first|rw [c87b0]|(simp only [zH,zL];rw [c87b0])|skip)
              by_cases c88 : ((za l2 x8_2).f1) < 0
              rotate_left
              · rw [if_neg c88] at H
                have c88b0 : decide (((za l2 x8_2).f1) < 0) = false:=decide_eq_false c88
                clear c88
                have H':=z7.mk H
                clear H
                have hnb91:=NB103_101.out
                have hnc91:=NB101_103.out
                have hcz92_0 : wc.cell? ⟨gb103,0,none⟩ = some (.int .i64 ((za l2 x8_2).f0)):=(zb BK103.out 0).trans rfl
                have hcz92_1 : wc.cell? ⟨gb103,1,none⟩ = some (.int .i64 ((za l2 x8_2).f1)):=(zb BK103.out 1).trans rfl
                have hcz92_2 : wc.cell? ⟨gb103,2,none⟩ = some (.int .i64 ((za l2 x8_2).f2)):=(zb BK103.out 2).trans rfl
                have hcz92_3 : wc.cell? ⟨gb103,3,none⟩ = some (.int .u64 ((za l2 x8_2).f3.f0)):=(zb BK103.out 3).trans rfl
                have hcz92_4 : wc.cell? ⟨gb103,4,none⟩ = some (.int .u64 ((za l2 x8_2).f3.f1)):=(zb BK103.out 4).trans rfl
                have hfz92_0:=z8 BK103.out 0
                have hfz92_1:=z8 BK103.out 1
                have hfz92_2:=z8 BK103.out 2
                have hfz92_3:=z8 BK103.out 3
                have hfz92_4:=z8 BK103.out 4
                go_wp2
                go_meet
                case rel=>exact ⟨_,(decide (((za l2 x8_2).f1) ≥ a1)),(by first|rfl|(simp;done)|(simp [*];done)),H',⟨by have:=HJ3.out;have:=HK2.out;have:=HJ12.out;have:=HJ22.out;have:=HJ60.out;have:=HJ76.out;first|omega|exact Nat.le_refl _⟩,⟨by (with_reducible repeat (first|refine z2 ?_ _|refine z5 ?_|refine z1 ?_ _));exact BK101.out⟩,⟨by (with_reducible repeat (first|refine z2 ?_ _|refine z5 ?_|refine z1 ?_ _));exact BK103.out⟩,⟨by repeat (first|(with_reducible first|exact HB.out|apply z4|apply z0|apply z3|refine z9 ?_ GE101.out|refine z9 ?_ GE103.out)|exact HB.out)⟩⟩
              rw [if_pos c88] at H
              have c88b0 : decide (((za l2 x8_2).f1) < 0) = true:=decide_eq_true c88
              clear c88
              have H':=z7.mk H
              clear H
              have hnb89:=NB103_101.out
              have hnc89:=NB101_103.out
              have hcz90_0 : wc.cell? ⟨gb103,0,none⟩ = some (.int .i64 ((za l2 x8_2).f0)):=(zb BK103.out 0).trans rfl
              have hcz90_1 : wc.cell? ⟨gb103,1,none⟩ = some (.int .i64 ((za l2 x8_2).f1)):=(zb BK103.out 1).trans rfl
              have hcz90_2 : wc.cell? ⟨gb103,2,none⟩ = some (.int .i64 ((za l2 x8_2).f2)):=(zb BK103.out 2).trans rfl
              have hcz90_3 : wc.cell? ⟨gb103,3,none⟩ = some (.int .u64 ((za l2 x8_2).f3.f0)):=(zb BK103.out 3).trans rfl
              have hcz90_4 : wc.cell? ⟨gb103,4,none⟩ = some (.int .u64 ((za l2 x8_2).f3.f1)):=(zb BK103.out 4).trans rfl
              have hfz90_0:=z8 BK103.out 0
              have hfz90_1:=z8 BK103.out 1
              have hfz90_2:=z8 BK103.out 2
              have hfz90_3:=z8 BK103.out 3
              have hfz90_4:=z8 BK103.out 4
              go_wp2
              go_meet
              case rel=>exact ⟨_,(true),(by first|rfl|(simp;done)|(simp [*];done)),H',⟨by have:=HJ3.out;have:=HK2.out;have:=HJ12.out;have:=HJ22.out;have:=HJ60.out;have:=HJ76.out;first|omega|exact Nat.le_refl _⟩,⟨by (with_reducible repeat (first|refine z2 ?_ _|refine z5 ?_|refine z1 ?_ _));exact BK101.out⟩,⟨by (with_reducible repeat (first|refine z2 ?_ _|refine z5 ?_|refine z1 ?_ _));exact BK103.out⟩,⟨by repeat (first|(with_reducible first|exact HB.out|apply z4|apply z0|apply z3|refine z9 ?_ GE101.out|refine z9 ?_ GE103.out)|exact HB.out)⟩⟩
             case rest =>
              clear HC86
              (try clear c1);(try clear p1);(try clear q1);(try clear hx1);(try clear c2);(try clear p2);(try clear c3);(try clear c4);(try clear c5);(try clear c6);(try clear c6b0);(try clear c7);(try clear c7b0);(try clear c8);(try clear c9);(try clear c9b0);(try clear c9b1);(try clear c9b2);(try clear c10);(try clear c10b0);(try clear c10b1);(try clear p10);(try clear q10);(try clear hx10);(try clear c11);(try clear c11b0);(try clear c12);(try clear c12b0);(try clear c15);(try clear c17);(try clear c17b0);(try clear c18);(try clear c20);(try clear c22);(try clear c24);(try clear c24b0);(try clear c24b1);(try clear c25);(try clear c25b0);(try clear c25b1);(try clear c26);(try clear c26b0);(try clear c26b1);(try clear c27);(try clear c27b0);(try clear c27b1);(try clear c28);(try clear c28b0);(try clear c29);(try clear c32);(try clear c34);(try clear c34b0);(try clear c35);(try clear c38);(try clear c40);(try clear c42);(try clear c44);(try clear c44b0);(try clear c44b1);(try clear c45);(try clear c45b0);(try clear c45b1);(try clear c46);(try clear c46b0);(try clear c47);(try clear c50);(try clear c52);(try clear c54);(try clear c54b0);(try clear c55);(try clear c58);(try clear c60);(try clear c62);(try clear c62b0);(try clear c63);(try clear c63b0);(try clear c64);(try clear c66);(try clear c66b0);(try clear c67);(try clear c69);(try clear c69b0);(try clear c70);(try clear c72);(try clear c74);(try clear c76);(try clear c78);(try clear c78b0);(try clear c78b1);(try clear c80);(try clear c83);(try clear c85);(try clear c87);(try clear c87b0);(try clear c87b1);(try clear c88);(try clear c88b0);(try clear c89);(try clear c91);(try clear c93);(try clear hcz16_0);(try clear hcz16_1);(try clear hcz16_2);(try clear hcz16_3);(try clear hcz16_4);(try clear hcz19_0);(try clear hcz19_1);(try clear hcz19_2);(try clear hcz19_3);(try clear hcz19_4);(try clear hcz21_0);(try clear hcz21_1);(try clear hcz21_2);(try clear hcz21_3);(try clear hcz21_4);(try clear hcz30_0);(try clear hcz30_1);(try clear hcz30_2);(try clear hcz30_3);(try clear hcz30_4);(try clear hcz31_0);(try clear hcz31_1);(try clear hcz33_0);(try clear hcz33_1);(try clear hcz33_2);(try clear hcz33_3);(try clear hcz33_4);(try clear hcz36_0);(try clear hcz36_1);(try clear hcz36_2);(try clear hcz36_3);(try clear hcz36_4);(try clear hcz37_0);(try clear hcz37_1);(try clear hcz39_0);(try clear hcz39_1);(try clear hcz39_2);(try clear hcz39_3);(try clear hcz39_4);(try clear hcz41_0);(try clear hcz41_1);(try clear hcz41_2);(try clear hcz41_3);(try clear hcz41_4);(try clear hcz43_0);(try clear hcz43_1);(try clear hcz43_2);(try clear hcz43_3);(try clear hcz43_4);(try clear hcz48_0);(try clear hcz48_1);(try clear hcz48_2);(try clear hcz48_3);(try clear hcz48_4);(try clear hcz49_0);(try clear hcz49_1);(try clear hcz51_0);(try clear hcz51_1);(try clear hcz51_2);(try clear hcz51_3);(try clear hcz51_4);(try clear hcz53_0);(try clear hcz53_1);(try clear hcz53_2);(try clear hcz53_3);(try clear hcz53_4);(try clear hcz56_0);(try clear hcz56_1);(try clear hcz56_2);(try clear hcz56_3);(try clear hcz56_4);(try clear hcz57_0);(try clear hcz57_1);(try clear hcz59_0);(try clear hcz59_1);(try clear hcz59_2);(try clear hcz59_3);(try clear hcz59_4);(try clear hcz65_0);(try clear hcz65_1);(try clear hcz65_2);(try clear hcz65_3);(try clear hcz65_4);(try clear hcz68_0);(try clear hcz68_1);(try clear hcz68_2);(try clear hcz68_3);(try clear hcz68_4);(try clear hcz71_0);(try clear hcz71_1);(try clear hcz71_2);(try clear hcz71_3);(try clear hcz71_4);(try clear hcz73_0);(try clear hcz73_1);(try clear hcz73_2);(try clear hcz73_3);(try clear hcz73_4);(try clear hcz75_0);(try clear hcz75_1);(try clear hcz75_2);(try clear hcz75_3);(try clear hcz75_4);(try clear hcz81_0);(try clear hcz81_1);(try clear hcz81_2);(try clear hcz81_3);(try clear hcz81_4);(try clear hcz84_0);(try clear hcz84_1);(try clear hcz84_2);(try clear hcz84_3);(try clear hcz84_4);(try clear hcz90_0);(try clear hcz90_1);(try clear hcz90_2);(try clear hcz90_3);(try clear hcz90_4);(try clear hcz92_0);(try clear hcz92_1);(try clear hcz92_2);(try clear hcz92_3);(try clear hcz92_4);(try clear hcz94_0);(try clear hcz94_1);(try clear hcz94_2);(try clear hcz94_3);(try clear hcz94_4);(try clear hfz16_0);(try clear hfz16_1);(try clear hfz16_2);(try clear hfz16_3);(try clear hfz16_4);(try clear hfz19_0);(try clear hfz19_1);(try clear hfz19_2);(try clear hfz19_3);(try clear hfz19_4);(try clear hfz21_0);(try clear hfz21_1);(try clear hfz21_2);(try clear hfz21_3);(try clear hfz21_4);(try clear hfz30_0);(try clear hfz30_1);(try clear hfz30_2);(try clear hfz30_3);(try clear hfz30_4);(try clear hfz31_0);(try clear hfz31_1);(try clear hfz33_0);(try clear hfz33_1);(try clear hfz33_2);(try clear hfz33_3);(try clear hfz33_4);(try clear hfz36_0);(try clear hfz36_1);(try clear hfz36_2);(try clear hfz36_3);(try clear hfz36_4);(try clear hfz37_0);(try clear hfz37_1);(try clear hfz39_0);(try clear hfz39_1);(try clear hfz39_2);(try clear hfz39_3);(try clear hfz39_4);(try clear hfz41_0);(try clear hfz41_1);(try clear hfz41_2);(try clear hfz41_3);(try clear hfz41_4);(try clear hfz43_0);(try clear hfz43_1);(try clear hfz43_2);(try clear hfz43_3);(try clear hfz43_4);(try clear hfz48_0);(try clear hfz48_1);(try clear hfz48_2);(try clear hfz48_3);(try clear hfz48_4);(try clear hfz49_0);(try clear hfz49_1);(try clear hfz51_0);(try clear hfz51_1);(try clear hfz51_2);(try clear hfz51_3);(try clear hfz51_4);(try clear hfz53_0);(try clear hfz53_1);(try clear hfz53_2);(try clear hfz53_3);(try clear hfz53_4);(try clear hfz56_0);(try clear hfz56_1);(try clear hfz56_2);(try clear hfz56_3);(try clear hfz56_4);(try clear hfz57_0);(try clear hfz57_1);(try clear hfz59_0);(try clear hfz59_1);(try clear hfz59_2);(try clear hfz59_3);(try clear hfz59_4);(try clear hfz65_0);(try clear hfz65_1);(try clear hfz65_2);(try clear hfz65_3);(try clear hfz65_4);(try clear hfz68_0);(try clear hfz68_1);(try clear hfz68_2);(try clear hfz68_3);(try clear hfz68_4);(try clear hfz71_0);(try clear hfz71_1);(try clear hfz71_2);(try clear hfz71_3);(try clear hfz71_4);(try clear hfz73_0);(try clear hfz73_1);(try clear hfz73_2);(try clear hfz73_3);(try clear hfz73_4);(try clear hfz75_0);(try clear hfz75_1);(try clear hfz75_2);(try clear hfz75_3);(try clear hfz75_4);(try clear hfz81_0);(try clear hfz81_1);(try clear hfz81_2);(try clear hfz81_3);(try clear hfz81_4);(try clear hfz84_0);(try clear hfz84_1);(try clear hfz84_2);(try clear hfz84_3);(try clear hfz84_4);(try clear hfz90_0);(try clear hfz90_1);(try clear hfz90_2);(try clear hfz90_3);(try clear hfz90_4);(try clear hfz92_0);(try clear hfz92_1);(try clear hfz92_2);(try clear hfz92_3);(try clear hfz92_4);(try clear hfz94_0);(try clear hfz94_1);(try clear hfz94_2);(try clear hfz94_3);(try clear hfz94_4);(try clear hx102_0);(try clear hx102_1);(try clear hx102_2);(try clear hx102_3);(try clear hx102_4);(try clear p1);(try clear p10);(try clear p102);(try clear p2);(try clear q1);(try clear q10);(try clear q102)
              obtain ⟨kq,x126_85,rfl,HA,HJ85,BK101,BK103,HB⟩:=hcut
              cases kq with
              | zero=>exact absurd HA.out (by simp [zc.j6])
              | succ kj85 =>
               have H:=HA.out
               clear HA
               simp only [zc.j6] at H
               by_cases c95 : x126_85 = true
               · subst c95
                 have H1 : (some 4) = some r:=by rw [if_pos rfl] at H;exact H
                 clear H
                 have H:=H1
                 clear H1
                 obtain rfl:=Option.some.inj H
                 go_wp2
                 go_ret
                 exact ⟨by first|rfl|(simp [zl,zm] <;> rfl)|(simp [*,zl,zm] <;> rfl),by repeat (first|(with_reducible first|exact HB.out|apply z4|apply z0|apply z3|refine z9 ?_ GE101.out|refine z9 ?_ GE103.out)|exact HB.out)⟩
               replace c95:=Bool.eq_false_iff.mpr c95
               subst c95
               have H1 : ((ze.f kj85 l2 x8_2).bind fun t105=>(if t105 > 8 then (some 7) else (zc.l0 kj85 a0 a1 l2 (wrap64 (x8_2 + 1)) 0 0))) = some r:=by rw [if_neg (show ¬ (false = true) by decide)] at H;exact H
               clear H
               have H:=H1
               clear H1
               replace H:=Option.bind_eq_some_iff.mp H
               obtain ⟨t105,A960,H⟩:=H
               replace H : (if t105 > 8 then (some 7) else (zc.l0 kj85 a0 a1 l2 (wrap64 (x8_2 + 1)) 0 0)) = some r:=H
               have A96:=z7.mk A960
               clear A960
               by_cases c97 : t105 > 8
               · rw [if_pos c97] at H
                 have c97b0 : decide (8 < t105) = true:=decide_eq_true c97
                 clear c97
                 obtain rfl:=Option.some.inj H
                 go_wp2_with (first|((with_reducible refine zB (f:=55) rfl ?_);refine goesL_ (some 129) rfl rfl Try.func55 (by kernel_rfl) rfl #[.slice (some ad102) l2.length c2,.int .i64 x8_2] rfl (by (try simp only [List.map_toArray,List.map_cons,List.map_nil]);first|done|rfl|(simp only [List.length_drop,List.length_take];rfl)) ?_;(with_reducible refine (ze.calls kj85 _ _ l2 x8_2 t105 _ ?side1 ?side2 A96.out).mono ?_);(case side1=>repeat (first|exact (Kd.z1F HR2.out HB.out)|(with_reducible refine Kd.z1o ?_ _)|(with_reducible refine Kd.z1p ?_ _)|(with_reducible refine Kd.z1w ?_)));(case side2=>exact HC2.out);rintro e w98 ⟨rfl,hb⟩;refine ⟨_,rfl,?_⟩;have n0_:=z7.mk (zk (g:=gb101) (o:=.cells #[.int .u64 0,.int .u64 0] 61 (0,0)) (by (with_reducible repeat (first|refine z2 ?_ _|refine z5 ?_|refine z1 ?_ _));exact BK101.out) hb);have n1_:=z7.mk (zk (g:=gb103) (o:=.cells #[.int .i64 ((za l2 x8_2).f0),.int .i64 ((za l2 x8_2).f1),.int .i64 ((za l2 x8_2).f2),.int .u64 ((za l2 x8_2).f3.f0),.int .u64 ((za l2 x8_2).f3.f1)] 114 (0,0)) (by (with_reducible repeat (first|refine z2 ?_ _|refine z5 ?_|refine z1 ?_ _));exact BK103.out) hb);have n2_:=z7.mk (zg (by repeat (first|(with_reducible first|exact HB.out|apply z4|apply z0|apply z3|refine z9 ?_ GE101.out|refine z9 ?_ GE103.out)|exact HB.out)) hb);clear BK101;clear BK103;clear HB;have BK101:=n0_;have BK103:=n1_;have HB:=n2_;clear n0_ n1_ n2_;(try clear hb);(try clear hb2);(try clear hk);(try clear hi)))
                 go_ret
                 exact ⟨by first|rfl|(simp [zl,zm] <;> rfl)|(simp [*,zl,zm] <;> rfl),by repeat (first|(with_reducible first|exact HB.out|apply z4|apply z0|apply z3|refine z9 ?_ GE101.out|refine z9 ?_ GE103.out)|exact HB.out)⟩
               rw [if_neg c97] at H
               have c97b0 : decide (8 < t105) = false:=decide_eq_false c97
               clear c97
               have H':=z7.mk H
               clear H
               go_wp2_with (first|((with_reducible refine zB (f:=55) rfl ?_);refine goesL_ (some 129) rfl rfl Try.func55 (by kernel_rfl) rfl #[.slice (some ad102) l2.length c2,.int .i64 x8_2] rfl (by (try simp only [List.map_toArray,List.map_cons,List.map_nil]);first|done|rfl|(simp only [List.length_drop,List.length_take];rfl)) ?_;(with_reducible refine (ze.calls kj85 _ _ l2 x8_2 t105 _ ?side1 ?side2 A96.out).mono ?_);(case side1=>repeat (first|exact (Kd.z1F HR2.out HB.out)|(with_reducible refine Kd.z1o ?_ _)|(with_reducible refine Kd.z1p ?_ _)|(with_reducible refine Kd.z1w ?_)));(case side2=>exact HC2.out);rintro e w99 ⟨rfl,hb⟩;refine ⟨_,rfl,?_⟩;have n0_:=z7.mk (zk (g:=gb101) (o:=.cells #[.int .u64 0,.int .u64 0] 61 (0,0)) (by (with_reducible repeat (first|refine z2 ?_ _|refine z5 ?_|refine z1 ?_ _));exact BK101.out) hb);have n1_:=z7.mk (zk (g:=gb103) (o:=.cells #[.int .i64 ((za l2 x8_2).f0),.int .i64 ((za l2 x8_2).f1),.int .i64 ((za l2 x8_2).f2),.int .u64 ((za l2 x8_2).f3.f0),.int .u64 ((za l2 x8_2).f3.f1)] 114 (0,0)) (by (with_reducible repeat (first|refine z2 ?_ _|refine z5 ?_|refine z1 ?_ _));exact BK103.out) hb);have n2_:=z7.mk (zg (by repeat (first|(with_reducible first|exact HB.out|apply z4|apply z0|apply z3|refine z9 ?_ GE101.out|refine z9 ?_ GE103.out)|exact HB.out)) hb);clear BK101;clear BK103;clear HB;have BK101:=n0_;have BK103:=n1_;have HB:=n2_;clear n0_ n1_ n2_;(try clear hb);(try clear hb2);(try clear hk);(try clear hi)))
               go_roundg kj85
               case measure=>have:=HJ3.out;have:=HK2.out;have:=HJ12.out;have:=HJ22.out;have:=HJ60.out;have:=HJ76.out;have:=HJ85.out;omega
               case rel=>exact ⟨(wrap64 (x8_2 + 1)),(by first|rfl|(simp;done)|(simp [*];done)),H',⟨by have:=HJ3.out;have:=HK2.out;have:=HJ12.out;have:=HJ22.out;have:=HJ60.out;have:=HJ76.out;have:=HJ85.out;omega⟩,⟨by (with_reducible repeat (first|refine z2 ?_ _|refine z5 ?_|refine z1 ?_ _));exact BK101.out⟩,⟨by repeat (first|(with_reducible first|exact HB.out|apply z4|apply z0|apply z3|refine z9 ?_ GE101.out|refine z9 ?_ GE103.out)|exact HB.out)⟩⟩
end Go.Proofs.Ytngcaphdkgihmaa.P
namespace Go.Proofs.Ytngcaphdkgihmaa.P
open Go.RowKit Go.Proofs.YtngcaphdkgihmaaW.PrintWords Go.Proofs.YtngcaphdkgihmaaW.PrintLast Go.Proofs.YtngcaphdkgihmaaW.PrintMore
attribute [local go_sem] z17 z19 z1e z1f z12 z13 z18 z1a   -- for this text's walks alone
set_option linter.unusedVariables false
set_option linter.unusedSimpArgs false
def z10.l0 : Nat → Int → List (S87) → Int → Int → Option (Bool)
 | 0,_,_,_,_=>none
 | k + 1,x1,x7,x8,x9=>if x9 < x8 then (if 0 ≤ x9 then (if x9 < (x7.length : Int) then (if ((zd x7 x9).f0) = 2 then (if ((zd x7 x9).f1) = x1 then (some true) else (z10.l0 k x1 x7 x8 (wrap64 (x9 + 1)))) else (z10.l0 k x1 x7 x8 (wrap64 (x9 + 1)))) else (none)) else (none)) else (some false)
def z10.f (k : Nat) (l0 : List (S87)) (a1 : Int) : Option (Bool):=z10.l0 k a1 l0 (l0.length : Int) 0
theorem z10.z1b : ∀ k,(∀ y0 y1 y2 y3,LeO (z10.l0 k y0 y1 y2 y3) (z10.l0 (k + 1) y0 y1 y2 y3))
 | 0=>fun _ _ _ _ r h=>by simp [z10.l0] at h
 | k + 1=>by
  have ih0:=z10.z1b k
  · intro y0 y1 y2 y3
    unfold z10.l0
    repeat' first
    | (with_reducible exact ih0 _ _ _ _)
    | (with_reducible exact LeO.refl _)
    | (with_reducible exact LeO.none _)
    | (with_reducible refine LeO.ite ?_ ?_)
    | (with_reducible refine LeO.bind ?_ (fun _=>?_))
    | exact ih0 _ _ _ _
    | exact LeO.none _
    | refine LeO.ite ?_ ?_
    | refine LeO.bind ?_ (fun _=>?_)
theorem z10.mono : ∀ a0 a1 k,LeO (z10.f k a0 a1) (z10.f (k + 1) a0 a1):=by
 intro a0 a1 k
 have ih0:=z10.z1b k
 unfold z10.f
 repeat' first
  | (with_reducible exact ih0 _ _ _ _)
  | (with_reducible exact LeO.refl _)
  | (with_reducible exact LeO.none _)
  | (with_reducible refine LeO.ite ?_ ?_)
  | (with_reducible refine LeO.bind ?_ (fun _=>?_))
  | exact ih0 _ _ _ _
  | exact LeO.none _
  | refine LeO.ite ?_ ?_
  | refine LeO.bind ?_ (fun _=>?_)
set_option maxHeartbeats 8000000 in
set_option maxRecDepth 100000 in
theorem z10.calls (k : Nat) (A0 : Option Addr) (c0 : Nat) (l0 : List (S87)) (a1 : Int) (r : Bool) (w : World) (hr0 : Kd.C k87 w A0 l0.length l0) (hc0 : l0.length ≤ c0) (h : z10.f k l0 a1 = some r) :
 Calls Try.prog 58 #[.slice A0 l0.length c0,.int .i64 a1] w fun e w'=>e = .returned (.bool r) ∧ Below w.heap.size w w':=by
 have hu87:=Try.underlying87
 have HR0:=z7.mk hr0
 have HC0:=z7.mk hc0
 clear hr0 hc0
 have HB:=z7.mk (Below.refl w.heap.size w)
 have H : (z10.l0 k a1 l0 (l0.length : Int) 0) = some r:=h
 clear h
 have H':=z7.mk H
 clear H
 go_enter Try.func58,Try.ntmps58
 go_wp2
 go_loopg [9] k (fun kq v9 w'=>∃ (x9_1 : Int),v9 = .int .i64 x9_1 ∧ z7 (z10.l0 kq a1 l0 (l0.length : Int) x9_1 = some r) ∧ z7 (kq ≤ k) ∧ z7 (Below w.heap.size w w'))
 case atStart=>exact ⟨(0),(by first|rfl|(simp;done)|(simp [*];done)),H',⟨Nat.le_refl _⟩,⟨by repeat (first|(with_reducible first|exact HB.out|apply z4|apply z0|apply z3)|exact HB.out)⟩⟩
 case round =>
  clear H'
  (try clear p2)
  obtain ⟨x9_1,rfl,HA,HK1,HB⟩:=hrel
  cases gk with
  | zero=>exact absurd HA.out (by simp [z10.l0])
  | succ k1 =>
   have H:=HA.out
   clear HA
   simp only [z10.l0] at H
   by_cases c3 : x9_1 < (l0.length : Int)
   rotate_left
   · rw [if_neg c3] at H
     have c3b0 : decide (x9_1 < (l0.length : Int)) = false:=decide_eq_false c3
     clear c3
     obtain rfl:=Option.some.inj H
     go_wp2
     go_ret
     exact ⟨by first|rfl|(simp [zl,zm] <;> rfl)|(simp [*,zl,zm] <;> rfl),by repeat (first|(with_reducible first|exact HB.out|apply z4|apply z0|apply z3)|exact HB.out)⟩
   rw [if_pos c3] at H
   have c3b0 : decide (x9_1 < (l0.length : Int)) = true:=decide_eq_true c3
   clear c3
   by_cases c4 : 0 ≤ x9_1
   rotate_left
   · rw [if_neg c4] at H
     exact absurd H (by simp)
   rw [if_pos c4] at H
   have c4b0 : decide (0 ≤ x9_1) = true:=decide_eq_true c4
   clear c4
   by_cases c5 : x9_1 < (l0.length : Int)
   rotate_left
   · rw [if_neg c5] at H
     exact absurd H (by simp)
   rw [if_pos c5] at H
   have c5b0 : decide (x9_1 < (l0.length : Int)) = true:=decide_eq_true c5
   clear c5
   by_cases c6 : ((zd l0 x9_1).f0) = 2
   rotate_left
   · rw [if_neg c6] at H
     have c6b0 : (((zd l0 x9_1).f0) == 2) = false:=beq_eq_false_iff_ne.mpr c6
     have c6b1 : (((zd l0 x9_1).f0) != 2) = true:=bne_iff_ne.mpr c6
     have H':=z7.mk H
     clear H
     have p101 : 0 ≤ (x9_1 : Int):=of_decide_eq_true (by first|(with_reducible assumption)|assumption)
     have q101 : x9_1 < (l0.length : Int):=of_decide_eq_true (by first|(with_reducible assumption)|assumption)
     obtain ⟨ad101,e101,hx101_0,hx101_1,hx101_2,hx101_3,hx101_4⟩:=z1R HR0.out x9_1 p101 q101
     cases e101
     replace hx101_0:=(HB.out.cell (World.block_lt_of_cell? w _ hx101_0)).trans hx101_0
     replace hx101_1:=(HB.out.cell (World.block_lt_of_cell? w _ hx101_1)).trans hx101_1
     replace hx101_2:=(HB.out.cell (World.block_lt_of_cell? w _ hx101_2)).trans hx101_2
     replace hx101_3:=(HB.out.cell (World.block_lt_of_cell? w _ hx101_3)).trans hx101_3
     replace hx101_4:=(HB.out.cell (World.block_lt_of_cell? w _ hx101_4)).trans hx101_4
     replace p101:=eq_true p101
     replace q101:=eq_true q101
     go_wp2_with (first|((with_reducible refine zG (N:=6) rfl ?_);refine zE ?hg (N:=6) ?hd (cs:=#[.int .i64 0,.int .i64 0,.int .i64 0,.int .u64 0,.int .u64 0]) (t:=87) ?hr ?_;(case hd=>rfl);(case hg=>rfl);(case hr=>first|(go_simp;done)|(go_simp;rfl));intro gb102 hg w12 hbox hb;have n0_:=z7.mk (zg (by repeat (first|(with_reducible first|exact HB.out|apply z4|apply z0|apply z3)|exact HB.out)) hb);have n1_:=z7.mk (hbox);have n2_:=z7.mk ((by rw [hg];exact (zf (by repeat (first|(with_reducible first|exact HB.out|apply z4|apply z0|apply z3)|exact HB.out))) : w.heap.size ≤ gb102));have n3_:=z7.mk ((by rw [hg];exact (zf (by repeat (first|(with_reducible first|exact HB.out|apply z4|apply z0|apply z3)|exact HB.out))) : w.heap.size ≤ gb102));clear HB;have HB:=n0_;have BK102:=n1_;have GW102:=n2_;have GE102:=n3_;clear n0_ n1_ n2_ n3_;clear hb hbox hg;have hcz13_0 : w12.cell? ⟨gb102,0,none⟩ = some (.int .i64 0):=(zb BK102.out 0).trans rfl;have hcz13_1 : w12.cell? ⟨gb102,1,none⟩ = some (.int .i64 0):=(zb BK102.out 1).trans rfl;have hcz13_2 : w12.cell? ⟨gb102,2,none⟩ = some (.int .i64 0):=(zb BK102.out 2).trans rfl;have hcz13_3 : w12.cell? ⟨gb102,3,none⟩ = some (.int .u64 0):=(zb BK102.out 3).trans rfl;have hcz13_4 : w12.cell? ⟨gb102,4,none⟩ = some (.int .u64 0):=(zb BK102.out 4).trans rfl;have hfz13_0:=z8 BK102.out 0;have hfz13_1:=z8 BK102.out 1;have hfz13_2:=z8 BK102.out 2;have hfz13_3:=z8 BK102.out 3;have hfz13_4:=z8 BK102.out 4))
     go_roundg k1
     case measure=>have:=HK1.out;omega
     case rel=>exact ⟨(wrap64 (x9_1 + 1)),(by first|rfl|(simp;done)|(simp [*];done)),H',⟨by have:=HK1.out;omega⟩,⟨by repeat (first|(with_reducible first|exact HB.out|apply z4|apply z0|apply z3|refine z9 ?_ GE102.out)|exact HB.out)⟩⟩
   rw [if_pos c6] at H
   have c6b0 : (((zd l0 x9_1).f0) == 2) = true:=beq_iff_eq.mpr c6
   have c6b1 : (((zd l0 x9_1).f0) != 2) = false:=bne_eq_false_iff_eq.mpr c6
   clear c6
   by_cases c7 : ((zd l0 x9_1).f1) = a1
   · rw [if_pos c7] at H
     have c7b0 : (((zd l0 x9_1).f1) == a1) = true:=beq_iff_eq.mpr c7
     have c7b1 : (((zd l0 x9_1).f1) != a1) = false:=bne_eq_false_iff_eq.mpr c7
     clear c7
     obtain rfl:=Option.some.inj H
     have p101 : 0 ≤ (x9_1 : Int):=of_decide_eq_true (by first|(with_reducible assumption)|assumption)
     have q101 : x9_1 < (l0.length : Int):=of_decide_eq_true (by first|(with_reducible assumption)|assumption)
     obtain ⟨ad101,e101,hx101_0,hx101_1,hx101_2,hx101_3,hx101_4⟩:=z1R HR0.out x9_1 p101 q101
     cases e101
     replace hx101_0:=(HB.out.cell (World.block_lt_of_cell? w _ hx101_0)).trans hx101_0
     replace hx101_1:=(HB.out.cell (World.block_lt_of_cell? w _ hx101_1)).trans hx101_1
     replace hx101_2:=(HB.out.cell (World.block_lt_of_cell? w _ hx101_2)).trans hx101_2
     replace hx101_3:=(HB.out.cell (World.block_lt_of_cell? w _ hx101_3)).trans hx101_3
     replace hx101_4:=(HB.out.cell (World.block_lt_of_cell? w _ hx101_4)).trans hx101_4
     replace p101:=eq_true p101
     replace q101:=eq_true q101
     go_wp2_with (first|((with_reducible refine zG (N:=6) rfl ?_);refine zE ?hg (N:=6) ?hd (cs:=#[.int .i64 0,.int .i64 0,.int .i64 0,.int .u64 0,.int .u64 0]) (t:=87) ?hr ?_;(case hd=>rfl);(case hg=>rfl);(case hr=>first|(go_simp;done)|(go_simp;rfl));intro gb102 hg w8 hbox hb;have n0_:=z7.mk (zg (by repeat (first|(with_reducible first|exact HB.out|apply z4|apply z0|apply z3)|exact HB.out)) hb);have n1_:=z7.mk (hbox);have n2_:=z7.mk ((by rw [hg];exact (zf (by repeat (first|(with_reducible first|exact HB.out|apply z4|apply z0|apply z3)|exact HB.out))) : w.heap.size ≤ gb102));have n3_:=z7.mk ((by rw [hg];exact (zf (by repeat (first|(with_reducible first|exact HB.out|apply z4|apply z0|apply z3)|exact HB.out))) : w.heap.size ≤ gb102));clear HB;have HB:=n0_;have BK102:=n1_;have GW102:=n2_;have GE102:=n3_;clear n0_ n1_ n2_ n3_;clear hb hbox hg;have hcz9_0 : w8.cell? ⟨gb102,0,none⟩ = some (.int .i64 0):=(zb BK102.out 0).trans rfl;have hcz9_1 : w8.cell? ⟨gb102,1,none⟩ = some (.int .i64 0):=(zb BK102.out 1).trans rfl;have hcz9_2 : w8.cell? ⟨gb102,2,none⟩ = some (.int .i64 0):=(zb BK102.out 2).trans rfl;have hcz9_3 : w8.cell? ⟨gb102,3,none⟩ = some (.int .u64 0):=(zb BK102.out 3).trans rfl;have hcz9_4 : w8.cell? ⟨gb102,4,none⟩ = some (.int .u64 0):=(zb BK102.out 4).trans rfl;have hfz9_0:=z8 BK102.out 0;have hfz9_1:=z8 BK102.out 1;have hfz9_2:=z8 BK102.out 2;have hfz9_3:=z8 BK102.out 3;have hfz9_4:=z8 BK102.out 4))
     go_ret
     exact ⟨by first|rfl|(simp [zl,zm] <;> rfl)|(simp [*,zl,zm] <;> rfl),by repeat (first|(with_reducible first|exact HB.out|apply z4|apply z0|apply z3|refine z9 ?_ GE102.out)|exact HB.out)⟩
   rw [if_neg c7] at H
   have c7b0 : (((zd l0 x9_1).f1) == a1) = false:=beq_eq_false_iff_ne.mpr c7
   have c7b1 : (((zd l0 x9_1).f1) != a1) = true:=bne_iff_ne.mpr c7
   have H':=z7.mk H
   clear H
   have p101 : 0 ≤ (x9_1 : Int):=of_decide_eq_true (by first|(with_reducible assumption)|assumption)
   have q101 : x9_1 < (l0.length : Int):=of_decide_eq_true (by first|(with_reducible assumption)|assumption)
   obtain ⟨ad101,e101,hx101_0,hx101_1,hx101_2,hx101_3,hx101_4⟩:=z1R HR0.out x9_1 p101 q101
   cases e101
   replace hx101_0:=(HB.out.cell (World.block_lt_of_cell? w _ hx101_0)).trans hx101_0
   replace hx101_1:=(HB.out.cell (World.block_lt_of_cell? w _ hx101_1)).trans hx101_1
   replace hx101_2:=(HB.out.cell (World.block_lt_of_cell? w _ hx101_2)).trans hx101_2
   replace hx101_3:=(HB.out.cell (World.block_lt_of_cell? w _ hx101_3)).trans hx101_3
   replace hx101_4:=(HB.out.cell (World.block_lt_of_cell? w _ hx101_4)).trans hx101_4
   replace p101:=eq_true p101
   replace q101:=eq_true q101
   go_wp2_with (first|((with_reducible refine zG (N:=6) rfl ?_);refine zE ?hg (N:=6) ?hd (cs:=#[.int .i64 0,.int .i64 0,.int .i64 0,.int .u64 0,.int .u64 0]) (t:=87) ?hr ?_;(case hd=>rfl);(case hg=>rfl);(case hr=>first|(go_simp;done)|(go_simp;rfl));intro gb102 hg w10 hbox hb;have n0_:=z7.mk (zg (by repeat (first|(with_reducible first|exact HB.out|apply z4|apply z0|apply z3)|exact HB.out)) hb);have n1_:=z7.mk (hbox);have n2_:=z7.mk ((by rw [hg];exact (zf (by repeat (first|(with_reducible first|exact HB.out|apply z4|apply z0|apply z3)|exact HB.out))) : w.heap.size ≤ gb102));have n3_:=z7.mk ((by rw [hg];exact (zf (by repeat (first|(with_reducible first|exact HB.out|apply z4|apply z0|apply z3)|exact HB.out))) : w.heap.size ≤ gb102));clear HB;have HB:=n0_;have BK102:=n1_;have GW102:=n2_;have GE102:=n3_;clear n0_ n1_ n2_ n3_;clear hb hbox hg;have hcz11_0 : w10.cell? ⟨gb102,0,none⟩ = some (.int .i64 0):=(zb BK102.out 0).trans rfl;have hcz11_1 : w10.cell? ⟨gb102,1,none⟩ = some (.int .i64 0):=(zb BK102.out 1).trans rfl;have hcz11_2 : w10.cell? ⟨gb102,2,none⟩ = some (.int .i64 0):=(zb BK102.out 2).trans rfl;have hcz11_3 : w10.cell? ⟨gb102,3,none⟩ = some (.int .u64 0):=(zb BK102.out 3).trans rfl;have hcz11_4 : w10.cell? ⟨gb102,4,none⟩ = some (.int .u64 0):=(zb BK102.out 4).trans rfl;have hfz11_0:=z8 BK102.out 0;have hfz11_1:=z8 BK102.out 1;have hfz11_2:=z8 BK102.out 2;have hfz11_3:=z8 BK102.out 3;have hfz11_4:=z8 BK102.out 4))
   go_roundg k1
   case measure=>have:=HK1.out;omega
   case rel=>exact ⟨(wrap64 (x9_1 + 1)),(by first|rfl|(simp;done)|(simp [*];done)),H',⟨by have:=HK1.out;omega⟩,⟨by repeat (first|(with_reducible first|exact HB.out|apply z4|apply z0|apply z3|refine z9 ?_ GE102.out)|exact HB.out)⟩⟩
end Go.Proofs.Ytngcaphdkgihmaa.P
namespace Go.Proofs.Ytngcaphdkgihmaa.P
open Go.RowKit Go.Proofs.YtngcaphdkgihmaaW.PrintWords Go.Proofs.YtngcaphdkgihmaaW.PrintLast Go.Proofs.YtngcaphdkgihmaaW.PrintMore
attribute [local go_sem] z17 z19 z1e z1f z12 z13 z18 z1a   -- for this text's walks alone
set_option linter.unusedVariables false
set_option linter.unusedSimpArgs false
mutual
def zj.j0 : Nat → Int → Int → List (S87) → List (S114) → Int → Option (Bool)
 | 0,_,_,_,_,_=>none
 | k + 1,x0,x1,x2,x7,x8=>zj.l0 k x0 x1 x2 x7 x8 false 0
def zj.l0 : Nat → Int → Int → List (S87) → List (S114) → Int → Bool → Int → Option (Bool)
 | 0,_,_,_,_,_,_,_=>none
 | k + 1,x0,x1,x2,x7,x8,x9,x10=>if x10 < (x2.length : Int) then (if x9 = true then (zj.l0 k x0 x1 x2 x7 x8 true (wrap64 (x10 + 1))) else (if 0 ≤ x10 then (if ((zd x2 x10).f0) = 2 then (zj.l0 k x0 x1 x2 x7 x8 (((zd x2 x10).f1) == x1) (wrap64 (x10 + 1))) else (zj.l0 k x0 x1 x2 x7 x8 false (wrap64 (x10 + 1)))) else (none))) else ((zM.f k).bind fun t109=>(if t109 = true then ((z15.f k x0 x1 x2).bind fun t110=>((zc.f k x0 x1 x7).bind fun t111=>(if t110 = t111 then ((zX.f k x2).bind fun t112=>(if t112 = x8 then ((z10.f k x2 x1).bind fun t113=>(some (t113 == x9))) else (some false))) else (some false)))) else (some false)))
end
def zj.f (k : Nat) (a0 : Int) (a1 : Int) (l2 : List (S87)) : Option (Bool):=if (l2.length : Int) > 210 then ((zM.f k).bind fun t101=>(some t101)) else ((zv.f k l2).bind fun t102=>((zc.f k 7 9223372036854775807 t102).bind fun t105=>(if t105 = 0 then ((ze.f k t102 (wrap64 ((t102.length : Int) - 1))).bind fun t106=>(zj.j0 k a0 a1 l2 t102 t106)) else (zj.j0 k a0 a1 l2 t102 (-1)))))
theorem zj.z1b : ∀ k,(∀ y0 y1 y2 y3 y4,LeO (zj.j0 k y0 y1 y2 y3 y4) (zj.j0 (k + 1) y0 y1 y2 y3 y4)) ∧ (∀ y0 y1 y2 y3 y4 y5 y6,LeO (zj.l0 k y0 y1 y2 y3 y4 y5 y6) (zj.l0 (k + 1) y0 y1 y2 y3 y4 y5 y6))
 | 0=>⟨fun _ _ _ _ _ r h=>by simp [zj.j0] at h,fun _ _ _ _ _ _ _ r h=>by simp [zj.l0] at h⟩
 | k + 1=>by
  obtain ⟨ih0,ih1⟩:=zj.z1b k
  refine ⟨?_,?_⟩
  · intro y0 y1 y2 y3 y4
    unfold zj.j0
    repeat' first
    | (with_reducible exact ih0 _ _ _ _ _)
    | (with_reducible exact ih1 _ _ _ _ _ _ _)
    | (with_reducible exact z15.mono _ _ _ _)
    | (with_reducible exact zX.mono _ _)
    | (with_reducible exact z10.mono _ _ _)
    | (with_reducible exact zv.mono _ _)
    | (with_reducible exact zM.mono _)
    | (with_reducible exact zc.mono _ _ _ _)
    | (with_reducible exact ze.mono _ _ _)
    | (with_reducible exact LeO.refl _)
    | (with_reducible exact LeO.none _)
    | (with_reducible refine LeO.ite ?_ ?_)
    | (with_reducible refine LeO.bind ?_ (fun _=>?_))
    | exact ih0 _ _ _ _ _
    | exact ih1 _ _ _ _ _ _ _
    | exact z15.mono _ _ _ _
    | exact zX.mono _ _
    | exact z10.mono _ _ _
    | exact zv.mono _ _
    | exact zM.mono _
    | exact zc.mono _ _ _ _
    | exact ze.mono _ _ _
    | exact LeO.none _
    | refine LeO.ite ?_ ?_
    | refine LeO.bind ?_ (fun _=>?_)
  · intro y0 y1 y2 y3 y4 y5 y6
    unfold zj.l0
    repeat' first
    | (with_reducible exact ih0 _ _ _ _ _)
    | (with_reducible exact ih1 _ _ _ _ _ _ _)
    | (with_reducible exact z15.mono _ _ _ _)
    | (with_reducible exact zX.mono _ _)
    | (with_reducible exact z10.mono _ _ _)
    | (with_reducible exact zv.mono _ _)
    | (with_reducible exact zM.mono _)
    | (with_reducible exact zc.mono _ _ _ _)
    | (with_reducible exact ze.mono _ _ _)
    | (with_reducible exact LeO.refl _)
    | (with_reducible exact LeO.none _)
    | (with_reducible refine LeO.ite ?_ ?_)
    | (with_reducible refine LeO.bind ?_ (fun _=>?_))
    | exact ih0 _ _ _ _ _
    | exact ih1 _ _ _ _ _ _ _
    | exact z15.mono _ _ _ _
    | exact zX.mono _ _
    | exact z10.mono _ _ _
    | exact zv.mono _ _
    | exact zM.mono _
    | exact zc.mono _ _ _ _
    | exact ze.mono _ _ _
    | exact LeO.none _
    | refine LeO.ite ?_ ?_
    | refine LeO.bind ?_ (fun _=>?_)
theorem zj.mono : ∀ a0 a1 a2 k,LeO (zj.f k a0 a1 a2) (zj.f (k + 1) a0 a1 a2):=by
 intro a0 a1 a2 k
 obtain ⟨ih0,ih1⟩:=zj.z1b k
 unfold zj.f
 repeat' first
  | (with_reducible exact ih0 _ _ _ _ _)
  | (with_reducible exact ih1 _ _ _ _ _ _ _)
  | (with_reducible exact z15.mono _ _ _ _)
  | (with_reducible exact zX.mono _ _)
  | (with_reducible exact z10.mono _ _ _)
  | (with_reducible exact zv.mono _ _)
  | (with_reducible exact zM.mono _)
  | (with_reducible exact zc.mono _ _ _ _)
  | (with_reducible exact ze.mono _ _ _)
  | (with_reducible exact LeO.refl _)
  | (with_reducible exact LeO.none _)
  | (with_reducible refine LeO.ite ?_ ?_)
  | (with_reducible refine LeO.bind ?_ (fun _=>?_))
  | exact ih0 _ _ _ _ _
  | exact ih1 _ _ _ _ _ _ _
  | exact z15.mono _ _ _ _
  | exact zX.mono _ _
  | exact z10.mono _ _ _
  | exact zv.mono _ _
  | exact zM.mono _
  | exact zc.mono _ _ _ _
  | exact ze.mono _ _ _
  | exact LeO.none _
  | refine LeO.ite ?_ ?_
  | refine LeO.bind ?_ (fun _=>?_)
set_option maxHeartbeats 8000000 in
set_option maxRecDepth 100000 in
theorem zj.calls (k : Nat) (a0 : Int) (a1 : Int) (A2 : Option Addr) (c2 : Nat) (l2 : List (S87)) (r : Bool) (w : World) (hr2 : Kd.C k87 w A2 l2.length l2) (hc2 : l2.length ≤ c2) (h : zj.f k a0 a1 l2 = some r) :
 Calls Try.prog 13 #[.int .i64 a0,.int .i64 a1,.slice A2 l2.length c2] w fun e w'=>e = .returned (.bool r) ∧ Below w.heap.size w w':=by
 have HR2:=z7.mk hr2
 have HC2:=z7.mk hc2
 clear hr2 hc2
 have HB:=z7.mk (Below.refl w.heap.size w)
 have H : (if (l2.length : Int) > 210 then ((zM.f k).bind fun t101=>(some t101)) else ((zv.f k l2).bind fun t102=>((zc.f k 7 9223372036854775807 t102).bind fun t105=>(if t105 = 0 then ((ze.f k t102 (wrap64 ((t102.length : Int) - 1))).bind fun t106=>(zj.j0 k a0 a1 l2 t102 t106)) else (zj.j0 k a0 a1 l2 t102 (-1)))))) = some r:=h
 clear h
 by_cases c4 : (l2.length : Int) > 210
 · rw [if_pos c4] at H
   have c4b0 : decide (210 < (l2.length : Int)) = true:=decide_eq_true c4
   have c4b1 : decide (210 < l2.length) = true:=decide_eq_true (by omega)
   clear c4
   replace H:=Option.bind_eq_some_iff.mp H
   obtain ⟨t101,A50,H⟩:=H
   replace H : (some t101) = some r:=H
   have A5:=z7.mk A50
   clear A50
   obtain rfl:=Option.some.inj H
   go_enter Try.func13,Try.ntmps13
   go_wp2_with (first|((with_reducible refine zB (f:=42) rfl ?_);refine goesL_ (some 14) rfl rfl Try.func42 (by kernel_rfl) rfl #[] rfl (by (try simp only [List.map_toArray,List.map_cons,List.map_nil]);first|done|rfl|(simp only [List.length_drop,List.length_take];rfl)) ?_;(with_reducible refine (zM.calls k  t101 _ A5.out).mono ?_);rintro e w6 ⟨rfl,hb⟩;refine ⟨_,rfl,?_⟩;have n0_:=z7.mk (zg (by repeat (first|(with_reducible first|exact HB.out|apply z4|apply z0|apply z3)|exact HB.out)) hb);clear HB;have HB:=n0_;clear n0_;(try clear hb);(try clear hb2);(try clear hk);(try clear hi)))
   go_ret
   exact ⟨by first|rfl|(simp [zl,zm] <;> rfl)|(simp [*,zl,zm] <;> rfl),by repeat (first|(with_reducible first|exact HB.out|apply z4|apply z0|apply z3)|exact HB.out)⟩
 rw [if_neg c4] at H
 have c4b0 : decide (210 < (l2.length : Int)) = false:=decide_eq_false c4
 have c4b1 : decide (210 < l2.length) = false:=decide_eq_false (by omega)
 clear c4
 replace H:=Option.bind_eq_some_iff.mp H
 obtain ⟨t102,A70,H⟩:=H
 replace H : ((zc.f k 7 9223372036854775807 t102).bind fun t105=>(if t105 = 0 then ((ze.f k t102 (wrap64 ((t102.length : Int) - 1))).bind fun t106=>(zj.j0 k a0 a1 l2 t102 t106)) else (zj.j0 k a0 a1 l2 t102 (-1)))) = some r:=H
 have A7:=z7.mk A70
 clear A70
 replace H:=Option.bind_eq_some_iff.mp H
 obtain ⟨t105,A80,H⟩:=H
 replace H : (if t105 = 0 then ((ze.f k t102 (wrap64 ((t102.length : Int) - 1))).bind fun t106=>(zj.j0 k a0 a1 l2 t102 t106)) else (zj.j0 k a0 a1 l2 t102 (-1))) = some r:=H
 have A8:=z7.mk A80
 clear A80
 have HC9:=z7.mk H
 clear H
 go_enter Try.func13,Try.ntmps13
 go_upto_if 19 with (first|((with_reducible refine zB (f:=44) rfl ?_);refine goesL_ (some 16) rfl rfl Try.func44 (by kernel_rfl) rfl #[.slice A2 l2.length c2] rfl (by (try simp only [List.map_toArray,List.map_cons,List.map_nil]);first|done|rfl|(simp only [List.length_drop,List.length_take];rfl)) ?_;(with_reducible refine (zv.calls k _ _ l2 t102 _ ?side1 ?side2 A7.out).mono ?_);(case side1=>repeat (first|exact HR2.out|(with_reducible refine Kd.z1o ?_ _)|(with_reducible refine Kd.z1p ?_ _)|(with_reducible refine Kd.z1w ?_)));(case side2=>exact HC2.out);rintro e w10 ⟨v103,rfl,ho0,hb⟩;refine ⟨_,rfl,?_⟩;have n0_:=z7.mk (Kd.z1A ho0 (zf (by repeat (first|(with_reducible first|exact HB.out|apply z4|apply z0|apply z3)|exact HB.out))));have n1_:=z7.mk (zg (by repeat (first|(with_reducible first|exact HB.out|apply z4|apply z0|apply z3)|exact HB.out)) hb);clear HB;have HO104:=n0_;have HB:=n1_;clear n0_ n1_;(try clear hb);(try clear hb2);(try clear hk);(try clear hi);(try clear ho0);obtain ⟨Ao11,co11,eo11⟩:=Kd.z1q HO104.out;subst eo11)|((with_reducible refine zB (f:=45) rfl ?_);refine goesL_ (some 18) rfl rfl Try.func45 (by kernel_rfl) rfl #[.int .i64 7,.int .i64 9223372036854775807,.slice Ao11 t102.length co11] rfl (by (try simp only [List.map_toArray,List.map_cons,List.map_nil]);first|done|rfl|(simp only [List.length_drop,List.length_take];rfl)) ?_;(with_reducible refine (zc.calls k 7 9223372036854775807 _ _ t102 t105 _ ?side1 ?side2 A8.out).mono ?_);(case side1=>repeat (first|exact (Kd.zO HO104.out).2.2|(with_reducible refine Kd.z1o ?_ _)|(with_reducible refine Kd.z1p ?_ _)|(with_reducible refine Kd.z1w ?_)));(case side2=>exact (Kd.zO HO104.out).2.1);rintro e w12 ⟨rfl,hb⟩;refine ⟨_,rfl,?_⟩;have n0_:=z7.mk (Kd.zY (by (with_reducible repeat (first|apply Kd.zx|apply Kd.zy|apply Kd.zD));exact HO104.out) hb);have n1_:=z7.mk (zg (by repeat (first|(with_reducible first|exact HB.out|apply z4|apply z0|apply z3)|exact HB.out)) hb);clear HO104;clear HB;have HO104:=n0_;have HB:=n1_;clear n0_ n1_;(try clear hb);(try clear hb2);(try clear hk);(try clear hi)))
 (try simp only [Act.put,List.setIfInBounds_toArray,List.set_cons_zero,List.set_cons_succ])
 go_cut [8] (fun v8 wc=>∃ (kq : Nat) (x8_8 : Int),v8 = .int .i64 x8_8 ∧ z7 (zj.j0 kq a0 a1 l2 t102 x8_8 = some r) ∧ z7 (kq ≤ k) ∧ z7 (Kd.R k114 114 wc w.heap.size (fun _=>True) (.slice Ao11 t102.length co11) t102) ∧ z7 (Below w.heap.size w wc))
 case first =>
  have H:=HC9.out
  clear HC9
  by_cases c13 : t105 = 0
  rotate_left
  · rw [if_neg c13] at H
    have c13b0 : (t105 == 0) = false:=beq_eq_false_iff_ne.mpr c13
    have c13b1 : (t105 != 0) = true:=bne_iff_ne.mpr c13
    (first|rw [c13b0]|(simp only [zH,zL];rw [c13b0])|skip)
    have H':=z7.mk H
    clear H
    go_wp2
    go_meet
    case rel=>exact ⟨_,((-1)),(by first|rfl|(simp;done)|(simp [*];done)),H',⟨by first|omega|exact Nat.le_refl _⟩,⟨by (with_reducible repeat (first|apply Kd.zx|apply Kd.zy|apply Kd.zD));exact HO104.out⟩,⟨by repeat (first|(with_reducible first|exact HB.out|apply z4|apply z0|apply z3)|exact HB.out)⟩⟩
  rw [if_pos c13] at H
  have c13b0 : (t105 == 0) = true:=beq_iff_eq.mpr c13
  have c13b1 : (t105 != 0) = false:=bne_eq_false_iff_eq.mpr c13
  clear c13
  (first|rw [c13b0]|(simp only [zH,zL];rw [c13b0])|skip)
  replace H:=Option.bind_eq_some_iff.mp H
  obtain ⟨t106,A140,H⟩:=H
  replace H : (zj.j0 k a0 a1 l2 t102 t106) = some r:=H
  have A14:=z7.mk A140
  clear A140
  have H':=z7.mk H
  clear H
  go_wp2_with (first|((with_reducible refine zB (f:=55) rfl ?_);refine goesL_ (some 24) rfl rfl Try.func55 (by kernel_rfl) rfl #[.slice Ao11 t102.length co11,.int .i64 (wrap64 ((t102.length : Int) - 1))] rfl (by (try simp only [List.map_toArray,List.map_cons,List.map_nil]);first|done|rfl|(simp only [List.length_drop,List.length_take];rfl)) ?_;(with_reducible refine (ze.calls k _ _ t102 (wrap64 ((t102.length : Int) - 1)) t106 _ ?side1 ?side2 A14.out).mono ?_);(case side1=>repeat (first|exact (Kd.zO HO104.out).2.2|(with_reducible refine Kd.z1o ?_ _)|(with_reducible refine Kd.z1p ?_ _)|(with_reducible refine Kd.z1w ?_)));(case side2=>exact (Kd.zO HO104.out).2.1);rintro e w15 ⟨rfl,hb⟩;refine ⟨_,rfl,?_⟩;have n0_:=z7.mk (Kd.zY (by (with_reducible repeat (first|apply Kd.zx|apply Kd.zy|apply Kd.zD));exact HO104.out) hb);have n1_:=z7.mk (zg (by repeat (first|(with_reducible first|exact HB.out|apply z4|apply z0|apply z3)|exact HB.out)) hb);clear HO104;clear HB;have HO104:=n0_;have HB:=n1_;clear n0_ n1_;(try clear hb);(try clear hb2);(try clear hk);(try clear hi)))
  go_meet
  case rel=>exact ⟨_,(t106),(by first|rfl|(simp;done)|(simp [*];done)),H',⟨by first|omega|exact Nat.le_refl _⟩,⟨by (with_reducible repeat (first|apply Kd.zx|apply Kd.zy|apply Kd.zD));exact HO104.out⟩,⟨by repeat (first|(with_reducible first|exact HB.out|apply z4|apply z0|apply z3)|exact HB.out)⟩⟩
 case rest =>
  clear HC9
  (try clear c1);(try clear c2);(try clear p2);(try clear c4);(try clear c4b0);(try clear c4b1);(try clear c5);(try clear p6);(try clear c13);(try clear c13b0);(try clear c13b1)
  obtain ⟨kq,x8_8,rfl,HA,HJ8,HO_7,HB⟩:=hcut
  cases kq with
  | zero=>exact absurd HA.out (by simp [zj.j0])
  | succ kj8 =>
   have H:=HA.out
   clear HA
   simp only [zj.j0] at H
   have H':=z7.mk H
   clear H
   go_wp2
   go_loopg [9,10] kj8 (fun kq v9 v10 w'=>∃ (x9_2 : Bool) (x10_2 : Int),v9 = .bool x9_2 ∧ v10 = .int .i64 x10_2 ∧ z7 (zj.l0 kq a0 a1 l2 t102 x8_8 x9_2 x10_2 = some r) ∧ z7 (kq ≤ kj8) ∧ z7 (Kd.R k114 114 w' w.heap.size (fun _=>True) (.slice Ao11 t102.length co11) t102) ∧ z7 (Below w.heap.size w w'))
   case atStart=>exact ⟨(false),(0),(by first|rfl|(simp;done)|(simp [*];done)),(by first|rfl|(simp;done)|(simp [*];done)),H',⟨Nat.le_refl _⟩,⟨by (with_reducible repeat (first|apply Kd.zx|apply Kd.zy|apply Kd.zD));exact HO_7.out⟩,⟨by repeat (first|(with_reducible first|exact HB.out|apply z4|apply z0|apply z3)|exact HB.out)⟩⟩
   case round =>
    clear H'
    (try clear c1);(try clear c2);(try clear p2);(try clear c4);(try clear c4b0);(try clear c4b1);(try clear c5);(try clear p6);(try clear c13);(try clear c13b0);(try clear c13b1);(try clear p2);(try clear p6)
    obtain ⟨x9_2,x10_2,rfl,rfl,HA,HK2,HO_7,HB⟩:=hrel
    cases gk with
    | zero=>exact absurd HA.out (by simp [zj.l0])
    | succ k2 =>
     have H:=HA.out
     clear HA
     simp only [zj.l0] at H
     by_cases c16 : x10_2 < (l2.length : Int)
     rotate_left
     · rw [if_neg c16] at H
       have c16b0 : decide (x10_2 < (l2.length : Int)) = false:=decide_eq_false c16
       clear c16
       replace H:=Option.bind_eq_some_iff.mp H
       obtain ⟨t109,A200,H⟩:=H
       replace H : (if t109 = true then ((z15.f k2 a0 a1 l2).bind fun t110=>((zc.f k2 a0 a1 t102).bind fun t111=>(if t110 = t111 then ((zX.f k2 l2).bind fun t112=>(if t112 = x8_8 then ((z10.f k2 l2 a1).bind fun t113=>(some (t113 == x9_2))) else (some false))) else (some false)))) else (some false)) = some r:=H
       have A20:=z7.mk A200
       clear A200
       by_cases c21 : t109 = true
       rotate_left
       · replace c21:=Bool.eq_false_iff.mpr c21
         subst c21
         have H1 : (some false) = some r:=by rw [if_neg (show ¬ (false = true) by decide)] at H;exact H
         clear H
         have H:=H1
         clear H1
         obtain rfl:=Option.some.inj H
         go_wp2_with (first|((with_reducible refine zB (f:=42) rfl ?_);refine goesL_ (some 49) rfl rfl Try.func42 (by kernel_rfl) rfl #[] rfl (by (try simp only [List.map_toArray,List.map_cons,List.map_nil]);first|done|rfl|(simp only [List.length_drop,List.length_take];rfl)) ?_;(with_reducible refine (zM.calls k2  false _ A20.out).mono ?_);rintro e w40 ⟨rfl,hb⟩;refine ⟨_,rfl,?_⟩;have n0_:=z7.mk (Kd.zY (by (with_reducible repeat (first|apply Kd.zx|apply Kd.zy|apply Kd.zD));exact HO_7.out) hb);have n1_:=z7.mk (zg (by repeat (first|(with_reducible first|exact HB.out|apply z4|apply z0|apply z3)|exact HB.out)) hb);clear HO_7;clear HB;have HO_7:=n0_;have HB:=n1_;clear n0_ n1_;(try clear hb);(try clear hb2);(try clear hk);(try clear hi)))
         go_ret
         exact ⟨by first|rfl|(simp [zl,zm] <;> rfl)|(simp [*,zl,zm] <;> rfl),by repeat (first|(with_reducible first|exact HB.out|apply z4|apply z0|apply z3)|exact HB.out)⟩
       subst c21
       have H1 : ((z15.f k2 a0 a1 l2).bind fun t110=>((zc.f k2 a0 a1 t102).bind fun t111=>(if t110 = t111 then ((zX.f k2 l2).bind fun t112=>(if t112 = x8_8 then ((z10.f k2 l2 a1).bind fun t113=>(some (t113 == x9_2))) else (some false))) else (some false)))) = some r:=by rw [if_pos rfl] at H;exact H
       clear H
       have H:=H1
       clear H1
       replace H:=Option.bind_eq_some_iff.mp H
       obtain ⟨t110,A220,H⟩:=H
       replace H : ((zc.f k2 a0 a1 t102).bind fun t111=>(if t110 = t111 then ((zX.f k2 l2).bind fun t112=>(if t112 = x8_8 then ((z10.f k2 l2 a1).bind fun t113=>(some (t113 == x9_2))) else (some false))) else (some false))) = some r:=H
       have A22:=z7.mk A220
       clear A220
       replace H:=Option.bind_eq_some_iff.mp H
       obtain ⟨t111,A230,H⟩:=H
       replace H : (if t110 = t111 then ((zX.f k2 l2).bind fun t112=>(if t112 = x8_8 then ((z10.f k2 l2 a1).bind fun t113=>(some (t113 == x9_2))) else (some false))) else (some false)) = some r:=H
       have A23:=z7.mk A230
       clear A230
       by_cases c24 : t110 = t111
       rotate_left
       · rw [if_neg c24] at H
         have c24b0 : (t110 == t111) = false:=beq_eq_false_iff_ne.mpr c24
         have c24b1 : (t110 != t111) = true:=bne_iff_ne.mpr c24
         obtain rfl:=Option.some.inj H
         go_wp2_with (first|((with_reducible refine zB (f:=42) rfl ?_);refine goesL_ (some 49) rfl rfl Try.func42 (by kernel_rfl) rfl #[] rfl (by (try simp only [List.map_toArray,List.map_cons,List.map_nil]);first|done|rfl|(simp only [List.length_drop,List.length_take];rfl)) ?_;(with_reducible refine (zM.calls k2  true _ A20.out).mono ?_);rintro e w37 ⟨rfl,hb⟩;refine ⟨_,rfl,?_⟩;have n0_:=z7.mk (Kd.zY (by (with_reducible repeat (first|apply Kd.zx|apply Kd.zy|apply Kd.zD));exact HO_7.out) hb);have n1_:=z7.mk (zg (by repeat (first|(with_reducible first|exact HB.out|apply z4|apply z0|apply z3)|exact HB.out)) hb);clear HO_7;clear HB;have HO_7:=n0_;have HB:=n1_;clear n0_ n1_;(try clear hb);(try clear hb2);(try clear hk);(try clear hi))|(go_at_call 56;(with_reducible refine (z15.calls k2 a0 a1 _ _ l2 t110 _ ?side1 ?side2 A22.out).mono ?_);(case side1=>repeat (first|exact (Kd.z1F HR2.out HB.out)|(with_reducible refine Kd.z1o ?_ _)|(with_reducible refine Kd.z1p ?_ _)|(with_reducible refine Kd.z1w ?_)));(case side2=>exact HC2.out);rintro e w38 ⟨rfl,hb⟩;have n0_:=z7.mk (Kd.zY (by (with_reducible repeat (first|apply Kd.zx|apply Kd.zy|apply Kd.zD));exact HO_7.out) hb);have n1_:=z7.mk (zg (by repeat (first|(with_reducible first|exact HB.out|apply z4|apply z0|apply z3)|exact HB.out)) hb);clear HO_7;clear HB;have HO_7:=n0_;have HB:=n1_;clear n0_ n1_;(try clear hb);(try clear hb2);(try clear hk);(try clear hi))|(go_at_call 45;(with_reducible refine (zc.calls k2 a0 a1 _ _ t102 t111 _ ?side1 ?side2 A23.out).mono ?_);(case side1=>repeat (first|exact (Kd.zO HO_7.out).2.2|(with_reducible refine Kd.z1o ?_ _)|(with_reducible refine Kd.z1p ?_ _)|(with_reducible refine Kd.z1w ?_)));(case side2=>exact (Kd.zO HO_7.out).2.1);rintro e w39 ⟨rfl,hb⟩;have n0_:=z7.mk (Kd.zY (by (with_reducible repeat (first|apply Kd.zx|apply Kd.zy|apply Kd.zD));exact HO_7.out) hb);have n1_:=z7.mk (zg (by repeat (first|(with_reducible first|exact HB.out|apply z4|apply z0|apply z3)|exact HB.out)) hb);clear HO_7;clear HB;have HO_7:=n0_;have HB:=n1_;clear n0_ n1_;(try clear hb);(try clear hb2);(try clear hk);(try clear hi)))
         go_ret
         exact ⟨by first|rfl|(simp [zl,zm] <;> rfl)|(simp [*,zl,zm] <;> rfl),by repeat (first|(with_reducible first|exact HB.out|apply z4|apply z0|apply z3)|exact HB.out)⟩
       rw [if_pos c24] at H
       have c24b0 : (t110 == t111) = true:=beq_iff_eq.mpr c24
       have c24b1 : (t110 != t111) = false:=bne_eq_false_iff_eq.mpr c24
       clear c24
       replace H:=Option.bind_eq_some_iff.mp H
       obtain ⟨t112,A250,H⟩:=H
       replace H : (if t112 = x8_8 then ((z10.f k2 l2 a1).bind fun t113=>(some (t113 == x9_2))) else (some false)) = some r:=H
       have A25:=z7.mk A250
       clear A250
       by_cases c26 : t112 = x8_8
       rotate_left
       · rw [if_neg c26] at H
         have c26b0 : (t112 == x8_8) = false:=beq_eq_false_iff_ne.mpr c26
         have c26b1 : (t112 != x8_8) = true:=bne_iff_ne.mpr c26
         obtain rfl:=Option.some.inj H
         go_wp2_with (first|((with_reducible refine zB (f:=42) rfl ?_);refine goesL_ (some 49) rfl rfl Try.func42 (by kernel_rfl) rfl #[] rfl (by (try simp only [List.map_toArray,List.map_cons,List.map_nil]);first|done|rfl|(simp only [List.length_drop,List.length_take];rfl)) ?_;(with_reducible refine (zM.calls k2  true _ A20.out).mono ?_);rintro e w33 ⟨rfl,hb⟩;refine ⟨_,rfl,?_⟩;have n0_:=z7.mk (Kd.zY (by (with_reducible repeat (first|apply Kd.zx|apply Kd.zy|apply Kd.zD));exact HO_7.out) hb);have n1_:=z7.mk (zg (by repeat (first|(with_reducible first|exact HB.out|apply z4|apply z0|apply z3)|exact HB.out)) hb);clear HO_7;clear HB;have HO_7:=n0_;have HB:=n1_;clear n0_ n1_;(try clear hb);(try clear hb2);(try clear hk);(try clear hi))|(go_at_call 56;(with_reducible refine (z15.calls k2 a0 a1 _ _ l2 t110 _ ?side1 ?side2 A22.out).mono ?_);(case side1=>repeat (first|exact (Kd.z1F HR2.out HB.out)|(with_reducible refine Kd.z1o ?_ _)|(with_reducible refine Kd.z1p ?_ _)|(with_reducible refine Kd.z1w ?_)));(case side2=>exact HC2.out);rintro e w34 ⟨rfl,hb⟩;have n0_:=z7.mk (Kd.zY (by (with_reducible repeat (first|apply Kd.zx|apply Kd.zy|apply Kd.zD));exact HO_7.out) hb);have n1_:=z7.mk (zg (by repeat (first|(with_reducible first|exact HB.out|apply z4|apply z0|apply z3)|exact HB.out)) hb);clear HO_7;clear HB;have HO_7:=n0_;have HB:=n1_;clear n0_ n1_;(try clear hb);(try clear hb2);(try clear hk);(try clear hi))|(go_at_call 45;(with_reducible refine (zc.calls k2 a0 a1 _ _ t102 t111 _ ?side1 ?side2 A23.out).mono ?_);(case side1=>repeat (first|exact (Kd.zO HO_7.out).2.2|(with_reducible refine Kd.z1o ?_ _)|(with_reducible refine Kd.z1p ?_ _)|(with_reducible refine Kd.z1w ?_)));(case side2=>exact (Kd.zO HO_7.out).2.1);rintro e w35 ⟨rfl,hb⟩;have n0_:=z7.mk (Kd.zY (by (with_reducible repeat (first|apply Kd.zx|apply Kd.zy|apply Kd.zD));exact HO_7.out) hb);have n1_:=z7.mk (zg (by repeat (first|(with_reducible first|exact HB.out|apply z4|apply z0|apply z3)|exact HB.out)) hb);clear HO_7;clear HB;have HO_7:=n0_;have HB:=n1_;clear n0_ n1_;(try clear hb);(try clear hb2);(try clear hk);(try clear hi))|(go_at_call 57;(with_reducible refine (zX.calls k2 _ _ l2 t112 _ ?side1 ?side2 A25.out).mono ?_);(case side1=>repeat (first|exact (Kd.z1F HR2.out HB.out)|(with_reducible refine Kd.z1o ?_ _)|(with_reducible refine Kd.z1p ?_ _)|(with_reducible refine Kd.z1w ?_)));(case side2=>exact HC2.out);rintro e w36 ⟨rfl,hb⟩;have n0_:=z7.mk (Kd.zY (by (with_reducible repeat (first|apply Kd.zx|apply Kd.zy|apply Kd.zD));exact HO_7.out) hb);have n1_:=z7.mk (zg (by repeat (first|(with_reducible first|exact HB.out|apply z4|apply z0|apply z3)|exact HB.out)) hb);clear HO_7;clear HB;have HO_7:=n0_;have HB:=n1_;clear n0_ n1_;(try clear hb);(try clear hb2);(try clear hk);(try clear hi)))
         go_ret
         exact ⟨by first|rfl|(simp [zl,zm] <;> rfl)|(simp [*,zl,zm] <;> rfl),by repeat (first|(with_reducible first|exact HB.out|apply z4|apply z0|apply z3)|exact HB.out)⟩
       rw [if_pos c26] at H
       have c26b0 : (t112 == x8_8) = true:=beq_iff_eq.mpr c26
       have c26b1 : (t112 != x8_8) = false:=bne_eq_false_iff_eq.mpr c26
       clear c26
       replace H:=Option.bind_eq_some_iff.mp H
       obtain ⟨t113,A270,H⟩:=H
       replace H : (some (t113 == x9_2)) = some r:=H
       have A27:=z7.mk A270
       clear A270
       obtain rfl:=Option.some.inj H
       go_wp2_with (first|((with_reducible refine zB (f:=42) rfl ?_);refine goesL_ (some 49) rfl rfl Try.func42 (by kernel_rfl) rfl #[] rfl (by (try simp only [List.map_toArray,List.map_cons,List.map_nil]);first|done|rfl|(simp only [List.length_drop,List.length_take];rfl)) ?_;(with_reducible refine (zM.calls k2  true _ A20.out).mono ?_);rintro e w28 ⟨rfl,hb⟩;refine ⟨_,rfl,?_⟩;have n0_:=z7.mk (Kd.zY (by (with_reducible repeat (first|apply Kd.zx|apply Kd.zy|apply Kd.zD));exact HO_7.out) hb);have n1_:=z7.mk (zg (by repeat (first|(with_reducible first|exact HB.out|apply z4|apply z0|apply z3)|exact HB.out)) hb);clear HO_7;clear HB;have HO_7:=n0_;have HB:=n1_;clear n0_ n1_;(try clear hb);(try clear hb2);(try clear hk);(try clear hi))|(go_at_call 56;(with_reducible refine (z15.calls k2 a0 a1 _ _ l2 t110 _ ?side1 ?side2 A22.out).mono ?_);(case side1=>repeat (first|exact (Kd.z1F HR2.out HB.out)|(with_reducible refine Kd.z1o ?_ _)|(with_reducible refine Kd.z1p ?_ _)|(with_reducible refine Kd.z1w ?_)));(case side2=>exact HC2.out);rintro e w29 ⟨rfl,hb⟩;have n0_:=z7.mk (Kd.zY (by (with_reducible repeat (first|apply Kd.zx|apply Kd.zy|apply Kd.zD));exact HO_7.out) hb);have n1_:=z7.mk (zg (by repeat (first|(with_reducible first|exact HB.out|apply z4|apply z0|apply z3)|exact HB.out)) hb);clear HO_7;clear HB;have HO_7:=n0_;have HB:=n1_;clear n0_ n1_;(try clear hb);(try clear hb2);(try clear hk);(try clear hi))|(go_at_call 45;(with_reducible refine (zc.calls k2 a0 a1 _ _ t102 t111 _ ?side1 ?side2 A23.out).mono ?_);(case side1=>repeat (first|exact (Kd.zO HO_7.out).2.2|(with_reducible refine Kd.z1o ?_ _)|(with_reducible refine Kd.z1p ?_ _)|(with_reducible refine Kd.z1w ?_)));(case side2=>exact (Kd.zO HO_7.out).2.1);rintro e w30 ⟨rfl,hb⟩;have n0_:=z7.mk (Kd.zY (by (with_reducible repeat (first|apply Kd.zx|apply Kd.zy|apply Kd.zD));exact HO_7.out) hb);have n1_:=z7.mk (zg (by repeat (first|(with_reducible first|exact HB.out|apply z4|apply z0|apply z3)|exact HB.out)) hb);clear HO_7;clear HB;have HO_7:=n0_;have HB:=n1_;clear n0_ n1_;(try clear hb);(try clear hb2);(try clear hk);(try clear hi))|(go_at_call 57;(with_reducible refine (zX.calls k2 _ _ l2 t112 _ ?side1 ?side2 A25.out).mono ?_);(case side1=>repeat (first|exact (Kd.z1F HR2.out HB.out)|(with_reducible refine Kd.z1o ?_ _)|(with_reducible refine Kd.z1p ?_ _)|(with_reducible refine Kd.z1w ?_)));(case side2=>exact HC2.out);rintro e w31 ⟨rfl,hb⟩;have n0_:=z7.mk (Kd.zY (by (with_reducible repeat (first|apply Kd.zx|apply Kd.zy|apply Kd.zD));exact HO_7.out) hb);have n1_:=z7.mk (zg (by repeat (first|(with_reducible first|exact HB.out|apply z4|apply z0|apply z3)|exact HB.out)) hb);clear HO_7;clear HB;have HO_7:=n0_;have HB:=n1_;clear n0_ n1_;(try clear hb);(try clear hb2);(try clear hk);(try clear hi))|(go_at_call 58;(with_reducible refine (z10.calls k2 _ _ l2 a1 t113 _ ?side1 ?side2 A27.out).mono ?_);(case side1=>repeat (first|exact (Kd.z1F HR2.out HB.out)|(with_reducible refine Kd.z1o ?_ _)|(with_reducible refine Kd.z1p ?_ _)|(with_reducible refine Kd.z1w ?_)));(case side2=>exact HC2.out);rintro e w32 ⟨rfl,hb⟩;have n0_:=z7.mk (Kd.zY (by (with_reducible repeat (first|apply Kd.zx|apply Kd.zy|apply Kd.zD));exact HO_7.out) hb);have n1_:=z7.mk (zg (by repeat (first|(with_reducible first|exact HB.out|apply z4|apply z0|apply z3)|exact HB.out)) hb);clear HO_7;clear HB;have HO_7:=n0_;have HB:=n1_;clear n0_ n1_;(try clear hb);(try clear hb2);(try clear hk);(try clear hi)))
       go_ret
       exact ⟨by first|rfl|(simp [zl,zm] <;> rfl)|(simp [*,zl,zm] <;> rfl),by repeat (first|(with_reducible first|exact HB.out|apply z4|apply z0|apply z3)|exact HB.out)⟩
     rw [if_pos c16] at H
     have c16b0 : decide (x10_2 < (l2.length : Int)) = true:=decide_eq_true c16
     clear c16
     by_cases c17 : x9_2 = true
     · subst c17
       have H1 : (zj.l0 k2 a0 a1 l2 t102 x8_8 true (wrap64 (x10_2 + 1))) = some r:=by rw [if_pos rfl] at H;exact H
       clear H
       have H:=H1
       clear H1
       have H':=z7.mk H
       clear H
       go_wp2
       go_roundg k2
       case measure=>have:=HJ8.out;have:=HK2.out;omega
       case rel=>exact ⟨(true),(wrap64 (x10_2 + 1)),(by first|rfl|(simp;done)|(simp [*];done)),(by first|rfl|(simp;done)|(simp [*];done)),H',⟨by have:=HJ8.out;have:=HK2.out;omega⟩,⟨by (with_reducible repeat (first|apply Kd.zx|apply Kd.zy|apply Kd.zD));exact HO_7.out⟩,⟨by repeat (first|(with_reducible first|exact HB.out|apply z4|apply z0|apply z3)|exact HB.out)⟩⟩
     replace c17:=Bool.eq_false_iff.mpr c17
     subst c17
     have H1 : (if 0 ≤ x10_2 then (if ((zd l2 x10_2).f0) = 2 then (zj.l0 k2 a0 a1 l2 t102 x8_8 (((zd l2 x10_2).f1) == a1) (wrap64 (x10_2 + 1))) else (zj.l0 k2 a0 a1 l2 t102 x8_8 false (wrap64 (x10_2 + 1)))) else (none)) = some r:=by rw [if_neg (show ¬ (false = true) by decide)] at H;exact H
     clear H
     have H:=H1
     clear H1
     by_cases c18 : 0 ≤ x10_2
     rotate_left
     · rw [if_neg c18] at H
       exact absurd H (by simp)
     rw [if_pos c18] at H
     have c18b0 : decide (0 ≤ x10_2) = true:=decide_eq_true c18
     clear c18
     by_cases c19 : ((zd l2 x10_2).f0) = 2
     rotate_left
     · rw [if_neg c19] at H
       have c19b0 : (((zd l2 x10_2).f0) == 2) = false:=beq_eq_false_iff_ne.mpr c19
       have c19b1 : (((zd l2 x10_2).f0) != 2) = true:=bne_iff_ne.mpr c19
       have H':=z7.mk H
       clear H
       have p107 : 0 ≤ (x10_2 : Int):=of_decide_eq_true (by first|(with_reducible assumption)|assumption)
       have q107 : x10_2 < (l2.length : Int):=of_decide_eq_true (by first|(with_reducible assumption)|assumption)
       obtain ⟨ad107,e107,hx107_0,hx107_1,hx107_2,hx107_3,hx107_4⟩:=z1R HR2.out x10_2 p107 q107
       cases e107
       replace hx107_0:=(HB.out.cell (World.block_lt_of_cell? w _ hx107_0)).trans hx107_0
       replace hx107_1:=(HB.out.cell (World.block_lt_of_cell? w _ hx107_1)).trans hx107_1
       replace hx107_2:=(HB.out.cell (World.block_lt_of_cell? w _ hx107_2)).trans hx107_2
       replace hx107_3:=(HB.out.cell (World.block_lt_of_cell? w _ hx107_3)).trans hx107_3
       replace hx107_4:=(HB.out.cell (World.block_lt_of_cell? w _ hx107_4)).trans hx107_4
       replace p107:=eq_true p107
       replace q107:=eq_true q107
       go_wp2
       go_roundg k2
       case measure=>have:=HJ8.out;have:=HK2.out;omega
       case rel=>exact ⟨(false),(wrap64 (x10_2 + 1)),(by first|rfl|(simp;done)|(simp [*];done)),(by first|rfl|(simp;done)|(simp [*];done)),H',⟨by have:=HJ8.out;have:=HK2.out;omega⟩,⟨by (with_reducible repeat (first|apply Kd.zx|apply Kd.zy|apply Kd.zD));exact HO_7.out⟩,⟨by repeat (first|(with_reducible first|exact HB.out|apply z4|apply z0|apply z3)|exact HB.out)⟩⟩
     rw [if_pos c19] at H
     have c19b0 : (((zd l2 x10_2).f0) == 2) = true:=beq_iff_eq.mpr c19
     have c19b1 : (((zd l2 x10_2).f0) != 2) = false:=bne_eq_false_iff_eq.mpr c19
     clear c19
     have H':=z7.mk H
     clear H
     have p107 : 0 ≤ (x10_2 : Int):=of_decide_eq_true (by first|(with_reducible assumption)|assumption)
     have q107 : x10_2 < (l2.length : Int):=of_decide_eq_true (by first|(with_reducible assumption)|assumption)
     obtain ⟨ad107,e107,hx107_0,hx107_1,hx107_2,hx107_3,hx107_4⟩:=z1R HR2.out x10_2 p107 q107
     cases e107
     replace hx107_0:=(HB.out.cell (World.block_lt_of_cell? w _ hx107_0)).trans hx107_0
     replace hx107_1:=(HB.out.cell (World.block_lt_of_cell? w _ hx107_1)).trans hx107_1
     replace hx107_2:=(HB.out.cell (World.block_lt_of_cell? w _ hx107_2)).trans hx107_2
     replace hx107_3:=(HB.out.cell (World.block_lt_of_cell? w _ hx107_3)).trans hx107_3
     replace hx107_4:=(HB.out.cell (World.block_lt_of_cell? w _ hx107_4)).trans hx107_4
     replace p107:=eq_true p107
     replace q107:=eq_true q107
     have p108 : 0 ≤ (x10_2 : Int):=of_decide_eq_true (by first|(with_reducible assumption)|assumption)
     have q108 : x10_2 < (l2.length : Int):=of_decide_eq_true (by first|(with_reducible assumption)|assumption)
     obtain ⟨ad108,e108,hx108_0,hx108_1,hx108_2,hx108_3,hx108_4⟩:=z1R HR2.out x10_2 p108 q108
     obtain rfl : ad107 = ad108:=(by injection e108)
     replace hx108_0:=(HB.out.cell (World.block_lt_of_cell? w _ hx108_0)).trans hx108_0
     replace hx108_1:=(HB.out.cell (World.block_lt_of_cell? w _ hx108_1)).trans hx108_1
     replace hx108_2:=(HB.out.cell (World.block_lt_of_cell? w _ hx108_2)).trans hx108_2
     replace hx108_3:=(HB.out.cell (World.block_lt_of_cell? w _ hx108_3)).trans hx108_3
     replace hx108_4:=(HB.out.cell (World.block_lt_of_cell? w _ hx108_4)).trans hx108_4
     replace p108:=eq_true p108
     replace q108:=eq_true q108
     go_wp2
     go_roundg k2
     case measure=>have:=HJ8.out;have:=HK2.out;omega
     case rel=>exact ⟨((((zd l2 x10_2).f1) == a1)),(wrap64 (x10_2 + 1)),(by first|rfl|(simp;done)|(simp [*];done)),(by first|rfl|(simp;done)|(simp [*];done)),H',⟨by have:=HJ8.out;have:=HK2.out;omega⟩,⟨by (with_reducible repeat (first|apply Kd.zx|apply Kd.zy|apply Kd.zD));exact HO_7.out⟩,⟨by repeat (first|(with_reducible first|exact HB.out|apply z4|apply z0|apply z3)|exact HB.out)⟩⟩
end Go.Proofs.Ytngcaphdkgihmaa.P
/- What the arguments of a law read as: for each type that can be told, any reading of it is one of a value of its kind, with its numbers in their ranges. Own text. -/
namespace Go.Proofs.Ytngcaphdkgihmaa.Reads
open Go.ChangeShapes Go.WideShapes Go.ChangeAt Go.RowKit Go.Deep Go.Proofs.YtngcaphdkgihmaaW.PrintWords
set_option linter.unusedVariables false

/-- Whatever is read at type t is of kind d, and good. -/
def ReadsAs {α : Type} (P : Program) (t : TypeId) (d : Kd α) (good : α → Prop) : Prop :=
  ∀ {H : Type} (enc : TypeId × Value → H) (w : World) (base : Nat) (spare : Nat → Bool) (held : Bool) (fuel : Nat) (cs : List Value) (x : DataW H × List MemPlace), DataW.trod enc P w base spare held fuel t cs = some x → ∃ a, d.K w a cs ∧ good a

theorem z3q {P : Program} {t : TypeId} {k : IntKind} (ht : P.underlying t = some (.int k)) : ReadsAs P t (Kd.int k) (fun n => (Lit.int k n).wf = true) := by
  intro H enc w base spare held fuel cs x h
  obtain ⟨n, rfl, _, hw⟩ := DataW.trod_int ht h
  exact ⟨n, rfl, hw⟩
theorem op_bool {P : Program} {t : TypeId} (ht : P.underlying t = some .bool) : ReadsAs P t Kd.bool (fun _ => True) := by
  intro H enc w base spare held fuel cs x h
  obtain ⟨n, rfl, _⟩ := DataW.trod_bool ht h
  exact ⟨n, rfl, trivial⟩
theorem z40 (a : Addr) (i j : Nat) : (a.add i).add j = a.add (i + j) := Go.Deep.add_add a i j
theorem op_slice {α : Type} {P : Program} {t e : TypeId} {d : Kd α} {good : α → Prop} (ht : P.underlying t = some (.slice e)) (hc : P.cellsOf e = d.sz) (he : ReadsAs P e d good) : ReadsAs P t (Kd.slice e d) (fun l => (∀ x ∈ l, good x) ∧ l.length ≤ maxLen) := by
  intro H enc w base spare held fuel cs x h
  rcases open_slice ht h with ⟨rfl, _⟩ | ⟨a, len, cap, m, n, D, Pl, rfl, hb, hl, hm, hmm, rfl, hx⟩
  · exact ⟨[], ⟨none, 0, rfl, Nat.le_refl _, Kd.C_nil d w⟩, ⟨by simp, Nat.zero_le _⟩⟩
  · have hlm : len ≤ m := by rw [hmm]; split <;> omega
    have hex : ∀ i, i < len → ∃ y : α, ∃ c, c.length = d.sz ∧ d.K w y c ∧ good y ∧ ∀ j u, c[j]? = some u → w.cell? (a.add (i * d.sz + j)) = some u := by
      intro i hi
      obtain ⟨cs', h1, h2⟩ := hx i (by omega)
      obtain ⟨_, hlen, hcell⟩ := World.cells?_some h1
      obtain ⟨y, hK, hg⟩ := he enc w base spare held n cs' _ h2
      refine ⟨y, cs', by rw [hlen, hc], hK, hg, fun j u hu => ?_⟩
      have hj : j < P.cellsOf e := by rw [← hlen]; exact (List.getElem?_eq_some_iff.1 hu).1
      have := hcell j hj
      rw [z40] at this
      rw [← hc, this]; exact hu
    have hmax : len ≤ 9223372036854775807 := by
      have h9 : len ≤ maxLen := by omega
      simpa [maxLen] using h9
    have hlen : (List.ofFn (fun i : Fin len => Classical.choose (hex i.1 i.2))).length = len := List.length_ofFn
    refine ⟨List.ofFn (fun i : Fin len => Classical.choose (hex i.1 i.2)), ⟨some a, cap, by rw [hlen], by rw [hlen]; exact hl, rfl, by rw [hlen]; exact hmax, fun _ => ⟨a, rfl, ?_⟩⟩, ?_, by rw [hlen]; omega⟩
    · intro j p hp
      obtain ⟨hj, hpj⟩ := List.getElem?_eq_some_iff.1 hp
      rw [List.length_ofFn] at hj
      rw [List.getElem_ofFn] at hpj
      obtain ⟨c, h1, h2, _, h4⟩ := Classical.choose_spec (hex j hj)
      exact ⟨c, h1, by rw [← hpj]; exact h2, h4⟩
    · intro y hy
      obtain ⟨i, rfl⟩ := List.mem_ofFn.1 hy
      obtain ⟨c, _, _, h3, _⟩ := Classical.choose_spec (hex i.1 i.2)
      exact h3

/-- Fields that lie one behind the other. -/
def ReadsFs {α : Type} (P : Program) (fs : List Field) (off : Nat) (d : Kd α) (good : α → Prop) : Prop :=
  ∀ {H : Type} (enc : TypeId × Value → H) (w : World) (base : Nat) (spare : Nat → Bool) (held : Bool) (n : Nat) (cs : List Value), cs.length = d.sz →
    (∀ f ∈ fs, off ≤ f.offset ∧ ∃ x, DataW.trod enc P w base spare held n f.type ((cs.drop (f.offset - off)).take (P.cellsOf f.type)) = some x) → ∃ a, d.K w a cs ∧ good a
theorem z3S {α : Type} {P : Program} {f : Field} {off : Nat} {d : Kd α} {good : α → Prop} (hs : P.cellsOf f.type = d.sz) (ho : f.offset = off) (he : ReadsAs P f.type d good) : ReadsFs P [f] off d good := by
  intro H enc w base spare held n cs hl h
  obtain ⟨_, x, hx⟩ := h f (by simp)
  rw [ho, Nat.sub_self, List.drop_zero, hs, ← hl, List.take_length] at hx
  exact he enc w base spare held n cs x hx
theorem z2w {α β : Type} {P : Program} {f : Field} {fs : List Field} {off : Nat} {d : Kd α} {d' : Kd β} {good : α → Prop} {good' : β → Prop} (hs : P.cellsOf f.type = d.sz) (ho : f.offset = off) (he : ReadsAs P f.type d good)
    (hr : ReadsFs P fs (off + d.sz) d' good') (hoff : ∀ g ∈ fs, off + d.sz ≤ g.offset) : ReadsFs P (f :: fs) off (Kd.pair d d') (fun x => good x.1 ∧ good' x.2) := by
  intro H enc w base spare held n cs hl h
  have hl' : cs.length = d.sz + d'.sz := hl
  obtain ⟨_, x, hx⟩ := h f (by simp)
  rw [ho, Nat.sub_self, List.drop_zero, hs] at hx
  obtain ⟨a, hK, hg⟩ := he enc w base spare held n _ x hx
  obtain ⟨b, hK', hg'⟩ := hr enc w base spare held n (cs.drop d.sz) (by rw [List.length_drop]; omega) (fun g hgm => by
    obtain ⟨_, y, hy⟩ := h g (by simp [hgm])
    have ho' := hoff g hgm
    refine ⟨ho', y, ?_⟩
    rw [List.drop_drop, show d.sz + (g.offset - (off + d.sz)) = g.offset - off by omega]
    exact hy)
  exact ⟨(a, b), ⟨cs.take d.sz, cs.drop d.sz, (List.take_append_drop _ _).symm, hK, hK'⟩, hg, hg'⟩
theorem z3R {α β : Type} {P : Program} {t : TypeId} {fs : Array Field} {l : List Field} {d : Kd α} {good : α → Prop} (f : β → α) (hsurj : ∀ a, ∃ b, f b = a) (ht : P.underlying t = some (.struct fs)) (hfl : fs.toList = l) (hs : P.cellsOf t = d.sz) (h : ReadsFs P l 0 d good) :
    ReadsAs P t (Kd.iso d f) (fun b => good (f b)) := by
  intro H enc w base spare held fuel cs x hx
  obtain ⟨xs, n, rfl, _, hlen, hxs, hall⟩ := DataW.trod_struct ht hx
  obtain ⟨a, hK, hg⟩ := h enc w base spare held n cs (by rw [hlen, hs]) (fun g hgm => by
    rw [← hfl] at hgm
    obtain ⟨i, hi, rfl⟩ := List.mem_iff_getElem.1 hgm
    have h1 := hall i fs.toList[i] (by simp at hi ⊢)
    have hi' : i < xs.length := by rw [hxs]; simpa using hi
    refine ⟨Nat.zero_le _, xs[i], ?_⟩
    rw [Nat.sub_zero, h1, List.getElem?_eq_getElem hi'])
  obtain ⟨b, rfl⟩ := hsurj a
  exact ⟨b, hK, hg⟩

/-- Elements of an array, one behind the other. -/
def ReadsAr {α : Type} (P : Program) (e : TypeId) (m : Nat) (d : Kd α) (good : α → Prop) : Prop :=
  ∀ {H : Type} (enc : TypeId × Value → H) (w : World) (base : Nat) (spare : Nat → Bool) (held : Bool) (n : Nat) (cs : List Value), cs.length = d.sz →
    (∀ i, i < m → ∃ x, DataW.trod enc P w base spare held n e ((cs.drop (i * P.cellsOf e)).take (P.cellsOf e)) = some x) → ∃ a, d.K w a cs ∧ good a
theorem opas_last {α : Type} {P : Program} {e : TypeId} {d : Kd α} {good : α → Prop} (hs : P.cellsOf e = d.sz) (he : ReadsAs P e d good) : ReadsAr P e 1 d good := by
  intro H enc w base spare held n cs hl h
  obtain ⟨x, hx⟩ := h 0 (by omega)
  rw [Nat.zero_mul, List.drop_zero, hs, ← hl, List.take_length] at hx
  exact he enc w base spare held n cs x hx
theorem opas_cons {α β : Type} {P : Program} {e : TypeId} {m : Nat} {d : Kd α} {d' : Kd β} {good : α → Prop} {good' : β → Prop} (hs : P.cellsOf e = d.sz) (he : ReadsAs P e d good) (hr : ReadsAr P e m d' good') :
    ReadsAr P e (m + 1) (Kd.pair d d') (fun x => good x.1 ∧ good' x.2) := by
  intro H enc w base spare held n cs hl h
  have hl' : cs.length = d.sz + d'.sz := hl
  obtain ⟨x, hx⟩ := h 0 (by omega)
  rw [Nat.zero_mul, List.drop_zero, hs] at hx
  obtain ⟨a, hK, hg⟩ := he enc w base spare held n _ x hx
  obtain ⟨b, hK', hg'⟩ := hr enc w base spare held n (cs.drop d.sz) (by rw [List.length_drop]; omega) (fun i hi => by
    obtain ⟨y, hy⟩ := h (i + 1) (by omega)
    refine ⟨y, ?_⟩
    rw [List.drop_drop, show d.sz + i * P.cellsOf e = (i + 1) * P.cellsOf e by rw [hs, Nat.add_mul]; omega]
    exact hy)
  exact ⟨(a, b), ⟨cs.take d.sz, cs.drop d.sz, (List.take_append_drop _ _).symm, hK, hK'⟩, hg, hg'⟩
theorem op_array {α β : Type} {P : Program} {t e : TypeId} {m : Nat} {d : Kd α} {good : α → Prop} (f : β → α) (hsurj : ∀ a, ∃ b, f b = a) (ht : P.underlying t = some (.array m e)) (hs : P.cellsOf t = d.sz) (h : ReadsAr P e m d good) :
    ReadsAs P t (Kd.iso d f) (fun b => good (f b)) := by
  intro H enc w base spare held fuel cs x hx
  obtain ⟨xs, n, rfl, _, hlen, hxs, hall⟩ := DataW.trod_array ht hx
  obtain ⟨a, hK, hg⟩ := h enc w base spare held n cs (by rw [hlen, hs]) (fun i hi => by
    have hi' : i < xs.length := by omega
    exact ⟨xs[i], by rw [hall i hi, List.getElem?_eq_getElem hi']⟩)
  obtain ⟨b, rfl⟩ := hsurj a
  exact ⟨b, hK, hg⟩
theorem z3Q {P : Program} {w : World} {r : Reach} {base : Nat} {t e : TypeId} {m : Nat} {v : Value} (ht : P.underlying t = some (.array m e)) (h : Value.okWide P w r base t v) : ∃ cs, v = .agg cs ∧ cs.size = P.cellsOf t := by
  simp only [Value.okWide, ht] at h
  cases v <;> simp_all

/-- An argument that is a slice. -/
theorem z4W {α : Type} {P : Program} {H : Type} {enc : TypeId × Value → H} {W : World} {base : Nat} {spare : Nat → Bool} {held : Bool} {t e : TypeId} {d : Kd α} {good : List α → Prop} {v : Value} {dd : DataW H} {ps : List MemPlace}
    (hop : ReadsAs P t (Kd.slice e d) good) {e' : TypeId} (ht : P.underlying t = some (.slice e')) {r : Reach} {b : Nat} (hv : Value.okWide P W r b t v) (h : DataW.Trod enc P W base spare held t v dd ps) :
    ∃ (l : List α) (A : Option Addr) (c : Nat), v = .slice A l.length c ∧ l.length ≤ c ∧ Kd.C d W A l.length l ∧ good l := by
  obtain ⟨A, len, cap, rfl⟩ := okWide_slice ht hv
  obtain ⟨fuel, hf⟩ := h
  obtain ⟨l, ⟨A', c, hcs, hl, hC⟩, hg⟩ := hop enc W base spare held fuel _ _ hf
  simp [Value.cells] at hcs
  obtain ⟨rfl, rfl, rfl⟩ := hcs
  exact ⟨l, A, cap, rfl, hl, hC, hg⟩
theorem z4V {P : Program} {H : Type} {enc : TypeId × Value → H} {W : World} {base : Nat} {spare : Nat → Bool} {held : Bool} {t : TypeId} {k : IntKind} {v : Value} {dd : DataW H} {ps : List MemPlace}
    (ht : P.underlying t = some (.int k)) {r : Reach} {b : Nat} (hv : Value.okWide P W r b t v) (h : DataW.Trod enc P W base spare held t v dd ps) :
    ∃ n, v = .int k n ∧ (Lit.int k n).wf = true := by
  obtain ⟨n, rfl⟩ := okWide_int ht hv
  obtain ⟨fuel, hf⟩ := h
  obtain ⟨l, hcs, hg⟩ := z3q ht enc W base spare held fuel _ _ hf
  have : n = l := by
    have h1 : ([Value.int k n] : List Value) = [.int k l] := hcs
    simpa using h1
  subst this
  exact ⟨n, rfl, hg⟩
theorem arg_bool {P : Program} {W : World} {t : TypeId} {v : Value} (ht : P.underlying t = some .bool) {r : Reach} {b : Nat} (hv : Value.okWide P W r b t v) : ∃ n, v = .bool n := okWide_bool ht hv
/-- An argument that is a struct: its cells. -/
theorem arg_struct {α : Type} {P : Program} {H : Type} {enc : TypeId × Value → H} {W : World} {base : Nat} {spare : Nat → Bool} {held : Bool} {t : TypeId} {fs : Array Field} {d : Kd α} {good : α → Prop} {v : Value} {dd : DataW H} {ps : List MemPlace}
    (hop : ReadsAs P t d good) (ht : P.underlying t = some (.struct fs)) {r : Reach} {b : Nat} (hv : Value.okWide P W r b t v) (h : DataW.Trod enc P W base spare held t v dd ps) :
    ∃ (a : α) (cs : List Value), v = .agg cs.toArray ∧ d.K W a cs ∧ good a := by
  obtain ⟨cs, rfl, _⟩ := okWide_struct ht hv
  obtain ⟨fuel, hf⟩ := h
  obtain ⟨a, hK, hg⟩ := hop enc W base spare held fuel _ _ hf
  exact ⟨a, cs.toList, by simp, hK, hg⟩
/-- An argument that is an array: its cells. -/
theorem arg_array {α : Type} {P : Program} {H : Type} {enc : TypeId × Value → H} {W : World} {base : Nat} {spare : Nat → Bool} {held : Bool} {t e : TypeId} {m : Nat} {d : Kd α} {good : α → Prop} {v : Value} {dd : DataW H} {ps : List MemPlace}
    (hop : ReadsAs P t d good) (ht : P.underlying t = some (.array m e)) {r : Reach} {b : Nat} (hv : Value.okWide P W r b t v) (h : DataW.Trod enc P W base spare held t v dd ps) :
    ∃ (a : α) (cs : List Value), v = .agg cs.toArray ∧ d.K W a cs ∧ good a := by
  obtain ⟨cs, rfl, _⟩ := z3Q ht hv
  obtain ⟨fuel, hf⟩ := h
  obtain ⟨a, hK, hg⟩ := hop enc W base spare held fuel _ _ hf
  exact ⟨a, cs.toList, by simp, hK, hg⟩
end Go.Proofs.Ytngcaphdkgihmaa.Reads
-- Own text: the statement that is left of the law ExprChecks, and what a reading of its arguments is.
namespace Go.Proofs.Ytngcaphdkgihmaa.Stated.exprChecks
open Go.RowKit Go.Proofs.YtngcaphdkgihmaaW.PrintWords Go.Proofs.Ytngcaphdkgihmaa.P Go.Proofs.Ytngcaphdkgihmaa.Reads
def Pure : Prop := ∀ (x0 : Int) (x1 : Int) (x2 : List (S87)), ((Lit.int .i64 x0).wf = true) → ((Lit.int .i64 x1).wf = true) → (((∀ x_ ∈ x2, ((Lit.int .i64 x_.f0).wf = true) ∧ ((Lit.int .i64 x_.f1).wf = true) ∧ ((Lit.int .i64 x_.f2).wf = true) ∧ (((Lit.int .u64 x_.f3.f0).wf = true) ∧ ((Lit.int .u64 x_.f3.f1).wf = true))) ∧ x2.length ≤ maxLen)) → ∃ k, zj.f k x0 x1 x2 = some true
end Go.Proofs.Ytngcaphdkgihmaa.Stated.exprChecks
/- Rounds: what is told by enough of them; and the arithmetic of whole numbers as the printed functions spell it. Own text. -/
namespace Go.Proofs.YtngcaphdkgihmaaW.PrintWords
set_option linter.unusedVariables false
set_option linter.unusedSimpArgs false
namespace Ev
variable {α β : Type}
theorem ret (r : α) : Ev (fun _ => some r) r := ⟨0, fun _ _ => rfl⟩
theorem ret' {a r : α} (h : a = r) : Ev (fun _ => some a) r := h ▸ Ev.ret a
theorem const {o : Option α} {r : α} (h : o = some r) : Ev (fun _ => o) r := ⟨0, fun _ _ => h⟩
theorem pos {c : Prop} [Decidable c] {f g : Nat → Option α} {r : α} (h : c) (k : Ev f r) : Ev (fun n => if c then f n else g n) r := by
  simp only [if_pos h]; exact k
theorem neg {c : Prop} [Decidable c] {f g : Nat → Option α} {r : α} (h : ¬ c) (k : Ev g r) : Ev (fun n => if c then f n else g n) r := by
  simp only [if_neg h]; exact k
theorem bnd {g : Nat → Option α} {f : Nat → α → Option β} {a : α} {r : β} (h : Ev g a) (k : Ev (fun n => f n a) r) : Ev (fun n => (g n).bind (f n)) r := Ev.bind h k
theorem bnd0 {o : Option α} {f : Nat → α → Option β} {a : α} {r : β} (h : o = some a) (k : Ev (fun n => f n a) r) : Ev (fun n => o.bind (f n)) r := Ev.bind (Ev.const h) k
theorem uniq {g : Nat → Option α} {a b : α} (h : Ev g a) (k : Ev g b) : a = b := by
  obtain ⟨K, hK⟩ := h; obtain ⟨L, hL⟩ := k
  have := hK (max K L) (Nat.le_max_left _ _); rw [hL _ (Nat.le_max_right _ _)] at this
  exact (Option.some.inj this).symm
theorem eqn {g : Nat → Option α} {a b : α} (h : Ev g a) (e : a = b) : Ev g b := e ▸ h
end Ev
end Go.Proofs.YtngcaphdkgihmaaW.PrintWords
namespace Go.Proofs.Ytngcaphdkgihmaa.Ar
open Go.RowKit Go.Proofs.YtngcaphdkgihmaaW.PrintWords Go.Proofs.YtngcaphdkgihmaaW.PrintMore
set_option linter.unusedVariables false
set_option linter.unusedSimpArgs false
theorem i64_id {x : Int} (h0 : -9223372036854775808 ≤ x) (h1 : x ≤ 9223372036854775807) : IntKind.i64.wrap x = x := by rw [IntKind.wrap_i64]; omega
theorem z26 {x : Int} (h0 : -9223372036854775808 ≤ x) (h1 : x ≤ 9223372036854775807) : wrap64 x = x := by unfold wrap64; omega
theorem z1z {i L : Nat} (h : i < L) (hL : L ≤ 4611686018427387904) : wrap64 ((i : Int) + 1) = ((i + 1 : Nat) : Int) := by rw [z26 (by omega) (by omega)]; omega
theorem w64_add {i j : Nat} (h : i ≤ 2305843009213693952) (h' : j ≤ 2305843009213693952) : wrap64 ((i : Int) + (j : Int)) = ((i + j : Nat) : Int) := by rw [z26 (by omega) (by omega)]; omega
theorem w64_sub {i j : Nat} (h : j ≤ i) (h' : i ≤ 4611686018427387904) : wrap64 ((i : Int) - (j : Int)) = ((i - j : Nat) : Int) := by rw [z26 (by omega) (by omega)]; omega
theorem z2b {x : Int} (h0 : 0 ≤ x) (h1 : x < 18446744073709551616) : IntKind.u64.wrap x = x := by
  simp [IntKind.wrap, IntKind.bits, IntKind.signed]; omega
theorem z5q (w : Nat) (h : w ≤ 62) : shl .i64 1 (w : Int) = ((2 ^ w : Nat) : Int) := by
  unfold shl
  have h64 : IntKind.i64.bits = 64 := rfl
  rw [h64, Int.toNat_natCast, Nat.min_eq_left (by omega), Int.one_mul]
  have hp : (2 : Nat) ^ w ≤ 2 ^ 62 := Nat.pow_le_pow_right (by decide) h
  have hc : ((2 : Int) ^ w) = ((2 ^ w : Nat) : Int) := by simp
  rw [hc]
  have h62 : (2 : Nat) ^ 62 = 4611686018427387904 := by decide
  generalize 2 ^ w = p at hp ⊢
  exact i64_id (by omega) (by omega)
theorem z2I (w : Nat) (h : w ≤ 63) : shl .u64 1 (w : Int) = ((2 ^ w : Nat) : Int) := by
  unfold shl
  have h64 : IntKind.u64.bits = 64 := rfl
  rw [h64, Int.toNat_natCast, Nat.min_eq_left (by omega), Int.one_mul]
  have hp : (2 : Nat) ^ w ≤ 2 ^ 63 := Nat.pow_le_pow_right (by decide) h
  have hc : ((2 : Int) ^ w) = ((2 ^ w : Nat) : Int) := by simp
  rw [hc]
  have h63 : (2 : Nat) ^ 63 = 9223372036854775808 := by decide
  generalize 2 ^ w = p at hp ⊢
  exact z2b (by omega) (by omega)
theorem z3E (a w : Nat) (h : w ≤ 64) : shr .u64 (a : Int) (w : Int) = ((a / 2 ^ w : Nat) : Int) := by
  unfold shr
  have h64 : IntKind.u64.bits = 64 := rfl
  rw [h64, Int.toNat_natCast, Nat.min_eq_left h]; simp
theorem shr_i64 (a w : Nat) (h : w ≤ 64) : shr .i64 (a : Int) (w : Int) = ((a / 2 ^ w : Nat) : Int) := by
  unfold shr
  have h64 : IntKind.i64.bits = 64 := rfl
  rw [h64, Int.toNat_natCast, Nat.min_eq_left h]; simp
theorem z3x (op : BinOp) (a b : Nat) (ha : a < 2 ^ 64) (hb : b < 2 ^ 64) :
    (op = .and → Go.bits op .u64 a b = ((a &&& b : Nat) : Int)) ∧ (op = .or → Go.bits op .u64 a b = ((a ||| b : Nat) : Int)) ∧ (op = .xor → Go.bits op .u64 a b = ((a ^^^ b : Nat) : Int)) := by
  have ha' : a % 2 ^ IntKind.u64.bits = a := Nat.mod_eq_of_lt ha
  have hb' : b % 2 ^ IntKind.u64.bits = b := Nat.mod_eq_of_lt hb
  refine ⟨?_, ?_, ?_⟩ <;> rintro rfl <;> simp only [Go.bits, BitVec.ofInt_natCast, BitVec.toNat_and, BitVec.toNat_or, BitVec.toNat_xor, BitVec.toNat_ofNat, ha', hb']
  · exact z2b (Int.natCast_nonneg _) (by have := Nat.and_lt_two_pow a hb; omega)
  · exact z2b (Int.natCast_nonneg _) (by have := Nat.or_lt_two_pow ha hb; omega)
  · exact z2b (Int.natCast_nonneg _) (by have := Nat.xor_lt_two_pow ha hb; omega)
theorem z1Z (a b : Nat) (ha : a < 2 ^ 64) (hb : b < 2 ^ 64) : Go.bits .and .u64 a b = ((a &&& b : Nat) : Int) := (z3x .and a b ha hb).1 rfl
theorem z4r (a b : Nat) (ha : a < 2 ^ 64) (hb : b < 2 ^ 64) : Go.bits .or .u64 a b = ((a ||| b : Nat) : Int) := (z3x .or a b ha hb).2.1 rfl
theorem z1C (a b : Nat) (ha : a < 2 ^ 64) (hb : b < 2 ^ 64) : Go.bits .xor .u64 a b = ((a ^^^ b : Nat) : Int) := (z3x .xor a b ha hb).2.2 rfl
theorem z3J (x w : Nat) (hx : x < 2 ^ 63) (hw : w ≤ 62) : Go.bits .and .i64 (x : Int) (((2 ^ w : Nat) : Int) - 1) = ((x % 2 ^ w : Nat) : Int) := by
  have := Go.bits_mask .i64 63 (by decide) (fun n h0 h1 => i64_id (by omega) (by omega)) w (by omega) (x : Int) (by omega) (by exact_mod_cast hx)
  have hc : (((2 ^ w : Nat) : Int) - 1) = 2 ^ w - 1 := by simp
  rw [hc, this]; simp
theorem two_pow_le {w : Nat} (h : w ≤ 6) : 2 ^ w ≤ 64 := Nat.pow_le_pow_right (n := 2) (by decide) h
theorem wf_i64 {x : Int} (h : (Lit.int .i64 x).wf = true) : -9223372036854775808 ≤ x ∧ x ≤ 9223372036854775807 := by
  simp only [Lit.wf, IntKind.min, IntKind.max, IntKind.signed, IntKind.bits, Bool.and_eq_true, decide_eq_true_eq] at h; simp at h; omega
theorem wf_u64 {x : Int} (h : (Lit.int .u64 x).wf = true) : 0 ≤ x ∧ x < 18446744073709551616 := by
  simp only [Lit.wf, IntKind.min, IntKind.max, IntKind.signed, IntKind.bits, Bool.and_eq_true, decide_eq_true_eq] at h; simp at h; omega
theorem rdOf_eq {α : Type} (d : α) (l : List α) (i : Nat) : rdOf d l (i : Int) = l.getD i d := by unfold rdOf; rw [Int.toNat_natCast]
end Go.Proofs.Ytngcaphdkgihmaa.Ar
/- The tower of fields of characteristic two, as pairs of pairs of bits: its laws. Own text; nothing of the program in it. -/
namespace Go.Proofs.Ytngcaphdkgihmaa.Tw
set_option linter.unusedVariables false
set_option linter.unusedSimpArgs false

/-- Level n: a bit, or two halves: the higher one and the lower one. -/
def T : Nat → Type
  | 0 => Bool
  | n + 1 => T n × T n
def zero : (n : Nat) → T n
  | 0 => false
  | n + 1 => (zero n, zero n)
def one : (n : Nat) → T n
  | 0 => true
  | n + 1 => (zero n, one n)
/-- The generator. -/
def gen : (n : Nat) → T n
  | 0 => true
  | n + 1 => (one n, zero n)
def add : {n : Nat} → T n → T n → T n
  | 0, a, b => Bool.xor a b
  | _ + 1, a, b => (add a.1 b.1, add a.2 b.2)
def mul : {n : Nat} → T n → T n → T n
  | 0, a, b => Bool.and a b
  | n + 1, a, b => (add (add (mul a.1 b.2) (mul a.2 b.1)) (mul (gen n) (mul a.1 b.1)), add (mul a.2 b.2) (mul a.1 b.1))
instance {n : Nat} : Add (T n) := ⟨add⟩
instance {n : Nat} : Mul (T n) := ⟨mul⟩
instance {n : Nat} : Zero (T n) := ⟨zero n⟩
instance {n : Nat} : One (T n) := ⟨one n⟩
instance : {n : Nat} → DecidableEq (T n)
  | 0 => inferInstanceAs (DecidableEq Bool)
  | n + 1 => let _ : DecidableEq (T n) := instDecidableEqT; inferInstanceAs (DecidableEq (T n × T n))
theorem z31 {n : Nat} (a b : T (n + 1)) : (a + b).1 = a.1 + b.1 := rfl
theorem z3w {n : Nat} (a b : T (n + 1)) : (a + b).2 = a.2 + b.2 := rfl
theorem z1M {n : Nat} (a b : T (n + 1)) : (a * b).1 = (a.1 * b.2 + a.2 * b.1) + gen n * (a.1 * b.1) := rfl
theorem z1N {n : Nat} (a b : T (n + 1)) : (a * b).2 = a.2 * b.2 + a.1 * b.1 := rfl
theorem z2T {n : Nat} : (0 : T (n + 1)).1 = 0 := rfl
theorem z2U {n : Nat} : (0 : T (n + 1)).2 = 0 := rfl
theorem z3A {n : Nat} : (1 : T (n + 1)).1 = 0 := rfl
theorem z3B {n : Nat} : (1 : T (n + 1)).2 = 1 := rfl
theorem z2e {n : Nat} : (gen (n + 1)).1 = 1 := rfl
theorem z2f {n : Nat} : (gen (n + 1)).2 = 0 := rfl
theorem z4j : gen 0 = 1 := rfl
/-- The element of two halves. -/
def mk {n : Nat} (a b : T n) : T (n + 1) := (a, b)
theorem z1X {n : Nat} (a b : T n) : (mk a b).1 = a := rfl
theorem z22 {n : Nat} (a b : T n) : (mk a b).2 = b := rfl
theorem ext {n : Nat} {a b : T (n + 1)} (h1 : a.1 = b.1) (h2 : a.2 = b.2) : a = b := Prod.ext h1 h2

theorem add_comm : {n : Nat} → (a b : T n) → a + b = b + a
  | 0, a, b => Bool.xor_comm a b
  | n + 1, a, b => ext (add_comm a.1 b.1) (add_comm a.2 b.2)
theorem add_assoc : {n : Nat} → (a b c : T n) → a + b + c = a + (b + c)
  | 0, a, b, c => Bool.xor_assoc a b c
  | n + 1, a, b, c => ext (add_assoc a.1 b.1 c.1) (add_assoc a.2 b.2 c.2)
theorem zero_add : {n : Nat} → (a : T n) → 0 + a = a
  | 0, a => Bool.false_xor a
  | n + 1, a => ext (zero_add a.1) (zero_add a.2)
theorem z1V : {n : Nat} → (a : T n) → a + a = 0
  | 0, a => Bool.xor_self a
  | n + 1, a => ext (z1V a.1) (z1V a.2)
theorem add_zero {n : Nat} (a : T n) : a + 0 = a := by rw [add_comm, zero_add]
theorem z1G {n : Nat} (a b c : T n) : a + (b + c) = b + (a + c) := by rw [← add_assoc, add_comm a b, add_assoc]
theorem z3H {n : Nat} (a b : T n) : a + (a + b) = b := by rw [← add_assoc, z1V, zero_add]
theorem z4U {n : Nat} {a b c : T n} (h : a + b = a + c) : b = c := by
  have := congrArg (a + ·) h
  simpa only [z3H] using this
theorem add_eq_zero {n : Nat} {a b : T n} (h : a + b = 0) : a = b := by
  have := congrArg (· + b) h
  simp only [add_assoc, z1V, add_zero, zero_add] at this
  exact this
theorem eq_add_of {n : Nat} {a b c : T n} (h : a + b = c) : a = c + b := by rw [← h, add_assoc, z1V, add_zero]

/-- The laws of products, all at once. -/
structure Laws (n : Nat) : Prop where
  comm : ∀ a b : T n, a * b = b * a
  zero_mul : ∀ a : T n, 0 * a = 0
  one_mul : ∀ a : T n, 1 * a = a
  z38 : ∀ a b c : T n, a * (b + c) = a * b + a * c
  assoc : ∀ a b c : T n, a * b * c = a * (b * c)
theorem laws : (n : Nat) → Laws n
  | 0 => ⟨Bool.and_comm, Bool.false_and, Bool.true_and, by intro a b c; cases a <;> cases b <;> cases c <;> rfl, Bool.and_assoc⟩
  | n + 1 => by
    obtain ⟨comm, zmul, omul, madd, massoc⟩ := laws n
    have addm : ∀ a b c : T n, (a + b) * c = a * c + b * c := fun a b c => by rw [comm, madd, comm c a, comm c b]
    have mulz : ∀ a : T n, a * 0 = 0 := fun a => by rw [comm, zmul]
    have mulo : ∀ a : T n, a * 1 = a := fun a => by rw [comm, omul]
    have lcomm : ∀ a b c : T n, a * (b * c) = b * (a * c) := fun a b c => by rw [← massoc, comm a b, massoc]
    refine ⟨fun a b => ext ?_ ?_, fun a => ext ?_ ?_, fun a => ext ?_ ?_, fun a b c => ext ?_ ?_, fun a b c => ext ?_ ?_⟩
    · simp only [z1M]; rw [comm a.1 b.2, comm a.2 b.1, comm a.1 b.1, add_comm (b.2 * a.1)]
    · simp only [z1N]; rw [comm a.2 b.2, comm a.1 b.1]
    · simp only [z1M, z2T, z2U, zmul, mulz, add_zero]
    · simp only [z1N, z2T, z2U, zmul, mulz, add_zero]
    · simp only [z1M, z3A, z3B, zmul, mulz, omul, add_zero, zero_add]
    · simp only [z1N, z3A, z3B, zmul, mulz, omul, add_zero, zero_add]
    · simp only [z1M, z31, z3w, madd, addm, add_assoc, z1G, add_comm]
    · simp only [z1N, z31, z3w, madd, addm, add_assoc, z1G, add_comm]
    · simp only [z1M, z1N, madd, addm, massoc, lcomm, comm, add_assoc, z1G, add_comm]
    · simp only [z1M, z1N, madd, addm, massoc, lcomm, comm, add_assoc, z1G, add_comm]
section
variable {n : Nat} (a b c d : T n)
theorem mul_comm : a * b = b * a := (laws n).comm a b
theorem mul_assoc : a * b * c = a * (b * c) := (laws n).assoc a b c
theorem mul_left_comm : a * (b * c) = b * (a * c) := by rw [← mul_assoc, mul_comm a b, mul_assoc]
theorem zero_mul : 0 * a = 0 := (laws n).zero_mul a
theorem z28 : a * 0 = 0 := by rw [mul_comm, zero_mul]
theorem one_mul : 1 * a = a := (laws n).one_mul a
theorem mul_one : a * 1 = a := by rw [mul_comm, one_mul]
theorem z38 : a * (b + c) = a * b + a * c := (laws n).z38 a b c
theorem add_mul : (a + b) * c = a * c + b * c := by rw [mul_comm, z38, mul_comm c a, mul_comm c b]
theorem add_sq : (a + b) * (a + b) = a * a + b * b := by
  rw [z38, add_mul, add_mul, mul_comm b a, add_assoc, ← add_assoc (a * b), z1V, zero_add]
end
end Go.Proofs.Ytngcaphdkgihmaa.Tw
/- Elements of the tower as numbers: bits of the lower half first. Own text; nothing of the program in it. -/
namespace Go.Proofs.Ytngcaphdkgihmaa.Tw
set_option linter.unusedVariables false
set_option linter.unusedSimpArgs false
/-- How many words of bits an element of a level is: 2 to the power 2^n. -/
def Q (n : Nat) : Nat := 2 ^ 2 ^ n
theorem z20 (n : Nat) : 0 < Q n := Nat.two_pow_pos _
theorem z2c (n : Nat) : Q (n + 1) = Q n * Q n := by unfold Q; rw [← Nat.pow_add, Nat.pow_succ 2 n, Nat.mul_two]
theorem z4P (n : Nat) : Q n ≤ Q (n + 1) := by rw [z2c]; exact Nat.le_mul_of_pos_left _ (z20 n)
theorem z2q {m n : Nat} (h : m ≤ n) : Q m ≤ Q n := Nat.pow_le_pow_right (by decide) (Nat.pow_le_pow_right (by decide) h)
theorem z4C : Q 6 = 2 ^ 64 := rfl
theorem z4Q : Q 7 = 2 ^ 128 := rfl
def val : {n : Nat} → T n → Nat
  | 0, a => Bool.toNat a
  | n + 1, a => val a.1 * Q n + val a.2
def of : (n : Nat) → Nat → T n
  | 0, x => x % 2 == 1
  | n + 1, x => mk (of n (x / Q n)) (of n (x % Q n))
theorem val_zero_lvl (a : T 0) : val a = Bool.toNat a := rfl
theorem z1t {n : Nat} (a : T (n + 1)) : val a = val a.1 * Q n + val a.2 := rfl
theorem z1O (n x : Nat) : of (n + 1) x = mk (of n (x / Q n)) (of n (x % Q n)) := rfl
theorem z1j : {n : Nat} → (a : T n) → val a < Q n
  | 0, a => by cases a <;> decide
  | n + 1, a => by
    rw [z1t, z2c]
    have h1 := z1j a.1
    have h2 := z1j a.2
    have h3 : val a.1 * Q n + Q n ≤ Q n * Q n := by
      have := Nat.mul_le_mul_right (Q n) h1
      rw [Nat.succ_mul] at this; exact this
    omega
theorem val_div {n : Nat} (a : T (n + 1)) : val a / Q n = val a.1 := by
  rw [z1t, Nat.mul_comm, Nat.mul_add_div (z20 n), Nat.div_eq_of_lt (z1j a.2), Nat.add_zero]
theorem val_mod {n : Nat} (a : T (n + 1)) : val a % Q n = val a.2 := by
  rw [z1t, Nat.mul_comm, Nat.mul_add_mod, Nat.mod_eq_of_lt (z1j a.2)]
theorem z1B : {n : Nat} → (a : T n) → of n (val a) = a
  | 0, a => by cases a <;> rfl
  | n + 1, a => by rw [z1O, val_div, val_mod, z1B a.1, z1B a.2]; rfl
theorem z1P : (n : Nat) → (x : Nat) → x < Q n → val (of n x) = x
  | 0, x, h => by
    have h' : x < 2 := h
    have : x = 0 ∨ x = 1 := by omega
    rcases this with rfl | rfl <;> rfl
  | n + 1, x, h => by
    rw [z1O, z1t, z1X, z22]
    rw [z2c] at h
    rw [z1P n _ (Nat.div_lt_of_lt_mul h), z1P n _ (Nat.mod_lt _ (z20 n)), Nat.mul_comm]
    exact Nat.div_add_mod x (Q n)
theorem z2o {n : Nat} {a b : T n} (h : val a = val b) : a = b := by rw [← z1B a, h, z1B]
theorem z1u : (n : Nat) → val (0 : T n) = 0
  | 0 => rfl
  | n + 1 => by rw [z1t, z2T, z2U, z1u n, Nat.zero_mul]
theorem z2p : (n : Nat) → val (1 : T n) = 1
  | 0 => rfl
  | n + 1 => by rw [z1t, z3A, z3B, z1u n, z2p n, Nat.zero_mul]
theorem z2g (n : Nat) : of n 0 = 0 := by rw [← z1u n, z1B]
theorem of_one (n : Nat) : of n 1 = 1 := by rw [← z2p n, z1B]
theorem val_eq_zero {n : Nat} {a : T n} : val a = 0 ↔ a = 0 := ⟨fun h => z2o (h.trans (z1u n).symm), fun h => by rw [h, z1u]⟩
theorem z4z {n a b c d : Nat} (hb : b < Q n) (hd : d < Q n) : (a * Q n + b) ^^^ (c * Q n + d) = (a ^^^ c) * Q n + (b ^^^ d) := by
  have h1 : ((a * Q n + b) ^^^ (c * Q n + d)) / Q n = a ^^^ c := by
    unfold Q at *
    rw [Nat.xor_div_two_pow, Nat.mul_comm a, Nat.mul_comm c, Nat.mul_add_div (Nat.two_pow_pos _), Nat.mul_add_div (Nat.two_pow_pos _), Nat.div_eq_of_lt hb, Nat.div_eq_of_lt hd]; rfl
  have h2 : ((a * Q n + b) ^^^ (c * Q n + d)) % Q n = b ^^^ d := by
    unfold Q at *
    rw [Nat.xor_mod_two_pow, Nat.mul_comm a, Nat.mul_comm c, Nat.mul_add_mod, Nat.mul_add_mod, Nat.mod_eq_of_lt hb, Nat.mod_eq_of_lt hd]
  have := Nat.div_add_mod ((a * Q n + b) ^^^ (c * Q n + d)) (Q n)
  rw [h1, h2, Nat.mul_comm] at this
  exact this.symm
theorem z1v : {n : Nat} → (a b : T n) → val (a + b) = val a ^^^ val b
  | 0, a, b => by cases a <;> cases b <;> rfl
  | n + 1, a, b => by
    rw [z1t, z1t, z1t, z31, z3w, z1v a.1 b.1, z1v a.2 b.2, z4z (z1j _) (z1j _)]
theorem z1U {n x y : Nat} (hx : x < Q n) (hy : y < Q n) : x ^^^ y < Q n := Nat.xor_lt_two_pow hx hy
theorem z5h {n x y : Nat} (hx : x < Q n) (hy : y < Q n) : of n (x ^^^ y) = of n x + of n y :=
  z2o (by rw [z1P _ _ (z1U hx hy), z1v, z1P _ _ hx, z1P _ _ hy])
/-- A number of a lower level: the higher half is 0. -/
theorem z3P {n x : Nat} (h : x < Q n) : of (n + 1) x = mk 0 (of n x) := by
  rw [z1O, Nat.div_eq_of_lt h, Nat.mod_eq_of_lt h, z2g]
/-- One level up. -/
def up {n : Nat} (a : T n) : T (n + 1) := mk 0 a
theorem z2n {n : Nat} (a : T n) : (up a).1 = 0 := rfl
theorem z3r {n : Nat} (a : T n) : (up a).2 = a := rfl
theorem val_up {n : Nat} (a : T n) : val (up a) = val a := by rw [z1t, z2n, z3r, z1u, Nat.zero_mul, Nat.zero_add]
theorem up_add {n : Nat} (a b : T n) : up (a + b) = up a + up b := ext (by rw [z31, z2n, z2n, z2n, add_zero]) rfl
theorem up_mul {n : Nat} (a b : T n) : up (a * b) = up a * up b :=
  ext (by simp only [z1M, z2n, z3r, zero_mul, z28, add_zero]) (by simp only [z1N, z2n, z3r, zero_mul, add_zero])
theorem z2K {n : Nat} (a : T n) (b : T (n + 1)) : up a * b = mk (a * b.1) (a * b.2) :=
  ext (by simp only [z1M, z2n, z3r, zero_mul, z28, add_zero, zero_add, z1X]) (by simp only [z1N, z2n, z3r, zero_mul, add_zero, z22])
theorem up_zero (n : Nat) : up (0 : T n) = 0 := rfl
theorem up_one (n : Nat) : up (1 : T n) = 1 := rfl
theorem up_inj {n : Nat} {a b : T n} (h : up a = up b) : a = b := congrArg (fun x : T (n + 1) => x.2) h
/-- Many levels up. -/
def ups {n : Nat} : (d : Nat) → T n → T (n + d)
  | 0, a => a
  | d + 1, a => up (ups d a)
theorem ups_add {n : Nat} (a b : T n) : (d : Nat) → ups d (a + b) = ups d a + ups d b
  | 0 => rfl
  | d + 1 => by show up (ups d (a + b)) = _; rw [ups_add a b d, up_add]; rfl
theorem z5B {n : Nat} (a b : T n) : (d : Nat) → ups d (a * b) = ups d a * ups d b
  | 0 => rfl
  | d + 1 => by show up (ups d (a * b)) = _; rw [z5B a b d, up_mul]; rfl
theorem z3d {n : Nat} (a : T n) : (d : Nat) → val (ups d a) = val a
  | 0 => rfl
  | d + 1 => by show val (up (ups d a)) = _; rw [val_up, z3d a d]
theorem ups_zero {n : Nat} (d : Nat) : ups d (0 : T n) = 0 := z2o (by rw [z3d, z1u, z1u])
theorem ups_one {n : Nat} (d : Nat) : ups d (1 : T n) = 1 := z2o (by rw [z3d, z2p, z2p])
theorem ups_of {n d x : Nat} (h : x < Q n) : ups d (of n x) = of (n + d) x := z2o (by rw [z3d, z1P _ _ h, z1P _ _ (Nat.lt_of_lt_of_le h (z2q (Nat.le_add_right _ _)))])
/-- Products of numbers of a lower level are of it. -/
theorem z3c {n d x y : Nat} (hx : x < Q n) (hy : y < Q n) : val (of (n + d) x * of (n + d) y) = val (of n x * of n y) := by
  rw [← ups_of hx, ← ups_of hy, ← z5B, z3d]
theorem z2A {l m x y : Nat} (h : l ≤ m) (hx : x < Q l) (hy : y < Q l) : val (of m x * of m y) = val (of l x * of l y) := by
  obtain ⟨d, rfl⟩ := Nat.le.dest h
  exact z3c hx hy
theorem z4L {l m x y : Nat} (h : l ≤ m) (hx : x < Q l) (hy : y < Q l) : val (of m x * of m y) < Q l := by
  rw [z2A h hx hy]; exact z1j _
end Go.Proofs.Ytngcaphdkgihmaa.Tw
/- What the functions of layers 1 and 2 on elements tell. Own text. -/
namespace Go.Proofs.Ytngcaphdkgihmaa.Sp
open Go.RowKit Go.Proofs.YtngcaphdkgihmaaW.PrintWords Go.Proofs.YtngcaphdkgihmaaW.PrintMore Go.Proofs.Ytngcaphdkgihmaa.P Go.Proofs.Ytngcaphdkgihmaa.Ar Go.Proofs.Ytngcaphdkgihmaa.Tw
set_option linter.unusedVariables false
set_option linter.unusedSimpArgs false
theorem z2X {n : Nat} (h : n ≤ 6) : Q n ≤ 2 ^ 64 := z2q h
theorem Q_dvd {n : Nat} : Q n = 2 ^ 2 ^ n := rfl
theorem z1J {n : Nat} (h : n ≤ 5) : 2 ^ n ≤ 32 := Nat.pow_le_pow_right (n := 2) (by decide) h
theorem z2S {l : Nat} (h : l + 1 ≤ 1000) : wrap64 (((l + 1 : Nat) : Int) - 1) = (l : Int) := by rw [z26 (by omega) (by omega)]; omega
theorem z3t {n : Nat} (h : n ≤ 5) : Q n < 2 ^ 64 := Nat.pow_lt_pow_right (by decide) (by have := z1J h; omega)
theorem z35 {l : Nat} (hl : l ≤ 5) (x : Nat) (hx : x < 2 ^ 64) : z1k.f ((l + 1 : Nat) : Int) (x : Int) = some (((x / Q l : Nat) : Int), ((x % Q l : Nat) : Int)) := by
  unfold z1k.f
  have h32 := z1J hl
  have hQ := z3t hl
  have hm : IntKind.u64.wrap (((2 ^ 2 ^ l : Nat) : Int) - 1) = ((2 ^ 2 ^ l - 1 : Nat) : Int) := by
    have := Nat.two_pow_pos (2 ^ l)
    unfold Q at hQ
    generalize 2 ^ 2 ^ l = q at *
    rw [z2b (by omega) (by omega)]; omega
  rw [z2S (by omega), if_pos (Int.natCast_nonneg _), z5q l (by omega), if_pos (Int.natCast_nonneg _), z3E x (2 ^ l) (by omega), z2I (2 ^ l) (by omega), hm]
  rw [z1Z x _ hx (by have := Nat.two_pow_pos (2 ^ l); unfold Q at hQ; omega), Nat.and_two_pow_sub_one_eq_mod]
  rfl
theorem z59 {l : Nat} (hl : l ≤ 5) (h x : Nat) (hh : h < Q l) (hx : x < Q l) : z1l.f ((l + 1 : Nat) : Int) (h : Int) (x : Int) = some ((h * Q l + x : Nat) : Int) := by
  unfold z1l.f
  have h32 := z1J hl
  have hQ := z3t hl
  have h6 : Q (l + 1) ≤ 2 ^ 64 := z2X (by omega)
  have hhx : h * Q l + Q l ≤ Q (l + 1) := by
    rw [z2c]
    have := Nat.mul_le_mul_right (Q l) hh
    rw [Nat.succ_mul] at this; exact this
  have hs : shl .u64 (h : Int) (((2 ^ l : Nat) : Int)) = ((h * Q l : Nat) : Int) := by
    unfold shl
    have h64 : IntKind.u64.bits = 64 := rfl
    rw [h64, Int.toNat_natCast, Nat.min_eq_left (by omega)]
    have hc : ((h : Int) * 2 ^ 2 ^ l) = ((h * Q l : Nat) : Int) := by unfold Q; simp
    rw [hc]
    have : h * Q l < 2 ^ 64 := by omega
    generalize h * Q l = z at *
    exact z2b (by omega) (by omega)
  rw [z2S (by omega), if_pos (by omega), z2I l (by omega), hs, z4r _ _ (by omega) (by omega)]
  congr 2
  unfold Q at *
  rw [Nat.mul_comm, ← Nat.two_pow_add_eq_or_of_lt hx]
theorem z5f : ∀ (l : Nat), l ≤ 6 → ∀ (x : Nat), x < Q l → Ev (fun k => zQ.f k (l : Int) (x : Int)) ((val (gen l * of l x) : Nat) : Int) := by
  intro l
  induction l with
  | zero =>
    intro _ x hx
    refine Ev.step (fun k => by rw [zQ.f]) (Ev.pos (by rfl) (Ev.ret' ?_))
    rw [z4j, one_mul, z1P 0 x hx]
  | succ l ih =>
    intro hl x hx
    have hx64 : x < 2 ^ 64 := Nat.lt_of_lt_of_le hx (z2X hl)
    have hd : x / Q l < Q l := Nat.div_lt_of_lt_mul (by rw [← z2c]; exact hx)
    have hm : x % Q l < Q l := Nat.mod_lt _ (z20 l)
    have hQ := z3t (n := l) (by omega)
    refine Ev.step (fun k => by rw [zQ.f]) (Ev.neg (by omega) (Ev.bnd0 (z35 (by omega) x hx64) ?_))
    simp only [z2S (show l + 1 ≤ 1000 by omega)]
    refine Ev.bnd (ih (by omega) _ hd) ?_
    have hv := z1j (gen l * of l (x / Q l))
    simp only [z1C _ _ (Nat.lt_trans hm hQ) (Nat.lt_trans hv hQ)]
    refine Ev.bnd0 (z59 (by omega) _ _ (z1U hm hv) hd) (Ev.ret' ?_)
    congr 1
    rw [z1t (gen (l + 1) * of (l + 1) x)]
    congr 1
    · congr 1
      have e : (gen (l + 1) * of (l + 1) x).1 = of l (x % Q l) + gen l * of l (x / Q l) := by
        rw [z1M, z2e, z2f, one_mul, zero_mul, one_mul, add_zero]; rfl
      rw [e, z1v, z1P _ _ hm]
    · have e : (gen (l + 1) * of (l + 1) x).2 = of l (x / Q l) := by
        rw [z1N, z2e, z2f, one_mul, zero_mul, zero_add]; rfl
      rw [e, z1P _ _ hd]
theorem karatsuba {n : Nat} (a1 a0 b1 b0 z : T n) : (a1 + a0) * (b1 + b0) + a1 * b1 + a0 * b0 + z = (a1 * b0 + a0 * b1) + z := by
  have : (a1 + a0) * (b1 + b0) + a1 * b1 + a0 * b0 = a1 * b0 + a0 * b1 := by
    simp only [z38, add_mul]
    have : ∀ p q r s : T n, p + q + (r + s) + p + s = q + r := fun p q r s => by
      rw [add_comm p q, add_assoc, add_assoc, add_assoc]
      rw [show p + (r + s + (p + s)) = (p + p) + (r + (s + s)) by simp only [add_assoc, z1G, add_comm]]
      rw [z1V, z1V, zero_add, add_zero]
    rw [show a1 * b1 + a0 * b1 + (a1 * b0 + a0 * b0) = a1 * b1 + a0 * b1 + (a1 * b0 + a0 * b0) from rfl, this, add_comm]
  rw [this]
theorem z4p : ∀ (l : Nat), l ≤ 6 → ∀ (x y : Nat), x < Q l → y < Q l → Ev (fun k => zA.f k (l : Int) (x : Int) (y : Int)) ((val (of l x * of l y) : Nat) : Int) := by
  intro l
  have hz : ∀ (l : Nat), l ≤ 6 → ∀ (x y : Nat), x < Q l → y < Q l → (l = 0 ∨ x = 0 ∨ y = 0) → Ev (fun k => zA.j0 k (l : Int) (x : Int) (y : Int) true) ((val (of l x * of l y) : Nat) : Int) := by
    intro l hl x y hx hy h
    have hQ := z2X hl
    refine Ev.step (fun k => by rw [zA.j0]) (Ev.pos rfl (Ev.ret' ?_))
    rw [z1Z x y (by omega) (by omega)]
    have hxy : x &&& y < 2 ^ 64 := Nat.and_lt_two_pow _ (by omega)
    rw [show (1 : Int) = ((1 : Nat) : Int) from rfl, z1Z _ 1 hxy (by decide)]
    congr 1
    rcases h with rfl | rfl | rfl
    · have h1 : x < 2 := hx
      have h2 : y < 2 := hy
      rcases (by omega : x = 0 ∨ x = 1) with rfl | rfl <;> rcases (by omega : y = 0 ∨ y = 1) with rfl | rfl <;> rfl
    · rw [z2g, zero_mul, z1u]; simp
    · rw [z2g, z28, z1u]; simp
  induction l with
  | zero =>
    intro hl x y hx hy
    exact Ev.step (fun k => by rw [zA.f]) (Ev.pos (by rfl) (hz 0 hl x y hx hy (Or.inl rfl)))
  | succ l ih =>
    intro hl x y hx hy
    refine Ev.step (fun k => by rw [zA.f]) (Ev.neg (by omega) ?_)
    by_cases hx0 : x = 0
    · exact Ev.pos (by omega) (hz (l + 1) hl x y hx hy (Or.inr (Or.inl hx0)))
    refine Ev.neg (by omega) ?_
    by_cases hy0 : y = 0
    · rw [show ((y : Int) == 0) = true by simp [hy0]]
      exact hz (l + 1) hl x y hx hy (Or.inr (Or.inr hy0))
    rw [show ((y : Int) == 0) = false by simp [hy0]]
    have hQ := z3t (n := l) (by omega)
    have hx64 : x < 2 ^ 64 := Nat.lt_of_lt_of_le hx (z2X hl)
    have hy64 : y < 2 ^ 64 := Nat.lt_of_lt_of_le hy (z2X hl)
    have hxd : x / Q l < Q l := Nat.div_lt_of_lt_mul (by rw [← z2c]; exact hx)
    have hxm : x % Q l < Q l := Nat.mod_lt _ (z20 l)
    have hyd : y / Q l < Q l := Nat.div_lt_of_lt_mul (by rw [← z2c]; exact hy)
    have hym : y % Q l < Q l := Nat.mod_lt _ (z20 l)
    have hl5 : l ≤ 5 := by omega
    refine Ev.step (fun k => by rw [zA.j0]) (Ev.neg (by decide) (Ev.bnd0 (z35 hl5 x hx64) (Ev.bnd0 (z35 hl5 y hy64) ?_)))
    simp only [z2S (show l + 1 ≤ 1000 by omega)]
    refine Ev.bnd (ih (by omega) _ _ hxd hyd) (Ev.bnd (ih (by omega) _ _ hxm hym) ?_)
    simp only [z1C _ _ (Nat.lt_trans hxd hQ) (Nat.lt_trans hxm hQ), z1C _ _ (Nat.lt_trans hyd hQ) (Nat.lt_trans hym hQ)]
    refine Ev.bnd (ih (by omega) _ _ (z1U hxd hxm) (z1U hyd hym)) ?_
    have v1 := z1j (of l (x / Q l) * of l (y / Q l))
    have v2 := z1j (of l (x % Q l) * of l (y % Q l))
    have v3 := z1j (of l (x / Q l ^^^ x % Q l) * of l (y / Q l ^^^ y % Q l))
    refine Ev.bnd (z5f l (by omega) _ v1) ?_
    have v4 := z1j (gen l * of l (val (of l (x / Q l) * of l (y / Q l))))
    simp only [z1C _ _ (Nat.lt_trans v3 hQ) (Nat.lt_trans v1 hQ), z1C _ _ (Nat.lt_trans (z1U v3 v1) hQ) (Nat.lt_trans v2 hQ), z1C _ _ (Nat.lt_trans (z1U (z1U v3 v1) v2) hQ) (Nat.lt_trans v4 hQ), z1C _ _ (Nat.lt_trans v2 hQ) (Nat.lt_trans v1 hQ)]
    refine Ev.bnd0 (z59 (by omega) _ _ (z1U (z1U (z1U v3 v1) v2) v4) (z1U v2 v1)) (Ev.ret' ?_)
    congr 1
    rw [z1t (of (l + 1) x * of (l + 1) y)]
    congr 1
    · congr 1
      rw [z1M, z1O, z1O, z1X, z22, z1X, z22, ← karatsuba, z1v, z1v, z1v, z5h hxd hxm, z5h hyd hym, z1B]
    · rw [z1N, z1O, z1O, z1X, z22, z1X, z22, z1v]
end Go.Proofs.Ytngcaphdkgihmaa.Sp
namespace Go.Proofs.Ytngcaphdkgihmaa.P
open Go.RowKit Go.Proofs.YtngcaphdkgihmaaW.PrintWords Go.Proofs.YtngcaphdkgihmaaW.PrintLast Go.Proofs.YtngcaphdkgihmaaW.PrintMore
attribute [local go_sem] z17 z19 z1e z1f z12 z13 z18 z1a   -- for this text's walks alone
set_option linter.unusedVariables false
set_option linter.unusedSimpArgs false
def z2z.f  : Option (Int × Int):=some (0,1)
set_option maxHeartbeats 8000000 in
set_option maxRecDepth 100000 in
theorem z2z.calls  (r1 : Int) (r2 : Int) (w : World) (h : z2z.f  = some (r1,r2)) :
 Calls Try.prog 66 #[] w fun e w'=>e = .returned (.agg #[.int .u64 r1,.int .u64 r2]) ∧ Below w.heap.size w w':=by
 have hu51:=Try.underlying51
 have HB:=z7.mk (Below.refl w.heap.size w)
 have H : (some (0,1)) = some (r1,r2):=h
 clear h
 simp only [Option.some.injEq,Prod.mk.injEq] at H
 obtain ⟨rfl,rfl⟩:=H
 go_enter Try.func66,Try.ntmps66
 go_wp2_with (first|((with_reducible refine zG (N:=0) rfl ?_);refine zE ?hg (N:=0) ?hd (cs:=#[.int .u64 0,.int .u64 0]) (t:=51) ?hr ?_;(case hd=>rfl);(case hg=>rfl);(case hr=>first|(go_simp;done)|(go_simp;rfl));intro gb101 hg w1 hbox hb;have n0_:=z7.mk (zg (by repeat (first|(with_reducible first|exact HB.out|apply z4|apply z0|apply z3)|exact HB.out)) hb);have n1_:=z7.mk (hbox);have n2_:=z7.mk ((by rw [hg];exact (zf (by repeat (first|(with_reducible first|exact HB.out|apply z4|apply z0|apply z3)|exact HB.out))) : w.heap.size ≤ gb101));have n3_:=z7.mk ((by rw [hg];exact (zf (by repeat (first|(with_reducible first|exact HB.out|apply z4|apply z0|apply z3)|exact HB.out))) : w.heap.size ≤ gb101));clear HB;have HB:=n0_;have BK101:=n1_;have GW101:=n2_;have GE101:=n3_;clear n0_ n1_ n2_ n3_;clear hb hbox hg;have hcz2_0 : w1.cell? ⟨gb101,0,none⟩ = some (.int .u64 0):=(zb BK101.out 0).trans rfl;have hcz2_1 : w1.cell? ⟨gb101,1,none⟩ = some (.int .u64 0):=(zb BK101.out 1).trans rfl;have hfz2_0:=z8 BK101.out 0;have hfz2_1:=z8 BK101.out 1))
 refine bodyPost_ret (results_cell_row rfl _ _ gb101 51 #[.int .u64 0,.int .u64 1] (0,0) _ rfl (by (with_reducible repeat (first|refine z2 ?_ _|refine z5 ?_|refine z1 ?_ _));refine zq (cs:=#[.int .u64 0,.int .u64 0]) ?_ 1 _ rfl;(with_reducible repeat (first|refine z2 ?_ _|refine z5 ?_|refine z1 ?_ _));refine zq (cs:=#[.int .u64 0,.int .u64 0]) ?_ 0 _ rfl;(with_reducible repeat (first|refine z2 ?_ _|refine z5 ?_|refine z1 ?_ _));exact BK101.out) Try.underlying51 rfl (by kernel_rfl)) rfl ?_
 exact ⟨by first|rfl|(simp [zl,zm] <;> rfl)|(simp [*,zl,zm] <;> rfl),by repeat (first|(with_reducible first|exact HB.out|apply z4|apply z0|apply z3|refine z9 ?_ GE101.out)|exact HB.out)⟩
end Go.Proofs.Ytngcaphdkgihmaa.P
namespace Go.Proofs.Ytngcaphdkgihmaa.P
open Go.RowKit Go.Proofs.YtngcaphdkgihmaaW.PrintWords Go.Proofs.YtngcaphdkgihmaaW.PrintLast Go.Proofs.YtngcaphdkgihmaaW.PrintMore
attribute [local go_sem] z17 z19 z1e z1f z12 z13 z18 z1a   -- for this text's walks alone
set_option linter.unusedVariables false
set_option linter.unusedSimpArgs false
def z1m.f (a0_0 : Int) (a0_1 : Int) (a1_0 : Int) (a1_1 : Int) : Option (Int × Int):=some (Go.bits .xor .u64 a0_0 a1_0,Go.bits .xor .u64 a0_1 a1_1)
set_option maxHeartbeats 8000000 in
set_option maxRecDepth 100000 in
theorem z1m.calls (a0_0 : Int) (a0_1 : Int) (a1_0 : Int) (a1_1 : Int) (r1 : Int) (r2 : Int) (w : World) (h : z1m.f a0_0 a0_1 a1_0 a1_1 = some (r1,r2)) :
 Calls Try.prog 74 #[.agg #[.int .u64 a0_0,.int .u64 a0_1],.agg #[.int .u64 a1_0,.int .u64 a1_1]] w fun e w'=>e = .returned (.agg #[.int .u64 r1,.int .u64 r2]) ∧ Below w.heap.size w w':=by
 have hu61:=Try.underlying61
 have HB:=z7.mk (Below.refl w.heap.size w)
 have H : (some (Go.bits .xor .u64 a0_0 a1_0,Go.bits .xor .u64 a0_1 a1_1)) = some (r1,r2):=h
 clear h
 simp only [Option.some.injEq,Prod.mk.injEq] at H
 obtain ⟨rfl,rfl⟩:=H
 go_enter Try.func74,Try.ntmps74
 go_wp2_with (first|((with_reducible refine zG (N:=2) rfl ?_);refine zE ?hg (N:=2) ?hd (cs:=#[.int .u64 a0_0,.int .u64 a0_1]) (t:=61) ?hr ?_;(case hd=>rfl);(case hg=>rfl);(case hr=>first|(go_simp;done)|(go_simp;rfl));intro gb101 hg w3 hbox hb;have n0_:=z7.mk (zg (by repeat (first|(with_reducible first|exact HB.out|apply z4|apply z0|apply z3)|exact HB.out)) hb);have n1_:=z7.mk (hbox);have n2_:=z7.mk ((by rw [hg];exact (zf (by repeat (first|(with_reducible first|exact HB.out|apply z4|apply z0|apply z3)|exact HB.out))) : w.heap.size ≤ gb101));have n3_:=z7.mk ((by rw [hg];exact (zf (by repeat (first|(with_reducible first|exact HB.out|apply z4|apply z0|apply z3)|exact HB.out))) : w.heap.size ≤ gb101));clear HB;have HB:=n0_;have BK101:=n1_;have GW101:=n2_;have GE101:=n3_;clear n0_ n1_ n2_ n3_;clear hb hbox hg)|((with_reducible refine zG (N:=3) rfl ?_);refine zE ?hg (N:=3) ?hd (cs:=#[.int .u64 a1_0,.int .u64 a1_1]) (t:=61) ?hr ?_;(case hd=>rfl);(case hg=>rfl);(case hr=>first|(go_simp;done)|(go_simp;rfl));intro gb102 hg w4 hbox hb;have n0_:=z7.mk (zk (g:=gb101) (o:=.cells #[.int .u64 a0_0,.int .u64 a0_1] 61 (0,0)) (by (with_reducible repeat (first|refine z2 ?_ _|refine z5 ?_|refine z1 ?_ _));exact BK101.out) hb);have n1_:=z7.mk (zg (by repeat (first|(with_reducible first|exact HB.out|apply z4|apply z0|apply z3|refine z9 ?_ GE101.out)|exact HB.out)) hb);have n2_:=z7.mk (hbox);have n3_:=z7.mk ((by rw [hg];exact (zf (by repeat (first|(with_reducible first|exact HB.out|apply z4|apply z0|apply z3|refine z9 ?_ GE101.out)|exact HB.out))) : w.heap.size ≤ gb102));have n4_:=z7.mk ((by rw [hg];exact (zf (by repeat (first|(with_reducible first|exact HB.out|apply z4|apply z0|apply z3|refine z9 ?_ GE101.out)|exact HB.out))) : w.heap.size ≤ gb102));have n5_:=z7.mk ((by rw [hg];exact Nat.ne_of_lt (zP (g:=gb101) (o:=.cells #[.int .u64 a0_0,.int .u64 a0_1] 61 (0,0)) (by (with_reducible repeat (first|refine z2 ?_ _|refine z5 ?_|refine z1 ?_ _));exact BK101.out)) : gb101 ≠ gb102));have n6_:=z7.mk ((by rw [hg];exact Nat.ne_of_gt (zP (g:=gb101) (o:=.cells #[.int .u64 a0_0,.int .u64 a0_1] 61 (0,0)) (by (with_reducible repeat (first|refine z2 ?_ _|refine z5 ?_|refine z1 ?_ _));exact BK101.out)) : gb102 ≠ gb101));clear BK101;clear HB;have BK101:=n0_;have HB:=n1_;have BK102:=n2_;have GW102:=n3_;have GE102:=n4_;have NB101_102:=n5_;have NB102_101:=n6_;clear n0_ n1_ n2_ n3_ n4_ n5_ n6_;clear hb hbox hg)|((with_reducible refine zG (N:=4) rfl ?_);refine zE ?hg (N:=4) ?hd (cs:=#[.int .u64 0,.int .u64 0]) (t:=61) ?hr ?_;(case hd=>rfl);(case hg=>rfl);(case hr=>first|(go_simp;done)|(go_simp;rfl));intro gb103 hg w5 hbox hb;have n0_:=z7.mk (zk (g:=gb101) (o:=.cells #[.int .u64 a0_0,.int .u64 a0_1] 61 (0,0)) (by (with_reducible repeat (first|refine z2 ?_ _|refine z5 ?_|refine z1 ?_ _));exact BK101.out) hb);have n1_:=z7.mk (zk (g:=gb102) (o:=.cells #[.int .u64 a1_0,.int .u64 a1_1] 61 (0,0)) (by (with_reducible repeat (first|refine z2 ?_ _|refine z5 ?_|refine z1 ?_ _));exact BK102.out) hb);have n2_:=z7.mk (zg (by repeat (first|(with_reducible first|exact HB.out|apply z4|apply z0|apply z3|refine z9 ?_ GE101.out|refine z9 ?_ GE102.out)|exact HB.out)) hb);have n3_:=z7.mk (hbox);have n4_:=z7.mk ((by rw [hg];exact (zf (by repeat (first|(with_reducible first|exact HB.out|apply z4|apply z0|apply z3|refine z9 ?_ GE101.out|refine z9 ?_ GE102.out)|exact HB.out))) : w.heap.size ≤ gb103));have n5_:=z7.mk ((by rw [hg];exact (zf (by repeat (first|(with_reducible first|exact HB.out|apply z4|apply z0|apply z3|refine z9 ?_ GE101.out|refine z9 ?_ GE102.out)|exact HB.out))) : w.heap.size ≤ gb103));have n6_:=z7.mk ((by rw [hg];exact Nat.ne_of_lt (zP (g:=gb101) (o:=.cells #[.int .u64 a0_0,.int .u64 a0_1] 61 (0,0)) (by (with_reducible repeat (first|refine z2 ?_ _|refine z5 ?_|refine z1 ?_ _));exact BK101.out)) : gb101 ≠ gb103));have n7_:=z7.mk ((by rw [hg];exact Nat.ne_of_gt (zP (g:=gb101) (o:=.cells #[.int .u64 a0_0,.int .u64 a0_1] 61 (0,0)) (by (with_reducible repeat (first|refine z2 ?_ _|refine z5 ?_|refine z1 ?_ _));exact BK101.out)) : gb103 ≠ gb101));have n8_:=z7.mk ((by rw [hg];exact Nat.ne_of_lt (zP (g:=gb102) (o:=.cells #[.int .u64 a1_0,.int .u64 a1_1] 61 (0,0)) (by (with_reducible repeat (first|refine z2 ?_ _|refine z5 ?_|refine z1 ?_ _));exact BK102.out)) : gb102 ≠ gb103));have n9_:=z7.mk ((by rw [hg];exact Nat.ne_of_gt (zP (g:=gb102) (o:=.cells #[.int .u64 a1_0,.int .u64 a1_1] 61 (0,0)) (by (with_reducible repeat (first|refine z2 ?_ _|refine z5 ?_|refine z1 ?_ _));exact BK102.out)) : gb103 ≠ gb102));clear BK101;clear BK102;clear HB;have BK101:=n0_;have BK102:=n1_;have HB:=n2_;have BK103:=n3_;have GW103:=n4_;have GE103:=n5_;have NB101_103:=n6_;have NB103_101:=n7_;have NB102_103:=n8_;have NB103_102:=n9_;clear n0_ n1_ n2_ n3_ n4_ n5_ n6_ n7_ n8_ n9_;clear hb hbox hg;have hnb6:=NB101_102.out;have hnc6:=NB102_101.out;have hnb7:=NB101_103.out;have hnc7:=NB103_101.out;have hcz8_0 : w5.cell? ⟨gb101,0,none⟩ = some (.int .u64 a0_0):=(zb BK101.out 0).trans rfl;have hcz8_1 : w5.cell? ⟨gb101,1,none⟩ = some (.int .u64 a0_1):=(zb BK101.out 1).trans rfl;have hfz8_0:=z8 BK101.out 0;have hfz8_1:=z8 BK101.out 1;have hnb9:=NB102_103.out;have hnc9:=NB103_102.out;have hcz10_0 : w5.cell? ⟨gb102,0,none⟩ = some (.int .u64 a1_0):=(zb BK102.out 0).trans rfl;have hcz10_1 : w5.cell? ⟨gb102,1,none⟩ = some (.int .u64 a1_1):=(zb BK102.out 1).trans rfl;have hfz10_0:=z8 BK102.out 0;have hfz10_1:=z8 BK102.out 1;have hcz11_0 : w5.cell? ⟨gb103,0,none⟩ = some (.int .u64 0):=(zb BK103.out 0).trans rfl;have hcz11_1 : w5.cell? ⟨gb103,1,none⟩ = some (.int .u64 0):=(zb BK103.out 1).trans rfl;have hfz11_0:=z8 BK103.out 0;have hfz11_1:=z8 BK103.out 1))
 refine bodyPost_ret (results_cell_row rfl _ _ gb103 61 #[.int .u64 (Go.bits .xor .u64 a0_0 a1_0),.int .u64 (Go.bits .xor .u64 a0_1 a1_1)] (0,0) _ rfl (by (with_reducible repeat (first|refine z2 ?_ _|refine z5 ?_|refine z1 ?_ _));refine zq (cs:=#[.int .u64 (Go.bits .xor .u64 a0_0 a1_0),.int .u64 0]) ?_ 1 _ rfl;(with_reducible repeat (first|refine z2 ?_ _|refine z5 ?_|refine z1 ?_ _));refine zq (cs:=#[.int .u64 0,.int .u64 0]) ?_ 0 _ rfl;(with_reducible repeat (first|refine z2 ?_ _|refine z5 ?_|refine z1 ?_ _));exact BK103.out) Try.underlying61 rfl (by kernel_rfl)) rfl ?_
 exact ⟨by first|rfl|(simp [zl,zm] <;> rfl)|(simp [*,zl,zm] <;> rfl),by repeat (first|(with_reducible first|exact HB.out|apply z4|apply z0|apply z3|refine z9 ?_ GE101.out|refine z9 ?_ GE102.out|refine z9 ?_ GE103.out)|exact HB.out)⟩
end Go.Proofs.Ytngcaphdkgihmaa.P
/- Elements of the greatest level, as the program and the document hold them: two words. Own text. -/
namespace Go.Proofs.Ytngcaphdkgihmaa.Sp
open Go.RowKit Go.Proofs.YtngcaphdkgihmaaW.PrintWords Go.Proofs.YtngcaphdkgihmaaW.PrintMore Go.Proofs.Ytngcaphdkgihmaa.P Go.Proofs.Ytngcaphdkgihmaa.Ar Go.Proofs.Ytngcaphdkgihmaa.Tw
set_option linter.unusedVariables false
set_option linter.unusedSimpArgs false
abbrev E := T 7
/-- The higher and the lower word. -/
def hi (x : E) : Int := ((val x.1 : Nat) : Int)
def lo (x : E) : Int := ((val x.2 : Nat) : Int)
def el (h l : Int) : E := mk (of 6 h.toNat) (of 6 l.toNat)
theorem hi_el {h l : Int} (h0 : 0 ≤ h) (h1 : h < 18446744073709551616) : hi (el h l) = h := by
  unfold hi el; rw [z1X, z1P 6 _ (by rw [z4C]; omega)]; omega
theorem lo_el {h l : Int} (h0 : 0 ≤ l) (h1 : l < 18446744073709551616) : lo (el h l) = l := by
  unfold lo el; rw [z22, z1P 6 _ (by rw [z4C]; omega)]; omega
theorem z4k {x y : E} (h : hi x = hi y) (l : lo x = lo y) : x = y := by
  unfold hi lo at *; exact ext (z2o (by omega)) (z2o (by omega))
theorem z2E : hi 0 = 0 := by unfold hi; rw [z2T, z1u]; rfl
theorem z2G : lo 0 = 0 := by unfold lo; rw [z2U, z1u]; rfl
theorem hi_one : hi 1 = 0 := by unfold hi; rw [z3A, z1u]; rfl
theorem lo_one : lo 1 = 1 := by unfold lo; rw [z3B, z2p]; rfl
theorem hi_bd (x : E) : 0 ≤ hi x ∧ hi x < 18446744073709551616 := by
  unfold hi; have := z1j x.1; rw [z4C] at this; omega
theorem z5d (x : E) : 0 ≤ lo x ∧ lo x < 18446744073709551616 := by
  unfold lo; have := z1j x.2; rw [z4C] at this; omega
theorem z3s (x : E) : val x = (hi x).toNat * 18446744073709551616 + (lo x).toNat := by
  unfold hi lo; rw [z1t, z4C]; simp
theorem eq_zero_iff (x : E) : x = 0 ↔ hi x = 0 ∧ lo x = 0 := ⟨fun h => by rw [h]; exact ⟨z2E, z2G⟩, fun h => z4k (h.1.trans z2E.symm) (h.2.trans z2G.symm)⟩
theorem xor_hi (x y : E) : Go.bits .xor .u64 (hi x) (hi y) = hi (x + y) := by
  unfold hi; rw [z1C _ _ (z1j x.1) (z1j y.1), z31, z1v]
theorem xor_lo (x y : E) : Go.bits .xor .u64 (lo x) (lo y) = lo (x + y) := by
  unfold lo; rw [z1C _ _ (z1j x.2) (z1j y.2), z3w, z1v]
/-- Of a level. -/
def InL (l : Nat) (x : E) : Prop := val x < Q l
instance (l : Nat) (x : E) : Decidable (InL l x) := by unfold InL; infer_instance
def OfS (L : Int) (x : E) : Prop := 0 ≤ L ∧ L ≤ 7 ∧ InL L.toNat x
instance (L : Int) (x : E) : Decidable (OfS L x) := by unfold OfS; infer_instance
theorem z57 (x : E) : InL 7 x := z1j x
theorem z4l (l : Nat) : InL l 0 := by unfold InL; rw [z1u]; exact z20 l
theorem inL_one (l : Nat) : InL l 1 := by unfold InL; rw [z2p]; exact Nat.lt_of_lt_of_le (by decide : 1 < Q 0) (z2q (Nat.zero_le _))
theorem inL_mono {l m : Nat} (h : l ≤ m) {x : E} (hx : InL l x) : InL m x := Nat.lt_of_lt_of_le hx (z2q h)
theorem inL_add {l : Nat} {x y : E} (hx : InL l x) (hy : InL l y) : InL l (x + y) := by
  unfold InL at *; rw [z1v]; exact z1U hx hy
theorem z56 {l : Nat} (hl : l ≤ 7) {x y : E} (hx : InL l x) (hy : InL l y) : InL l (x * y) := by
  unfold InL at *; have := z4L hl hx hy; rwa [z1B, z1B] at this
theorem z58 {x : E} : InL 6 x ↔ hi x = 0 := by
  unfold InL; have h := z3s x; have h1 := hi_bd x; have h2 := z5d x
  rw [z4C, h]; constructor <;> intro g <;> omega
theorem z3z {l : Nat} (hl : l ≤ 6) {x : E} : InL l x ↔ hi x = 0 ∧ (lo x).toNat < Q l := by
  constructor
  · intro h
    have h6 := z58.1 (inL_mono hl h)
    refine ⟨h6, ?_⟩
    unfold InL at h; rw [z3s, h6] at h; simpa using h
  · rintro ⟨h1, h2⟩
    unfold InL; rw [z3s, h1]; simpa using h2
theorem z4G (L : Int) (x : E) : Ev (fun k => zJ.f k L (hi x) (lo x)) (decide (OfS L x)) := by
  unfold zJ.f
  by_cases h0 : L < 0
  · refine Ev.pos h0 (Ev.step (fun k => by rw [zJ.j0]) (Ev.pos rfl (Ev.ret' ?_)))
    symm; rw [decide_eq_false_iff_not]; rintro ⟨h, _⟩; omega
  refine Ev.neg h0 ?_
  by_cases h7 : L > 7
  · rw [decide_eq_true h7]
    refine Ev.step (fun k => by rw [zJ.j0]) (Ev.pos rfl (Ev.ret' ?_))
    symm; rw [decide_eq_false_iff_not]; rintro ⟨_, h, _⟩; omega
  rw [decide_eq_false h7]
  refine Ev.step (fun k => by rw [zJ.j0]) (Ev.neg (by decide) ?_)
  obtain ⟨l, rfl⟩ := Int.eq_ofNat_of_zero_le (show 0 ≤ L by omega)
  have hS : OfS (l : Int) x ↔ InL l x := by
    unfold OfS; rw [Int.toNat_natCast]; exact ⟨fun h => h.2.2, fun h => ⟨by omega, by omega, h⟩⟩
  by_cases c7 : (l : Int) = 7
  · refine Ev.pos c7 (Ev.ret' ?_)
    have : l = 7 := by omega
    subst this
    symm; rw [decide_eq_true_eq, hS]; exact z57 x
  refine Ev.neg c7 ?_
  by_cases c6 : (l : Int) = 6
  · refine Ev.pos c6 (Ev.ret' ?_)
    have : l = 6 := by omega
    subst this
    rw [Bool.eq_iff_iff, beq_iff_eq, decide_eq_true_eq, hS]; exact z58.symm
  refine Ev.neg c6 ?_
  have hl5 : l ≤ 5 := by omega
  have hl := z3z (l := l) (by omega) (x := x)
  by_cases c0 : hi x = 0
  · refine Ev.pos c0 (Ev.pos (Int.natCast_nonneg _) (Ev.ret' ?_))
    have h32 := z1J hl5
    have hlo : lo x = (((lo x).toNat : Nat) : Int) := by have := z5d x; omega
    rw [z2I l (by omega), hlo, z3E _ (2 ^ l) (by omega)]
    rw [Bool.eq_iff_iff, beq_iff_eq, decide_eq_true_eq, hS, hl]
    have hq : (lo x).toNat / 2 ^ 2 ^ l = 0 ↔ (lo x).toNat < Q l := by
      rw [Nat.div_eq_zero_iff]; unfold Q
      have := Nat.two_pow_pos (2 ^ l)
      omega
    constructor
    · intro h; exact ⟨c0, hq.1 (by exact_mod_cast h)⟩
    · rintro ⟨_, h⟩; exact_mod_cast hq.2 h
  · refine Ev.neg c0 (Ev.ret' ?_)
    symm; rw [decide_eq_false_iff_not, hS, hl]; exact fun h => c0 h.1
theorem Add_eq (x y : E) : z25.f (hi x) (lo x) (hi y) (lo y) = some (hi (x + y), lo (x + y)) := by
  unfold z25.f; rw [xor_hi, xor_lo]
theorem z3V (x y : E) : z1m.f (hi x) (lo x) (hi y) (lo y) = some (hi (x + y), lo (x + y)) := by
  unfold z1m.f; rw [xor_hi, xor_lo]
theorem One_eq : z2z.f = some (hi 1, lo 1) := by unfold z2z.f; rw [hi_one, lo_one]
theorem Mul_out {L : Int} {x y : E} (h : ¬ (OfS L x ∧ OfS L y)) : Ev (fun k => zZ.f k L (hi x) (lo x) (hi y) (lo y)) (0, 0) := by
  unfold zZ.f
  refine Ev.bnd (z4G L x) ?_
  by_cases c : OfS L x
  · refine Ev.pos (decide_eq_true c) (Ev.bnd (z4G L y) ?_)
    rw [decide_eq_false (fun g => h ⟨c, g⟩)]
    exact Ev.step (fun k => by rw [zZ.j0]) (Ev.pos (by rfl) (Ev.ret _))
  · exact Ev.neg (by simpa using c) (Ev.step (fun k => by rw [zZ.j0]) (Ev.pos rfl (Ev.ret _)))
theorem Mul_ev {l : Nat} (hl : l ≤ 7) {x y : E} (hx : InL l x) (hy : InL l y) : Ev (fun k => zZ.f k (l : Int) (hi x) (lo x) (hi y) (lo y)) (hi (x * y), lo (x * y)) := by
  unfold zZ.f
  have hS : ∀ z, InL l z → OfS (l : Int) z := fun z hz => ⟨by omega, by omega, by rw [Int.toNat_natCast]; exact hz⟩
  refine Ev.bnd (z4G (l : Int) x) (Ev.pos (decide_eq_true (hS x hx)) (Ev.bnd (z4G (l : Int) y) ?_))
  rw [decide_eq_true (hS y hy)]
  refine Ev.step (fun k => by rw [zZ.j0]) (Ev.neg (by decide) ?_)
  by_cases c : l ≤ 6
  · refine Ev.pos (by omega) ?_
    have ex := (z3z c).1 hx
    have ey := (z3z c).1 hy
    have e1 : lo x = (((lo x).toNat : Nat) : Int) := by have := z5d x; omega
    have e2 : lo y = (((lo y).toNat : Nat) : Int) := by have := z5d y; omega
    have ev := z4p l c (lo x).toNat (lo y).toNat ex.2 ey.2
    rw [← e1, ← e2] at ev
    refine Ev.bnd ev (Ev.ret' ?_)
    have hz := (z3z c).1 (z56 hl hx hy)
    have e3 : lo (x * y) = (((lo (x * y)).toNat : Nat) : Int) := by have := z5d (x * y); omega
    rw [hz.1, e3]
    congr 2
    have vx : val x = (lo x).toNat := by rw [z3s, ex.1]; simp
    have vy : val y = (lo y).toNat := by rw [z3s, ey.1]; simp
    have vz : val (x * y) = (lo (x * y)).toNat := by rw [z3s, hz.1]; simp
    rw [← vz, ← vx, ← vy, ← z2A hl hx hy, z1B, z1B]
  · have : l = 7 := by omega
    subst this
    refine Ev.neg (by decide) ?_
    have v1 := z1j x.1
    have v2 := z1j x.2
    have v3 := z1j y.1
    have v4 := z1j y.2
    have m1 := z4p 6 (by decide) _ _ v1 v3
    have m2 := z4p 6 (by decide) _ _ v2 v4
    have m3 := z4p 6 (by decide) _ _ (z1U v1 v2) (z1U v3 v4)
    rw [z1B, z1B] at m1 m2
    rw [← z1v, ← z1v, z1B, z1B] at m3
    have m4 := z5f 6 (by decide) _ (z1j (x.1 * y.1))
    rw [z1B] at m4
    refine Ev.bnd m1 (Ev.bnd m2 ?_)
    have e1 : Go.bits .xor .u64 (hi x) (lo x) = ((val (x.1 + x.2) : Nat) : Int) := by unfold hi lo; rw [z1C _ _ v1 v2, z1v]
    have e2 : Go.bits .xor .u64 (hi y) (lo y) = ((val (y.1 + y.2) : Nat) : Int) := by unfold hi lo; rw [z1C _ _ v3 v4, z1v]
    simp only [e1, e2]
    refine Ev.bnd m3 (Ev.bnd m4 (Ev.ret' ?_))
    rw [z1C _ _ (z1j _) (z1j _), ← z1v, z1C _ _ (z1j _) (z1j _), ← z1v, z1C _ _ (z1j _) (z1j _), ← z1v, z1C _ _ (z1j _) (z1j _), ← z1v, karatsuba]
    rfl
/-- The program's element, the document's. -/
def toS (x : E) : S51 := ⟨hi x, lo x⟩
def toR (x : E) : S61 := ⟨hi x, lo x⟩
def WfS (e : S51) : Prop := (0 ≤ e.f0 ∧ e.f0 < 18446744073709551616) ∧ (0 ≤ e.f1 ∧ e.f1 < 18446744073709551616)
theorem z5x (x : E) : (toS x).f0 = hi x := rfl
theorem z5y (x : E) : (toS x).f1 = lo x := rfl
theorem toR_f0 (x : E) : (toR x).f0 = hi x := rfl
theorem toR_f1 (x : E) : (toR x).f1 = lo x := rfl
theorem z4y : toS 0 = z51 := by unfold toS; rw [z2E, z2G]; rfl
theorem z4x : toR 0 = z61 := by unfold toR; rw [z2E, z2G]; rfl
theorem z5w (e : S51) (h : WfS e) : toS (el e.f0 e.f1) = e := by unfold toS; rw [hi_el h.1.1 h.1.2, lo_el h.2.1 h.2.2]
theorem toS_inj {x y : E} (h : toS x = toS y) : x = y := by
  unfold toS at h; injection h with h1 h2; exact z4k h1 h2
theorem wf_of {e : S51} (h : (Lit.int .u64 e.f0).wf = true ∧ (Lit.int .u64 e.f1).wf = true) : WfS e := ⟨wf_u64 h.1, wf_u64 h.2⟩
/-- A list that came in is a list of elements. -/
theorem list_of (l : List S51) (h : ∀ e ∈ l, ((Lit.int .u64 e.f0).wf = true) ∧ ((Lit.int .u64 e.f1).wf = true)) : ∃ X : List E, l = X.map toS := by
  refine ⟨l.map fun e => el e.f0 e.f1, ?_⟩
  rw [List.map_map]
  conv => lhs; rw [← List.map_id l]
  apply List.map_congr_left
  intro e he
  exact (z5w e (wf_of (h e he))).symm
theorem elem_of (e : S51) (h : ((Lit.int .u64 e.f0).wf = true) ∧ ((Lit.int .u64 e.f1).wf = true)) : ∃ x : E, e = toS x := ⟨_, (z5w e (wf_of h)).symm⟩
theorem rdS (X : List E) (i : Nat) : zT (X.map toS) (i : Int) = toS (X.getD i 0) := by
  unfold zT; rw [Int.toNat_natCast, ← z4y, List.getD_eq_getElem?_getD, List.getD_eq_getElem?_getD, List.getElem?_map]
  cases X[i]? <;> rfl
theorem rdR (X : List E) (i : Nat) : zS (X.map toR) (i : Int) = toR (X.getD i 0) := by
  unfold zS; rw [Int.toNat_natCast, ← z4x, List.getD_eq_getElem?_getD, List.getD_eq_getElem?_getD, List.getElem?_map]
  cases X[i]? <;> rfl
end Go.Proofs.Ytngcaphdkgihmaa.Sp
namespace Go.Proofs.Ytngcaphdkgihmaa.P
open Go.RowKit Go.Proofs.YtngcaphdkgihmaaW.PrintWords Go.Proofs.YtngcaphdkgihmaaW.PrintLast Go.Proofs.YtngcaphdkgihmaaW.PrintMore
attribute [local go_sem] z17 z19 z1e z1f z12 z13 z18 z1a   -- for this text's walks alone
set_option linter.unusedVariables false
set_option linter.unusedSimpArgs false
def zK.l0 : Nat → Int → List (S61) → Int → Option (Bool)
 | 0,_,_,_=>none
 | k + 1,x0,x1,x5=>if x5 < (x1.length : Int) then (if 0 ≤ x5 then ((zo.f k x0 ((zS x1 x5).f0) ((zS x1 x5).f1)).bind fun t102=>(if t102 = true then (zK.l0 k x0 x1 (wrap64 (x5 + 1))) else (some false))) else (none)) else (some true)
def zK.f (k : Nat) (a0 : Int) (l1 : List (S61)) : Option (Bool):=zK.l0 k a0 l1 0
theorem zK.z1b : ∀ k,(∀ y0 y1 y2,LeO (zK.l0 k y0 y1 y2) (zK.l0 (k + 1) y0 y1 y2))
 | 0=>fun _ _ _ r h=>by simp [zK.l0] at h
 | k + 1=>by
  have ih0:=zK.z1b k
  · intro y0 y1 y2
    unfold zK.l0
    repeat' first
    | (with_reducible exact ih0 _ _ _)
    | (with_reducible exact zo.mono _ _ _ _)
    | (with_reducible exact LeO.refl _)
    | (with_reducible exact LeO.none _)
    | (with_reducible refine LeO.ite ?_ ?_)
    | (with_reducible refine LeO.bind ?_ (fun _=>?_))
    | exact ih0 _ _ _
    | exact zo.mono _ _ _ _
    | exact LeO.none _
    | refine LeO.ite ?_ ?_
    | refine LeO.bind ?_ (fun _=>?_)
theorem zK.mono : ∀ a0 a1 k,LeO (zK.f k a0 a1) (zK.f (k + 1) a0 a1):=by
 intro a0 a1 k
 have ih0:=zK.z1b k
 unfold zK.f
 repeat' first
  | (with_reducible exact ih0 _ _ _)
  | (with_reducible exact zo.mono _ _ _ _)
  | (with_reducible exact LeO.refl _)
  | (with_reducible exact LeO.none _)
  | (with_reducible refine LeO.ite ?_ ?_)
  | (with_reducible refine LeO.bind ?_ (fun _=>?_))
  | exact ih0 _ _ _
  | exact zo.mono _ _ _ _
  | exact LeO.none _
  | refine LeO.ite ?_ ?_
  | refine LeO.bind ?_ (fun _=>?_)
set_option maxHeartbeats 8000000 in
set_option maxRecDepth 100000 in
theorem zK.calls (k : Nat) (a0 : Int) (A1 : Option Addr) (c1 : Nat) (l1 : List (S61)) (r : Bool) (w : World) (hr1 : Kd.C k61 w A1 l1.length l1) (hc1 : l1.length ≤ c1) (h : zK.f k a0 l1 = some r) :
 Calls Try.prog 46 #[.int .i64 a0,.slice A1 l1.length c1] w fun e w'=>e = .returned (.bool r) ∧ Below w.heap.size w w':=by
 have hu61:=Try.underlying61
 have HR1:=z7.mk hr1
 have HC1:=z7.mk hc1
 clear hr1 hc1
 have HB:=z7.mk (Below.refl w.heap.size w)
 have H : (zK.l0 k a0 l1 0) = some r:=h
 clear h
 have H':=z7.mk H
 clear H
 go_enter Try.func46,Try.ntmps46
 go_wp2
 go_loopg [5] k (fun kq v5 w'=>∃ (x5_1 : Int),v5 = .int .i64 x5_1 ∧ z7 (zK.l0 kq a0 l1 x5_1 = some r) ∧ z7 (kq ≤ k) ∧ z7 (Below w.heap.size w w'))
 case atStart=>exact ⟨(0),(by first|rfl|(simp;done)|(simp [*];done)),H',⟨Nat.le_refl _⟩,⟨by repeat (first|(with_reducible first|exact HB.out|apply z4|apply z0|apply z3)|exact HB.out)⟩⟩
 case round =>
  clear H'
  (try clear c1);(try clear p2)
  obtain ⟨x5_1,rfl,HA,HK1,HB⟩:=hrel
  cases gk with
  | zero=>exact absurd HA.out (by simp [zK.l0])
  | succ k1 =>
   have H:=HA.out
   clear HA
   simp only [zK.l0] at H
   by_cases c3 : x5_1 < (l1.length : Int)
   rotate_left
   · rw [if_neg c3] at H
     have c3b0 : decide (x5_1 < (l1.length : Int)) = false:=decide_eq_false c3
     clear c3
     obtain rfl:=Option.some.inj H
     go_wp2
     go_ret
     exact ⟨by first|rfl|(simp [zl,zm] <;> rfl)|(simp [*,zl,zm] <;> rfl),by repeat (first|(with_reducible first|exact HB.out|apply z4|apply z0|apply z3)|exact HB.out)⟩
   rw [if_pos c3] at H
   have c3b0 : decide (x5_1 < (l1.length : Int)) = true:=decide_eq_true c3
   clear c3
   by_cases c4 : 0 ≤ x5_1
   rotate_left
   · rw [if_neg c4] at H
     exact absurd H (by simp)
   rw [if_pos c4] at H
   have c4b0 : decide (0 ≤ x5_1) = true:=decide_eq_true c4
   clear c4
   replace H:=Option.bind_eq_some_iff.mp H
   obtain ⟨t102,A50,H⟩:=H
   replace H : (if t102 = true then (zK.l0 k1 a0 l1 (wrap64 (x5_1 + 1))) else (some false)) = some r:=H
   have A5:=z7.mk A50
   clear A50
   by_cases c6 : t102 = true
   rotate_left
   · replace c6:=Bool.eq_false_iff.mpr c6
     subst c6
     have H1 : (some false) = some r:=by rw [if_neg (show ¬ (false = true) by decide)] at H;exact H
     clear H
     have H:=H1
     clear H1
     obtain rfl:=Option.some.inj H
     have p101 : 0 ≤ (x5_1 : Int):=of_decide_eq_true (by first|(with_reducible assumption)|assumption)
     have q101 : x5_1 < (l1.length : Int):=of_decide_eq_true (by first|(with_reducible assumption)|assumption)
     obtain ⟨ad101,e101,hx101_0,hx101_1⟩:=z1W HR1.out x5_1 p101 q101
     cases e101
     replace hx101_0:=(HB.out.cell (World.block_lt_of_cell? w _ hx101_0)).trans hx101_0
     replace hx101_1:=(HB.out.cell (World.block_lt_of_cell? w _ hx101_1)).trans hx101_1
     replace p101:=eq_true p101
     replace q101:=eq_true q101
     go_wp2_with (first|((with_reducible refine zB (f:=39) rfl ?_);refine goesL_ (some 17) rfl rfl Try.func39 (by kernel_rfl) rfl #[.int .i64 a0,.agg #[.int .u64 ((zS l1 x5_1).f0),.int .u64 ((zS l1 x5_1).f1)]] rfl (by (try simp only [List.map_toArray,List.map_cons,List.map_nil]);first|done|rfl|(simp only [List.length_drop,List.length_take];rfl)) ?_;(with_reducible refine (zo.calls k1 a0 ((zS l1 x5_1).f0) ((zS l1 x5_1).f1) false _ A5.out).mono ?_);rintro e w8 ⟨rfl,hb⟩;refine ⟨_,rfl,?_⟩;have n0_:=z7.mk (zg (by repeat (first|(with_reducible first|exact HB.out|apply z4|apply z0|apply z3)|exact HB.out)) hb);clear HB;have HB:=n0_;clear n0_;(try clear hb);(try clear hb2);(try clear hk);(try clear hi)))
     go_ret
     exact ⟨by first|rfl|(simp [zl,zm] <;> rfl)|(simp [*,zl,zm] <;> rfl),by repeat (first|(with_reducible first|exact HB.out|apply z4|apply z0|apply z3)|exact HB.out)⟩
   subst c6
   have H1 : (zK.l0 k1 a0 l1 (wrap64 (x5_1 + 1))) = some r:=by rw [if_pos rfl] at H;exact H
   clear H
   have H:=H1
   clear H1
   have H':=z7.mk H
   clear H
   have p101 : 0 ≤ (x5_1 : Int):=of_decide_eq_true (by first|(with_reducible assumption)|assumption)
   have q101 : x5_1 < (l1.length : Int):=of_decide_eq_true (by first|(with_reducible assumption)|assumption)
   obtain ⟨ad101,e101,hx101_0,hx101_1⟩:=z1W HR1.out x5_1 p101 q101
   cases e101
   replace hx101_0:=(HB.out.cell (World.block_lt_of_cell? w _ hx101_0)).trans hx101_0
   replace hx101_1:=(HB.out.cell (World.block_lt_of_cell? w _ hx101_1)).trans hx101_1
   replace p101:=eq_true p101
   replace q101:=eq_true q101
   go_wp2_with (first|((with_reducible refine zB (f:=39) rfl ?_);refine goesL_ (some 17) rfl rfl Try.func39 (by kernel_rfl) rfl #[.int .i64 a0,.agg #[.int .u64 ((zS l1 x5_1).f0),.int .u64 ((zS l1 x5_1).f1)]] rfl (by (try simp only [List.map_toArray,List.map_cons,List.map_nil]);first|done|rfl|(simp only [List.length_drop,List.length_take];rfl)) ?_;(with_reducible refine (zo.calls k1 a0 ((zS l1 x5_1).f0) ((zS l1 x5_1).f1) true _ A5.out).mono ?_);rintro e w7 ⟨rfl,hb⟩;refine ⟨_,rfl,?_⟩;have n0_:=z7.mk (zg (by repeat (first|(with_reducible first|exact HB.out|apply z4|apply z0|apply z3)|exact HB.out)) hb);clear HB;have HB:=n0_;clear n0_;(try clear hb);(try clear hb2);(try clear hk);(try clear hi)))
   go_roundg k1
   case measure=>have:=HK1.out;omega
   case rel=>exact ⟨(wrap64 (x5_1 + 1)),(by first|rfl|(simp;done)|(simp [*];done)),H',⟨by have:=HK1.out;omega⟩,⟨by repeat (first|(with_reducible first|exact HB.out|apply z4|apply z0|apply z3)|exact HB.out)⟩⟩
end Go.Proofs.Ytngcaphdkgihmaa.P
namespace Go.Proofs.Ytngcaphdkgihmaa.P
open Go.RowKit Go.Proofs.YtngcaphdkgihmaaW.PrintWords Go.Proofs.YtngcaphdkgihmaaW.PrintLast Go.Proofs.YtngcaphdkgihmaaW.PrintMore
attribute [local go_sem] z17 z19 z1e z1f z12 z13 z18 z1a   -- for this text's walks alone
set_option linter.unusedVariables false
set_option linter.unusedSimpArgs false
def zN.l0 : Nat → List (S51) → List (S61) → Int → Option ((List (S61)))
 | 0,_,_,_=>none
 | k + 1,x0,x3,x4=>if x4 < (x0.length : Int) then (if 0 ≤ x4 then (if x3.length < 8796093022208 then (zN.l0 k x0 (x3 ++ [(⟨(zT x0 x4).f0,(zT x0 x4).f1⟩ : S61)]) (wrap64 (x4 + 1))) else (none)) else (none)) else (some x3)
def zN.f (k : Nat) (l0 : List (S51)) : Option ((List (S61))):=zN.l0 k l0 ([] : List (S61)) 0
theorem zN.z1b : ∀ k,(∀ y0 y1 y2,LeO (zN.l0 k y0 y1 y2) (zN.l0 (k + 1) y0 y1 y2))
 | 0=>fun _ _ _ r h=>by simp [zN.l0] at h
 | k + 1=>by
  have ih0:=zN.z1b k
  · intro y0 y1 y2
    unfold zN.l0
    repeat' first
    | (with_reducible exact ih0 _ _ _)
    | (with_reducible exact LeO.refl _)
    | (with_reducible exact LeO.none _)
    | (with_reducible refine LeO.ite ?_ ?_)
    | (with_reducible refine LeO.bind ?_ (fun _=>?_))
    | exact ih0 _ _ _
    | exact LeO.none _
    | refine LeO.ite ?_ ?_
    | refine LeO.bind ?_ (fun _=>?_)
theorem zN.mono : ∀ a0 k,LeO (zN.f k a0) (zN.f (k + 1) a0):=by
 intro a0 k
 have ih0:=zN.z1b k
 unfold zN.f
 repeat' first
  | (with_reducible exact ih0 _ _ _)
  | (with_reducible exact LeO.refl _)
  | (with_reducible exact LeO.none _)
  | (with_reducible refine LeO.ite ?_ ?_)
  | (with_reducible refine LeO.bind ?_ (fun _=>?_))
  | exact ih0 _ _ _
  | exact LeO.none _
  | refine LeO.ite ?_ ?_
  | refine LeO.bind ?_ (fun _=>?_)
set_option maxHeartbeats 8000000 in
set_option maxRecDepth 100000 in
theorem zN.calls (k : Nat) (A0 : Option Addr) (c0 : Nat) (l0 : List (S51)) (r : List (S61)) (w : World) (hr0 : Kd.C k51 w A0 l0.length l0) (hc0 : l0.length ≤ c0) (h : zN.f k l0 = some r) :
 Calls Try.prog 27 #[.slice A0 l0.length c0] w fun e w'=>∃ v0_ : Value,e = .returned (v0_) ∧ Kd.R k61 61 w' w.heap.size (fun _=>True) v0_ r ∧ Below w.heap.size w w':=by
 have hu51:=Try.underlying51
 have HR0:=z7.mk hr0
 have HC0:=z7.mk hc0
 clear hr0 hc0
 have HB:=z7.mk (Below.refl w.heap.size w)
 have H : (zN.l0 k l0 ([] : List (S61)) 0) = some r:=h
 clear h
 have H':=z7.mk H
 clear H
 go_enter Try.func27,Try.ntmps27
 go_wp2
 go_loopg [3,4] k (fun kq v3 v4 w'=>∃ (x3_1 : List (S61)) (x4_1 : Int),v4 = .int .i64 x4_1 ∧ z7 (zN.l0 kq l0 x3_1 x4_1 = some r) ∧ z7 (kq ≤ k) ∧ z7 (Kd.R k61 61 w' w.heap.size (fun _=>True) v3 x3_1) ∧ z7 (Below w.heap.size w w'))
 case atStart=>exact ⟨(([] : List (S61))),(0),(by first|rfl|(simp;done)|(simp [*];done)),H',⟨Nat.le_refl _⟩,⟨by first|exact Kd.z2r _ _ _ _ _|exact Kd.z2W _ _ _ _ _|exact Kd.z30 _ _ _ _ _|exact Kd.z2Y _ _ _ _ _|exact Kd.z2Z _ _ _ _ _⟩,⟨by repeat (first|(with_reducible first|exact HB.out|apply z4|apply z0|apply z3)|exact HB.out)⟩⟩
 case round =>
  clear H'
  obtain ⟨x3_1,x4_1,rfl,HA,HK1,HO_3,HB⟩:=hrel
  cases gk with
  | zero=>exact absurd HA.out (by simp [zN.l0])
  | succ k1 =>
   have H:=HA.out
   clear HA
   simp only [zN.l0] at H
   by_cases c2 : x4_1 < (l0.length : Int)
   rotate_left
   · rw [if_neg c2] at H
     have c2b0 : decide (x4_1 < (l0.length : Int)) = false:=decide_eq_false c2
     clear c2
     obtain rfl:=Option.some.inj H
     go_wp2
     go_ret
     exact ⟨_,by first|rfl|(simp [zl,zm] <;> rfl)|(simp [*,zl,zm] <;> rfl),by (with_reducible repeat (first|apply Kd.zx|apply Kd.zy|apply Kd.zD));exact HO_3.out,by repeat (first|(with_reducible first|exact HB.out|apply z4|apply z0|apply z3)|exact HB.out)⟩
   rw [if_pos c2] at H
   have c2b0 : decide (x4_1 < (l0.length : Int)) = true:=decide_eq_true c2
   clear c2
   by_cases c3 : 0 ≤ x4_1
   rotate_left
   · rw [if_neg c3] at H
     exact absurd H (by simp)
   rw [if_pos c3] at H
   have c3b0 : decide (0 ≤ x4_1) = true:=decide_eq_true c3
   clear c3
   by_cases c4 : x3_1.length < 8796093022208
   rotate_left
   · rw [if_neg c4] at H
     exact absurd H (by simp)
   rw [if_pos c4] at H
   have LMc4:=z7.mk c4
   clear c4
   obtain ⟨y102,hy102⟩ : ∃ y_ : List (S61),y_ = (x3_1 ++ [(⟨(zT l0 x4_1).f0,(zT l0 x4_1).f1⟩ : S61)]):=⟨_,rfl⟩
   replace H : (zN.l0 k1 l0 y102 (wrap64 (x4_1 + 1))) = some r:=by first|(rw [hy102];with_reducible exact H)|(have H2_:=(Option.bind_some _ _).symm.trans H;rw [hy102];with_reducible exact H2_)|(have H2_:=(Option.bind_some _ _).symm.trans H;with_reducible exact H2_)|with_reducible exact H|(rw [hy102];exact H)|exact H
   have Ny102:=z7.mk hy102
   clear hy102
   have H':=z7.mk H
   clear H
   have p101 : 0 ≤ (x4_1 : Int):=of_decide_eq_true (by first|(with_reducible assumption)|assumption)
   have q101 : x4_1 < (l0.length : Int):=of_decide_eq_true (by first|(with_reducible assumption)|assumption)
   obtain ⟨ad101,e101,hx101_0,hx101_1⟩:=z2d HR0.out x4_1 p101 q101
   cases e101
   replace hx101_0:=(HB.out.cell (World.block_lt_of_cell? w _ hx101_0)).trans hx101_0
   replace hx101_1:=(HB.out.cell (World.block_lt_of_cell? w _ hx101_1)).trans hx101_1
   replace p101:=eq_true p101
   replace q101:=eq_true q101
   go_wp2_with (first|((with_reducible refine zW (b:=.append) (xs:=#[.tmp 11,.tmp 16]) rfl ?_);at_builtin;refine Kd.z1h k61 (w0:=w) w.heap.size rfl (.tmp 11) (.tmp 16) 43 61 (.agg #[(.int .u64 0),(.int .u64 0)]) 16 rfl Try.underlying43 info61 rfl (by decide) (by omega) u3 x3_1 (⟨(zT l0 x4_1).f0,(zT l0 x4_1).f1⟩ : S61) [.int .u64 ((zT l0 x4_1).f0),.int .u64 ((zT l0 x4_1).f1)] (fun _=>True) (fun _=>False) rfl rfl ?aP (fun _ hk=>hk.elim) ?aF ?aO ?aB ?aS ?aL ?_;(case aP=>exact z2F _ _ _ (⟨(zT l0 x4_1).f0,(zT l0 x4_1).f1⟩ : S61));(case aB=>exact (by repeat (first|(with_reducible first|exact HB.out|apply z4|apply z0|apply z3)|exact HB.out)));(case aF=>exact (fun _ _=>trivial));(case aO=>exact (by (with_reducible repeat (first|apply Kd.zx|apply Kd.zy|apply Kd.zD));exact HO_3.out));(case aS=>exact (zf (by repeat (first|(with_reducible first|exact HB.out|apply z4|apply z0|apply z3)|exact HB.out))));(case aL=>have:=LMc4.out;omega);intro v103 w5 ho hb hg hat;rw [← Ny102.out] at ho;have n0_:=z7.mk (hb);have n1_:=z7.mk (ho);clear HB;clear HO_3;have HB:=n0_;have HO104:=n1_;clear n0_ n1_;clear ho hb hg hat))
   go_roundg k1
   case measure=>have:=HK1.out;omega
   case rel=>exact ⟨(y102),(wrap64 (x4_1 + 1)),(by first|rfl|(simp;done)|(simp [*];done)),H',⟨by have:=HK1.out;omega⟩,⟨by (with_reducible repeat (first|apply Kd.zx|apply Kd.zy|apply Kd.zD));exact HO104.out⟩,⟨by repeat (first|(with_reducible first|exact HB.out|apply z4|apply z0|apply z3)|exact HB.out)⟩⟩
end Go.Proofs.Ytngcaphdkgihmaa.P

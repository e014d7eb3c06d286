/- PackvAlike: how alike two points are, one on either side, is the sum of the pairs of all corners' weights, or the error; for levels up to 4 and points of up to 5 elements, or more than may be. Own text. -/
import Derived.Test.YtkhmpaooinpfoaaRows
import Derived.WalkKit
import Derived.ProofKit
import Derived.OpenShut
import Derived.ShutString
import Derived.ChangeOld
import Derived.Below
import Derived.SizedLaws
import Derived.Carry
import Derived.Test.YtkhmpaooinpfoaaMPackvAlikef
namespace Go.Proofs.Ytkhmpaooinpfoaa.Sp
open Go.RowKit Go.Proofs.YtkhmpaooinpfoaaW.PrintWords Go.Proofs.YtkhmpaooinpfoaaW.PrintMore Go.Proofs.Ytkhmpaooinpfoaa.P Go.Proofs.Ytkhmpaooinpfoaa.Ar Go.Proofs.Ytkhmpaooinpfoaa.Tw
set_option linter.unusedVariables false
theorem z3g : Ev (fun k => zC.f k) true := Ev.of zC.mono (k := 60) (by decide +kernel)
theorem z6O (X Y : List E) (hX : X.length ≤ 1000000) (hY : Y.length ≤ 1000000) : Ev (fun k => zG.f k (X.map toS) (Y.map toS)) (decide (X = Y)) := by
  unfold zG.f
  exact Ev.bnd (z7f Y hY) (Ev.bnd (z7g X Y hX) (Ev.ret _))
theorem z4e (L : Int) (P R : List E) (hP : P.length ≤ 30) (hR : R.length ≤ 30) : Ev (fun k => z7.j3 k L (P.map toS) (R.map toS) ((alikeO L P R).map toS) (alikeErr L P R) (P.map toR) (R.map toR) (alikeErr L P R)) true := by
  refine Ev.step (fun k => by rw [z7.j3]) (Ev.pos rfl ?_)
  by_cases c : alikeErr L P R = 0
  rotate_left
  · have eo : alikeO L P R = [] := if_neg c
    have : (alikeErr L P R != 0) = true := by simpa using c
    rw [this, eo]
    exact Ev.step (fun k => by rw [z7.j4]) (Ev.pos rfl (Ev.bnd z3g (Ev.pos rfl (Ev.pos rfl (Ev.ret _)))))
  have eo : alikeO L P R = tabL (2 ^ L.toNat) (alikeX P R) := if_pos c
  have hc := c
  unfold alikeErr at hc
  split at hc
  · next hL =>
    split at hc
    · next hlen =>
      split at hc
      · next hall =>
        obtain ⟨l, rfl⟩ := Int.eq_ofNat_of_zero_le hL.1
        have hl : l ≤ 7 := by have := hL.2; omega
        have h128 := w128 hl
        rw [c, eo, Int.toNat_natCast]
        refine Ev.step (fun k => by rw [z7.j4]) ?_
        refine Ev.neg (by decide) ?_
        refine Ev.bnd z3g ?_
        refine Ev.pos rfl ?_
        refine Ev.bnd (z6b hl P R hlen.2 hlen.1) ?_
        refine Ev.bnd (z7g _ _ (by rw [zU]; omega)) ?_
        refine Ev.pos (decide_eq_true rfl) ?_
        refine Ev.bnd (Sum_ev hl P R hall.1 hall.2 hlen.1 hlen.2) ?_
        refine Ev.bnd (z6O _ _ (by rw [zU]; omega) (by rw [zU]; omega)) ?_
        exact Ev.ret' (decide_eq_true rfl)
      · omega
    · omega
  · omega
theorem z4d (L : Int) (P R : List E) (b : Bool) (hb : b = false → P.length ≤ 30 ∧ R.length ≤ 30) : Ev (fun k => z7.j0 k L (P.map toS) (R.map toS) b) true := by
  refine Ev.step (fun k => by rw [z7.j0]) ?_
  cases b with
  | true => exact Ev.pos rfl (Ev.bnd z3g (Ev.ret _))
  | false =>
    obtain ⟨hP, hR⟩ := hb rfl
    refine Ev.neg (by decide) (Ev.bnd (Alike_ev L P R) (Ev.bnd (z7f P (by omega)) (Ev.bnd (z7f R (by omega)) ?_)))
    have hbad : ¬ LvS L → Ev (fun k => z7.j1 k L (P.map toS) (R.map toS) ((alikeO L P R).map toS) (alikeErr L P R) (P.map toR) (R.map toR) 0 true) true := by
      intro hL
      have e : alikeErr L P R = 1 := if_neg hL
      have := z4e L P R hP hR
      rw [e] at this ⊢
      exact Ev.step (fun k => by rw [z7.j1]) (Ev.pos rfl this)
    by_cases g0 : L < 0
    · exact Ev.pos g0 (hbad (by unfold LvS; omega))
    refine Ev.neg g0 ?_
    by_cases g7 : L > 7
    · rw [decide_eq_true g7]; exact hbad (by unfold LvS; omega)
    rw [decide_eq_false g7]
    have hL : LvS L := ⟨by omega, by omega⟩
    have h3 := z4e L P R hP hR
    have h6 : ¬ (P.length = R.length ∧ P.length ≤ 16) → Ev (fun k => z7.j2 k L (P.map toS) (R.map toS) ((alikeO L P R).map toS) (alikeErr L P R) (P.map toR) (R.map toR) 0 true) true := by
      intro h
      have e : alikeErr L P R = 6 := by unfold alikeErr; rw [if_pos hL, if_neg h]
      have h3' := h3
      rw [e] at h3' ⊢
      exact Ev.step (fun k => by rw [z7.j2]) (Ev.pos rfl h3')
    refine Ev.step (fun k => by rw [z7.j1]) (Ev.neg (by decide) ?_)
    rw [List.length_map, List.length_map]
    by_cases c1 : (P.length : Int) = (R.length : Int)
    rotate_left
    · exact Ev.neg c1 (h6 (fun h => c1 (by omega)))
    refine Ev.pos c1 ?_
    by_cases c2 : (P.length : Int) > 16
    · rw [decide_eq_true c2]; exact h6 (fun h => by omega)
    rw [decide_eq_false c2]
    have he : alikeErr L P R = if AllS L P ∧ AllS L R then 0 else 5 := by unfold alikeErr; rw [if_pos hL, if_pos ⟨by omega, by omega⟩]
    refine Ev.step (fun k => by rw [z7.j2]) (Ev.neg (by decide) (Ev.bnd (All_ev L P (by omega)) ?_))
    by_cases cp : AllS L P
    rotate_left
    · rw [if_neg (fun h => cp h.1)] at he
      rw [he] at h3 ⊢
      exact Ev.neg (by rw [decide_eq_false cp]; exact Bool.false_ne_true) h3
    refine Ev.pos (decide_eq_true cp) (Ev.bnd (All_ev L R (by omega)) ?_)
    by_cases cr : AllS L R
    · rw [if_pos ⟨cp, cr⟩] at he
      rw [he] at h3 ⊢
      exact Ev.pos (decide_eq_true cr) h3
    · rw [if_neg (fun h => cr h.2)] at he
      rw [he] at h3 ⊢
      exact Ev.neg (by rw [decide_eq_false cr]; exact Bool.false_ne_true) h3
end Go.Proofs.Ytkhmpaooinpfoaa.Sp
namespace Go.Proofs.Ytkhmpaooinpfoaa.Pure
open Go.RowKit Go.Proofs.YtkhmpaooinpfoaaW.PrintWords Go.Proofs.YtkhmpaooinpfoaaW.PrintMore Go.Proofs.Ytkhmpaooinpfoaa.P Go.Proofs.Ytkhmpaooinpfoaa.Ar Go.Proofs.Ytkhmpaooinpfoaa.Tw Go.Proofs.Ytkhmpaooinpfoaa.Sp
set_option linter.unusedVariables false
theorem PackvAlike : Stated.packvAlike.Pure := by
  intro L l1 l2 h0 h1 h2
  obtain ⟨P, rfl⟩ := z7C l1 h1.1
  obtain ⟨R, rfl⟩ := z7C l2 h2.1
  refine Ev.rounds (g := fun k => z7.f k L (P.map toS) (R.map toS)) ?_
  unfold z7.f
  simp only [List.length_map]
  have hT := z4d L P R true (fun h => by cases h)
  have hL : ¬ ((P.length : Int) > 30) → Ev (fun k => z7.j0 k L (P.map toS) (R.map toS) (decide ((R.length : Int) > 30))) true := fun hp =>
    z4d L P R _ (fun h => ⟨by omega, by have := of_decide_eq_false h; omega⟩)
  refine evIte (fun _ => evIte (fun _ => hT) (fun _ => ?_)) (fun _ => ?_) <;>
  · refine evIte (fun _ => evIte (fun _ => hT) (fun _ => ?_)) (fun _ => ?_) <;>
    · refine evIte (fun _ => evIte (fun _ => hT) (fun _ => ?_)) (fun _ => ?_) <;>
      exact evIte (fun _ => hT) hL
end Go.Proofs.Ytkhmpaooinpfoaa.Pure
-- Own text, written by wip/tools/gen.py: the row of the law PackvAlike, out of its pure statement (PurePackvAlike) and the walk.
namespace Go.Proofs.Ytkhmpaooinpfoaa.packvAlike
open Go.ChangeShapes Go.WideShapes Go.ChangeAt Go.RowKit Go.Proofs.YtkhmpaooinpfoaaW.PrintWords Go.Proofs.Ytkhmpaooinpfoaa.P Go.Proofs.Ytkhmpaooinpfoaa.Reads
set_option linter.unusedVariables false
set_option linter.unusedSimpArgs false
theorem own : ownKnob Try.prog.godebug = none := by kernel_rfl
theorem laidOut : laidOutB Try.prog = true := by kernel_rfl
theorem op30 : ReadsAs Try.prog 30 k30 (fun x => ((Lit.int .u64 x.f0).wf = true) ∧ ((Lit.int .u64 x.f1).wf = true)) :=
  (z7K (fun x : S30 => (x.f0, x.f1)) (fun a => ⟨⟨a.1, a.2⟩, rfl⟩) Try.underlying30 rfl (by kernel_rfl) (z7L (by kernel_rfl) (by kernel_rfl) (z7J Try.underlying28) (z7M (by kernel_rfl) (by kernel_rfl) (z7J Try.underlying28)) (by intro g hg; simp only [List.mem_cons, List.not_mem_nil, or_false] at hg; rcases hg with rfl <;> exact of_decide_eq_true (by kernel_rfl))))
theorem op24 : ReadsAs Try.prog 24 (Kd.slice 30 k30) (fun l => (∀ x_ ∈ l, ((Lit.int .u64 x_.f0).wf = true) ∧ ((Lit.int .u64 x_.f1).wf = true)) ∧ l.length ≤ maxLen) := op_slice Try.underlying24 (by kernel_rfl) op30
set_option maxRecDepth 100000 in
theorem lifted (os : Os) (started : os.Started) (H : Type) (enc : TypeId × Value → H) :
    ReturnsInHanded {} Try.checked os 9 .any (Rows.packvAlikeSpec.pre6 enc Try.prog Try.f9 Rows.packvAlikeRow.domain false) (Rows.packvAlikeSpec.post enc Try.prog Try.f9 false true false false) := by
  refine returnsInHanded_of_change_sized (C := Try.checked) own started (by kernel_rfl) Try.func9
    (ChangeSpec.witness6 (enc := enc) (C := Try.checked) false ⟨#[], #[.int .i64 0, .slice none 0 0, .slice none 0 0], []⟩ 8 (by kernel_rfl) (by kernel_rfl) (by kernel_rfl) (by kernel_rfl)) ?_
  intro W base args ds gs before hval0 hW hcnd hsz0 _
  have hval : ∀ (j : Nat) t v, Try.f9.params[j]? = some t → args[j]? = some v → Value.okWide Try.prog W .any base t v := hval0
  have hW' := hW
  obtain ⟨p, q, hA0, hV, rfl, hfz, hnd⟩ := hW
  have hA : DataW.TrodAll enc Try.prog W 0 (fun _ => true) true Try.f9.params.toList args.toList ds p := hA0
  rw [Try.params9] at hA hval
  obtain ⟨v0, vs0, d0, ds0, p0, q0, hargs, rfl, rfl, h0, r0⟩ := trodAll_cons hA
  obtain ⟨v1, vs1, d1, ds1, p1, q1, rfl, rfl, rfl, h1, r1⟩ := trodAll_cons r0
  obtain ⟨v2, vs2, d2, ds2, p2, q2, rfl, rfl, rfl, h2, r2⟩ := trodAll_cons r1
  obtain ⟨rfl, rfl, rfl⟩ := trodAll_nil r2
  obtain rfl : args = #[v0, v1, v2] := by cases args; simp_all
  obtain ⟨rfl, rfl⟩ := trodVars_none hV
  have k0 := h0
  have lt0 : ∀ x ∈ p0, x.block < W.heap.size := by obtain ⟨m, hm⟩ := k0; exact DataW.trod_lt m _ _ _ hm
  obtain ⟨x0, rfl, g0⟩ := arg_int Try.underlying3 (hval 0 3 v0 rfl rfl) h0
  have k1 := h1
  have lt1 : ∀ x ∈ p1, x.block < W.heap.size := by obtain ⟨m, hm⟩ := k1; exact DataW.trod_lt m _ _ _ hm
  obtain ⟨x1, A1, c1, rfl, hc1, hr1, g1⟩ := z5G op24 Try.underlying24 (hval 1 24 v1 rfl rfl) h1
  have k2 := h2
  have lt2 : ∀ x ∈ p2, x.block < W.heap.size := by obtain ⟨m, hm⟩ := k2; exact DataW.trod_lt m _ _ _ hm
  obtain ⟨x2, A2, c2, rfl, hc2, hr2, g2⟩ := z5G op24 Try.underlying24 (hval 2 24 v2 rfl rfl) h2
  clear hA0 hval0 hsz0
  obtain ⟨k, hpure⟩ := Pure.PackvAlike x0 x1 x2 g0 g1 g2
  refine (z7.calls k x0 _ _ x1 _ _ x2 true W hr1 hc1 hr2 hc2 hpure).mono fun e W' hh => ?_
  obtain ⟨rfl, bel0⟩ := hh
  have bel : Below W.heap.size W W' := bel0
  exact ⟨_, rfl, _, _, _, [], _, [], hW', trodAll_mk1 (shut_bool Try.underlying4 _), (trodAll_cons_mk (Below.trod laidOut (by kernel_rfl) (of_decide_eq_true (by kernel_rfl)) k0 bel lt0) (trodAll_cons_mk (Below.trod laidOut (by kernel_rfl) (of_decide_eq_true (by kernel_rfl)) k1 bel lt1) (trodAll_cons_mk (Below.trod laidOut (by kernel_rfl) (of_decide_eq_true (by kernel_rfl)) k2 bel lt2) trodAll_mk0))), rfl, bel.frame _, fun h => by cases h⟩
theorem over : Rows.packvAlikeRow.holds Try.pinned (OpenSpec.ofChange Rows.packvAlikeSpec) :=
  OpenClaim.holds_of_wide 9 Try.f9 rfl rfl rfl rfl rfl rfl rfl ⟨rfl, rfl, rfl, rfl, rfl⟩ rfl rfl rfl rfl rfl (by kernel_rfl) Try.func9 (by kernel_rfl)
    (of_decide_eq_true (by kernel_rfl)) (by unfold Func.isWrapper; first | (rw [if_pos (by decide +kernel)]; kernel_rfl) | (rw [if_neg (by decide +kernel)]; exact ⟨rfl, rfl⟩))
    (fun os started H enc _ => lifted os started H enc)
theorem proved : Rows.PackvAlikeSaid := over
#print axioms proved
end Go.Proofs.Ytkhmpaooinpfoaa.packvAlike
namespace Go.Proofs.Ytkhmpaooinpfoaa
/-- The row, under a short name, for the claim. -/
theorem packvAlike_holds : Rows.PackvAlikeSaid := packvAlike.proved
end Go.Proofs.Ytkhmpaooinpfoaa

/- ExprChecks: which expressions may be, what is wrong with others, degrees, and which variables are used, are what the document says; for all levels, any number of variables, up to 210 steps. Own text. -/
import Derived.Test.YtngcaphdkgihmaaRows
import Derived.WalkKit
import Derived.ProofKit
import Derived.OpenShut
import Derived.ShutString
import Derived.ChangeOld
import Derived.Below
import Derived.SizedLaws
import Derived.Carry
import Derived.Test.YtngcaphdkgihmaaMExprCheckse
import Derived.Test.YtngcaphdkgihmaaMExprChecksg
/- Expressions as the document checks and values them; the program's values. Own text. -/
namespace Go.Proofs.Ytngcaphdkgihmaa.Sp
open Go.RowKit Go.Proofs.YtngcaphdkgihmaaW.PrintWords Go.Proofs.YtngcaphdkgihmaaW.PrintMore Go.Proofs.Ytngcaphdkgihmaa.P Go.Proofs.Ytngcaphdkgihmaa.Ar Go.Proofs.Ytngcaphdkgihmaa.Tw
set_option linter.unusedVariables false
set_option linter.unusedSimpArgs false
theorem z41 (X : List St) (n : Nat) (hn : n < X.length) (hX : X.length ≤ 1000000) (hA : ∀ j, j ≤ n → (X.getD j st0).k > 2 → AheadS (X.getD j st0) (j : Int)) (hs : Small (G degS (X.take n))) (hsj : ∀ j, j ≤ n → Small (G degS (X.take j))) :
    ∀ (d j : Nat), j + d = n + 1 → Ev (fun q => ze.l0 q (X.map toD) (n : Int) (G degS (X.take j)) (j : Int)) (degS (X.getD n st0) (G degS (X.take n))) := by
  intro d
  induction d with
  | zero =>
    intro j hj
    have : j = n + 1 := by omega
    subst this
    refine Ev.step (fun q => by rw [ze.l0]) (Ev.neg (by omega) (Ev.pos (Int.natCast_nonneg _) (Ev.pos (by rw [z1y degS (by omega)]; omega) (Ev.ret' ?_))))
    unfold rd
    rw [Int.toNat_natCast]
    exact z4e degS 0 hn
  | succ d ih =>
    intro j hj
    have hj' : j < X.length := by omega
    have hl := z1y degS (X := X) (i := j) (by omega)
    have hih := ih (j + 1) (by omega)
    rw [z2L degS hj'] at hih
    have hm : ∀ v : Int, (v = if (X.getD j st0).k = 2 then 1 else 0) → Ev (fun q => ze.j1 q (X.map toD) (n : Int) (G degS (X.take j)) (j : Int) v) (degS (X.getD n st0) (G degS (X.take n))) := by
      intro v hv
      refine Ev.step (fun q => by rw [ze.j1]) (Ev.pos (Int.natCast_nonneg _) (Ev.pos (by rw [List.length_map]; omega) ?_))
      simp only [rdD, z3W, z4w, z5s, z1z hj' (show X.length ≤ 4611686018427387904 by omega)]
      have hA' := hA j (by omega)
      have hsm := hsj j (by omega)
      generalize hds : G degS (X.take j) = ds at *
      generalize X.getD j st0 = o at *
      unfold AheadS at hA'
      by_cases k3 : o.k = 3
      · have ha := hA' (by omega)
        have hdeg : degS o ds = mx (rd ds o.a) (rd ds o.b) := by unfold degS; rw [if_neg (by omega), if_pos k3]
        rw [hdeg] at hih
        refine Ev.pos k3 (Ev.pos ha.1 (Ev.pos (by omega) (Ev.pos ha.2.2.1 (Ev.pos (by omega) ?_))))
        by_cases g : rd ds o.b > rd ds o.a
        · refine Ev.pos g (Ev.neg (by omega) (Ev.pos (by omega) ?_))
          unfold mx at hih; rw [if_pos g] at hih; exact hih
        · refine Ev.neg g (Ev.neg (by omega) (Ev.pos (by omega) ?_))
          unfold mx at hih; rw [if_neg g] at hih; exact hih
      · refine Ev.neg k3 ?_
        by_cases k4 : o.k = 4
        · have ha := hA' (by omega)
          have r1 := z2l hsm o.a
          have r2 := z2l hsm o.b
          have hdeg : degS o ds = wrap64 (rd ds o.a + rd ds o.b) := by rw [z26 (by omega) (by omega)]; unfold degS; rw [if_neg (by omega), if_neg k3, if_pos k4]
          rw [hdeg] at hih
          exact Ev.pos k4 (Ev.pos ha.1 (Ev.pos (by omega) (Ev.pos ha.2.2.1 (Ev.pos (by omega) (Ev.pos (by omega) hih)))))
        · have hdeg : degS o ds = v := by
            rw [hv]; unfold degS; rw [if_neg k3, if_neg k4]
          rw [hdeg] at hih
          exact Ev.neg k4 (Ev.pos (by omega) hih)
    refine Ev.step (fun q => by rw [ze.l0]) (Ev.pos (by omega) (Ev.pos (Int.natCast_nonneg _) (Ev.pos (by rw [List.length_map]; omega) ?_)))
    simp only [rdD, z3W]
    by_cases k2 : (X.getD j st0).k = 2
    · exact Ev.pos k2 (hm 1 (by rw [if_pos k2]))
    · exact Ev.neg k2 (hm 0 (by rw [if_neg k2]))
theorem z34 (X : List St) (n : Nat) (hn : n < X.length) (hX : X.length ≤ 1000000) {L vars : Int} (ok : OkS L vars X n) (hA : (X.getD n st0).k > 2 → AheadS (X.getD n st0) (n : Int)) :
    Ev (fun q => ze.f q (X.map toD) (n : Int)) (degS (X.getD n st0) (G degS (X.take n))) := by
  unfold ze.f
  have hsj : ∀ j, j ≤ n → Small (G degS (X.take j)) := fun j hj => ok_small (by omega) (fun i hi => ok i (by omega))
  refine z41 X n hn hX ?_ (hsj n (Nat.le_refl n)) hsj (n + 1) 0 (by omega)
  intro j hj
  by_cases e : j = n
  · rw [e]; exact hA
  · intro hk
    have := z1E (z2i (ok j (by omega))).1 hk
    rwa [z1y degS (by omega)] at this
theorem z43 (L vars : Int) (X : List St) (n : Nat) (hn : n < X.length) (hX : X.length ≤ 1000000) (ok : OkS L vars X n) (hf : FormS (X.getD n st0) (n : Int)) (c : Bool) (r : Int)
    (h1 : c = true → r = 4) (h2 : c = false → degS (X.getD n st0) (G degS (X.take n)) > 8 → r = 7)
    (h3 : c = false → ¬ degS (X.getD n st0) (G degS (X.take n)) > 8 → Ev (fun q => zc.l0 q L vars (X.map toD) ((n + 1 : Nat) : Int) 0 0) r) :
    Ev (fun q => zc.j6 q L vars (X.map toD) (n : Int) c 0 0) r := by
  refine Ev.step (fun q => by rw [zc.j6]) ?_
  cases c with
  | true => exact Ev.pos rfl (Ev.ret' (h1 rfl).symm)
  | false =>
    refine Ev.neg (by decide) (Ev.bnd (z34 X n hn hX ok (z1E hf)) ?_)
    by_cases g : degS (X.getD n st0) (G degS (X.take n)) > 8
    · exact Ev.pos g (Ev.ret' (h2 rfl g).symm)
    · refine Ev.neg g ?_
      rw [z1z hn (by omega)]
      exact h3 rfl g
theorem z42 (L vars : Int) (X : List St) (n : Nat) (hn : n < X.length) (hX : X.length ≤ 1000000) (ok : OkS L vars X n) (r : Int) (c : Bool) (hc : c = decide ((X.getD n st0).k < 1 ∨ (X.getD n st0).k > 4))
    (h1 : errS L vars (X.getD n st0) (G degS (X.take n)) ≠ 0 → r = errS L vars (X.getD n st0) (G degS (X.take n)))
    (h2 : errS L vars (X.getD n st0) (G degS (X.take n)) = 0 → Ev (fun q => zc.l0 q L vars (X.map toD) ((n + 1 : Nat) : Int) 0 0) r) :
    Ev (fun q => zc.j2 q L vars (X.map toD) (n : Int) c 0 0 (X.getD n st0).k (X.getD n st0).a (X.getD n st0).b (hi (X.getD n st0).v) (lo (X.getD n st0).v)) r := by
  have hj6 := z43 L vars X n hn hX ok
  have hl := z1y degS (X := X) (i := n) (by omega)
  generalize hds : G degS (X.take n) = ds at *
  generalize ho : X.getD n st0 = o at *
  have hlen : (ds.length : Int) = (n : Int) := by rw [hl]
  have hbad : ¬ FormS o (n : Int) → r = 3 := by
    intro h
    have e0 : err0S L vars o (ds.length : Int) = 3 := by unfold err0S; rw [if_neg (by rw [hlen]; exact h)]
    have : errS L vars o ds = 3 := by unfold errS; rw [e0]; rfl
    rw [h1 (by rw [this]; decide), this]
  refine Ev.step (fun q => by rw [zc.j2]) ?_
  by_cases k : o.k < 1 ∨ o.k > 4
  · rw [decide_eq_true k] at hc
    refine Ev.pos hc (Ev.ret' (hbad ?_).symm)
    intro h; rcases z2u h with h | h | h | h <;> omega
  rw [decide_eq_false k] at hc
  refine Ev.neg (by rw [hc]; decide) ?_
  -- the last tests
  have hj5 : ∀ (c : Bool), FormS o (n : Int) → c = decide (o.k = 1 ∧ ¬ OfS L o.v) → Ev (fun q => zc.j5 q L vars (X.map toD) (n : Int) c 0 0 o.k o.a o.b (hi o.v) (lo o.v)) r := by
    intro c hf hc
    refine Ev.step (fun q => by rw [zc.j5]) ?_
    have hf' : FormS o (ds.length : Int) := by rw [hlen]; exact hf
    have he := z2t (L := L) (vars := vars) hf'
    by_cases e : o.k = 1 ∧ ¬ OfS L o.v
    · rw [decide_eq_true e] at hc
      rw [if_pos e] at he
      refine Ev.pos hc (Ev.ret' ?_)
      have : errS L vars o ds = 5 := by unfold errS; rw [he]; rfl
      rw [h1 (by rw [this]; decide), this]
    · rw [decide_eq_false e] at hc
      rw [if_neg e] at he
      refine Ev.neg (by rw [hc]; decide) ?_
      have hrest : ∀ c : Bool, c = decide (o.k = 2 ∧ (o.a < 0 ∨ o.a ≥ vars)) → Ev (fun q => zc.j6 q L vars (X.map toD) (n : Int) c 0 0) r := by
        intro c hc
        by_cases g : o.k = 2 ∧ (o.a < 0 ∨ o.a ≥ vars)
        · rw [if_pos g] at he
          rw [decide_eq_true g] at hc
          refine hj6 hf c r ?_ (fun h => by rw [hc] at h; cases h) (fun h => by rw [hc] at h; cases h)
          intro _
          have : errS L vars o ds = 4 := by unfold errS; rw [he]; rfl
          rw [h1 (by rw [this]; decide), this]
        · rw [if_neg g] at he
          rw [decide_eq_false g] at hc
          refine hj6 hf c r (fun h => by rw [hc] at h; cases h) ?_ ?_
          · intro _ g8
            have : errS L vars o ds = 7 := by unfold errS; rw [if_pos he, if_pos g8]
            rw [h1 (by rw [this]; decide), this]
          · intro _ g8
            have : errS L vars o ds = 0 := by unfold errS; rw [if_pos he, if_neg g8]
            exact h2 this
      by_cases k2 : o.k = 2
      · refine Ev.pos k2 ?_
        by_cases ha : o.a < 0
        · exact Ev.pos ha (hrest _ (by symm; rw [decide_eq_true_eq]; exact ⟨k2, Or.inl ha⟩))
        · refine Ev.neg ha (hrest _ ?_)
          rw [decide_eq_decide]; exact ⟨fun h => ⟨k2, Or.inr h⟩, fun h => h.2.resolve_left ha⟩
      · exact Ev.neg k2 (hrest _ (by symm; rw [decide_eq_false_iff_not]; exact fun h => k2 h.1))
  have hj4 : ∀ (c : Bool), c = decide (¬ FormS o (n : Int)) → Ev (fun q => zc.j4 q L vars (X.map toD) (n : Int) c 0 0 o.k o.a o.b (hi o.v) (lo o.v)) r := by
    intro c hc
    refine Ev.step (fun q => by rw [zc.j4]) ?_
    by_cases hf : FormS o (n : Int)
    · rw [decide_eq_false (Decidable.not_not.2 hf)] at hc
      refine Ev.neg (by rw [hc]; decide) ?_
      by_cases k1 : o.k = 1
      · refine Ev.pos k1 (Ev.bnd (z4u L o.v) (hj5 _ hf ?_))
        by_cases g : OfS L o.v
        · rw [decide_eq_true g, decide_eq_false (fun h => h.2 g)]; rfl
        · rw [decide_eq_false g, decide_eq_true (show o.k = 1 ∧ ¬ OfS L o.v from ⟨k1, g⟩)]; rfl
      · exact Ev.neg k1 (hj5 _ hf (by symm; rw [decide_eq_false_iff_not]; exact fun h => k1 h.1))
    · rw [decide_eq_true hf] at hc
      exact Ev.pos hc (Ev.ret' (hbad hf).symm)
  have hj3 : ∀ (c : Bool), c = decide (¬ ((o.k = 1 ∧ o.a = 0 ∧ o.b = 0) ∨ (o.k = 2 ∧ o.b = 0 ∧ o.v = 0) ∨ (o.k > 2 ∧ o.v = 0))) → Ev (fun q => zc.j3 q L vars (X.map toD) (n : Int) c 0 0 o.k o.a o.b (hi o.v) (lo o.v)) r := by
    intro c hc
    refine Ev.step (fun q => by rw [zc.j3]) ?_
    by_cases g : (o.k = 1 ∧ o.a = 0 ∧ o.b = 0) ∨ (o.k = 2 ∧ o.b = 0 ∧ o.v = 0) ∨ (o.k > 2 ∧ o.v = 0)
    · rw [decide_eq_false (Decidable.not_not.2 g)] at hc
      refine Ev.neg (by rw [hc]; decide) ?_
      by_cases k2 : o.k > 2
      · have hv : o.v = 0 := by
          rcases g with h | h | h
          · omega
          · omega
          · exact h.2
        have hiff : FormS o (n : Int) ↔ AheadS o (n : Int) := ⟨fun h => z1E h k2, fun h => Or.inr (Or.inr ⟨by omega, hv, h⟩)⟩
        refine Ev.pos k2 ?_
        by_cases a1 : o.a < 0
        · exact Ev.pos a1 (hj4 _ (by symm; rw [decide_eq_true_eq, hiff]; unfold AheadS; omega))
        refine Ev.neg a1 ?_
        by_cases a2 : o.a ≥ (n : Int)
        · exact Ev.pos a2 (hj4 _ (by symm; rw [decide_eq_true_eq, hiff]; unfold AheadS; omega))
        refine Ev.neg a2 ?_
        by_cases a3 : o.b < 0
        · exact Ev.pos a3 (hj4 _ (by symm; rw [decide_eq_true_eq, hiff]; unfold AheadS; omega))
        refine Ev.neg a3 (hj4 _ ?_)
        rw [decide_eq_decide, hiff]; unfold AheadS; omega
      · refine Ev.neg k2 (hj4 _ ?_)
        symm; rw [decide_eq_false_iff_not]
        intro h
        rcases g with g | g | g
        · exact h (Or.inl g)
        · exact h (Or.inr (Or.inl g))
        · exact k2 g.1
    · rw [decide_eq_true g] at hc
      refine Ev.pos hc (Ev.ret' (hbad ?_).symm)
      rintro (h | h | h)
      · exact g (Or.inl h)
      · exact g (Or.inr (Or.inl h))
      · exact g (Or.inr (Or.inr ⟨by omega, h.2.1⟩))
  have hnone : (!(hi o.v == 0) || (!(lo o.v == 0))) = decide (¬ o.v = 0) := by
    rw [← Bool.not_and, z2D]
    by_cases g : o.v = 0
    · rw [decide_eq_true g, decide_eq_false (Decidable.not_not.2 g)]; rfl
    · rw [decide_eq_false g, decide_eq_true g]; rfl
  rw [hnone]
  by_cases k1 : o.k = 1
  · refine Ev.pos k1 ?_
    by_cases ha : o.a = 0
    · refine Ev.pos ha ?_
      by_cases hb : o.b = 0
      · refine Ev.pos hb (Ev.neg (by omega) (Ev.neg (by omega) (hj3 _ ?_)))
        symm; rw [decide_eq_false_iff_not]; exact fun h => h (Or.inl ⟨k1, ha, hb⟩)
      · refine Ev.neg hb (hj3 _ ?_)
        symm; rw [decide_eq_true_eq]
        rintro (h | h | h)
        · exact hb h.2.2
        · omega
        · omega
    · refine Ev.neg ha (hj3 _ ?_)
      symm; rw [decide_eq_true_eq]
      rintro (h | h | h)
      · exact ha h.2.1
      · omega
      · omega
  refine Ev.neg k1 ?_
  by_cases k2 : o.k = 2
  · refine Ev.pos k2 ?_
    by_cases hb : o.b = 0
    · refine Ev.pos hb (Ev.pos (by omega) (hj3 _ ?_))
      rw [decide_eq_decide]
      constructor
      · intro h; rintro (g | g | g)
        · exact k1 g.1
        · exact h g.2.2
        · exact h g.2
      · intro h g; exact h (Or.inr (Or.inl ⟨k2, hb, g⟩))
    · refine Ev.neg hb (hj3 _ ?_)
      symm; rw [decide_eq_true_eq]
      rintro (h | h | h)
      · exact k1 h.1
      · exact hb h.2.1
      · omega
  · refine Ev.neg k2 (Ev.pos (by omega) (hj3 _ ?_))
    rw [decide_eq_decide]
    constructor
    · intro h; rintro (g | g | g)
      · exact k1 g.1
      · exact k2 g.1
      · exact h g.2
    · intro h g; exact h (Or.inr (Or.inr ⟨by omega, g⟩))
theorem z44 (L vars : Int) (X : List St) (hX : X.length ≤ 1000000) : ∀ (d n : Nat), n + d = X.length → OkS L vars X n →
    Ev (fun q => zc.l0 q L vars (X.map toD) (n : Int) 0 0) (chkS L vars (X.drop n) (G degS (X.take n))).2 := by
  intro d
  induction d with
  | zero =>
    intro n hn _
    refine Ev.step (fun q => by rw [zc.l0]) (Ev.neg (by rw [List.length_map]; omega) (Ev.ret' ?_))
    rw [List.drop_eq_nil_of_le (by omega)]; rfl
  | succ d ih =>
    intro n hn ok
    have hn' : n < X.length := by omega
    refine Ev.step (fun q => by rw [zc.l0]) (Ev.pos (by rw [List.length_map]; omega) (Ev.pos (Int.natCast_nonneg _) ?_))
    simp only [rdD, z3W, z4w, z5s, z5t, z5u]
    have hgo : ∀ c : Bool, c = decide ((X.getD n st0).k < 1 ∨ (X.getD n st0).k > 4) → Ev (fun q => zc.j2 q L vars (X.map toD) (n : Int) c 0 0 (X.getD n st0).k (X.getD n st0).a (X.getD n st0).b (hi (X.getD n st0).v) (lo (X.getD n st0).v)) (chkS L vars (X.drop n) (G degS (X.take n))).2 := by
      intro c hc
      refine z42 L vars X n hn' hX ok _ c hc ?_ ?_
      · intro h; rw [z2s hn']; unfold chkS; rw [if_neg h]
      · intro h
        have hih := ih (n + 1) (by omega) (z5i ok h)
        rw [z2L degS hn'] at hih
        rw [z2s hn']; unfold chkS; rw [if_pos h]; exact hih
    by_cases k : (X.getD n st0).k < 1
    · exact Ev.pos k (hgo true (by symm; rw [decide_eq_true_eq]; exact Or.inl k))
    · refine Ev.neg k (hgo _ ?_)
      rw [decide_eq_decide]; exact ⟨Or.inr, fun h => h.resolve_left k⟩
theorem z3b (L vars : Int) (X : List St) : Ev (fun q => zc.f q L vars (X.map toD)) (checkS L vars X).2 := by
  unfold zc.f
  have hj : ∀ c : Bool, c = decide (¬ LvS L ∨ vars < 0) → Ev (fun q => zc.j0 q L vars (X.map toD) c 0 0) (checkS L vars X).2 := by
    intro c hc
    refine Ev.step (fun q => by rw [zc.j0]) ?_
    unfold checkS
    by_cases g : ¬ LvS L ∨ vars < 0
    · rw [if_pos g]; rw [decide_eq_true g] at hc
      exact Ev.pos hc (Ev.ret _)
    rw [if_neg g]; rw [decide_eq_false g] at hc
    refine Ev.neg (by rw [hc]; decide) ?_
    rw [List.length_map]
    by_cases g0 : X.length = 0
    · rw [if_pos g0]; exact Ev.pos (by omega) (Ev.ret _)
    rw [if_neg g0]
    refine Ev.neg (by omega) ?_
    by_cases g2 : X.length > 200
    · rw [if_pos g2]; exact Ev.pos (by omega) (Ev.ret _)
    rw [if_neg g2]
    refine Ev.neg (by omega) ?_
    exact z44 L vars X (by omega) X.length 0 (by omega) (z5j _ _ _)
  unfold LvS at hj
  by_cases h0 : L < 0
  · exact Ev.pos h0 (hj true (by symm; rw [decide_eq_true_eq]; left; omega))
  refine Ev.neg h0 ?_
  by_cases h7 : L > 7
  · exact Ev.pos h7 (hj true (by symm; rw [decide_eq_true_eq]; left; omega))
  refine Ev.neg h7 (hj _ ?_)
  rw [decide_eq_decide]; omega
theorem z46 (X : List St) (hX : X.length ≤ 1000000) : ∀ (d i : Nat), i + d = X.length → Ev (fun q => zv.l0 q (X.map toP) ((X.take i).map toD) (i : Int)) (X.map toD) := by
  intro d
  induction d with
  | zero =>
    intro i hi
    refine Ev.step (fun q => by rw [zv.l0]) (Ev.neg (by rw [List.length_map]; omega) (Ev.ret' ?_))
    rw [List.take_of_length_le (by omega)]
  | succ d ih =>
    intro i hi
    have hi' : i < X.length := by omega
    refine Ev.step (fun q => by rw [zv.l0]) (Ev.pos (by rw [List.length_map]; omega) (Ev.pos (Int.natCast_nonneg _) (Ev.pos (by rw [List.length_map, List.length_take]; omega) ?_)))
    simp only [rdP, z3X, z3Y, z5v, z4b, z4c, z1z hi' (show X.length ≤ 4611686018427387904 by omega)]
    have hih := ih (i + 1) (by omega)
    rw [z2v toD X st0 i hi'] at hih
    exact hih
theorem z45 (X : List St) (hX : X.length ≤ 1000000) : Ev (fun q => zv.f q (X.map toP)) (X.map toD) := z46 X hX X.length 0 (by omega)
/-- The value of a step. -/
def valS (V : List E) (o : St) (xs : List E) : E := if o.k = 2 then V.getD o.a.toNat 0 else if o.k = 3 then xs.getD o.a.toNat 0 + xs.getD o.b.toNat 0 else if o.k = 4 then xs.getD o.a.toNat 0 * xs.getD o.b.toNat 0 else o.v
theorem rdSi (X : List E) {i : Int} (h : 0 ≤ i) : zT (X.map toS) i = toS (X.getD i.toNat 0) := by
  have := rdS X i.toNat
  rwa [Int.toNat_of_nonneg h] at this
theorem rdRi (X : List E) {i : Int} (h : 0 ≤ i) : zS (X.map toR) i = toR (X.getD i.toNat 0) := by
  have := rdR X i.toNat
  rwa [Int.toNat_of_nonneg h] at this
theorem z4o {α β : Type} (f : α → β) (X : List α) (x : α) : X.map f ++ [f x] = (X ++ [x]).map f := by rw [List.map_append]; rfl
theorem z47 {L vars : Int} (X : List St) (V : List E) (hX : X.length ≤ 1000000) (hV : V.length ≤ 1000000) (hv : (V.length : Int) = vars) (n : Nat) (hn : n < X.length) (ok : OkS L vars X X.length) :
    ∀ (d j : Nat), j + d = n + 1 → Ev (fun q => zi.l0 q (X.map toD) (n : Int) (V.map toR) ((G (valS V) (X.take j)).map toR) (j : Int)) (hi (valS V (X.getD n st0) (G (valS V) (X.take n))), lo (valS V (X.getD n st0) (G (valS V) (X.take n)))) := by
  intro d
  induction d with
  | zero =>
    intro j hj
    have : j = n + 1 := by omega
    subst this
    refine Ev.step (fun q => by rw [zi.l0]) (Ev.neg (by omega) (Ev.pos (Int.natCast_nonneg _) (Ev.pos (by rw [List.length_map, z1y (valS V) (by omega)]; omega) (Ev.ret' ?_))))
    rw [rdR, z4e (valS V) 0 hn]; rfl
  | succ d ih =>
    intro j hj
    have hj' : j < X.length := by omega
    have hl := z1y (valS V) (X := X) (i := j) (by omega)
    have hih := ih (j + 1) (by omega)
    rw [z2L (valS V) hj', ← z4o] at hih
    have hok := z2i (ok j hj')
    rw [z1y degS (by omega)] at hok
    have hlm : ((G (valS V) (X.take j)).map toR).length = j := by rw [List.length_map]; exact hl
    have hm : ∀ x : E, ((X.getD j st0).k = 1 ∨ (X.getD j st0).k = 2 → valS V (X.getD j st0) (G (valS V) (X.take j)) = x) → Ev (fun q => zi.j1 q (X.map toD) (n : Int) (V.map toR) ((G (valS V) (X.take j)).map toR) (j : Int) (hi x) (lo x)) (hi (valS V (X.getD n st0) (G (valS V) (X.take n))), lo (valS V (X.getD n st0) (G (valS V) (X.take n)))) := by
      intro x hx
      refine Ev.step (fun q => by rw [zi.j1]) (Ev.pos (Int.natCast_nonneg _) (Ev.pos (by rw [List.length_map]; omega) ?_))
      simp only [rdD, z3W, z4w, z5s, z1z hj' (show X.length ≤ 4611686018427387904 by omega)]
      generalize G (valS V) (X.take j) = xs at *
      generalize X.getD j st0 = o at *
      have hk := z2u hok.1
      by_cases k3 : o.k = 3
      · have ha := z1E hok.1 (by omega)
        unfold AheadS at ha
        have hval : valS V o xs = xs.getD o.a.toNat 0 + xs.getD o.b.toNat 0 := by unfold valS; rw [if_neg (by omega), if_pos k3]
        rw [hval] at hih
        refine Ev.pos k3 (Ev.pos ha.1 (Ev.pos (by omega) (Ev.pos ha.2.2.1 (Ev.pos (by omega) ?_))))
        rw [rdRi xs ha.1, rdRi xs ha.2.2.1]
        exact Ev.bnd0 (z3V _ _) (Ev.neg (by omega) (Ev.pos (by omega) hih))
      refine Ev.neg k3 ?_
      by_cases k4 : o.k = 4
      · have ha := z1E hok.1 (by omega)
        unfold AheadS at ha
        have hval : valS V o xs = xs.getD o.a.toNat 0 * xs.getD o.b.toNat 0 := by unfold valS; rw [if_neg (by omega), if_neg k3, if_pos k4]
        rw [hval] at hih
        refine Ev.pos k4 (Ev.pos ha.1 (Ev.pos (by omega) (Ev.pos ha.2.2.1 (Ev.pos (by omega) ?_))))
        rw [rdRi xs ha.1, rdRi xs ha.2.2.1]
        exact Ev.bnd (z4B _ _) (Ev.pos (by omega) hih)
      · rw [hx (by omega)] at hih
        exact Ev.neg k4 (Ev.pos (by omega) hih)
    refine Ev.step (fun q => by rw [zi.l0]) (Ev.pos (by omega) (Ev.pos (Int.natCast_nonneg _) (Ev.pos (by rw [List.length_map]; omega) ?_)))
    simp only [rdD, z3W, z4w, z5t, z5u]
    by_cases k2 : (X.getD j st0).k = 2
    · have hv2 := hok.2.2.2 k2
      refine Ev.pos k2 (Ev.pos hv2.1 (Ev.pos (by rw [List.length_map]; omega) ?_))
      rw [rdRi V hv2.1]
      refine hm _ (fun _ => ?_)
      unfold valS; rw [if_pos k2]
    · refine Ev.neg k2 (hm _ (fun h => ?_))
      unfold valS; rw [if_neg k2, if_neg (by omega), if_neg (by omega)]
theorem refValue_ev {L : Int} (X : List St) (V : List E) (hX : X.length ≤ 1000000) (hV : V.length ≤ 1000000) (n : Nat) (hn : n < X.length) (ok : OkS L (V.length : Int) X X.length) :
    Ev (fun q => zi.f q (X.map toD) (n : Int) (V.map toR)) (hi (valS V (X.getD n st0) (G (valS V) (X.take n))), lo (valS V (X.getD n st0) (G (valS V) (X.take n)))) := z47 X V hX hV rfl n hn ok (n + 1) 0 (by omega)
/-- The program's values. -/
theorem vals_in {l : Nat} (hl : l ≤ 7) {vars : Int} {X : List St} {V : List E} (ok : OkS (l : Int) vars X X.length) (hA : AllS (l : Int) V) : ∀ j, j ≤ X.length → ∀ y ∈ G (valS V) (X.take j), InL l y := by
  have hin : ∀ (Y : List E) (i : Nat), (∀ y ∈ Y, InL l y) → InL l (Y.getD i 0) := by
    intro Y i h
    rw [List.getD_eq_getElem?_getD]
    cases e : Y[i]? with
    | none => exact z4l l
    | some y => exact h y (List.mem_of_getElem? e)
  refine G_mem (valS V) (InL l) (Nat.le_refl _) (fun i hi' h => ?_)
  have hok := z2i (ok i hi')
  have hk := z2u hok.1
  unfold valS
  by_cases k2 : (X.getD i st0).k = 2
  · rw [if_pos k2]
    refine hin V _ (fun y hy => ?_)
    have := (hA y hy).2.2
    rwa [Int.toNat_natCast] at this
  rw [if_neg k2]
  by_cases k3 : (X.getD i st0).k = 3
  · rw [if_pos k3]; exact inL_add (hin _ _ h) (hin _ _ h)
  rw [if_neg k3]
  by_cases k4 : (X.getD i st0).k = 4
  · rw [if_pos k4]; exact z56 hl (hin _ _ h) (hin _ _ h)
  rw [if_neg k4]
  have := (hok.2.2.1 (by omega)).2.2
  rwa [Int.toNat_natCast] at this
theorem eval_l1 {l : Nat} (hl : l ≤ 7) (X : List St) (V : List E) (hX : X.length ≤ 1000000) (hV : V.length ≤ 1000000) (n : Nat) (hn : X.length = n + 1) (ok : OkS (l : Int) (V.length : Int) X X.length) (hA : AllS (l : Int) V) :
    ∀ (d j : Nat), j + d = n + 1 → Ev (fun q => zz.l1 q (l : Int) (V.map toS) ((G (valS V) (X.take j)).map toS) (X.map toP) ((X.length : Nat) : Int) (j : Int)) (hi (valS V (X.getD n st0) (G (valS V) (X.take n))), lo (valS V (X.getD n st0) (G (valS V) (X.take n))), 0) := by
  intro d
  induction d with
  | zero =>
    intro j hj
    have : j = n + 1 := by omega
    subst this
    have e : wrap64 (((((G (valS V) (X.take (n + 1))).map toS).length : Nat) : Int) - 1) = (n : Int) := by
      rw [List.length_map, z1y (valS V) (by omega), z26 (by omega) (by omega)]; omega
    refine Ev.step (fun q => by rw [zz.l1]) (Ev.neg (by omega) ?_)
    simp only [e]
    refine Ev.pos (Int.natCast_nonneg _) (Ev.pos (by rw [List.length_map, z1y (valS V) (by omega)]; omega) (Ev.ret' ?_))
    rw [rdS, z4e (valS V) 0 (by omega)]; rfl
  | succ d ih =>
    intro j hj
    have hj' : j < X.length := by omega
    have hl' := z1y (valS V) (X := X) (i := j) (by omega)
    have hih := ih (j + 1) (by omega)
    rw [z2L (valS V) hj', ← z4o] at hih
    have hok := z2i (ok j hj')
    rw [z1y degS (by omega)] at hok
    have hlm : ((G (valS V) (X.take j)).map toS).length = j := by rw [List.length_map]; exact hl'
    have hin := vals_in hl ok hA j (by omega)
    have hgd : ∀ i : Nat, InL l ((G (valS V) (X.take j)).getD i 0) := by
      intro i
      rw [List.getD_eq_getElem?_getD]
      cases e : (G (valS V) (X.take j))[i]? with
      | none => exact z4l l
      | some y => exact hin y (List.mem_of_getElem? e)
    refine Ev.step (fun q => by rw [zz.l1]) (Ev.pos (by omega) (Ev.pos (Int.natCast_nonneg _) (Ev.pos (by rw [List.length_map]; omega) ?_)))
    simp only [rdP, z3X, z3Y, z5v, z4b, z4c, z1z hj' (show X.length ≤ 4611686018427387904 by omega)]
    generalize G (valS V) (X.take j) = xs at *
    generalize X.getD j st0 = o at *
    have hk := z2u hok.1
    by_cases k1 : o.k = 1
    · have hval : valS V o xs = o.v := by unfold valS; rw [if_neg (by omega), if_neg (by omega), if_neg (by omega)]
      rw [hval] at hih
      exact Ev.pos k1 (Ev.pos (by omega) hih)
    refine Ev.neg k1 ?_
    by_cases k2 : o.k = 2
    · have hv2 := hok.2.2.2 k2
      have hval : valS V o xs = V.getD o.a.toNat 0 := by unfold valS; rw [if_pos k2]
      rw [hval] at hih
      refine Ev.pos k2 (Ev.pos hv2.1 (Ev.pos (by rw [List.length_map]; omega) (Ev.pos (by omega) ?_)))
      rw [rdSi V hv2.1]
      exact hih
    refine Ev.neg k2 ?_
    by_cases k3 : o.k = 3
    · have ha := z1E hok.1 (by omega)
      unfold AheadS at ha
      have hval : valS V o xs = xs.getD o.a.toNat 0 + xs.getD o.b.toNat 0 := by unfold valS; rw [if_neg (by omega), if_pos k3]
      rw [hval] at hih
      refine Ev.pos k3 (Ev.pos ha.1 (Ev.pos (by omega) (Ev.pos ha.2.2.1 (Ev.pos (by omega) ?_))))
      rw [rdSi xs ha.1, rdSi xs ha.2.2.1]
      exact Ev.bnd0 (Add_eq _ _) (Ev.pos (by omega) hih)
    refine Ev.neg k3 ?_
    have k4 : o.k = 4 := by omega
    have ha := z1E hok.1 (by omega)
    unfold AheadS at ha
    have hval : valS V o xs = xs.getD o.a.toNat 0 * xs.getD o.b.toNat 0 := by unfold valS; rw [if_neg (by omega), if_neg k3, if_pos k4]
    rw [hval] at hih
    refine Ev.pos k4 (Ev.pos ha.1 (Ev.pos (by omega) (Ev.pos ha.2.2.1 (Ev.pos (by omega) ?_))))
    rw [rdSi xs ha.1, rdSi xs ha.2.2.1]
    exact Ev.bnd (Mul_ev hl (hgd _) (hgd _)) (Ev.pos (by omega) hih)
theorem eval_l0 (L : Int) (X : List St) (V : List E) (hV : V.length ≤ 1000000) (r : Int × Int × Int) (h5 : ¬ AllS L V → r = (0, 0, 5)) (h0 : AllS L V → Ev (fun q => zz.l1 q L (V.map toS) [] (X.map toP) ((X.length : Nat) : Int) 0) r) :
    ∀ (d j : Nat), j + d = V.length → (AllS L (V.drop j) → AllS L V) → (AllS L V → AllS L (V.drop j)) → Ev (fun q => zz.l0 q L (X.map toP) (V.map toS) (V.map toS) ((V.length : Nat) : Int) (j : Int)) r := by
  intro d
  induction d with
  | zero =>
    intro j hj hA _
    refine Ev.step (fun q => by rw [zz.l0]) (Ev.neg (by omega) ?_)
    rw [List.length_map]
    refine h0 (hA ?_)
    rw [List.drop_eq_nil_of_le (by omega)]
    intro x hx; cases hx
  | succ d ih =>
    intro j hj hA hB
    have hj' : j < V.length := by omega
    refine Ev.step (fun q => by rw [zz.l0]) (Ev.pos (by omega) (Ev.pos (Int.natCast_nonneg _) (Ev.pos (by rw [List.length_map]; omega) ?_)))
    simp only [rdS, z5x, z5y, z1z hj' (show V.length ≤ 4611686018427387904 by omega)]
    refine Ev.bnd (z4G L _) ?_
    have hd := z3I (L := L) hj'
    by_cases c : OfS L (V.getD j 0)
    · exact Ev.pos (decide_eq_true c) (ih (j + 1) (by omega) (fun h => hA (hd.2 ⟨c, h⟩)) (fun h => (hd.1 (hB h)).2))
    · refine Ev.neg (by simpa using c) (Ev.ret' (h5 fun h => c (hd.1 (hB h)).1).symm)
/-- What Eval tells. -/
def lastS (X : List St) (V : List E) : E := valS V (X.getD (X.length - 1) st0) (G (valS V) (X.take (X.length - 1)))
def evalErr (L : Int) (X : List St) (V : List E) : Int := if (checkS L (V.length : Int) X).2 = 0 then (if AllS L V then 0 else 5) else (checkS L (V.length : Int) X).2
theorem Eval_ev (L : Int) (X : List St) (V : List E) (hV : V.length ≤ 1000000) : Ev (fun q => zz.f q L (X.map toP) (V.map toS)) (if evalErr L X V = 0 then (hi (lastS X V), lo (lastS X V), 0) else (0, 0, evalErr L X V)) := by
  unfold zz.f
  rw [List.length_map]
  refine Ev.bnd (z4d L (V.length : Int) X) ?_
  unfold evalErr
  by_cases c : (checkS L (V.length : Int) X).2 = 0
  · rw [if_pos c]
    refine Ev.pos c ?_
    refine eval_l0 L X V hV _ ?_ ?_ V.length 0 (by omega) (fun h => by rwa [List.drop_zero] at h) (fun h => by rwa [List.drop_zero])
    · intro h; rw [if_neg h]; rfl
    · intro h
      rw [if_pos h, if_pos rfl]
      obtain ⟨hL, _, h0, h200, ok, _⟩ := z3y c
      obtain ⟨l, rfl⟩ := Int.eq_ofNat_of_zero_le hL.1
      exact eval_l1 (by have := hL.2; omega) X V (by omega) hV (X.length - 1) (by omega) ok h (X.length - 1 + 1) 0 (by omega)
  · rw [if_neg c, if_neg c]
    exact Ev.neg c (Ev.ret _)
end Go.Proofs.Ytngcaphdkgihmaa.Sp
namespace Go.Proofs.Ytngcaphdkgihmaa.Sp
open Go.RowKit Go.Proofs.YtngcaphdkgihmaaW.PrintWords Go.Proofs.YtngcaphdkgihmaaW.PrintMore Go.Proofs.Ytngcaphdkgihmaa.P Go.Proofs.Ytngcaphdkgihmaa.Ar Go.Proofs.Ytngcaphdkgihmaa.Tw
set_option linter.unusedVariables false
theorem z33 : Ev (fun k => zM.f k) true := Ev.of zM.mono (k := 60) (by decide +kernel)
def usesS (vars : Int) (X : List St) : Bool := X.any fun o => decide (o.k = 2 ∧ o.a = vars)
def degreeS (X : List St) : Int := if (checkS 7 9223372036854775807 X).2 = 0 then degS (X.getD (X.length - 1) st0) (G degS (X.take (X.length - 1))) else -1
theorem any_take {α : Type} (p : α → Bool) (X : List α) (d : α) (i : Nat) (h : i < X.length) : (X.take (i + 1)).any p = ((X.take i).any p || p (X.getD i d)) := by
  rw [List.take_succ_eq_append_getElem h, List.any_append]
  have : X.getD i d = X[i] := by rw [List.getD_eq_getElem?_getD, List.getElem?_eq_getElem h]; rfl
  rw [this]; simp
theorem any_drop {α : Type} (p : α → Bool) (X : List α) (d : α) (i : Nat) (h : i < X.length) : (X.drop i).any p = (p (X.getD i d) || (X.drop (i + 1)).any p) := by
  rw [List.drop_eq_getElem_cons h]
  have : X.getD i d = X[i] := by rw [List.getD_eq_getElem?_getD, List.getElem?_eq_getElem h]; rfl
  rw [this]; rfl
theorem Uses_ev (X : List St) (vars : Int) (hX : X.length ≤ 1000000) : Ev (fun q => z10.f q (X.map toP) vars) (usesS vars X) := by
  have key : ∀ (d i : Nat), i + d = X.length → Ev (fun q => z10.l0 q vars (X.map toP) ((X.length : Nat) : Int) (i : Int)) (usesS vars (X.drop i)) := by
    intro d
    induction d with
    | zero =>
      intro i hi
      refine Ev.step (fun q => by rw [z10.l0]) (Ev.neg (by omega) (Ev.ret' ?_))
      rw [List.drop_eq_nil_of_le (by omega)]; rfl
    | succ d ih =>
      intro i hi
      have hi' : i < X.length := by omega
      have hih := ih (i + 1) (by omega)
      refine Ev.step (fun q => by rw [z10.l0]) (Ev.pos (by omega) (Ev.pos (Int.natCast_nonneg _) (Ev.pos (by rw [List.length_map]; omega) ?_)))
      simp only [rdP, z3X, z3Y, z1z hi' (show X.length ≤ 4611686018427387904 by omega)]
      have hd : usesS vars (X.drop i) = (decide ((X.getD i st0).k = 2 ∧ (X.getD i st0).a = vars) || usesS vars (X.drop (i + 1))) := any_drop _ X st0 i hi'
      rw [hd]
      by_cases k2 : (X.getD i st0).k = 2
      · refine Ev.pos k2 ?_
        by_cases ka : (X.getD i st0).a = vars
        · refine Ev.pos ka (Ev.ret' ?_)
          rw [decide_eq_true ⟨k2, ka⟩]; rfl
        · refine Ev.neg ka ?_
          rw [decide_eq_false (fun h => ka h.2)]; exact hih
      · refine Ev.neg k2 ?_
        rw [decide_eq_false (fun h => k2 h.1)]; exact hih
  unfold z10.f
  rw [List.length_map]
  have := key X.length 0 (by omega)
  rwa [List.drop_zero] at this
theorem z4M (X : List St) : Ev (fun q => zX.f q (X.map toP)) (degreeS X) := by
  unfold zX.f
  refine Ev.bnd (z3o 7 9223372036854775807 X) ?_
  by_cases c : (checkS 7 9223372036854775807 X).2 = 0
  · obtain ⟨_, _, h0, h200, ok, hds⟩ := z3y c
    have hlen : (G degS X).length = X.length := by
      have := z1y degS (X := X) (i := X.length) (Nat.le_refl _)
      rwa [List.take_of_length_le (Nat.le_refl _)] at this
    have hd : degreeS X = degS (X.getD (X.length - 1) st0) (G degS (X.take (X.length - 1))) := if_pos c
    rw [hd, hds, hlen]
    have e1 : wrap64 ((X.length : Int) - 1) = ((X.length - 1 : Nat) : Int) := by rw [z26 (by omega) (by omega)]; omega
    simp only [e1]
    refine Ev.pos c (Ev.pos (Int.natCast_nonneg _) (Ev.pos (by omega) (Ev.ret' ?_)))
    unfold rd
    rw [Int.toNat_natCast]
    have := z4e degS 0 (X := X) (i := X.length - 1) (by omega)
    rwa [show X.length - 1 + 1 = X.length by omega, List.take_of_length_le (Nat.le_refl _)] at this
  · have hd : degreeS X = -1 := if_neg c
    rw [hd]; exact Ev.neg c (Ev.ret _)
theorem z50 (L vars : Int) (X : List St) (hX : X.length ≤ 1000000) : ∀ (d i : Nat), i + d = X.length →
    Ev (fun q => zj.l0 q L vars (X.map toP) (X.map toD) (degreeS X) (usesS vars (X.take i)) (i : Int)) true := by
  intro d
  induction d with
  | zero =>
    intro i hi
    refine Ev.step (fun q => by rw [zj.l0]) (Ev.neg (by rw [List.length_map]; omega) (Ev.bnd z33 (Ev.pos rfl (Ev.bnd (z4d L vars X) (Ev.bnd (z3b L vars X) (Ev.pos (Eq.refl (checkS L vars X).2) (Ev.bnd (z4M X) (Ev.pos (Eq.refl (degreeS X)) ?_))))))))
    refine Ev.bnd (Uses_ev X vars hX) (Ev.ret' ?_)
    rw [List.take_of_length_le (by omega)]; simp
  | succ d ih =>
    intro i hi
    have hi' : i < X.length := by omega
    have hih := ih (i + 1) (by omega)
    have hd : usesS vars (X.take (i + 1)) = (usesS vars (X.take i) || decide ((X.getD i st0).k = 2 ∧ (X.getD i st0).a = vars)) := any_take _ X st0 i hi'
    rw [hd] at hih
    refine Ev.step (fun q => by rw [zj.l0]) (Ev.pos (by rw [List.length_map]; omega) ?_)
    simp only [rdP, z3X, z3Y, z1z hi' (show X.length ≤ 4611686018427387904 by omega)]
    cases hu : usesS vars (X.take i) with
    | true => rw [hu] at hih; exact Ev.pos rfl hih
    | false =>
      rw [hu] at hih
      refine Ev.neg (by decide) (Ev.pos (Int.natCast_nonneg _) ?_)
      by_cases k2 : (X.getD i st0).k = 2
      · refine Ev.pos k2 ?_
        have e : (false || decide ((X.getD i st0).k = 2 ∧ (X.getD i st0).a = vars)) = ((X.getD i st0).a == vars) := by
          rw [Bool.false_or, Bool.eq_iff_iff, beq_iff_eq, decide_eq_true_eq]; exact ⟨fun h => h.2, fun h => ⟨k2, h⟩⟩
        rw [e] at hih; exact hih
      · refine Ev.neg k2 ?_
        have e : (false || decide ((X.getD i st0).k = 2 ∧ (X.getD i st0).a = vars)) = false := by
          rw [Bool.false_or, decide_eq_false_iff_not]; exact fun h => k2 h.1
        rw [e] at hih; exact hih
end Go.Proofs.Ytngcaphdkgihmaa.Sp
namespace Go.Proofs.Ytngcaphdkgihmaa.Pure
open Go.RowKit Go.Proofs.YtngcaphdkgihmaaW.PrintWords Go.Proofs.YtngcaphdkgihmaaW.PrintMore Go.Proofs.Ytngcaphdkgihmaa.P Go.Proofs.Ytngcaphdkgihmaa.Ar Go.Proofs.Ytngcaphdkgihmaa.Tw Go.Proofs.Ytngcaphdkgihmaa.Sp
theorem ExprChecks : Stated.exprChecks.Pure := by
  intro L vars l2 h0 h1 h2
  obtain ⟨X, rfl⟩ := steps_of l2 h2.1
  refine Ev.rounds (g := fun k => zj.f k L vars (X.map toP)) ?_
  unfold zj.f
  rw [List.length_map]
  by_cases c1 : (X.length : Int) > 210
  · exact Ev.pos c1 (Ev.bnd z33 (Ev.ret _))
  refine Ev.neg c1 (Ev.bnd (z45 X (by omega)) (Ev.bnd (z3b 7 9223372036854775807 X) ?_))
  have hl : Ev (fun q => zj.l0 q L vars (X.map toP) (X.map toD) (degreeS X) false 0) true := z50 L vars X (by omega) X.length 0 (by omega)
  have hj : Ev (fun q => zj.j0 q L vars (X.map toP) (X.map toD) (degreeS X)) true := Ev.step (fun q => by rw [zj.j0]) hl
  by_cases c : (checkS 7 9223372036854775807 X).2 = 0
  · obtain ⟨_, _, g0, g200, ok, hds⟩ := z3y c
    have e1 : wrap64 ((X.length : Int) - 1) = ((X.length - 1 : Nat) : Int) := by rw [z26 (by omega) (by omega)]; omega
    rw [List.length_map]
    simp only [e1]
    refine Ev.pos c (Ev.bnd (z34 X (X.length - 1) (by omega) (by omega) (fun i hi => ok i (by omega)) ?_) ?_)
    · intro hk
      have := z1E (z2i (ok (X.length - 1) (by omega))).1 hk
      rwa [z1y degS (by omega)] at this
    · unfold degreeS at hj
      rw [if_pos c] at hj
      exact hj
  · refine Ev.neg c ?_
    unfold degreeS at hj
    rw [if_neg c] at hj
    exact hj
end Go.Proofs.Ytngcaphdkgihmaa.Pure
-- Own text, written by wip/tools/gen.py: the row of the law ExprChecks, out of its pure statement (PureExprChecks) and the walk.
namespace Go.Proofs.Ytngcaphdkgihmaa.exprChecks
open Go.ChangeShapes Go.WideShapes Go.ChangeAt Go.RowKit Go.Proofs.YtngcaphdkgihmaaW.PrintWords Go.Proofs.Ytngcaphdkgihmaa.P Go.Proofs.Ytngcaphdkgihmaa.Reads
set_option linter.unusedVariables false
set_option linter.unusedSimpArgs false
theorem own : ownKnob Try.prog.godebug = none := by kernel_rfl
theorem laidOut : laidOutB Try.prog = true := by kernel_rfl
theorem op51 : ReadsAs Try.prog 51 k51 (fun x => ((Lit.int .u64 x.f0).wf = true) ∧ ((Lit.int .u64 x.f1).wf = true)) :=
  (z3R (fun x : S51 => (x.f0, x.f1)) (fun a => ⟨⟨a.1, a.2⟩, rfl⟩) Try.underlying51 rfl (by kernel_rfl) (z2w (by kernel_rfl) (by kernel_rfl) (z3q Try.underlying49) (z3S (by kernel_rfl) (by kernel_rfl) (z3q Try.underlying49)) (by intro g hg; simp only [List.mem_cons, List.not_mem_nil, or_false] at hg; rcases hg with rfl <;> exact of_decide_eq_true (by kernel_rfl))))
theorem op87 : ReadsAs Try.prog 87 k87 (fun x => ((Lit.int .i64 x.f0).wf = true) ∧ ((Lit.int .i64 x.f1).wf = true) ∧ ((Lit.int .i64 x.f2).wf = true) ∧ (((Lit.int .u64 x.f3.f0).wf = true) ∧ ((Lit.int .u64 x.f3.f1).wf = true))) :=
  (z3R (fun x : S87 => (x.f0, x.f1, x.f2, x.f3)) (fun a => ⟨⟨a.1, a.2.1, a.2.2.1, a.2.2.2⟩, rfl⟩) Try.underlying87 rfl (by kernel_rfl) (z2w (by kernel_rfl) (by kernel_rfl) (z3q Try.underlying3) (z2w (by kernel_rfl) (by kernel_rfl) (z3q Try.underlying3) (z2w (by kernel_rfl) (by kernel_rfl) (z3q Try.underlying3) (z3S (by kernel_rfl) (by kernel_rfl) op51) (by intro g hg; simp only [List.mem_cons, List.not_mem_nil, or_false] at hg; rcases hg with rfl <;> exact of_decide_eq_true (by kernel_rfl))) (by intro g hg; simp only [List.mem_cons, List.not_mem_nil, or_false] at hg; rcases hg with rfl | rfl <;> exact of_decide_eq_true (by kernel_rfl))) (by intro g hg; simp only [List.mem_cons, List.not_mem_nil, or_false] at hg; rcases hg with rfl | rfl | rfl <;> exact of_decide_eq_true (by kernel_rfl))))
theorem op71 : ReadsAs Try.prog 71 (Kd.slice 87 k87) (fun l => (∀ x_ ∈ l, ((Lit.int .i64 x_.f0).wf = true) ∧ ((Lit.int .i64 x_.f1).wf = true) ∧ ((Lit.int .i64 x_.f2).wf = true) ∧ (((Lit.int .u64 x_.f3.f0).wf = true) ∧ ((Lit.int .u64 x_.f3.f1).wf = true))) ∧ l.length ≤ maxLen) := op_slice Try.underlying71 (by kernel_rfl) op87
set_option maxRecDepth 100000 in
theorem lifted (os : Os) (started : os.Started) (H : Type) (enc : TypeId × Value → H) :
    ReturnsInHanded {} Try.checked os 13 .any (Rows.exprChecksSpec.pre6 enc Try.prog Try.f13 Rows.exprChecksRow.domain false) (Rows.exprChecksSpec.post enc Try.prog Try.f13 false true false false) := by
  refine returnsInHanded_of_change_sized (C := Try.checked) own started (by kernel_rfl) Try.func13
    (ChangeSpec.witness6 (enc := enc) (C := Try.checked) false ⟨#[], #[.int .i64 0, .int .i64 0, .slice none 0 0], []⟩ 8 (by kernel_rfl) (by kernel_rfl) (by kernel_rfl) (by kernel_rfl)) ?_
  intro W base args ds gs before hval0 hW hcnd hsz0 _
  have hval : ∀ (j : Nat) t v, Try.f13.params[j]? = some t → args[j]? = some v → Value.okWide Try.prog W .any base t v := hval0
  have hW' := hW
  obtain ⟨p, q, hA0, hV, rfl, hfz, hnd⟩ := hW
  have hA : DataW.TrodAll enc Try.prog W 0 (fun _ => true) true Try.f13.params.toList args.toList ds p := hA0
  rw [Try.params13] at hA hval
  obtain ⟨v0, vs0, d0, ds0, p0, q0, hargs, rfl, rfl, h0, r0⟩ := trodAll_cons hA
  obtain ⟨v1, vs1, d1, ds1, p1, q1, rfl, rfl, rfl, h1, r1⟩ := trodAll_cons r0
  obtain ⟨v2, vs2, d2, ds2, p2, q2, rfl, rfl, rfl, h2, r2⟩ := trodAll_cons r1
  obtain ⟨rfl, rfl, rfl⟩ := trodAll_nil r2
  obtain rfl : args = #[v0, v1, v2] := by cases args; simp_all
  obtain ⟨rfl, rfl⟩ := trodVars_none hV
  have k0 := h0
  have lt0 : ∀ x ∈ p0, x.block < W.heap.size := by obtain ⟨m, hm⟩ := k0; exact DataW.trod_lt m _ _ _ hm
  obtain ⟨x0, rfl, g0⟩ := z4V Try.underlying3 (hval 0 3 v0 rfl rfl) h0
  have k1 := h1
  have lt1 : ∀ x ∈ p1, x.block < W.heap.size := by obtain ⟨m, hm⟩ := k1; exact DataW.trod_lt m _ _ _ hm
  obtain ⟨x1, rfl, g1⟩ := z4V Try.underlying3 (hval 1 3 v1 rfl rfl) h1
  have k2 := h2
  have lt2 : ∀ x ∈ p2, x.block < W.heap.size := by obtain ⟨m, hm⟩ := k2; exact DataW.trod_lt m _ _ _ hm
  obtain ⟨x2, A2, c2, rfl, hc2, hr2, g2⟩ := z4W op71 Try.underlying71 (hval 2 71 v2 rfl rfl) h2
  clear hA0 hval0 hsz0
  obtain ⟨k, hpure⟩ := Pure.ExprChecks x0 x1 x2 g0 g1 g2
  refine (zj.calls k x0 x1 _ _ x2 true W hr2 hc2 hpure).mono fun e W' hh => ?_
  obtain ⟨rfl, bel0⟩ := hh
  have bel : Below W.heap.size W W' := bel0
  exact ⟨_, rfl, _, _, _, [], _, [], hW', trodAll_mk1 (shut_bool Try.underlying4 _), (trodAll_cons_mk (Below.trod laidOut (by kernel_rfl) (of_decide_eq_true (by kernel_rfl)) k0 bel lt0) (trodAll_cons_mk (Below.trod laidOut (by kernel_rfl) (of_decide_eq_true (by kernel_rfl)) k1 bel lt1) (trodAll_cons_mk (Below.trod laidOut (by kernel_rfl) (of_decide_eq_true (by kernel_rfl)) k2 bel lt2) trodAll_mk0))), rfl, bel.frame _, fun h => by cases h⟩
theorem over : Rows.exprChecksRow.holds Try.pinned (OpenSpec.ofChange Rows.exprChecksSpec) :=
  OpenClaim.holds_of_wide 13 Try.f13 rfl rfl rfl rfl rfl rfl rfl ⟨rfl, rfl, rfl, rfl, rfl⟩ rfl rfl rfl rfl rfl (by kernel_rfl) Try.func13 (by kernel_rfl)
    (of_decide_eq_true (by kernel_rfl)) (by unfold Func.isWrapper; first | (rw [if_pos (by decide +kernel)]; kernel_rfl) | (rw [if_neg (by decide +kernel)]; exact ⟨rfl, rfl⟩))
    (fun os started H enc _ => lifted os started H enc)
theorem proved : Rows.ExprChecksSaid := over
#print axioms proved
end Go.Proofs.Ytngcaphdkgihmaa.exprChecks
namespace Go.Proofs.Ytngcaphdkgihmaa
/-- The row, under a short name, for the claim. -/
theorem exprChecks_holds : Rows.ExprChecksSaid := exprChecks.proved
end Go.Proofs.Ytngcaphdkgihmaa
